/- The Vc layer: from a walk of the body to what the function does. -/
import Derived.Test.YtaoifpmifpmhmaaVc16
import Derived.RangeFuncLeaves
set_option linter.all false
namespace Go.Vc
open Go Go.RowKit

def resA {P : Program} (E : Env P) (H : Heap) (fr : Nat → AV) : List ResultVar → Option (Prop × List AV)
  | [] => some (True, [])
  | .tmp t :: r => match resA E H fr r with
    | some (p, cs) => some (needs (fr t) ∧ p, bare (fr t) :: cs)
    | none => none
  | .cell a ty :: r => match aLoad E.X.ty H ty (bare (fr a)), resA E H fr r with
    | some (q, c), some (p, cs) => some (needs (fr a) ∧ q ∧ p, c :: cs)
    | _, _ => none

def packA : List AV → AV
  | [c] => c
  | cs => .tup cs

def pure1 : AV → Bool
  | .any | .d _ | .ip .. => true
  | _ => false
def pure2 : AV → Bool
  | .agg cs | .clo _ cs => cs.all pure1
  | c => pure1 c
def pure3 : AV → Bool
  | .tup cs => cs.all pure2
  | c => pure2 c

def enumF : Nat → List AV → List (Nat × AV)
  | _, [] => []
  | k, c :: cs => (k, c) :: enumF (k + 1) cs

theorem getF_enum : ∀ (cs : List AV) (k i : Nat), getF (enumF k cs) i = if k ≤ i then (cs[i - k]?).getD .any else .any := by
  intro cs
  induction cs with
  | nil => intro k i; simp [enumF, getF]
  | cons c cs ih =>
    intro k i
    simp only [enumF, getF, ih]
    by_cases hi : i = k
    · subst hi; simp
    · rw [if_neg hi]
      by_cases hk : k ≤ i
      · rw [if_pos (by omega), if_pos hk, show i - k = (i - (k + 1)) + 1 by omega, List.getElem?_cons_succ]
      · rw [if_neg (by omega), if_neg hk]

/-- What is asked where the body ends: the result, as data. -/
def retP {P : Program} (E : Env P) (rs : List ResultVar) (r : AV) : Exit → St → Prop := fun e st =>
  (e = .normal ∨ e = .ret) ∧ match resA E st.H st.fr rs with
    | some (p, cs) => p ∧ mt [] st.H (packA cs) r
    | none => False

section
variable {P : Program} {w : World} {S S' : Lays} {n n' : Nat}

theorem pure1_far {F F' : Far} (hO : ∀ b, b < w.heap.size → ¬ @own F S b → ¬ @own F' S' b) {c : AV} {v : Value} (hp : pure1 c = true) (h : @R F w S n c v) : @R F' w S' n' c v := by
  cases h <;> simp [pure1] at hp
  · exact .any _
  · rename_i hx; exact .d (hx.ext (Nat.le_refl _) (fun _ _ _ => rfl) hO)
  · rename_i sz xs e f b o u hb hO' hc hr
    exact .ip sz xs e f b o u hb (hO b hb hO') hc (fun e f c hh => (hr e f c hh).ext (Nat.le_refl _) (fun _ _ _ => rfl) hO)

theorem pure2_far {F F' : Far} (hO : ∀ b, b < w.heap.size → ¬ @own F S b → ¬ @own F' S' b) {c : AV} {v : Value} (hp : pure2 c = true) (h : @R F w S n c v) : @R F' w S' n' c v := by
  unfold pure2 at hp
  split at hp
  · cases h with | agg _ us hl h1 hr =>
    exact .agg _ us hl h1 (fun i c u hc hu => pure1_far hO (List.all_eq_true.1 hp c (List.mem_of_getElem? hc)) (hr i c u hc hu))
  · cases h with | clo _ _ us hl hr =>
    exact .clo _ _ us hl (fun i c u hc hu => pure1_far hO (List.all_eq_true.1 hp c (List.mem_of_getElem? hc)) (hr i c u hc hu))
  · exact pure1_far hO hp h

theorem pure3_far {F F' : Far} (hO : ∀ b, b < w.heap.size → ¬ @own F S b → ¬ @own F' S' b) {c : AV} {v : Value} (hp : pure3 c = true) (h : @R F w S n c v) : @R F' w S' n' c v := by
  unfold pure3 at hp
  split at hp
  · cases h with | tup _ us hl hr =>
    exact .tup _ us hl (fun i c u hc hu => pure2_far hO (List.all_eq_true.1 hp c (List.mem_of_getElem? hc)) (hr i c u hc hu))
  · exact pure2_far hO hp h

def packV : List Value → Value
  | [v] => v
  | vs => .tuple vs.toArray

/-- One result variable. -/
def resOne (tmps : Array Value) : ResultVar → Sem Value
  | .tmp t => pure (tmps.getD t undef)
  | .cell a t => do loadVar t (← asAddr (tmps.getD a undef))

theorem load_as {t : TypeId} {u : Value} {w w' : World} {v : Value} (h : (Instr.loadAt t u).run P w = .ok v w') : (do loadVar t (← asAddr u) : Sem Value).run P w = .ok v w' := by
  unfold Instr.loadAt at h
  cases u with
  | pointer a => cases a <;> simp_all [Instr.sureAddr, asAddr]
  | _ => simp_all [Instr.sureAddr, asAddr]

theorem mapM_run {f : ResultVar → Sem Value} {w : World} : ∀ (rs : List ResultVar) (vs : List Value), rs.length = vs.length → (∀ (i : Nat) (r : ResultVar) (v : Value), rs[i]? = some r → vs[i]? = some v → (f r).run P w = .ok v w) →
    (rs.mapM f).run P w = .ok vs w := by
  intro rs
  induction rs with
  | nil =>
    intro vs hl _
    have : vs = [] := List.eq_nil_of_length_eq_zero hl.symm
    subst this
    simp
  | cons r rs ih =>
    intro vs hl h
    cases vs with
    | nil => cases hl
    | cons v vs =>
      have h1 := h 0 r v rfl rfl
      have h2 := ih vs (by simpa using hl) (fun i r' v' hr hv => h (i + 1) r' v' (by simpa using hr) (by simpa using hv))
      simp only [List.mapM_cons, Sem.run_bind, h1, Result.andThen_ok, h2, Sem.run_pure]

theorem results_run {fn : Func} {tmps : Array Value} {vs : List Value} {w : World} (hl : fn.results.toList.length = vs.length) (h : ∀ (i : Nat) (r : ResultVar) (v : Value), fn.results.toList[i]? = some r → vs[i]? = some v → (resOne tmps r).run P w = .ok v w) :
    (results fn tmps).run P w = .ok (packV vs) w := by
  have hm := mapM_run (P := P) (w := w) fn.results.toList vs hl h
  have e : (fn.results.mapM (resOne tmps)) = (do let l ← fn.results.toList.mapM (resOne tmps); pure l.toArray : Sem (Array Value)) := by
    rw [Array.mapM_eq_mapM_toList, map_eq_pure_bind]
  have hr : results fn tmps = (do let vs ← fn.results.mapM (resOne tmps); pure (if h : vs.size = 1 then vs[0] else .tuple vs) : Sem Value) := by
    unfold results resOne
    rfl
  rw [hr, e]
  simp only [Sem.run_bind, hm, Result.andThen_ok, Sem.run_pure]
  congr 1
  match vs with
  | [] => rfl
  | [v] => rfl
  | v :: u :: vs => simp [packV]

variable [Far] {E : Env P} {W0 : World} {M0 : Nat → Prop} {H : Heap}

theorem resA_ok (hH : HeapOk W0 M0 H n w S) {fr : Nat → AV} {tmps : Array Value} (hF : ∀ i, R w S n (fr i) (tmps.getD i undef)) : ∀ {rs : List ResultVar} {p : Prop} {cs : List AV}, resA E H fr rs = some (p, cs) → p →
    ∃ vs : List Value, rs.length = vs.length ∧ cs.length = vs.length ∧ (∀ (i : Nat) (r : ResultVar) (v : Value), rs[i]? = some r → vs[i]? = some v → (resOne tmps r).run P w = .ok v w) ∧
      ∀ (i : Nat) (c : AV) (v : Value), cs[i]? = some c → vs[i]? = some v → R w S n c v := by
  intro rs
  induction rs with
  | nil =>
    intro p cs h _
    simp only [resA, Option.some.injEq, Prod.mk.injEq] at h
    obtain ⟨_, rfl⟩ := h
    exact ⟨[], rfl, rfl, fun i r v h => by simp at h, fun i r v h => by simp at h⟩
  | cons r rs ih =>
    intro p cs h hp
    have fin : ∀ {q : Prop} {c : AV} {cs' : List AV} {v : Value}, resA E H fr rs = some (q, cs') → q → cs = c :: cs' → (resOne tmps r).run P w = .ok v w → R w S n c v →
        ∃ vs : List Value, (r :: rs).length = vs.length ∧ cs.length = vs.length ∧ (∀ (i : Nat) (r' : ResultVar) (v : Value), (r :: rs)[i]? = some r' → vs[i]? = some v → (resOne tmps r').run P w = .ok v w) ∧
          ∀ (i : Nat) (c : AV) (v : Value), cs[i]? = some c → vs[i]? = some v → R w S n c v := by
      rintro q c cs' v h1 hq rfl h2 h3
      obtain ⟨vs, e1, e2, e3, e4⟩ := ih h1 hq
      refine ⟨v :: vs, by simp [e1], by simp [e2], fun i r' v' hr hv => ?_, fun i c' v' hc hv => ?_⟩
      · cases i with
        | zero => simp at hr hv; subst hr hv; exact h2
        | succ i => exact e3 i r' v' (by simpa using hr) (by simpa using hv)
      · cases i with
        | zero => simp at hc hv; subst hc hv; exact h3
        | succ i => exact e4 i c' v' (by simpa using hc) (by simpa using hv)
    cases r with
    | tmp t =>
      simp only [resA] at h
      split at h
      · rename_i q cs' hq
        simp only [Option.some.injEq, Prod.mk.injEq] at h
        obtain ⟨rfl, rfl⟩ := h
        exact fin hq hp.2 rfl (by simp [resOne]) ((hF t).bare_of hp.1)
      · cases h
    | cell b ty =>
      simp only [resA] at h
      split at h
      · rename_i q c p' cs' hl hq
        simp only [Option.some.injEq, Prod.mk.injEq] at h
        obtain ⟨rfl, rfl⟩ := h
        obtain ⟨v, hrun, hR⟩ := aLoad_ok hH hl hp.2.1 ((hF b).bare_of hp.1)
        refine fin hq hp.2.2 rfl ?_ hR
        exact load_as hrun
      · cases h
end

/-! ### the marks at the way out -/
section
variable {w w' : World} {S : Lays} {n : Nat}

/-- Rows of cells lie as they lay. -/
def Cells (w w' : World) : Prop := w.heap.size = w'.heap.size ∧ ∀ (b : Nat) (cur : Array Value) (t : TypeId) (z : Nat × Nat), w.heap[b]? = some (.cells cur t z) → w'.heap[b]? = some (.cells cur t z)

theorem Cells.cell (h : Cells w w') {a : Addr} {u : Value} (hc : w.cell? a = some u) : w'.cell? a = some u := by
  unfold World.cell? at *
  cases ho : w.heap[a.block]? with
  | none => rw [ho] at hc; cases hc
  | some o =>
    rw [ho] at hc
    cases o <;> first | (rw [h.2 _ _ _ _ ho]; exact hc) | cases hc

theorem Cells.rd (h : Cells w w') {O : Nat → Prop} {d : D} {v : Value} (hr : RD w O d v) : RD w' O d v := by
  induction hr with
  | bool b => exact .bool b
  | int k n => exact .int k n
  | str s => exact .str s
  | sl0 a cap => exact .sl0 a cap
  | nils => exact .nils
  | sl xs sz b o cap u hl hb hO' hz hc _ ih => exact .sl xs sz b o cap u hl (h.1 ▸ hb) hO' hz (fun e f c hh => h.cell (hc e f c hh)) ih
  | nilp => exact .nilp
  | ptr cs b o u hb hO' hc _ ih => exact .ptr cs b o u (h.1 ▸ hb) hO' (fun f c hh => h.cell (hc f c hh)) ih

variable [Far]

theorem Cells.r (h : Cells w w') {c : AV} {v : Value} (hr : R w S n c v) : R w' S n c v := by
  induction hr with
  | any v => exact .any v
  | d hx => exact .d (h.rd hx)
  | ip sz xs e f b o u hb hO hc hr => exact .ip sz xs e f b o u (h.1 ▸ hb) hO (fun e f c hh => h.cell (hc e f c hh)) (fun e f c hh => h.rd (hr e f c hh))
  | slDead id off len v hn hS => exact .slDead id off len v hn hS
  | sl id off len o l hn hS hc ho h0 => exact .sl id off len o l hn hS hc ho h0
  | ptrDead id e f v hn hS => exact .ptrDead id e f v hn hS
  | ptr id e f b l hn hS hb => exact .ptr id e f b l hn hS hb
  | agg cs us hl h1 _ ih => exact .agg cs us hl h1 ih
  | tup cs us hl _ ih => exact .tup cs us hl ih
  | clo fn cs us hl _ ih => exact .clo fn cs us hl ih
  | cond b c v _ hu ih => exact .cond b c v ih hu

theorem Cells.box (h : Cells w w') {b : Box} {l : Lay} (hb : BoxOk w S n b l) : BoxOk w' S n b l := by
  cases b with
  | vec ty sz xs =>
    obtain ⟨h1, h2, h3, h4, h5, h6⟩ := hb
    refine ⟨h1, h2, h3, h4, h5, fun b hb => ?_⟩
    obtain ⟨cur, e1, e2, e3⟩ := h6 b hb
    exact ⟨cur, h.2 _ _ _ _ e1, e2, fun e f c hh => by obtain ⟨u, e4, e5⟩ := e3 e f c hh; exact ⟨u, e4, h.rd e5⟩⟩
  | one ty cells =>
    obtain ⟨h1, h2, b, hb, cur, e1, e2, e3⟩ := hb
    exact ⟨h1, h2, b, hb, cur, h.2 _ _ _ _ e1, e2, fun f c hh => by obtain ⟨u, e4, e5, e6⟩ := e3 f c hh; exact ⟨u, e4, e5, h.r e6⟩⟩

theorem HeapOk.shut {W0 : World} {M0 : Nat → Prop} {H : Heap} (hH : HeapOk W0 M0 H n w S) (h : Cells w w') (hs : ∀ b, b < W0.heap.size → w'.heap[b]? = w.heap[b]?) (ho : w'.os = w.os) (ht : w'.tape = w.tape) (hp : w'.output = w.output) :
    HeapOk W0 M0 H n w' S := by
  constructor
  · exact hH.bnd
  · intro i l b h1 h2; rw [← h.1]; exact hH.lt_ i l b h1 h2
  · intro id b hb
    obtain ⟨l, hl, hbox⟩ := hH.box id b hb
    exact ⟨l, hl, h.box hbox⟩
  · exact hH.inj
  · exact hH.mut_
  · exact ho.trans hH.os
  · exact ht.trans hH.tape
  · exact hp.trans hH.output
  · rw [← h.1]; exact hH.size
  · intro b hb hM; rw [hs b hb]; exact hH.same b hb hM
  · exact hH.far
  · exact hH.pin

theorem cells_putObj {D : Nat} {x : Option (List Deferred)} {o : Obj} (hD : w.heap[D]? = some (.deferred x)) : Cells w (w.putObj D o) := by
  refine ⟨by simp, fun b cur t z hb => ?_⟩
  rw [World.putObj_heap_other (fun e => ?_)]
  · exact hb
  · subst e; rw [hD] at hb; cases hb

theorem leave_marks {P : Program} {fn : Func} {tmps : Array Value} {Rr : Ending → World → Prop} {W0 : World} {M0 : Nat → Prop} {H : Heap} {fr : Nat → AV} : ∀ (ds : List Deferred) (w : World), HeapOk W0 M0 H n w S → (∀ i, R w S n (fr i) (tmps.getD i undef)) → ds.Pairwise (fun d e => d.target ≠ e.target) → (∀ d ∈ ds, ∃ D, d.target = .collected D ∧ W0.heap.size ≤ D ∧ w.heap[D]? = some (.deferred (some [])) ∧ ¬ own S D) →
    (∀ w', HeapOk W0 M0 H n w' S → (∀ i, R w' S n (fr i) (tmps.getD i undef)) → ∃ v, (results fn tmps).run P w' = .ok v w' ∧ Rr (.returned v) w') → LeavesInM Fence.wide 0 P fn tmps Rr ds .returning w := by
  intro ds
  induction ds with
  | nil => intro w hH hR _ _ h; exact h w hH hR
  | cons d ds ih =>
    intro w hH hR hMa hM h
    obtain ⟨D, e1, e2, e3, e4⟩ := hM d List.mem_cons_self
    refine ⟨by simp, .inl ⟨D, _, e1, run_takeDeferred e3, ?_⟩⟩
    have hc : Cells w (w.putObj D (.deferred none)) := cells_putObj e3
    refine ih _ (hH.shut hc (fun b hb => World.putObj_heap_other (by omega)) rfl rfl rfl) (fun i => hc.r (hR i)) (List.pairwise_cons.1 hMa).2 (fun e he => ?_) h
    obtain ⟨D', f1, f2, f3, f4⟩ := hM e (List.mem_cons_of_mem _ he)
    have hne : D' ≠ D := fun hD => by
      have := (List.pairwise_cons.1 hMa).1 e he
      rw [e1, f1, hD] at this
      exact this rfl
    exact ⟨D', f1, f2, (World.putObj_heap_other hne).trans f3, f4⟩
end

/-! ### a function's contract -/
section
variable {P : Program}

/-- The boxes that a walk is handed, by their numbers at the caller's. -/
def pick (ds : List Nat) (S : Lays) : Lays := fun j => match ds[j]? with
  | some d => S d
  | none => none

/-- The callee's own view: what else is the caller's is far. -/
@[reducible] def inner (F : Far) (w : World) (S : Lays) (hlt : ∀ b, @own F S b → b < w.heap.size) (ds : List Nat) : Far where
  F := fun b => @own F S b ∧ ∀ j l, pick ds S j = some l → l.blk ≠ some b
  nev := fun b => b < w.heap.size ∧ ∀ j l, pick ds S j = some l → l.blk ≠ some b
  sub := fun b h => ⟨hlt b h.1, h.2⟩
  pin := pick ds S
  np := ds.length
  marks := true

theorem own_lt {F : Far} {W0 : World} {M0 : Nat → Prop} {H : Heap} {n : Nat} {w : World} {S : Lays} (hH : HeapOk W0 M0 H n w S) : ∀ b, @own F S b → b < w.heap.size := by
  rintro b (h | ⟨i, l, h1, h2⟩)
  · have := (hH.far b (Far.sub b h)).1
    have := hH.size
    omega
  · exact hH.lt_ i l b h1 h2

theorem pick_some {ds : List Nat} {S : Lays} {j : Nat} {l : Lay} (h : pick ds S j = some l) : ∃ d, ds[j]? = some d ∧ S d = some l := by
  unfold pick at h
  split at h
  · rename_i d hd; exact ⟨d, hd, h⟩
  · cases h

theorem own_inner {F : Far} {w : World} {S : Lays} {hlt : ∀ b, @own F S b → b < w.heap.size} {ds : List Nat} {b : Nat} (h : @own (inner F w S hlt ds) (pick ds S) b) : @own F S b := by
  rcases h with h | ⟨i, l, h1, h2⟩
  · exact h.1
  · obtain ⟨d, _, h3⟩ := pick_some h1
    exact .inr ⟨d, l, h3, h2⟩

theorem frame_get {vs : List Value} {N i : Nat} (hN : vs.length ≤ N) : (vs.toArray ++ Array.replicate (N - vs.toArray.size) undef).getD i undef = (vs[i]?).getD undef := by
  rw [Array.getD_eq_getD_getElem?, Array.getElem?_append]
  by_cases h : i < vs.length
  · rw [if_pos (by simpa using h)]; simp
  · rw [if_neg (by simpa using h), List.getElem?_eq_none (by omega)]
    simp [Array.getElem?_replicate]
    split <;> rfl

/-- **A function that only reads data and hands back data.** -/
theorem meets_pure (E : Env P) {f : FuncId} {fn : Func} {c : Code} {sp : Spec} (hf : P.funcs[f]? = some fn) (hb : fn.body = some c) (hN : fn.ntmps = E.N) (hρ : E.ρ = none)
    (h : ∀ args H n p r o, sp.run args H n = some (p, r, o) → p → o = none ∧ args.all pure2 = true ∧ pure3 r = true ∧ args.length ≤ E.N ∧
      ∀ [Far] (W0 : World), Far.np = 0 → Far.marks = true → VC E W0 (fun _ => False) c (mkSt (enumF 0 args) []) (retP E fn.results.toList r)) : Meets P f sp := by
  intro args H n p r o hrun hp F w S vs hH hl hr
  obtain ⟨rfl, hpa, hpr, hla, hvc⟩ := h args H n p r o hrun hp
  have hlt : ∀ b, @own F S b → b < w.heap.size := own_lt hH
  have hvc := @hvc (inner F w S hlt []) w rfl rfl
  have h0 : @HeapOk (inner F w S hlt []) w (fun _ => False) (getB []) 0 w (pick [] S) := by
    refine @HeapOk.mk (inner F w S hlt []) _ _ _ _ _ _ (fun _ _ => rfl) (fun i l b h => by cases h) (fun id b h => by cases h) (fun i j l l' b h => by cases h) (fun i l b h => by cases h) rfl rfl rfl (Nat.le_refl _) (fun _ _ _ => rfl) (fun b hb => ⟨hb.1, fun i l h => by cases h⟩) (fun i h => absurd h (Nat.not_lt_zero i))
  refine callsIn_wide.1 (callsIn_of_wp_marks (n := 0) hf hb trivial ?_)
  have hsim : @Sim (inner F w S hlt []) w (fun _ => False) E.N (mkSt (enumF 0 args) []) { tmps := vs.toArray ++ Array.replicate (fn.ntmps - vs.toArray.size) undef, defers := [] } w := by
    refine ⟨pick [] S, h0, @FrOk.mk (inner F w S hlt []) _ _ _ _ _ _ ?_ fun i => ?_, @Marks.nil (inner F w S hlt []) _ _ _⟩
    · simp only [Array.size_append, Array.size_replicate, List.size_toArray, hN]; omega
    · show @R (inner F w S hlt []) w (pick [] S) 0 (getF (enumF 0 args) i) _
      rw [getF_enum, if_pos (by omega), Nat.sub_zero, frame_get (by omega)]
      cases hi : args[i]? with
      | none => exact @R.any (inner F w S hlt []) _ _ _ _
      | some c =>
        have hlt' : i < args.length := (List.getElem?_eq_some_iff.1 hi).1
        have hv : vs[i]? = some (vs[i]'(by omega)) := List.getElem?_eq_getElem _
        rw [hv]
        exact pure2_far (fun b _ hb h => hb (own_inner h)) (List.all_eq_true.1 hpa c (List.mem_of_getElem? hi)) (hr i c _ hi hv)
  have hvc2 := hvc _ w hsim
  rw [show fen E.ρ = Fence.wide by rw [hρ]; rfl] at hvc2
  refine wpIn_mono hvc2 ?_
  rintro e a' w' ⟨st, ⟨he, hst⟩, S1, hH1, hF1, hM1⟩
  have go : LeavesInM Fence.wide 0 P fn a'.tmps (fun e w' => ∃ v S', e = .returned v ∧ Left H n w S H n w' S' ∧ ((none : Option (Heap × Nat)) = none → S' = S ∧ ∀ b, b < w.heap.size → w'.heap[b]? = w.heap[b]?) ∧ R w' S' n r v) a'.defers .returning w' := by
    refine @leave_marks _ _ (inner F w S hlt []) _ _ _ _ _ _ _ _ a'.defers w' hH1 (@FrOk.at_ (inner F w S hlt []) _ _ _ _ _ _ hF1) (@Marks.apart (inner F w S hlt []) _ _ _ _ hM1) (@Marks.at_ (inner F w S hlt []) _ _ _ _ hM1) (fun w' hH1 hF1 => ?_)
    split at hst
    · rename_i q cs hres
      obtain ⟨hq, hmt⟩ := hst
      obtain ⟨us, e1, e2, e3, e4⟩ := @resA_ok P w' S1 st.n (inner F w S hlt []) E w (fun _ => False) st.H hH1 st.fr a'.tmps hF1 _ _ _ hres hq
      have hpk : @R (inner F w S hlt []) w' S1 st.n (packA cs) (packV us) := by
        match us, cs, e2, e4 with
        | [], [], _, _ => exact @R.tup (inner F w S hlt []) _ _ _ [] [] rfl (fun i c u h => by simp at h)
        | [v], [c], _, e4 => exact e4 0 c v rfl rfl
        | v :: u :: us, c :: d :: cs, e2, e4 => exact @R.tup (inner F w S hlt []) _ _ _ (c :: d :: cs) (v :: u :: us) e2.symm (fun i c' u' hc hu => e4 i c' u' hc hu)
      have hout := @mt_ok (inner F w S hlt []) w' S1 st.n w (fun _ => False) st.H [] [] hH1 _ _ hmt _ hpk
      have hsame : ∀ b, b < w.heap.size → w'.heap[b]? = w.heap[b]? := fun b hb => @HeapOk.same (inner F w S hlt []) _ _ _ _ _ _ hH1 b hb (fun h => h)
      have hE : @Ext F w S n w' S n := @Ext.mk F _ _ _ _ _ _ (Nat.le_refl _) (@HeapOk.size (inner F w S hlt []) _ _ _ _ _ _ hH1) (fun _ _ => .inl rfl) (fun _ _ h => h) (fun b hb _ => hsame b hb)
      refine ⟨_, results_run e1 e3, _, S, rfl, ⟨?_, hE, fun _ _ _ => rfl, fun id hid _ => hH.bnd id hid⟩, fun _ => ⟨rfl, hsame⟩, ?_⟩
      · refine @HeapOk.mk F _ _ _ _ _ _ hH.bnd (fun i l b h1 h2 => Nat.lt_of_lt_of_le (hH.lt_ i l b h1 h2) hE.size) (fun id b hb => ?_) hH.inj hH.mut_ (@HeapOk.os (inner F w S hlt []) _ _ _ _ _ _ hH1) (@HeapOk.tape (inner F w S hlt []) _ _ _ _ _ _ hH1) (@HeapOk.output (inner F w S hlt []) _ _ _ _ _ _ hH1) hE.size (fun b hb _ => hsame b hb) hH.far hH.pin
        obtain ⟨l, hl, hbox⟩ := hH.box id b hb
        exact ⟨l, hl, hbox.ext hE (fun k hk => hsame k (hH.lt_ id l k hl hk))⟩
      · refine pure3_far (fun b hb hno h => hno (Or.inl (show @Far.F (inner F w S hlt []) b from ⟨h, fun j l hj => by cases hj⟩))) hpr hout
    · exact hst.elim
  rcases he with rfl | rfl
  · exact go
  · exact go
end
end Go.Vc
