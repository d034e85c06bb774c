/- The Vc layer: specifications of functions, and calls. -/
import Derived.Test.YtaoifpmifpmhmaaVc10
set_option linter.all false
namespace Go.Vc
open Go Go.RowKit

/-- What a function does, as a function of its arguments: the boxes that it is handed; condition, result, and the boxes behind it (none: as before). -/
structure Spec where
  dom : List AV → Heap → List Nat
  run : List AV → Heap → Nat → Option (Prop × AV × Option (Heap × Nat))

def restr {α : Type} (D : List Nat) (f : Nat → Option α) : Nat → Option α := fun i => if i ∈ D then f i else none
def merge {α : Type} (D : List Nat) (n : Nat) (f g : Nat → Option α) : Nat → Option α := fun i => if i ∈ D ∨ n ≤ i then g i else f i
def killL {α : Type} (B : List Nat) (f : Nat → Option α) : Nat → Option α := fun i => if i ∈ B then none else f i

/-- The blocks of the boxes that are known. -/
def liveB (H : Heap) (S : Lays) (b : Nat) : Prop := ∃ i l, (H i).isSome = true ∧ S i = some l ∧ l.blk = some b

variable [Far] in
/-- What a call leaves. -/
structure Left (H : Heap) (n : Nat) (w : World) (S : Lays) (H' : Heap) (n' : Nat) (w' : World) (S' : Lays) : Prop where
  heap : HeapOk w (liveB H S) H' n' w' S'
  ext : Ext w S n w' S' n'
  far : ∀ id, id < n → H id = none → S' id = S id
  new : ∀ id, n ≤ id → H' id = none → S' id = none

def Meets (P : Program) (f : FuncId) (sp : Spec) : Prop :=
  ∀ (args : List AV) (H : Heap) (n : Nat) (p : Prop) (r : AV) (o : Option (Heap × Nat)), sp.run args H n = some (p, r, o) → p →
    ∀ [Far] (w : World) (S : Lays) (vs : List Value), HeapOk w (liveB H S) H n w S → vs.length = args.length → (∀ (i : Nat) (c : AV) (u : Value), args[i]? = some c → vs[i]? = some u → R w S n c u) →
      Calls P f vs.toArray w fun e w' => ∃ v S', e = .returned v ∧ Left H n w S (o.getD (H, n)).1 (o.getD (H, n)).2 w' S' ∧ (o = none → S' = S ∧ ∀ b, b < w.heap.size → w'.heap[b]? = w.heap[b]?) ∧ R w' S' (o.getD (H, n)).2 r v

/-- A Go function that has a body of its own. -/
def enters (P : Program) (f : FuncId) : Bool :=
  match P.funcs[f]? with
  | some fn => fn.name != "runtime.NumGoroutine" && fn.body.isSome
  | none => false

theorem enters_run {P : Program} {f : FuncId} (h : enters P f = true) (args : Array Value) (w : World) : (callFunc f args).run P w = .ok (.enter f args) w := by
  unfold enters at h
  split at h
  · rename_i fn hf
    simp only [Bool.and_eq_true, bne_iff_ne, ne_eq] at h
    have hb : fn.body ≠ none := by intro e; rw [e] at h; simp at h
    simp [callFunc, hf, h.1, hb]
  · cases h

structure Env (P : Program) where
  X : Ctx P
  N : Nat
  ρ : Option Nat
  Γ : FuncId → Option Spec
  ok : ∀ f sp, Γ f = some sp → Meets P f sp
  ent : ∀ f sp, Γ f = some sp → enters P f = true

variable [Far]
/-! ### arguments -/
def read1 (H : Heap) (D : List Nat) : AV → Option (Prop × AV × List Nat)
  | .d x => some (True, .d (cleanD x), [])
  | .sl id off len => if id ∈ D then some (True, .sl id off len, []) else match H id with
    | some (.vec _ _ xs) => some (off + len ≤ xs.length, .d (.sl ((xs.drop off).take len)), [id])
    | _ => none
  | .ptr id e f => if id ∈ D then some (True, .ptr id e f, []) else match H id with
    | some (.one _ cells) => match pureL cells with
      | some ds => some (e = 0 ∧ f = 0, .d (.ptr ds), [id])
      | none => none
    | _ => none
  | .ip sz xs e f => some (True, .ip sz xs e f, [])
  | _ => none

def readL (H : Heap) (D : List Nat) : List AV → Option (Prop × List AV × List Nat)
  | [] => some (True, [], [])
  | c :: cs => match read1 H D c with
    | some (p, c', B) => match readL H D cs with
      | some (q, cs', B') => some (p ∧ q, c' :: cs', B ++ B')
      | none => none
    | none => none

def readA (H : Heap) (D : List Nat) : AV → Option (Prop × AV × List Nat)
  | .agg cs => match readL H D cs with
    | some (p, cs', B) => some (p, .agg cs', B)
    | none => none
  | .clo fn cs => match readL H D cs with
    | some (p, cs', B) => some (p, .clo fn cs', B)
    | none => none
  | .d x => read1 H D (.d x)
  | .sl id off len => read1 H D (.sl id off len)
  | .ptr id e f => read1 H D (.ptr id e f)
  | .ip sz xs e f => read1 H D (.ip sz xs e f)
  | _ => none

def readArgs (H : Heap) (D : List Nat) : List AV → Option (Prop × List AV × List Nat)
  | [] => some (True, [], [])
  | c :: cs => match readA H D c with
    | some (p, c', B) => match readArgs H D cs with
      | some (q, cs', B') => some (p ∧ q, c' :: cs', B ++ B')
      | none => none
    | none => none

/-! ### results that hold no memory -/
def scD : D → Bool
  | .bool _ | .int _ _ | .str _ | .nils | .nilp => true
  | _ => false
def sc1 : AV → Bool
  | .d x => scD x
  | .any => true
  | _ => false
def sc2 : AV → Bool
  | .agg cs => cs.all sc1
  | .d x => scD x
  | .any => true
  | _ => false
def scA : AV → Bool
  | .tup vs => vs.all sc2
  | .agg cs => cs.all sc1
  | .d x => scD x
  | .any => true
  | _ => false

section
variable {P : Program} {X : Ctx P} {w w' : World} {S : Lays} {n : Nat} {W0 : World} {M0 : Nat → Prop} {H : Heap}

theorem killL_ext (B : List Nat) : Ext w S n w (killL B S) n := by
  refine ⟨Nat.le_refl _, Nat.le_refl _, fun i _ => ?_, fun c _ hO => ?_, fun _ _ _ => rfl⟩
  · unfold killL; split
    · exact .inr rfl
    · exact .inl rfl
  · rintro (hf | ⟨i, l, h1, h2⟩)
    · exact hO (.inl hf)
    unfold killL at h1
    split at h1
    · cases h1
    · exact hO (.inr ⟨i, l, h1, h2⟩)

theorem killL_some {B : List Nat} {i : Nat} {l : Lay} (h : killL B S i = some l) : i ∉ B ∧ S i = some l := by
  unfold killL at h
  split at h
  · cases h
  · exact ⟨by assumption, h⟩

theorem not_own_killL (hH : HeapOk W0 M0 H n w S) {id : Nat} {l : Lay} {b : Nat} {B : List Nat} (hS : S id = some l) (hb : l.blk = some b) (hB : id ∈ B) : ¬ own (killL B S) b := by
  rintro (hf | ⟨i, l', h1, h2⟩)
  · exact (hH.far b (Far.sub b hf)).2 id l hS hb
  obtain ⟨h3, h4⟩ := killL_some h1
  exact h3 (by rw [hH.inj i id l' l b h4 hS h2 hb]; exact hB)

theorem read1_ok (hH : HeapOk W0 M0 H n w S) {D B0 : List Nat} {c c' : AV} {p : Prop} {B : List Nat} (h : read1 H D c = some (p, c', B)) (hp : p) (hB : ∀ i ∈ B, i ∈ B0) {v : Value} (hv : R w S n c v) : R w (killL B0 S) n c' v := by
  have hE : Ext w S n w (killL B0 S) n := killL_ext B0
  unfold read1 at h
  split at h
  · simp only [Option.some.injEq, Prod.mk.injEq] at h
    obtain ⟨_, rfl, _⟩ := h
    cases hv with | d hx => exact .d (hE.rd hx).clean
  · rename_i id off len
    split at h
    · simp only [Option.some.injEq, Prod.mk.injEq] at h
      obtain ⟨_, rfl, _⟩ := h
      exact hE.r hv
    · split at h
      · rename_i ty sz xs hb
        simp only [Option.some.injEq, Prod.mk.injEq] at h
        obtain ⟨rfl, rfl, rfl⟩ := h
        obtain ⟨l, o, hS, ⟨hsz, _, _, hz, hnil, hbk⟩, rfl, hcap, ho, h0⟩ := hv.sl_live hH hb
        have hlen : ((xs.drop off).take len).length = len := by rw [List.length_take, List.length_drop]; omega
        by_cases hl0 : len = 0
        · subst hl0; rw [List.take_zero]; exact .d (.sl0 _ _)
        · cases hk : l.blk with
          | none => have := hnil hk; omega
          | some b =>
            obtain ⟨cur, hcur, hsize, hcell⟩ := hbk b hk
            have hpt : ∀ e f c, at2 ((xs.drop off).take len) e f = some c → ∃ u, w.cell? ⟨b, o + e * sz + f, none⟩ = some u ∧ RD w (own (killL B0 S)) c u := fun e f c hh => by
              obtain ⟨u, hu', hr⟩ := hcell _ _ _ (at2_drop_take hh)
              refine ⟨u, ?_, hE.rd hr⟩
              rw [cell_of_row w b _ cur _ (0, 0) hcur, ho (by omega), hsz, show off * sz + e * sz + f = (off + e) * sz + f by rw [Nat.add_mul]]
              exact hu'
            have := RD.sl (w := w) (O := own (killL B0 S)) ((xs.drop off).take len) sz b o (l.cap - off) (fun e f => (w.cell? ⟨b, o + e * sz + f, none⟩).getD undef) (by omega) (Array.getElem?_eq_some_iff.1 hcur).1 (not_own_killL hH hS hk (hB id (by simp)))
              (fun x hx => hz x (List.mem_of_mem_drop (List.mem_of_mem_take hx))) (fun e f c hh => by obtain ⟨u, hu, _⟩ := hpt e f c hh; rw [hu]; rfl) (fun e f c hh => by obtain ⟨u, hu, hr⟩ := hpt e f c hh; rw [hu]; exact hr)
            rw [hlen] at this
            exact .d this
      · cases h
  · rename_i id e f
    split at h
    · simp only [Option.some.injEq, Prod.mk.injEq] at h
      obtain ⟨_, rfl, _⟩ := h
      exact hE.r hv
    · split at h
      · rename_i ty cells hb
        split at h
        · rename_i ds hds
          simp only [Option.some.injEq, Prod.mk.injEq] at h
          obtain ⟨rfl, rfl, rfl⟩ := h
          obtain ⟨rfl, rfl⟩ := hp
          obtain ⟨l, k, hS, ⟨hsz, hcap, k', hk', cur, hcur, hsize, hcell⟩, hk, rfl⟩ := hv.ptr_live hH hb
          rw [hk] at hk'; cases hk'
          obtain ⟨hdl, hdd⟩ := pureL_ok hds
          have hpt : ∀ f c, ds[f]? = some c → ∃ u, w.cell? ⟨k, 0 + f, none⟩ = some u ∧ RD w (own (killL B0 S)) c u := fun f c hf => by
            have hlt : f < cells.length := by have := (List.getElem?_eq_some_iff.1 hf).1; omega
            obtain ⟨d, x, h1, h2, h3⟩ := hdd f _ (List.getElem?_eq_getElem hlt)
            rw [hf] at h1; cases h1
            obtain ⟨u, hu', _, hr⟩ := hcell f _ (List.getElem?_eq_getElem hlt)
            rw [h2] at hr
            cases hr with | d hr =>
            refine ⟨u, ?_, h3 ▸ (hE.rd hr).clean⟩
            rw [cell_of_row w k _ cur _ (0, 0) hcur, Nat.zero_add]; exact hu'
          rw [Nat.zero_mul, Nat.zero_add]
          exact .d (.ptr ds k 0 (fun f => (w.cell? ⟨k, 0 + f, none⟩).getD undef) (Array.getElem?_eq_some_iff.1 hcur).1 (not_own_killL hH hS hk (hB id (by simp)))
            (fun f c hh => by obtain ⟨u, hu, _⟩ := hpt f c hh; rw [hu]; rfl) (fun f c hh => by obtain ⟨u, hu, hr⟩ := hpt f c hh; rw [hu]; exact hr))
        · cases h
      · cases h
  · simp only [Option.some.injEq, Prod.mk.injEq] at h
    obtain ⟨_, rfl, _⟩ := h
    exact hE.r hv
  · cases h

theorem readL_ok (hH : HeapOk W0 M0 H n w S) {D B0 : List Nat} : ∀ {cs cs' : List AV} {p : Prop} {B : List Nat}, readL H D cs = some (p, cs', B) → p → (∀ i ∈ B, i ∈ B0) →
    cs'.length = cs.length ∧ ∀ (us : List Value), us.length = cs.length → (∀ (i : Nat) (c : AV) (u : Value), cs[i]? = some c → us[i]? = some u → R w S n c u) → ∀ (i : Nat) (c : AV) (u : Value), cs'[i]? = some c → us[i]? = some u → R w (killL B0 S) n c u := by
  intro cs
  induction cs with
  | nil =>
    intro cs' p B h hp hB
    simp only [readL, Option.some.injEq, Prod.mk.injEq] at h
    obtain ⟨_, rfl, _⟩ := h
    exact ⟨rfl, fun us hl hu i c u hc => by simp at hc⟩
  | cons c cs ih =>
    intro cs' p B h hp hB
    unfold readL at h
    split at h
    · rename_i q c' B1 h1
      split at h
      · rename_i q2 cs2 B2 h2
        simp only [Option.some.injEq, Prod.mk.injEq] at h
        obtain ⟨rfl, rfl, rfl⟩ := h
        obtain ⟨hl, hr⟩ := ih h2 hp.2 (fun i hi => hB i (List.mem_append.2 (.inr hi)))
        refine ⟨by simp [hl], fun us hus hu i d u hd hui => ?_⟩
        cases us with
        | nil => simp at hui
        | cons u0 us =>
          cases i with
          | zero =>
            simp at hd hui
            subst hd hui
            exact read1_ok hH h1 hp.1 (fun i hi => hB i (List.mem_append.2 (.inl hi))) (hu 0 c u0 rfl rfl)
          | succ i => exact hr us (by simpa using hus) (fun j d' u' hd' hu' => hu (j + 1) d' u' (by simpa using hd') (by simpa using hu')) i d u (by simpa using hd) (by simpa using hui)
      · cases h
    · cases h

theorem readA_ok (hH : HeapOk W0 M0 H n w S) {D B0 : List Nat} {c c' : AV} {p : Prop} {B : List Nat} (h : readA H D c = some (p, c', B)) (hp : p) (hB : ∀ i ∈ B, i ∈ B0) {v : Value} (hv : R w S n c v) : R w (killL B0 S) n c' v := by
  unfold readA at h
  split at h
  · split at h
    · rename_i q cs' B1 h1
      simp only [Option.some.injEq, Prod.mk.injEq] at h
      obtain ⟨rfl, rfl, rfl⟩ := h
      cases hv with | agg _ us hl h1' hr =>
      obtain ⟨hl', hr'⟩ := readL_ok hH h1 hp hB
      exact .agg _ us (by omega) h1' (hr' us hl hr)
    · cases h
  · split at h
    · rename_i q cs' B1 h1
      simp only [Option.some.injEq, Prod.mk.injEq] at h
      obtain ⟨rfl, rfl, rfl⟩ := h
      cases hv with | clo fn _ us hl hr =>
      obtain ⟨hl', hr'⟩ := readL_ok hH h1 hp hB
      exact .clo _ _ us (by omega) (hr' us hl hr)
    · cases h
  all_goals first
    | exact read1_ok hH h hp hB hv
    | cases h

theorem readArgs_ok (hH : HeapOk W0 M0 H n w S) {D B0 : List Nat} : ∀ {cs cs' : List AV} {p : Prop} {B : List Nat}, readArgs H D cs = some (p, cs', B) → p → (∀ i ∈ B, i ∈ B0) →
    cs'.length = cs.length ∧ ∀ (us : List Value), us.length = cs.length → (∀ (i : Nat) (c : AV) (u : Value), cs[i]? = some c → us[i]? = some u → R w S n c u) → ∀ (i : Nat) (c : AV) (u : Value), cs'[i]? = some c → us[i]? = some u → R w (killL B0 S) n c u := by
  intro cs
  induction cs with
  | nil =>
    intro cs' p B h hp hB
    simp only [readArgs, Option.some.injEq, Prod.mk.injEq] at h
    obtain ⟨_, rfl, _⟩ := h
    exact ⟨rfl, fun us hl hu i c u hc => by simp at hc⟩
  | cons c cs ih =>
    intro cs' p B h hp hB
    unfold readArgs at h
    split at h
    · rename_i q c' B1 h1
      split at h
      · rename_i q2 cs2 B2 h2
        simp only [Option.some.injEq, Prod.mk.injEq] at h
        obtain ⟨rfl, rfl, rfl⟩ := h
        obtain ⟨hl, hr⟩ := ih h2 hp.2 (fun i hi => hB i (List.mem_append.2 (.inr hi)))
        refine ⟨by simp [hl], fun us hus hu i d u hd hui => ?_⟩
        cases us with
        | nil => simp at hui
        | cons u0 us =>
          cases i with
          | zero =>
            simp at hd hui
            subst hd hui
            exact readA_ok hH h1 hp.1 (fun i hi => hB i (List.mem_append.2 (.inl hi))) (hu 0 c u0 rfl rfl)
          | succ i => exact hr us (by simpa using hus) (fun j d' u' hd' hu' => hu (j + 1) d' u' (by simpa using hd') (by simpa using hu')) i d u (by simpa using hd) (by simpa using hui)
      · cases h
    · cases h

theorem readArgs_far {D : List Nat} : ∀ {cs cs' : List AV} {p : Prop} {B : List Nat}, readArgs H D cs = some (p, cs', B) → ∀ i ∈ B, i ∉ D ∧ (H i).isSome = true := by
  have one : ∀ {c c' : AV} {p : Prop} {B : List Nat}, read1 H D c = some (p, c', B) → ∀ i ∈ B, i ∉ D ∧ (H i).isSome = true := by
    intro c c' p B h
    unfold read1 at h
    split at h
    · simp only [Option.some.injEq, Prod.mk.injEq] at h
      obtain ⟨_, _, rfl⟩ := h; intro i hi; cases hi
    · split at h
      · simp only [Option.some.injEq, Prod.mk.injEq] at h
        obtain ⟨_, _, rfl⟩ := h; intro i hi; cases hi
      · rename_i hd
        split at h
        · rename_i hb
          simp only [Option.some.injEq, Prod.mk.injEq] at h
          obtain ⟨_, _, rfl⟩ := h
          intro i hi
          simp at hi; subst hi
          exact ⟨hd, by rw [hb]; rfl⟩
        · cases h
    · split at h
      · simp only [Option.some.injEq, Prod.mk.injEq] at h
        obtain ⟨_, _, rfl⟩ := h; intro i hi; cases hi
      · rename_i hd
        split at h
        · rename_i hb
          split at h
          · simp only [Option.some.injEq, Prod.mk.injEq] at h
            obtain ⟨_, _, rfl⟩ := h
            intro i hi
            simp at hi; subst hi
            exact ⟨hd, by rw [hb]; rfl⟩
          · cases h
        · cases h
    · simp only [Option.some.injEq, Prod.mk.injEq] at h
      obtain ⟨_, _, rfl⟩ := h; intro i hi; cases hi
    · cases h
  have many : ∀ {cs cs' : List AV} {p : Prop} {B : List Nat}, readL H D cs = some (p, cs', B) → ∀ i ∈ B, i ∉ D ∧ (H i).isSome = true := by
    intro cs
    induction cs with
    | nil =>
      intro cs' p B h
      simp only [readL, Option.some.injEq, Prod.mk.injEq] at h
      obtain ⟨_, _, rfl⟩ := h; intro i hi; cases hi
    | cons c cs ih =>
      intro cs' p B h
      unfold readL at h
      split at h
      · rename_i h1
        split at h
        · rename_i h2
          simp only [Option.some.injEq, Prod.mk.injEq] at h
          obtain ⟨_, _, rfl⟩ := h
          intro i hi
          rcases List.mem_append.1 hi with hi | hi
          · exact one h1 i hi
          · exact ih h2 i hi
        · cases h
      · cases h
  have any : ∀ {c c' : AV} {p : Prop} {B : List Nat}, readA H D c = some (p, c', B) → ∀ i ∈ B, i ∉ D ∧ (H i).isSome = true := by
    intro c c' p B h
    unfold readA at h
    split at h
    · split at h
      · rename_i h1
        simp only [Option.some.injEq, Prod.mk.injEq] at h
        obtain ⟨_, _, rfl⟩ := h
        exact many h1
      · cases h
    · split at h
      · rename_i h1
        simp only [Option.some.injEq, Prod.mk.injEq] at h
        obtain ⟨_, _, rfl⟩ := h
        exact many h1
      · cases h
    all_goals first
      | exact one h
      | cases h
  intro cs
  induction cs with
  | nil =>
    intro cs' p B h
    simp only [readArgs, Option.some.injEq, Prod.mk.injEq] at h
    obtain ⟨_, _, rfl⟩ := h; intro i hi; cases hi
  | cons c cs ih =>
    intro cs' p B h
    unfold readArgs at h
    split at h
    · rename_i h1
      split at h
      · rename_i h2
        simp only [Option.some.injEq, Prod.mk.injEq] at h
        obtain ⟨_, _, rfl⟩ := h
        intro i hi
        rcases List.mem_append.1 hi with hi | hi
        · exact any h1 i hi
        · exact ih h2 i hi
      · cases h
    · cases h

theorem scD_any {O O' : Nat → Prop} {x : D} {v : Value} (hs : scD x = true) (h : RD w O x v) : RD w O' x v := by
  cases h <;> simp [scD] at hs
  · exact .bool _
  · exact .int _ _
  · exact .str _
  · exact .nils
  · exact .nilp

theorem sc1_any {S' : Lays} {n' : Nat} {c : AV} {v : Value} (hs : sc1 c = true) (h : R w S n c v) : R w S' n' c v := by
  cases h <;> simp [sc1] at hs
  · exact .any _
  · rename_i h; exact .d (scD_any hs h)
theorem sc2_any {S' : Lays} {n' : Nat} {c : AV} {v : Value} (hs : sc2 c = true) (h : R w S n c v) : R w S' n' c v := by
  cases h <;> simp [sc2] at hs
  · exact .any _
  · rename_i h; exact .d (scD_any hs h)
  · rename_i cs us hl h1 hr
    exact .agg cs us hl h1 (fun i c u hc hu => sc1_any (hs c (List.mem_of_getElem? hc)) (hr i c u hc hu))
theorem scA_any {S' : Lays} {n' : Nat} {c : AV} {v : Value} (hs : scA c = true) (h : R w S n c v) : R w S' n' c v := by
  cases h <;> simp [scA] at hs
  · exact .any _
  · rename_i h; exact .d (scD_any hs h)
  · rename_i cs us hl h1 hr
    exact .agg cs us hl h1 (fun i c u hc hu => sc1_any (hs c (List.mem_of_getElem? hc)) (hr i c u hc hu))
  · rename_i cs us hl hr
    exact .tup cs us hl (fun i c u hc hu => sc2_any (hs c (List.mem_of_getElem? hc)) (hr i c u hc hu))

/-- The callee's memory out of the caller's. -/
theorem HeapOk.enter (hH : HeapOk W0 M0 H n w S) (D B : List Nat) (hDB : ∀ i ∈ B, i ∉ D) : HeapOk w (liveB (restr D H) (killL B S)) (restr D H) n w (killL B S) := by
  have hE : Ext w S n w (killL B S) n := killL_ext B
  constructor
  · intro id hid
    unfold killL; split
    · rfl
    · exact hH.bnd id hid
  · intro i l b h hb
    exact hH.lt_ i l b (killL_some h).2 hb
  · intro id b hb
    unfold restr at hb
    split at hb
    · rename_i hid
      obtain ⟨l, hl, hB⟩ := hH.box id b hb
      exact ⟨l, by unfold killL; rw [if_neg (fun h => hDB id h hid)]; exact hl, hB.ext hE (fun _ _ => rfl)⟩
    · cases hb
  · intro i j l l' b hi hj h1 h2
    exact hH.inj i j l l' b (killL_some hi).2 (killL_some hj).2 h1 h2
  · intro i l b hl hi hb
    exact .inr ⟨i, l, hl, hi, hb⟩
  · rfl
  · rfl
  · rfl
  · exact Nat.le_refl _
  · intro b _ _; rfl
  · intro b hf
    obtain ⟨h1, h2⟩ := hH.far b hf
    exact ⟨by have := hH.size; omega, fun i l hi => h2 i l (killL_some hi).2⟩
  · intro i hp
    obtain ⟨h1, h2⟩ := hH.pin i hp
    refine ⟨h1, ?_⟩
    unfold killL
    split
    · exact .inr rfl
    · exact h2

/-- The caller's memory behind the call, what was lent being let go. -/
theorem HeapOk.back (hH : HeapOk W0 M0 H n w S) {D B : List Nat} (hDB : ∀ i ∈ B, i ∉ D) {H' : Heap} {n' : Nat} {S' : Lays} (hL : Left (restr D H) n w (killL B S) H' n' w' S') :
    HeapOk W0 M0 (killL B (merge D n H H')) n' w' S' ∧ Ext w S n w' S' n' := by
  have hE0 : Ext w S n w (killL B S) n := killL_ext B
  have hE : Ext w S n w' S' n' := hE0.trans hL.ext
  have notlive : ∀ {id l b}, S id = some l → l.blk = some b → id ∉ D → ¬ liveB (restr D H) (killL B S) b := by
    rintro id l b hS hb hD ⟨i, l', h1, h2, h3⟩
    have h4 := (killL_some h2).2
    have : i = id := hH.inj i id l' l b h4 hS h3 hb
    subst this
    unfold restr at h1
    rw [if_neg hD] at h1; cases h1
  have old : ∀ b, liveB (restr D H) (killL B S) b → W0.heap.size ≤ b ∨ M0 b := by
    rintro b ⟨i, l, h1, h2, h3⟩
    refine hH.mut_ i l b ?_ (killL_some h2).2 h3
    unfold restr at h1
    split at h1
    · exact h1
    · cases h1
  refine ⟨?_, hE⟩
  constructor
  · exact hL.heap.bnd
  · exact hL.heap.lt_
  · intro id b hb
    unfold killL at hb
    split at hb
    · cases hb
    · rename_i hB
      unfold merge at hb
      split at hb
      · exact hL.heap.box id b hb
      · rename_i hc
        obtain ⟨l, hl, hbox⟩ := hH.box id b hb
        have hidn : id < n := by omega
        have hD : id ∉ D := fun h => hc (.inl h)
        have hS' : S' id = some l := by
          rw [hL.far id hidn (by unfold restr; rw [if_neg hD])]
          unfold killL; rw [if_neg hB]; exact hl
        exact ⟨l, hS', hbox.ext hE (fun k hk => hL.heap.same k (hH.lt_ id l k hl hk) (notlive hl hk hD))⟩
  · exact hL.heap.inj
  · intro i l b hlive hS hb
    unfold killL at hlive
    split at hlive
    · cases hlive
    · rename_i hB
      unfold merge at hlive
      split at hlive
      · rcases hL.heap.mut_ i l b hlive hS hb with h | h
        · left; have := hH.size; omega
        · exact old b h
      · rename_i hc
        have hidn : i < n := by omega
        have hD : i ∉ D := fun h => hc (.inl h)
        rw [hL.far i hidn (by unfold restr; rw [if_neg hD])] at hS
        exact hH.mut_ i l b hlive (killL_some hS).2 hb
  · exact hL.heap.os.trans hH.os
  · exact hL.heap.tape.trans hH.tape
  · exact hL.heap.output.trans hH.output
  · have := hH.size; have := hL.heap.size; omega
  · intro b hb hM
    rw [hL.heap.same b (by have := hH.size; omega) (fun h => ?_)]
    · exact hH.same b hb hM
    · rcases old b h with h | h
      · omega
      · exact hM h
  · intro b hf
    exact ⟨(hH.far b hf).1, (hL.heap.far b hf).2⟩
  · exact hL.heap.pin

/-- The caller's memory behind a call that has turned nothing. -/
theorem HeapOk.back_same (hH : HeapOk W0 M0 H n w S) {D B : List Nat} (hDB : ∀ i ∈ B, i ∉ D) (hL : Left (restr D H) n w (killL B S) (restr D H) n w' (killL B S)) (hBl : ∀ i ∈ B, (H i).isSome = true) (hq : ∀ b, b < w.heap.size → w'.heap[b]? = w.heap[b]?) :
    HeapOk W0 M0 H n w' S ∧ Ext w S n w' S n := by
  have notlive : ∀ {id l b}, S id = some l → l.blk = some b → id ∉ D → ¬ liveB (restr D H) (killL B S) b := by
    rintro id l b hS hb hD ⟨i, l', h1, h2, h3⟩
    have h4 := (killL_some h2).2
    have : i = id := hH.inj i id l' l b h4 hS h3 hb
    subst this
    unfold restr at h1
    rw [if_neg hD] at h1; cases h1
  have old : ∀ b, liveB (restr D H) (killL B S) b → W0.heap.size ≤ b ∨ M0 b := by
    rintro b ⟨i, l, h1, h2, h3⟩
    refine hH.mut_ i l b ?_ (killL_some h2).2 h3
    unfold restr at h1
    split at h1
    · exact h1
    · cases h1
  have hE : Ext w S n w' S n := ⟨Nat.le_refl _, hL.ext.size, fun _ _ => .inl rfl, fun _ _ h => h, fun b hb hO => hL.ext.same b hb (fun h => hO (by
    rcases h with hf | ⟨i, l, h1, h2⟩
    · exact .inl hf
    · exact .inr ⟨i, l, (killL_some h1).2, h2⟩))⟩
  refine ⟨?_, hE⟩
  constructor
  · exact hH.bnd
  · intro i l b h hb
    have := hH.lt_ i l b h hb
    have := hL.ext.size
    omega
  · intro id b hb
    obtain ⟨l, hl, hbox⟩ := hH.box id b hb
    exact ⟨l, hl, hbox.ext hE (fun k hk => hq k (hH.lt_ id l k hl hk))⟩
  · exact hH.inj
  · exact hH.mut_
  · exact hL.heap.os.trans hH.os
  · exact hL.heap.tape.trans hH.tape
  · exact hL.heap.output.trans hH.output
  · have := hH.size; have := hL.heap.size; omega
  · intro b hb hM
    rw [hL.heap.same b (by have := hH.size; omega) (fun h => ?_)]
    · exact hH.same b hb hM
    · rcases old b h with h | h
      · omega
      · exact hM h
  · exact hH.far
  · exact hH.pin
end
end Go.Vc
