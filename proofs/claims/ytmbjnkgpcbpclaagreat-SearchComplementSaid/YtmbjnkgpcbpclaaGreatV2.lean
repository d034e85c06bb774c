/- The Vc layer, part 2. -/
import Derived.Test.YtmbjnkgpcbpclaaGreatV1
import Derived.OrdersIn
import Derived.LoopNIn
import Derived.RangeFuncCalls
import Derived.Scope
import Derived.RangeFuncLeaves
/- The Vc layer: specifications of functions, and calls. -/
set_option linter.all false
namespace Go.Vc
open Go Go.RowKit

structure Spec where
 dom : List AV → Ap → List Nat
 run : List AV → Ap → Nat → Option (Prop × AV × Option (Ap × Nat))

def BE {α : Type} (D : List Nat) (f : Nat → Option α) : Nat → Option α := fun i => if i ∈ D then f i else none
def Dm {α : Type} (D : List Nat) (n : Nat) (f g : Nat → Option α) : Nat → Option α := fun i => if i ∈ D ∨ n ≤ i then g i else f i
def Bj {α : Type} (B : List Nat) (f : Nat → Option α) : Nat → Option α := fun i => if i ∈ B then none else f i

def Fv (H : Ap) (S : Lays) (b : Nat) : Prop := ∃ i l, (H i).isSome = true ∧ S i = some l ∧ l.has b

variable [AU] in
structure Left (H : Ap) (n : Nat) (w : World) (S : Lays) (H' : Ap) (n' : Nat) (w' : World) (S' : Lays) : Prop where
 heap : Ag w (Fv H S) H' n' w' S'
 ext : BS w S n w' S' n'
 far : ∀ id, id < n → H id = none → S' id = S id
 new : ∀ id, n ≤ id → H' id = none → S' id = none

def A5 (P : Program) (f : FuncId) (sp : Spec) : Prop :=
 ∀ (args : List AV) (H : Ap) (n : Nat) (p : Prop) (r : AV) (o : Option (Ap × Nat)), sp.run args H n = some (p, r, o) → p →
  ∀ [AU] (w : World) (S : Lays) (vs : List Value), Ag w (Fv H S) H n w S → vs.length = args.length → (∀ (i : Nat) (c : AV) (u : Value), args[i]? = some c → vs[i]? = some u → R w S n c u) →
   Calls P f vs.toArray w fun e w' => ∃ v S', e = .returned v ∧ Left H n w S (o.getD (H, n)).1 (o.getD (H, n)).2 w' S' ∧ (o = none → S' = S ∧ ∀ b, b < w.heap.size → w'.heap[b]? = w.heap[b]?) ∧ R w' S' (o.getD (H, n)).2 r v

def IU (P : Program) (f : FuncId) : Bool :=
 match P.funcs[f]? with
 | some fn => fn.name != "runtime.NumGoroutine" && fn.body.isSome
 | none => false

theorem Ew {P : Program} {f : FuncId} (h : IU P f = true) (args : Array Value) (w : World) : (callFunc f args).run P w = .ok (.enter f args) w := by
 unfold IU at h
 split at h
 ·rename_i fn hf
  simp only [Bool.and_eq_true, bne_iff_ne, ne_eq] at h
  have hb : fn.body ≠ none := by intro e; rw [e] at h; simp at h
  simp [callFunc, hf, h.1, hb]
 ·cases h

structure Bo (P : Program) where
 X : K5 P
 N : Nat
 ρ : Option Nat
 Γ : FuncId → Option Spec
 ok : ∀ f sp, Γ f = some sp → A5 P f sp
 ent : ∀ f sp, Γ f = some sp → IU P f = true

variable [AU]
/-! ### arguments -/
def Ei (H : Ap) (D : List Nat) : AV → Option (Prop × AV × List Nat)
 | .d x => some (True, .d (AR x), [])
 | .sl id off len => if id ∈ D then some (True, .sl id off len, []) else match H id with
  | some (.vec _ _ xs) => some (off + len ≤ xs.length, .d (.sl ((xs.drop off).take len)), [id])
  | _ => none
 | .ptr id e f => if id ∈ D then some (True, .ptr id e f, []) else match H id with
  | some (.one _ cells) => match Cg cells with
   | some ds => some (e = 0 ∧ f = 0, .d (.ptr ds), [id])
   | none => none
  | _ => none
 | .ip sz xs e f => some (True, .ip sz xs e f, [])
 | .mp id => if id ∈ D then some (True, .mp id, []) else none
 | _ => none

def EA (H : Ap) (D : List Nat) : List AV → Option (Prop × List AV × List Nat)
 | [] => some (True, [], [])
 | c :: cs => match Ei H D c with
  | some (p, c', B) => match EA H D cs with
   | some (q, cs', B') => some (p ∧ q, c' :: cs', B ++ B')
   | none => none
  | none => none

def EV (H : Ap) (D : List Nat) : AV → Option (Prop × AV × List Nat)
 | .agg cs => match EA H D cs with
  | some (p, cs', B) => some (p, .agg cs', B)
  | none => none
 | .clo fn cs => match EA H D cs with
  | some (p, cs', B) => some (p, .clo fn cs', B)
  | none => none
 | .d x => Ei H D (.d x)
 | .sl id off len => Ei H D (.sl id off len)
 | .ptr id e f => Ei H D (.ptr id e f)
 | .ip sz xs e f => Ei H D (.ip sz xs e f)
 | .mp id => Ei H D (.mp id)
 | _ => none

def CQ (H : Ap) (D : List Nat) : List AV → Option (Prop × List AV × List Nat)
 | [] => some (True, [], [])
 | c :: cs => match EV H D c with
  | some (p, c', B) => match CQ H D cs with
   | some (q, cs', B') => some (p ∧ q, c' :: cs', B ++ B')
   | none => none
  | none => none

/-! ### results that hold no memory -/
def Xz : D → Bool
 | .bool _ | .int _ _ | .str _ | .nils | .nilp | .ifc _ => true
 | _ => false
def Q9 : AV → Bool
 | .d x => Xz x
 | .any => true
 | _ => false
def Rf : AV → Bool
 | .agg cs => cs.all Q9
 | .d x => Xz x
 | .any => true
 | _ => false
def QA : AV → Bool
 | .tup vs => vs.all Rf
 | .agg cs => cs.all Q9
 | .d x => Xz x
 | .any => true
 | _ => false

section
variable {P : Program} {X : K5 P} {w w' : World} {S : Lays} {n : Nat} {W0 : World} {M0 : Nat → Prop} {H : Ap}

theorem H6 (B : List Nat) : BS w S n w (Bj B S) n := by
 refine ⟨Nat.le_refl _, Nat.le_refl _, fun i _ => ?_, fun c _ hO => ?_, fun _ _ _ => rfl⟩
 ·unfold Bj; split
  ·exact .inr rfl
  ·exact .inl rfl
 ·rintro (hf | ⟨i, l, h1, h2⟩)
  ·exact hO (.inl hf)
  unfold Bj at h1
  split at h1
  ·cases h1
  ·exact hO (.inr ⟨i, l, h1, h2⟩)

theorem BH {B : List Nat} {i : Nat} {l : Lay} (h : Bj B S i = some l) : i ∉ B ∧ S i = some l := by
 unfold Bj at h
 split at h
 ·cases h
 ·exact ⟨by assumption, h⟩

theorem Gt (hH : Ag W0 M0 H n w S) {id : Nat} {l : Lay} {b : Nat} {B : List Nat} (hS : S id = some l) (hb : l.blk = some b) (hB : id ∈ B) : ¬ own (Bj B S) b := by
 rintro (hf | ⟨i, l', h1, h2⟩)
 ·exact (hH.far b (AU.sub b hf)).2 id l hS (.inl hb)
 obtain ⟨h3, h4⟩ := BH h1
 exact h3 (by rw [hH.inj2 i id l' l b h4 hS h2 (.inl hb)]; exact hB)

theorem MC (hH : Ag W0 M0 H n w S) {D B0 : List Nat} {c c' : AV} {p : Prop} {B : List Nat} (h : Ei H D c = some (p, c', B)) (hp : p) (hB : ∀ i ∈ B, i ∈ B0) {v : Value} (hv : R w S n c v) : R w (Bj B0 S) n c' v := by
 have hE : BS w S n w (Bj B0 S) n := H6 B0
 unfold Ei at h
 split at h
 ·simp only [Option.some.injEq, Prod.mk.injEq] at h
  obtain ⟨_, rfl, _⟩ := h
  cases hv with | d hx => exact .d (hE.rd hx).clean
 ·rename_i id off len
  split at h
  ·simp only [Option.some.injEq, Prod.mk.injEq] at h
   obtain ⟨_, rfl, _⟩ := h
   exact hE.r hv
  ·split at h
   ·rename_i ty sz xs hb
    simp only [Option.some.injEq, Prod.mk.injEq] at h
    obtain ⟨rfl, rfl, rfl⟩ := h
    obtain ⟨l, o, hS, ⟨hsz, _, _, hz, hnil, hbk⟩, rfl, hcap, ho, h0⟩ := hv.sl_live hH hb
    have hlen : ((xs.drop off).take len).length = len := by rw [List.length_take, List.length_drop]; omega
    by_cases hl0 : len = 0
    ·subst hl0; rw [List.take_zero]; exact .d (.sl0 _ _)
    ·cases hk : l.blk with
     | none => have := hnil hk; omega
     | some b =>
      obtain ⟨cur, hcur, hsize, hcell⟩ := hbk b hk
      have hpt : ∀ e f c, CL ((xs.drop off).take len) e f = some c → ∃ u, w.cell? ⟨b, o + e * sz + f, none⟩ = some u ∧ RD w (own (Bj B0 S)) c u := fun e f c hh => by
       obtain ⟨u, hu', hr⟩ := hcell _ _ _ (Cc hh)
       refine ⟨u, ?_, hE.rd hr⟩
       rw [cell_of_row w b _ cur _ (0, 0) hcur, ho (by omega), hsz, show off * sz + e * sz + f = (off + e) * sz + f by rw [Nat.add_mul]]
       exact hu'
      have := RD.sl (w := w) (O := own (Bj B0 S)) ((xs.drop off).take len) sz b o (l.cap - off) (fun e f => (w.cell? ⟨b, o + e * sz + f, none⟩).getD undef) (by omega) (Array.getElem?_eq_some_iff.1 hcur).1 (Gt hH hS hk (hB id (by simp)))
       (fun x hx => hz x (List.mem_of_mem_drop (List.mem_of_mem_take hx))) (fun e f c hh => by obtain ⟨u, hu, _⟩ := hpt e f c hh; rw [hu]; rfl) (fun e f c hh => by obtain ⟨u, hu, hr⟩ := hpt e f c hh; rw [hu]; exact hr)
      rw [hlen] at this
      exact .d this
   ·cases h
 ·rename_i id e f
  split at h
  ·simp only [Option.some.injEq, Prod.mk.injEq] at h
   obtain ⟨_, rfl, _⟩ := h
   exact hE.r hv
  ·split at h
   ·rename_i ty cells hb
    split at h
    ·rename_i ds hds
     simp only [Option.some.injEq, Prod.mk.injEq] at h
     obtain ⟨rfl, rfl, rfl⟩ := h
     obtain ⟨rfl, rfl⟩ := hp
     obtain ⟨l, k, hS, ⟨hsz, hcap, k', hk', cur, hcur, hsize, hcell⟩, hk, rfl⟩ := hv.ptr_live hH hb
     rw [hk] at hk'; cases hk'
     obtain ⟨hdl, hdd⟩ := Jj hds
     have hpt : ∀ f c, ds[f]? = some c → ∃ u, w.cell? ⟨k, 0 + f, none⟩ = some u ∧ RD w (own (Bj B0 S)) c u := fun f c hf => by
      have hlt : f < cells.length := by have := (List.getElem?_eq_some_iff.1 hf).1; omega
      obtain ⟨d, x, h1, h2, h3⟩ := hdd f _ (List.getElem?_eq_getElem hlt)
      rw [hf] at h1; cases h1
      obtain ⟨u, hu', _, hr⟩ := hcell f _ (List.getElem?_eq_getElem hlt)
      rw [h2] at hr
      cases hr with | d hr =>
      refine ⟨u, ?_, h3 ▸ (hE.rd hr).clean⟩
      rw [cell_of_row w k _ cur _ (0, 0) hcur, Nat.zero_add]; exact hu'
     rw [Nat.zero_mul, Nat.zero_add]
     exact .d (.ptr ds k 0 (fun f => (w.cell? ⟨k, 0 + f, none⟩).getD undef) (Array.getElem?_eq_some_iff.1 hcur).1 (Gt hH hS hk (hB id (by simp)))
      (fun f c hh => by obtain ⟨u, hu, _⟩ := hpt f c hh; rw [hu]; rfl) (fun f c hh => by obtain ⟨u, hu, hr⟩ := hpt f c hh; rw [hu]; exact hr))
    ·cases h
   ·cases h
 ·simp only [Option.some.injEq, Prod.mk.injEq] at h
  obtain ⟨_, rfl, _⟩ := h
  exact hE.r hv
 ·split at h
  ·simp only [Option.some.injEq, Prod.mk.injEq] at h
   obtain ⟨_, rfl, _⟩ := h
   exact hE.r hv
  ·cases h
 ·cases h

theorem ME (hH : Ag W0 M0 H n w S) {D B0 : List Nat} : ∀ {cs cs' : List AV} {p : Prop} {B : List Nat}, EA H D cs = some (p, cs', B) → p → (∀ i ∈ B, i ∈ B0) →
  cs'.length = cs.length ∧ ∀ (us : List Value), us.length = cs.length → (∀ (i : Nat) (c : AV) (u : Value), cs[i]? = some c → us[i]? = some u → R w S n c u) → ∀ (i : Nat) (c : AV) (u : Value), cs'[i]? = some c → us[i]? = some u → R w (Bj B0 S) n c u := by
 intro cs
 induction cs with
 | nil =>
  intro cs' p B h hp hB
  simp only [EA, Option.some.injEq, Prod.mk.injEq] at h
  obtain ⟨_, rfl, _⟩ := h
  exact ⟨rfl, fun us hl hu i c u hc => by simp at hc⟩
 | cons c cs ih =>
  intro cs' p B h hp hB
  unfold EA at h
  split at h
  ·rename_i q c' B1 h1
   split at h
   ·rename_i q2 cs2 B2 h2
    simp only [Option.some.injEq, Prod.mk.injEq] at h
    obtain ⟨rfl, rfl, rfl⟩ := h
    obtain ⟨hl, hr⟩ := ih h2 hp.2 (fun i hi => hB i (List.mem_append.2 (.inr hi)))
    refine ⟨by simp [hl], fun us hus hu i d u hd hui => ?_⟩
    cases us with
    | nil => simp at hui
    | cons u0 us =>
     cases i with
     | zero =>
      simp at hd hui
      subst hd hui
      exact MC hH h1 hp.1 (fun i hi => hB i (List.mem_append.2 (.inl hi))) (hu 0 c u0 rfl rfl)
     | succ i => exact hr us (by simpa using hus) (fun j d' u' hd' hu' => hu (j + 1) d' u' (by simpa using hd') (by simpa using hu')) i d u (by simpa using hd) (by simpa using hui)
   ·cases h
  ·cases h

theorem Ti (hH : Ag W0 M0 H n w S) {D B0 : List Nat} {c c' : AV} {p : Prop} {B : List Nat} (h : EV H D c = some (p, c', B)) (hp : p) (hB : ∀ i ∈ B, i ∈ B0) {v : Value} (hv : R w S n c v) : R w (Bj B0 S) n c' v := by
 unfold EV at h
 split at h
 ·split at h
  ·rename_i q cs' B1 h1
   simp only [Option.some.injEq, Prod.mk.injEq] at h
   obtain ⟨rfl, rfl, rfl⟩ := h
   cases hv with | agg _ us hl h1' hr =>
   obtain ⟨hl', hr'⟩ := ME hH h1 hp hB
   exact .agg _ us (by omega) h1' (hr' us hl hr)
  ·cases h
 ·split at h
  ·rename_i q cs' B1 h1
   simp only [Option.some.injEq, Prod.mk.injEq] at h
   obtain ⟨rfl, rfl, rfl⟩ := h
   cases hv with | clo fn _ us hl hr =>
   obtain ⟨hl', hr'⟩ := ME hH h1 hp hB
   exact .clo _ _ us (by omega) (hr' us hl hr)
  ·cases h
 all_goals first
  | exact MC hH h hp hB hv
  | cases h

theorem MD (hH : Ag W0 M0 H n w S) {D B0 : List Nat} : ∀ {cs cs' : List AV} {p : Prop} {B : List Nat}, CQ H D cs = some (p, cs', B) → p → (∀ i ∈ B, i ∈ B0) →
  cs'.length = cs.length ∧ ∀ (us : List Value), us.length = cs.length → (∀ (i : Nat) (c : AV) (u : Value), cs[i]? = some c → us[i]? = some u → R w S n c u) → ∀ (i : Nat) (c : AV) (u : Value), cs'[i]? = some c → us[i]? = some u → R w (Bj B0 S) n c u := by
 intro cs
 induction cs with
 | nil =>
  intro cs' p B h hp hB
  simp only [CQ, Option.some.injEq, Prod.mk.injEq] at h
  obtain ⟨_, rfl, _⟩ := h
  exact ⟨rfl, fun us hl hu i c u hc => by simp at hc⟩
 | cons c cs ih =>
  intro cs' p B h hp hB
  unfold CQ at h
  split at h
  ·rename_i q c' B1 h1
   split at h
   ·rename_i q2 cs2 B2 h2
    simp only [Option.some.injEq, Prod.mk.injEq] at h
    obtain ⟨rfl, rfl, rfl⟩ := h
    obtain ⟨hl, hr⟩ := ih h2 hp.2 (fun i hi => hB i (List.mem_append.2 (.inr hi)))
    refine ⟨by simp [hl], fun us hus hu i d u hd hui => ?_⟩
    cases us with
    | nil => simp at hui
    | cons u0 us =>
     cases i with
     | zero =>
      simp at hd hui
      subst hd hui
      exact Ti hH h1 hp.1 (fun i hi => hB i (List.mem_append.2 (.inl hi))) (hu 0 c u0 rfl rfl)
     | succ i => exact hr us (by simpa using hus) (fun j d' u' hd' hu' => hu (j + 1) d' u' (by simpa using hd') (by simpa using hu')) i d u (by simpa using hd) (by simpa using hui)
   ·cases h
  ·cases h

theorem Lt {D : List Nat} : ∀ {cs cs' : List AV} {p : Prop} {B : List Nat}, CQ H D cs = some (p, cs', B) → ∀ i ∈ B, i ∉ D ∧ (H i).isSome = true := by
 have one : ∀ {c c' : AV} {p : Prop} {B : List Nat}, Ei H D c = some (p, c', B) → ∀ i ∈ B, i ∉ D ∧ (H i).isSome = true := by
  intro c c' p B h
  unfold Ei at h
  split at h
  ·simp only [Option.some.injEq, Prod.mk.injEq] at h
   obtain ⟨_, _, rfl⟩ := h; intro i hi; cases hi
  ·split at h
   ·simp only [Option.some.injEq, Prod.mk.injEq] at h
    obtain ⟨_, _, rfl⟩ := h; intro i hi; cases hi
   ·rename_i hd
    split at h
    ·rename_i hb
     simp only [Option.some.injEq, Prod.mk.injEq] at h
     obtain ⟨_, _, rfl⟩ := h
     intro i hi
     simp at hi; subst hi
     exact ⟨hd, by rw [hb]; rfl⟩
    ·cases h
  ·split at h
   ·simp only [Option.some.injEq, Prod.mk.injEq] at h
    obtain ⟨_, _, rfl⟩ := h; intro i hi; cases hi
   ·rename_i hd
    split at h
    ·rename_i hb
     split at h
     ·simp only [Option.some.injEq, Prod.mk.injEq] at h
      obtain ⟨_, _, rfl⟩ := h
      intro i hi
      simp at hi; subst hi
      exact ⟨hd, by rw [hb]; rfl⟩
     ·cases h
    ·cases h
  ·simp only [Option.some.injEq, Prod.mk.injEq] at h
   obtain ⟨_, _, rfl⟩ := h; intro i hi; cases hi
  ·split at h
   ·simp only [Option.some.injEq, Prod.mk.injEq] at h
    obtain ⟨_, _, rfl⟩ := h; intro i hi; cases hi
   ·cases h
  ·cases h
 have many : ∀ {cs cs' : List AV} {p : Prop} {B : List Nat}, EA H D cs = some (p, cs', B) → ∀ i ∈ B, i ∉ D ∧ (H i).isSome = true := by
  intro cs
  induction cs with
  | nil =>
   intro cs' p B h
   simp only [EA, Option.some.injEq, Prod.mk.injEq] at h
   obtain ⟨_, _, rfl⟩ := h; intro i hi; cases hi
  | cons c cs ih =>
   intro cs' p B h
   unfold EA at h
   split at h
   ·rename_i h1
    split at h
    ·rename_i h2
     simp only [Option.some.injEq, Prod.mk.injEq] at h
     obtain ⟨_, _, rfl⟩ := h
     intro i hi
     rcases List.mem_append.1 hi with hi | hi
     ·exact one h1 i hi
     ·exact ih h2 i hi
    ·cases h
   ·cases h
 have any : ∀ {c c' : AV} {p : Prop} {B : List Nat}, EV H D c = some (p, c', B) → ∀ i ∈ B, i ∉ D ∧ (H i).isSome = true := by
  intro c c' p B h
  unfold EV at h
  split at h
  ·split at h
   ·rename_i h1
    simp only [Option.some.injEq, Prod.mk.injEq] at h
    obtain ⟨_, _, rfl⟩ := h
    exact many h1
   ·cases h
  ·split at h
   ·rename_i h1
    simp only [Option.some.injEq, Prod.mk.injEq] at h
    obtain ⟨_, _, rfl⟩ := h
    exact many h1
   ·cases h
  all_goals first
   | exact one h
   | cases h
 intro cs
 induction cs with
 | nil =>
  intro cs' p B h
  simp only [CQ, Option.some.injEq, Prod.mk.injEq] at h
  obtain ⟨_, _, rfl⟩ := h; intro i hi; cases hi
 | cons c cs ih =>
  intro cs' p B h
  unfold CQ at h
  split at h
  ·rename_i h1
   split at h
   ·rename_i h2
    simp only [Option.some.injEq, Prod.mk.injEq] at h
    obtain ⟨_, _, rfl⟩ := h
    intro i hi
    rcases List.mem_append.1 hi with hi | hi
    ·exact any h1 i hi
    ·exact ih h2 i hi
   ·cases h
  ·cases h

theorem Lw {O O' : Nat → Prop} {x : D} {v : Value} (hs : Xz x = true) (h : RD w O x v) : RD w O' x v := by
 cases h <;> simp [Xz] at hs
 ·exact .bool _
 ·exact .int _ _
 ·exact .str _
 ·exact .nils
 ·exact .nilp
 ·exact .ifc0
 ·exact .ifc1 _ _

theorem Pi {S' : Lays} {n' : Nat} {c : AV} {v : Value} (hs : Q9 c = true) (h : R w S n c v) : R w S' n' c v := by
 cases h <;> simp [Q9] at hs
 ·exact .any _
 ·rename_i h; exact .d (Lw hs h)
theorem UV {S' : Lays} {n' : Nat} {c : AV} {v : Value} (hs : Rf c = true) (h : R w S n c v) : R w S' n' c v := by
 cases h <;> simp [Rf] at hs
 ·exact .any _
 ·rename_i h; exact .d (Lw hs h)
 ·rename_i cs us hl h1 hr
  exact .agg cs us hl h1 (fun i c u hc hu => Pi (hs c (List.mem_of_getElem? hc)) (hr i c u hc hu))
theorem UW {S' : Lays} {n' : Nat} {c : AV} {v : Value} (hs : QA c = true) (h : R w S n c v) : R w S' n' c v := by
 cases h <;> simp [QA] at hs
 ·exact .any _
 ·rename_i h; exact .d (Lw hs h)
 ·rename_i cs us hl h1 hr
  exact .agg cs us hl h1 (fun i c u hc hu => Pi (hs c (List.mem_of_getElem? hc)) (hr i c u hc hu))
 ·rename_i cs us hl hr
  exact .tup cs us hl (fun i c u hc hu => UV (hs c (List.mem_of_getElem? hc)) (hr i c u hc hu))

theorem Ag.enter (hH : Ag W0 M0 H n w S) (D B : List Nat) (hDB : ∀ i ∈ B, i ∉ D) : Ag w (Fv (BE D H) (Bj B S)) (BE D H) n w (Bj B S) := by
 have hE : BS w S n w (Bj B S) n := H6 B
 constructor
 ·intro id hid
  unfold Bj; split
  ·rfl
  ·exact hH.bnd id hid
 ·intro i l b h hb
  exact hH.lt2 i l b (BH h).2 hb
 ·intro id b hb
  unfold BE at hb
  split at hb
  ·rename_i hid
   obtain ⟨l, hl, hB⟩ := hH.box id b hb
   exact ⟨l, by unfold Bj; rw [if_neg (fun h => hDB id h hid)]; exact hl, hB.ext hE (fun _ _ => rfl)⟩
  ·cases hb
 ·intro i j l l' b hi hj h1 h2
  exact hH.inj2 i j l l' b (BH hi).2 (BH hj).2 h1 h2
 ·exact fun i l h => hH.nod i l (BH h).2
 ·intro i l b hb hi hp
  unfold BE at hb
  split at hb
  ·exact hH.plain i l b hb (BH hi).2 hp
  ·cases hb
 ·intro i l b hl hi hb
  exact .inr ⟨i, l, hl, hi, hb⟩
 ·rfl
 ·rfl
 ·rfl
 ·exact Nat.le_refl _
 ·intro b _ _; rfl
 ·intro b hf
  obtain ⟨h1, h2⟩ := hH.far b hf
  exact ⟨by have := hH.size; omega, fun i l hi => h2 i l (BH hi).2⟩
 ·intro i hp
  obtain ⟨h1, h2⟩ := hH.pin i hp
  refine ⟨h1, ?_⟩
  unfold Bj
  split
  ·exact .inr rfl
  ·exact h2
 ·exact hH.glx hE

theorem Ag.back (hH : Ag W0 M0 H n w S) {D B : List Nat} (hDB : ∀ i ∈ B, i ∉ D) {H' : Ap} {n' : Nat} {S' : Lays} (hL : Left (BE D H) n w (Bj B S) H' n' w' S') :
  Ag W0 M0 (Bj B (Dm D n H H')) n' w' S' ∧ BS w S n w' S' n' := by
 have hE0 : BS w S n w (Bj B S) n := H6 B
 have hE : BS w S n w' S' n' := hE0.trans hL.ext
 have notlive : ∀ {id l b}, S id = some l → l.has b → id ∉ D → ¬ Fv (BE D H) (Bj B S) b := by
  rintro id l b hS hb hD ⟨i, l', h1, h2, h3⟩
  have h4 := (BH h2).2
  have : i = id := hH.inj2 i id l' l b h4 hS h3 hb
  subst this
  unfold BE at h1
  rw [if_neg hD] at h1; cases h1
 have old : ∀ b, Fv (BE D H) (Bj B S) b → W0.heap.size ≤ b ∨ M0 b := by
  rintro b ⟨i, l, h1, h2, h3⟩
  refine hH.mut2 i l b ?_ (BH h2).2 h3
  unfold BE at h1
  split at h1
  ·exact h1
  ·cases h1
 refine ⟨?_, hE⟩
 constructor
 ·exact hL.heap.bnd
 ·exact hL.heap.lt2
 ·intro id b hb
  unfold Bj at hb
  split at hb
  ·cases hb
  ·rename_i hB
   unfold Dm at hb
   split at hb
   ·exact hL.heap.box id b hb
   ·rename_i hc
    obtain ⟨l, hl, hbox⟩ := hH.box id b hb
    have hidn : id < n := by omega
    have hD : id ∉ D := fun h => hc (.inl h)
    have hS' : S' id = some l := by
     rw [hL.far id hidn (by unfold BE; rw [if_neg hD])]
     unfold Bj; rw [if_neg hB]; exact hl
    exact ⟨l, hS', hbox.ext hE (fun k hk => hL.heap.same k (hH.lt2 id l k hl hk) (notlive hl hk hD))⟩
 ·exact hL.heap.inj2
 ·exact hL.heap.nod
 ·intro i l b hb hS hp
  unfold Bj at hb
  split at hb
  ·cases hb
  ·unfold Dm at hb
   split at hb
   ·exact hL.heap.plain i l b hb hS hp
   ·rename_i hc
    have hidn : i < n := by omega
    have hD : i ∉ D := fun h => hc (.inl h)
    rw [hL.far i hidn (by unfold BE; rw [if_neg hD])] at hS
    exact hH.plain i l b hb (BH hS).2 hp
 ·intro i l b hlive hS hb
  unfold Bj at hlive
  split at hlive
  ·cases hlive
  ·rename_i hB
   unfold Dm at hlive
   split at hlive
   ·rcases hL.heap.mut2 i l b hlive hS hb with h | h
    ·left; have := hH.size; omega
    ·exact old b h
   ·rename_i hc
    have hidn : i < n := by omega
    have hD : i ∉ D := fun h => hc (.inl h)
    rw [hL.far i hidn (by unfold BE; rw [if_neg hD])] at hS
    exact hH.mut2 i l b hlive (BH hS).2 hb
 ·exact hL.heap.os.trans hH.os
 ·exact hL.heap.tape.trans hH.tape
 ·exact hL.heap.output.trans hH.output
 ·have := hH.size; have := hL.heap.size; omega
 ·intro b hb hM
  rw [hL.heap.same b (by have := hH.size; omega) (fun h => ?_)]
  ·exact hH.same b hb hM
  ·rcases old b h with h | h
   ·omega
   ·exact hM h
 ·intro b hf
  exact ⟨(hH.far b hf).1, (hL.heap.far b hf).2⟩
 ·exact hL.heap.pin
 ·exact hL.heap.gl

theorem Ag.back_same (hH : Ag W0 M0 H n w S) {D B : List Nat} (hDB : ∀ i ∈ B, i ∉ D) (hL : Left (BE D H) n w (Bj B S) (BE D H) n w' (Bj B S)) (hBl : ∀ i ∈ B, (H i).isSome = true) (hq : ∀ b, b < w.heap.size → w'.heap[b]? = w.heap[b]?) :
  Ag W0 M0 H n w' S ∧ BS w S n w' S n := by
 have notlive : ∀ {id l b}, S id = some l → l.has b → id ∉ D → ¬ Fv (BE D H) (Bj B S) b := by
  rintro id l b hS hb hD ⟨i, l', h1, h2, h3⟩
  have h4 := (BH h2).2
  have : i = id := hH.inj2 i id l' l b h4 hS h3 hb
  subst this
  unfold BE at h1
  rw [if_neg hD] at h1; cases h1
 have old : ∀ b, Fv (BE D H) (Bj B S) b → W0.heap.size ≤ b ∨ M0 b := by
  rintro b ⟨i, l, h1, h2, h3⟩
  refine hH.mut2 i l b ?_ (BH h2).2 h3
  unfold BE at h1
  split at h1
  ·exact h1
  ·cases h1
 have hE : BS w S n w' S n := ⟨Nat.le_refl _, hL.ext.size, fun _ _ => .inl rfl, fun _ _ h => h, fun b hb hO => hL.ext.same b hb (fun h => hO (by
  rcases h with hf | ⟨i, l, h1, h2⟩
  ·exact .inl hf
  ·exact .inr ⟨i, l, (BH h1).2, h2⟩))⟩
 refine ⟨?_, hE⟩
 constructor
 ·exact hH.bnd
 ·intro i l b h hb
  have := hH.lt2 i l b h hb
  have := hL.ext.size
  omega
 ·intro id b hb
  obtain ⟨l, hl, hbox⟩ := hH.box id b hb
  exact ⟨l, hl, hbox.ext hE (fun k hk => hq k (hH.lt2 id l k hl hk))⟩
 ·exact hH.inj2
 ·exact hH.nod
 ·exact hH.plain
 ·exact hH.mut2
 ·exact hL.heap.os.trans hH.os
 ·exact hL.heap.tape.trans hH.tape
 ·exact hL.heap.output.trans hH.output
 ·have := hH.size; have := hL.heap.size; omega
 ·intro b hb hM
  rw [hL.heap.same b (by have := hH.size; omega) (fun h => ?_)]
  ·exact hH.same b hb hM
  ·rcases old b h with h | h
   ·omega
   ·exact hM h
 ·exact hH.far
 ·exact hH.pin
 ·exact hH.glx hE
end
end Go.Vc
/- The Vc layer: one operation. -/
set_option linter.all false
namespace Go.Vc
open Go Go.RowKit
variable [AU]

inductive RS where
 | v (p : Prop) (c : AV)
 | h (p : Prop) (c : AV) (H : Ap) (n : Nat)
 | bad

def RS.ofV : RV → RS
 | some (p, c) => .v p c
 | none => .bad
def RS.ofH : RH → RS
 | some (p, c, H, n) => .h p c H n
 | none => .bad

def CM (sp : Spec) (H : Ap) (n : Nat) (args : List AV) : RS :=
 match CQ H (sp.dom args H) args with
 | some (q, args', B) => match sp.run args' (BE (sp.dom args H) H) n with
  | some (p, r, none) => if QA r then .v (q ∧ p) r else .h (q ∧ p) r (Bj B H) n
  | some (p, r, some (H', n')) => .h (q ∧ p) r (Bj B (Dm (sp.dom args H) n H H')) n'
  | none => .bad
 | none => .bad

def Pq : Op → Bool
 | .move _ | .assign _ | .nilCheck _ | .binOp .. | .unOp .. | .convert .. | .slice _ _ _ _ none | .fieldAddr .. | .field .. | .indexAddr .. | .index .. | .load .. | .extract .. | .build .. => true
 | .makeFunc .. => true
 | .call ⟨.builtin .len, _, _⟩ | .call ⟨.builtin .max, _, _⟩ | .call ⟨.builtin .min, _, _⟩ => true
 | _ => false

section
variable {P : Program}

def BZ (E : Bo P) (fr : Nat → AV) (H : Ap) (n : Nat) (o : Op) : RS :=
 match o with
 | .alloc e => .ofH (Hr E.X.ty H n e)
 | .box e x => .ofH (Pz H n e (A4 (AL fr x)))
 | .buildSlice t len parts => .ofH (Dk E.X.ty H n t len (parts.toList.map fun p => (p.1, A4 (AL fr p.2))))
 | .makeSlice t l c => .ofH (JL E.X.ty H n t (A4 (AL fr l)) (A4 (AL fr c)))
 | .store t a x => match F4 E.X.ty H t (A4 (AL fr a)) (A4 (AL fr x)) with
  | some (p, H') => .h p .any H' n
  | none => .bad
 | .pick c a b => .ofV (DQ (AL fr c) (AL fr a) (AL fr b))
 | .call ⟨.builtin .append, ⟨[s, x]⟩, ⟨[t, t']⟩⟩ => if t' = t then .ofH (DK E.X.ty H n t (A4 (AL fr s)) (A4 (AL fr x))) else .bad
 | .call ⟨.value f, args, _⟩ => match A4 (AL fr f) with
  | .clo (.func f) cap => match E.Γ f with
   | some sp => CM sp H n ((args.toList.map fun x => A4 (AL fr x)) ++ cap)
   | none => .bad
  | _ => .bad
 | o => .ofV (Gl E.X.ty H fr o)

def Co (fr : Nat → AV) (o : Op) : Prop :=
 match o with
 | .pick .. => True
 | o => nd fr o.operands.toList

def Ma (ρ : Option Nat) : Fence := { Fence.wide with round := ρ }

theorem FY {ρ : Option Nat} {f : FuncId} {args : Array Value} {w : World} {R : Ending → World → Prop} (h : Calls P f args w R) : CallsIn (Ma ρ) 0 P f args w R := by
 cases ρ with
 | none => exact callsIn_wide.2 h
 | some l => exact CallsIn.inRound l (callsIn_wide.2 h)

theorem Ff {ρ : Option Nat} {o : Oper} {a : Act} {w : World} {K : Act → World → Prop} {Q : Exit → Act → World → Prop} (hd : ∀ c, o.op ≠ .defer c) (h : o.uponIn (Ma ρ) 0 P a K Q ((execOp a.eval o).run P w)) : o.wpIn (Ma ρ) 0 P a w K Q := by
 refine ⟨fun _ _ => trivial, ?_⟩
 rw [Oper.semAt_eq _ _ _ hd]
 exact h

def LA (P : Program) (ρ : Option Nat) (W0 : World) (M0 : Nat → Prop) (o : Oper) (a : Act) (w : World) (S : Lays) (n : Nat) (c : AV) (H' : Ap) (n' : Nat) : Prop :=
 ∀ (Q : Exit → Act → World → Prop) (K : Act → World → Prop),
  (∀ v w' S', Ag W0 M0 H' n' w' S' → BS w S n w' S' n' → R w' S' n' c v → K (a.put o.dst v) w') → o.wpIn (Ma ρ) 0 P a w K Q

variable {E : Bo P} {w : World} {S : Lays} {n : Nat} {W0 : World} {M0 : Nat → Prop} {H : Ap} {fr : Nat → AV} {a : Act}

theorem M4 (hH : Ag W0 M0 H n w S) (D : List Nat) : Dm D n H (BE D H) = H := by
 funext i
 unfold Dm BE
 by_cases hD : i ∈ D
 ·simp [hD]
 ·simp only [hD, false_or, if_false]
  split
  ·rename_i hn
   cases hi : H i with
   | none => rfl
   | some b =>
    obtain ⟨l, hl, _⟩ := hH.box i b hi
    rw [hH.bnd i hn] at hl; cases hl
  ·rfl

def RS.heap (r : RS) (H : Ap) (n : Nat) : Option (Prop × AV × Ap × Nat) :=
 match r with
 | .v p c => some (p, c, H, n)
 | .h p c H' n' => some (p, c, H', n')
 | .bad => none

theorem R4 (hH : Ag W0 M0 H n w S) {f : FuncId} {sp : Spec} (hf : E.Γ f = some sp) {args : List AV} {p : Prop} {c : AV} {H' : Ap} {n' : Nat} (h : (CM sp H n args).heap H n = some (p, c, H', n')) (hp : p)
  {vs : List Value} (hl : vs.length = args.length) (hr : ∀ (i : Nat) (c : AV) (u : Value), args[i]? = some c → vs[i]? = some u → R w S n c u) :
  Calls P f vs.toArray w fun e w' => ∃ v S', e = .returned v ∧ Ag W0 M0 H' n' w' S' ∧ BS w S n w' S' n' ∧ R w' S' n' c v := by
 unfold CM at h
 split at h
 ·rename_i q args' B hra
  have hfar := Lt hra
  have hDB : ∀ i ∈ B, i ∉ sp.dom args H := fun i hi => (hfar i hi).1
  have hE0 := hH.enter (sp.dom args H) B hDB
  have go : ∀ {p' : Prop} {r : AV} {o : Option (Ap × Nat)}, sp.run args' (BE (sp.dom args H) H) n = some (p', r, o) → q → p' →
    Calls P f vs.toArray w fun e w' => ∃ v S', e = .returned v ∧ Left (BE (sp.dom args H) H) n w (Bj B S) (o.getD (BE (sp.dom args H) H, n)).1 (o.getD (BE (sp.dom args H) H, n)).2 w' S' ∧
     (o = none → S' = Bj B S ∧ ∀ b, b < w.heap.size → w'.heap[b]? = w.heap[b]?) ∧ R w' S' (o.getD (BE (sp.dom args H) H, n)).2 r v := by
   intro p' r o hrun hq hp'
   obtain ⟨hl', hr'⟩ := MD (B0 := B) hH hra hq (fun i hi => hi)
   exact E.ok f sp hf args' (BE (sp.dom args H) H) n p' r o hrun hp' w (Bj B S) vs hE0 (by omega) (hr' vs hl hr)
  split at h
  ·rename_i p' r hrun
   split at h
   ·rename_i hsc
    simp only [RS.heap, Option.some.injEq, Prod.mk.injEq] at h
    obtain ⟨rfl, rfl, rfl, rfl⟩ := h
    refine Calls.mono (go hrun hp.1 hp.2) ?_
    rintro e w' ⟨v, S', rfl, hL, hs, hR⟩
    obtain ⟨rfl, hq⟩ := hs rfl
    obtain ⟨h1, h2⟩ := hH.back_same hDB hL (fun i hi => (hfar i hi).2) hq
    exact ⟨v, S, rfl, h1, h2, UW hsc hR⟩
   ·simp only [RS.heap, Option.some.injEq, Prod.mk.injEq] at h
    obtain ⟨rfl, rfl, rfl, rfl⟩ := h
    refine Calls.mono (go hrun hp.1 hp.2) ?_
    rintro e w' ⟨v, S', rfl, hL, hs, hR⟩
    obtain ⟨h1, h2⟩ := hH.back hDB hL
    rw [show (Option.getD (none : Option (Ap × Nat)) (BE (sp.dom args H) H, n)).1 = BE (sp.dom args H) H from rfl, M4 hH] at h1
    exact ⟨v, S', rfl, h1, h2, hR⟩
  ·rename_i p' r H1 n1 hrun
   simp only [RS.heap, Option.some.injEq, Prod.mk.injEq] at h
   obtain ⟨rfl, rfl, rfl, rfl⟩ := h
   refine Calls.mono (go hrun hp.1 hp.2) ?_
   rintro e w' ⟨v, S', rfl, hL, hs, hR⟩
   obtain ⟨h1, h2⟩ := hH.back hDB hL
   exact ⟨v, S', rfl, h1, h2, hR⟩
  ·cases h
 ·cases h

theorem LA.value {ρ : Option Nat} {o : Oper} (hd : ∀ c, o.op ≠ .defer c) {c : AV} {H' : Ap} {n' : Nat} (h : ∃ r w' S', (execOp a.eval o).run P w = .ok (.value r) w' ∧ Ag W0 M0 H' n' w' S' ∧ BS w S n w' S' n' ∧ R w' S' n' c r) : LA P ρ W0 M0 o a w S n c H' n' := by
 obtain ⟨r, w', S', h1, h2, h3, h4⟩ := h
 intro Q K hK
 refine Ff hd ?_
 rw [h1]
 exact hK r w' S' h2 h3 h4

theorem VD (hH : Ag W0 M0 H n w S) (hF : ∀ i, R w S n (fr i) (a.tmps.getD i undef)) {o : Oper} {c : AV} {p : Prop} {H' : Ap} {n' : Nat} (h : (BZ E fr H n o.op).heap H n = some (p, c, H', n')) (hp : p) (hn : Co fr o.op) :
  LA P E.ρ W0 M0 o a w S n c H' n' := by
 have hnd : ∀ c, o.op ≠ .defer c := fun c e => by rw [e] at h; simp [BZ, Gl, RS.ofV, RS.heap] at h
 have ev : nd fr o.op.operands.toList → ∀ x ∈ o.op.operands.toList, R w S n (A4 (AL fr x)) (a.eval x) := fun hn x hx => (Eb hH.gl hF x).bare_of (GA hn x hx)
 have hval : (RS.ofV (Gl E.X.ty H fr o.op)).heap H n = some (p, c, H', n') → nd fr o.op.operands.toList → LA P E.ρ W0 M0 o a w S n c H' n' := by
  intro h hn
  cases hv : Gl E.X.ty H fr o.op with
  | none => rw [hv] at h; cases h
  | some pc =>
   obtain ⟨p', c'⟩ := pc
   rw [hv] at h
   simp only [RS.ofV, RS.heap, Option.some.injEq, Prod.mk.injEq] at h
   obtain ⟨rfl, rfl, rfl, rfl⟩ := h
   obtain ⟨r, h1, h2⟩ := Ue hH hF hv hp hn
   exact .value hnd ⟨r, w, S, h1, hH, BS.refl _ _ _, h2⟩
 have val : ∀ {s : Sem Value}, (execOp a.eval o = do pure (.value (← s))) → (∃ r w' S', s.run P w = .ok r w' ∧ Ag W0 M0 H' n' w' S' ∧ BS w S n w' S' n' ∧ R w' S' n' c r) → LA P E.ρ W0 M0 o a w S n c H' n' := by
  rintro s he ⟨r, w', S', hr, h1, h2, h3⟩
  exact .value hnd ⟨r, w', S', by rw [he]; simp only [Sem.run_bind, hr, Result.andThen_ok, Sem.run_pure], h1, h2, h3⟩
 have hof : ∀ {r : RH}, (RS.ofH r).heap H n = some (p, c, H', n') → r = some (p, c, H', n') := by
  intro r hr
  cases r with
  | none => cases hr
  | some x => obtain ⟨_, _, _, _⟩ := x; exact hr
 obtain ⟨dst, op, type, pos, after, guard⟩ := o
 simp only at h hn ev hval hnd
 unfold BZ at h
 split at h
 ·rename_i e
  exact val rfl (Py hH (hof h) hp)
 ·rename_i e x
  refine val rfl (TZ hH (hof h) (ev hn x (by simp [Op.operands])))
 ·rename_i t len parts
  refine val rfl (I9 hH (hof h) hp (by simp) (fun i k c hi => ?_))
  rw [List.getElem?_map] at hi
  cases hq : parts.toList[i]? with
  | none => rw [hq] at hi; cases hi
  | some q =>
   rw [hq] at hi
   simp only [Option.map_some, Option.some.injEq, Prod.mk.injEq] at hi
   obtain ⟨rfl, rfl⟩ := hi
   refine ⟨a.eval q.2, ?_, ev hn q.2 ?_⟩
   ·rw [Array.getElem?_toList] at hq
    simp [hq]
   ·simp only [Op.operands, List.toList_toArray, List.mem_map]
    exact ⟨q, List.mem_of_getElem? hq, rfl⟩
 ·rename_i t l c
  exact val rfl (Ro hH (hof h) hp (ev hn l (by simp [Op.operands])) (ev hn c (by simp [Op.operands])))
 ·rename_i t ad x
  split at h
  ·rename_i p' H1 hst
   simp only [RS.heap, Option.some.injEq, Prod.mk.injEq] at h
   obtain ⟨rfl, rfl, rfl, rfl⟩ := h
   obtain ⟨w', S', hrun, h1, h2⟩ := JP hH hst hp (ev hn ad (by simp [Op.operands])) (ev hn x (by simp [Op.operands]))
   intro Q K hK
   refine Ff hnd ?_
   have : (execOp a.eval ⟨dst, .store t ad x, type, pos, after, guard⟩).run P w = .ok .skip w' := by
    simp only [execOp, Sem.run_bind, hrun, Result.andThen_ok, Sem.run_pure]
   rw [this]
   exact hK undef w' S' h1 h2 (.any _)
  ·cases h
 ·rename_i x y z
  cases hv : DQ (AL fr x) (AL fr y) (AL fr z) with
  | none => rw [hv] at h; cases h
  | some pc =>
   obtain ⟨p', c'⟩ := pc
   rw [hv] at h
   simp only [RS.ofV, RS.heap, Option.some.injEq, Prod.mk.injEq] at h
   obtain ⟨rfl, rfl, rfl, rfl⟩ := h
   unfold DQ at hv
   split at hv
   ·rename_i b b1 b2 e1 e2 e3
    simp only [Option.some.injEq, Prod.mk.injEq] at hv
    obtain ⟨rfl, rfl⟩ := hv
    have r1 := (Eb hH.gl hF x).bare_of hp.1
    rw [e1, R.bool_iff] at r1
    cases b with
    | true =>
     have r2 := (Eb hH.gl hF y).bare_of (hp.2.1 rfl)
     rw [e2] at r2
     exact .value hnd ⟨a.eval y, w, S, by simp [execOp, asBool, r1], hH, BS.refl _ _ _, r2⟩
    | false =>
     have r2 := (Eb hH.gl hF z).bare_of (hp.2.2 rfl)
     rw [e3] at r2
     exact .value hnd ⟨a.eval z, w, S, by simp [execOp, asBool, r1], hH, BS.refl _ _ _, r2⟩
   ·rename_i x' e1 e2 _
    simp only [Option.some.injEq, Prod.mk.injEq] at hv
    obtain ⟨rfl, rfl⟩ := hv
    have r1 := (Eb hH.gl hF x).bare_of hp.1
    rw [e1, R.bool_iff] at r1
    have r2 := (Eb hH.gl hF y).bare_of hp.2
    rw [e2] at r2
    exact .value hnd ⟨a.eval y, w, S, by simp [execOp, asBool, r1], hH, BS.refl _ _ _, r2⟩
   ·rename_i y' e1 e2 _
    simp only [Option.some.injEq, Prod.mk.injEq] at hv
    obtain ⟨rfl, rfl⟩ := hv
    have r1 := (Eb hH.gl hF x).bare_of hp.1
    rw [e1, R.bool_iff] at r1
    have r2 := (Eb hH.gl hF z).bare_of hp.2
    rw [e2] at r2
    exact .value hnd ⟨a.eval z, w, S, by simp [execOp, asBool, r1], hH, BS.refl _ _ _, r2⟩
   ·cases hv
 ·rename_i s x t t'
  split at h
  ·rename_i ht; subst ht
   obtain ⟨r, w', S', hrun, h1⟩ := G2 (ty' := type) hH (hof h) hp (ev hn s (by simp [Op.operands, Call.operands])) (ev hn x (by simp [Op.operands, Call.operands]))
   refine .value hnd ⟨r, w', S', ?_, h1⟩
   simp only [execOp, resolve, invoke, builtin, Sem.run_bind, Sem.run_pure, Result.andThen_ok, List.map_toArray, List.map_cons, List.map_nil]
   rw [hrun]
   rfl
  ·cases h
 ·rename_i f args ts
  split at h
  ·rename_i g cap hcl
   split at h
   ·rename_i sp hsp
    have rf := ev hn f (by simp [Op.operands, Call.operands])
    rw [hcl] at rf
    generalize hvf : a.eval f = vf at rf
    cases rf with | clo _ _ us hul hur =>
    have hrun : (execOp a.eval ⟨dst, .call ⟨.value f, args, ts⟩, type, pos, after, guard⟩).run P w = .ok (.enter g ((args.toList.map a.eval) ++ us).toArray) w := by
     simp only [execOp, resolve, Sem.run_bind, hvf]
     simp [Deferred.ofValue, invoke, Ew (E.ent g sp hsp)]
    have hcall := R4 (E := E) hH hsp h hp (vs := (args.toList.map a.eval) ++ us) (by simp [hul]) (fun i c u hc hu => by
     by_cases hi : i < args.toList.length
     ·rw [List.getElem?_append_left (by simpa using hi), List.getElem?_map] at hc hu
      cases hq : args.toList[i]? with
      | none => rw [hq] at hc; cases hc
      | some q =>
       rw [hq] at hc hu; cases hc; cases hu
       refine ev hn q ?_
       simp only [Op.operands, Call.operands, Array.toList_append, List.mem_append]
       exact .inr (List.mem_of_getElem? hq)
     ·rw [List.getElem?_append_right (by simpa using hi)] at hc hu
      simp only [List.length_map] at hc hu
      exact hur _ c u hc hu)
    intro Q K hK
    refine Ff hnd ?_
    rw [hrun, Oper.uponIn_enter]
    refine ⟨fun h => (by cases h), FY (Calls.mono hcall ?_)⟩
    rintro e w' ⟨v, S', rfl, h1, h2, h3⟩
    exact hK v w' S' h1 h2 h3
   ·cases h
  ·cases h
 ·refine hval h ?_
  unfold Co at hn
  split at hn
  ·exfalso; simp_all
  ·exact hn
end
end Go.Vc
/- The Vc layer: regions, whatever order they come up in. -/
set_option linter.all false
namespace Go.Vc
open Go Go.RowKit
variable [AU]

def putD (dst : Option Tmp) (c : AV) (fr : Nat → AV) : Nat → AV :=
 match dst with
 | some d => Cf fr d c
 | none => fr

def HL (c : AV) (want : Bool) : Option Bool :=
 match c with
 | .d (.bool x) => some (if want then x else !x)
 | .cond g (.d (.bool x)) => some (g && (if want then x else !x))
 | .cond false _ => some false
 | _ => none

def AP (ops : Array Oper) (fr : Nat → AV) : Option (Nat × Bool) → Option (Option Bool)
 | none => some none
 | some (g, want) => match (ops[g]?).bind (·.dst) with
  | some d => match HL (fr d) want with
   | some b => some (some b)
   | none => none
  | none => none

section
variable {P : Program}

def E2 (E : Bo P) (ops : Array Oper) (o : Oper) (st : St) (K : St → Prop) : Prop :=
 match AP ops st.fr o.guard with
 | none => False
 | some none => match BZ E st.fr st.H st.n o.op with
  | .v p c => Co st.fr o.op ∧ p ∧ K ⟨putD o.dst c st.fr, st.H, st.n⟩
  | .h p c H' n' => Co st.fr o.op ∧ p ∧ K ⟨putD o.dst c st.fr, H', n'⟩
  | .bad => False
 | some (some b) => match BZ E st.fr st.H st.n o.op with
  | .v p c => (b = true → Co st.fr o.op ∧ p) ∧ K ⟨putD o.dst (.cond b c) st.fr, st.H, st.n⟩
  | .h p c H' n' => (b = true → Co st.fr o.op ∧ p ∧ K ⟨putD o.dst c st.fr, H', n'⟩) ∧ (b = false → K ⟨putD o.dst (.cond false .any) st.fr, st.H, st.n⟩)
  | .bad => False

theorem Js {E : Bo P} {ops : Array Oper} {o : Oper} {st : St} {K K' : St → Prop} (hk : ∀ st, K st → K' st) (h : E2 E ops o st K) : E2 E ops o st K' := by
 unfold E2 at *
 split at h
 ·exact h
 ·split at h
  ·exact ⟨h.1, h.2.1, hk _ h.2.2⟩
  ·exact ⟨h.1, h.2.1, hk _ h.2.2⟩
  ·exact h
 ·split at h
  ·exact ⟨h.1, hk _ h.2⟩
  ·exact ⟨fun hb => ⟨(h.1 hb).1, (h.1 hb).2.1, hk _ (h.1 hb).2.2⟩, fun hb => hk _ (h.2 hb)⟩
  ·exact h

variable {E : Bo P} {w : World} {S : Lays} {n : Nat} {W0 : World} {M0 : Nat → Prop} {H : Ap} {a : Act}

theorem Gk.putD {N : Nat} {fr : Nat → AV} {v : Value} {c : AV} {dst : Option Tmp} (h : Gk w S n N fr a) (hd : ∀ d, dst = some d → d < N) (hc : R w S n c v) : Gk w S n N (Vc.putD dst c fr) (a.put dst v) := by
 cases dst with
 | none => simpa [Vc.putD, Act.put] using h
 | some d => exact h.put (hd d rfl) hc

theorem G6 {ops : Array Oper} {fr : Nat → AV} {o : Oper} (h : AP ops fr o.guard = some none) (y : Nat → Option Bool) : Region.wanted o y = true := by
 unfold AP at h
 unfold Region.wanted
 split at h
 ·rename_i hg; rw [hg]
 ·split at h
  ·split at h <;> cases h
  ·cases h

theorem Fh {ops : Array Oper} {fr : Nat → AV} {o : Oper} {b : Bool} (h : AP ops fr o.guard = some (some b)) (hF : ∀ i, R w S n (fr i) (a.tmps.getD i undef)) : Region.wanted o (yielded ops a.tmps) = b := by
 unfold AP at h
 unfold Region.wanted
 split at h
 ·cases h
 ·rename_i g want hg
  split at h
  ·rename_i d hd
   split at h
   ·rename_i b' hb
    simp only [Option.some.injEq] at h
    subst h
    rw [hg]
    simp only [yielded, hd, Option.bind_some]
    have hR := hF d
    simp only [Array.getD_eq_getD_getElem?] at hR
    have bl : ∀ x : Bool, R w S n (.d (.bool x)) ((a.tmps[d]?).getD undef) → a.tmps[d]? = some (.bool x) := by
     intro x hx
     rw [R.bool_iff] at hx
     cases ht : a.tmps[d]? with
     | none => rw [ht] at hx; cases hx
     | some v => rw [ht] at hx; simp at hx; rw [hx]
    unfold HL at hb
    split at hb
    ·rename_i x hc
     simp only [Option.some.injEq] at hb
     rw [hc] at hR
     rw [bl x hR]
     subst hb
     cases want <;> cases x <;> rfl
    ·rename_i gg x hc
     simp only [Option.some.injEq] at hb
     rw [hc] at hR
     cases hR with | cond _ _ _ hr hu =>
     cases gg with
     | true =>
      rw [bl x (hr rfl)]
      subst hb
      cases want <;> cases x <;> rfl
     | false =>
      subst hb
      have := hu rfl
      cases ht : a.tmps[d]? with
      | none => rfl
      | some v => rw [ht] at this; simp at this; subst this; rfl
    ·rename_i hc
     simp only [Option.some.injEq] at hb
     rw [hc] at hR
     cases hR with | cond _ _ _ hr hu =>
     subst hb
     have := hu rfl
     cases ht : a.tmps[d]? with
     | none => rfl
     | some v => rw [ht] at this; simp at this; subst this; rfl
    ·cases hb
   ·cases h
  ·cases h

theorem DF {dst : Option Tmp} {v : Value} : (a.put dst v).defers = a.defers := by cases dst <;> rfl

def I2 (W0 : World) (M0 : Nat → Prop) (N : Nat) (K : St → Prop) : Act → World → Prop := fun a w => ∃ st, K st ∧ KF W0 M0 N st a w

theorem T0 {ops : Array Oper} {o : Oper} {st : St} {K : St → Prop} (h : E2 E ops o st K) (hd : ∀ d, o.dst = some d → d < E.N) (hs : KF W0 M0 E.N st a w) (Q : Exit → Act → World → Prop) :
  if Region.wanted o (yielded ops a.tmps) = true then o.wpIn (Ma E.ρ) 0 P a w (I2 W0 M0 E.N K) Q else I2 W0 M0 E.N K (a.put o.dst undef) w := by
 obtain ⟨S, hH, hF, hM⟩ := hs
 have run : ∀ {p : Prop} {c : AV} {H' : Ap} {n' : Nat}, (BZ E st.fr st.H st.n o.op).heap st.H st.n = some (p, c, H', n') → p → Co st.fr o.op → ∀ c', (∀ w S n v, R w S n c v → R w S n c' v) → K ⟨putD o.dst c' st.fr, H', n'⟩ →
   o.wpIn (Ma E.ρ) 0 P a w (I2 W0 M0 E.N K) Q := by
  intro p c H' n' hr hp hn c' hcc hK
  refine VD hH hF.at_ hr hp hn Q _ (fun v w' S' h1 h2 h3 => ⟨_, hK, S', h1, ?_⟩)
  exact ⟨(hF.ext h2).putD hd (hcc _ _ _ _ h3), by rw [DF]; exact hM.ext h2⟩
 unfold E2 at h
 split at h
 ·exact h.elim
 ·rename_i hg
  rw [if_pos (G6 hg _)]
  split at h
  ·rename_i p c hr
   exact run (by rw [hr]; rfl) h.2.1 h.1 c (fun _ _ _ _ h => h) h.2.2
  ·rename_i p c H' n' hr
   exact run (by rw [hr]; rfl) h.2.1 h.1 c (fun _ _ _ _ h => h) h.2.2
  ·exact h.elim
 ·rename_i b hg
  rw [Fh hg hF.at_]
  split at h
  ·rename_i p c hr
   cases b with
   | true =>
    rw [if_pos rfl]
    exact run (by rw [hr]; rfl) (h.1 rfl).2 (h.1 rfl).1 (.cond true c) (fun _ _ _ _ h => .cond _ _ _ (fun _ => h) (fun e => by cases e)) h.2
   | false =>
    rw [if_neg (by simp)]
    exact ⟨_, h.2, S, hH, hF.putD hd (.cond _ _ _ (fun e => by cases e) (fun _ => rfl)), by rw [DF]; exact hM⟩
  ·rename_i p c H' n' hr
   cases b with
   | true =>
    rw [if_pos rfl]
    exact run (by rw [hr]; rfl) (h.1 rfl).2.1 (h.1 rfl).1 c (fun _ _ _ _ h => h) (h.1 rfl).2.2
   | false =>
    rw [if_neg (by simp)]
    exact ⟨_, h.2 rfl, S, hH, hF.putD hd (.cond _ _ _ (fun e => by cases e) (fun _ => rfl)), by rw [DF]; exact hM⟩
  ·exact h.elim

theorem KF.drawn {N : Nat} {st : St} {k : Nat} (h : KF W0 M0 N st a w) : KF W0 M0 N st a { w with drawn := k } := by
 obtain ⟨S, hH, hF, hM⟩ := h
 have hE : BS w S st.n { w with drawn := k } S st.n := ⟨Nat.le_refl _, Nat.le_refl _, fun _ _ => .inl rfl, fun _ _ h => h, fun _ _ _ => rfl⟩
 refine ⟨S, ⟨hH.bnd, hH.lt2, fun id b hb => ?_, hH.inj2, hH.nod, hH.plain, hH.mut2, hH.os, hH.tape, hH.output, hH.size, hH.same, hH.far, hH.pin, hH.glx hE⟩, hF.ext hE, hM.ext hE⟩
 obtain ⟨l, hl, hb'⟩ := hH.box id b hb
 exact ⟨l, hl, hb'.ext hE (fun _ _ => rfl)⟩
end
end Go.Vc
/- The Vc layer: an operation that only yields a value may be taken first. -/
set_option linter.all false
namespace Go.Vc
open Go Go.RowKit
variable [AU]

def D8 (H H' : Ap) : Prop := ∀ id b, H id = some b → H' id = some b

def D3 : Op → Bool
 | .move _ | .assign _ | .binOp .. | .unOp .. | .field .. | .index .. | .extract .. | .pick .. => true
 | _ => false

def DY : Op → Bool
 | .pick .. => true
 | o => Pq o

def Ls (calm : List FuncId) : Op → Bool
 | .call ⟨.value (.func f), _, _⟩ => calm.contains f
 | o => DY o

section
variable {P : Program} {E : Bo P}

def Calm (E : Bo P) (calm : List FuncId) : Prop :=
 ∀ f sp, f ∈ calm → E.Γ f = some sp → ∀ args H n p r o, sp.run args H n = some (p, r, o) → o = none ∧ QA r = true

theorem P5 {fr : Nat → AV} {H H' : Ap} {n n' : Nat} {op : Op} (h : D3 op = true) : BZ E fr H n op = BZ E fr H' n' op := by
 unfold D3 at h
 split at h <;> first | rfl | cases h

theorem P3 {H H' : Ap} (h : D8 H H') {x : AV} {r : Prop × AV} (hr : KH H x = some r) : KH H' x = some r := by
 unfold KH at *
 split at hr
 ·split at hr
  ·rename_i hb; simp only [h _ _ hb]; exact hr
  ·cases hr
 all_goals exact hr

theorem P2 {ty : TypeId → Option TI} {H H' : Ap} (h : D8 H H') {t : TypeId} {x : AV} {r : Prop × AV} (hr : KG ty H t x = some r) : KG ty H' t x = some r := by
 unfold KG at *
 repeat' split at hr
 all_goals first
  | (cases hr; done)
  | (rename_i hb; simp only [h _ _ hb, *] at *; done)
  | (simp_all [D8]; done)

theorem LH {ty : TypeId → Option TI} {H H' : Ap} (h : D8 H H') {t : TypeId} {x : AV} {lo hi : Option AV} {r : Prop × AV} (hr : Ea ty H t x lo hi = some r) : Ea ty H' t x lo hi = some r := by
 unfold Ea at *
 repeat' split at hr
 all_goals first
  | (cases hr; done)
  | (rename_i hb; simp only [h _ _ hb, *] at *; done)
  | (simp_all [D8]; done)

theorem HY {ty : TypeId → Option TI} {H H' : Ap} (h : D8 H H') {s : TypeId} {x : AV} {f : Nat} {r : Prop × AV} (hr : C9 ty H s x f = some r) : C9 ty H' s x f = some r := by
 unfold C9 at *
 repeat' split at hr
 all_goals first
  | (cases hr; done)
  | (rename_i hb; simp only [h _ _ hb, *] at *; done)
  | (simp_all [D8]; done)

theorem HZ {ty : TypeId → Option TI} {H H' : Ap} (h : D8 H H') {t : TypeId} {x i : AV} {r : Prop × AV} (hr : CA ty H t x i = some r) : CA ty H' t x i = some r := by
 unfold CA at *
 repeat' split at hr
 all_goals first
  | (cases hr; done)
  | (rename_i hb; simp only [h _ _ hb, *] at *; done)
  | (simp_all [D8]; done)

theorem Nh {ty : TypeId → Option TI} {H H' : Ap} (h : D8 H H') {t : TypeId} {x : AV} {r : Prop × AV} (hr : EN ty H t x = some r) : EN ty H' t x = some r := by
 unfold EN at *
 repeat' split at hr
 all_goals first
  | (cases hr; done)
  | (rename_i hb; simp only [h _ _ hb, *] at *; done)
  | (simp_all [D8]; done)

theorem LQ {H H' : Ap} (h : D8 H H') {x : AV} {r : List AV} (hr : Di H x = some r) : Di H' x = some r := by
 unfold Di at *
 repeat' split at hr
 all_goals first
  | (cases hr; done)
  | (rename_i hb; simp only [h _ _ hb, *] at *; done)
  | (simp_all [D8]; done)

theorem Ng {ty : TypeId → Option TI} {H H' : Ap} (h : D8 H H') {s t : TypeId} {x : AV} {r : Prop × AV} (hr : GN ty H s t x = some r) : GN ty H' s t x = some r := by
 unfold GN at *
 repeat' split at hr
 all_goals first
  | (cases hr; done)
  | (rename_i hb; simp only [h _ _ hb, *] at *; done)
  | (simp_all [D8]; done)

theorem NC {H H' : Ap} (h : D8 H H') {pl : Nat → Option (Nat × Nat)} : ∀ {parts : List (Nat × AV)} {cs out : List AV}, Eg H pl cs parts = some out → Eg H' pl cs parts = some out := by
 intro parts
 induction parts with
 | nil => intro cs out hr; exact hr
 | cons q parts ih =>
  intro cs out hr
  obtain ⟨i, x⟩ := q
  unfold Eg at hr ⊢
  split at hr
  ·rename_i hpl hcs
   rw [LQ h hcs]
   simp only [hpl]
   split at hr
   ·rename_i hc; rw [if_pos hc]; exact ih hr
   ·cases hr
  ·cases hr

theorem LD {ty : TypeId → Option TI} {H H' : Ap} (h : D8 H H') {t : TypeId} {parts : List (Nat × AV)} {r : Prop × AV} (hr : Et ty H t parts = some r) : Et ty H' t parts = some r := by
 have go : ∀ {pl : Nat → Option (Nat × Nat)} {cs : List AV} {k : List AV → Prop × AV}, (Eg H pl cs parts).map k = some r → (Eg H' pl cs parts).map k = some r := by
  intro pl cs k hk
  rw [Option.map_eq_some_iff] at *
  obtain ⟨x, h1, h2⟩ := hk
  exact ⟨x, NC h h1, h2⟩
 unfold Et at *
 repeat' split at hr
 ·exact go hr
 ·exact go hr
 ·cases hr
 ·cases hr

theorem P7 {ty : TypeId → Option TI} {H H' : Ap} (h : D8 H H') {fr : Nat → AV} {op : Op} {r : Prop × AV} (hr : Gl ty H fr op = some r) : Gl ty H' fr op = some r := by
 unfold Gl at hr ⊢
 split at hr
 all_goals first
  | (cases hr; done)
  | exact hr
  | exact P3 h hr
  | exact Ng h hr
  | exact LH h hr
  | exact HY h hr
  | exact HZ h hr
  | exact Nh h hr
  | exact LD h hr
  | exact P2 h hr

theorem KI {fr : Nat → AV} {H : Ap} {n : Nat} {op : Op} (h : Pq op = true) : BZ E fr H n op = .ofV (Gl E.X.ty H fr op) := by
 unfold Pq at h
 split at h <;> first | rfl | cases h

theorem Rp {fr : Nat → AV} {H H' : Ap} {n n' : Nat} (h : D8 H H') {op : Op} (ht : DY op = true) {p : Prop} {c : AV} (hr : BZ E fr H n op = .v p c) : BZ E fr H' n' op = .v p c := by
 unfold DY at ht
 split at ht
 ·exact hr
 ·rw [KI ht] at *
  cases hv : Gl E.X.ty H fr op with
  | none => rw [hv] at hr; cases hr
  | some r => rw [hv] at hr; rw [P7 h hv]; exact hr

theorem P4 {calm : List FuncId} (hc : Calm E calm) {fr : Nat → AV} {H H' : Ap} {n n' : Nat} {op : Op} (hq : Ls calm op = true) {p : Prop} {c : AV} (hr : BZ E fr H n op = .h p c H' n') : False := by
 unfold Ls at hq
 split at hq
 ·rename_i f args ts
  have hr' : (match E.Γ f with | some sp => CM sp H n ((args.toList.map fun x => A4 (AL fr x)) ++ []) | none => .bad) = RS.h p c H' n' := hr
  split at hr'
  ·rename_i sp hsp
   unfold CM at hr'
   split at hr'
   ·split at hr'
    ·rename_i hrun
     obtain ⟨_, hsc⟩ := hc f sp (by simpa using hq) hsp _ _ _ _ _ _ hrun
     rw [if_pos hsc] at hr'; cases hr'
    ·rename_i hrun
     obtain ⟨ho, _⟩ := hc f sp (by simpa using hq) hsp _ _ _ _ _ _ hrun
     cases ho
    ·cases hr'
   ·cases hr'
  ·cases hr'
 ·unfold DY at hq
  split at hq
  ·rename_i x y z _
   have hr' : RS.ofV (DQ (AL fr x) (AL fr y) (AL fr z)) = .h p c H' n' := hr
   cases hv : DQ (AL fr x) (AL fr y) (AL fr z) with
   | none => rw [hv] at hr'; cases hr'
   | some q => rw [hv] at hr'; cases hr'
  ·rw [KI hq] at hr
   cases hv : Gl E.X.ty H fr op with
   | none => rw [hv] at hr; cases hr
   | some q => rw [hv] at hr; cases hr

/-! ### frames that agree on what an operation looks at -/
theorem Ni {ty : TypeId → Option TI} {H : Ap} {fr fr' : Nat → AV} {op : Op} (h : ∀ x ∈ op.operands.toList, AL fr x = AL fr' x) : Gl ty H fr op = Gl ty H fr' op := by
 unfold Gl
 split <;> first
  | (simp only [Op.operands, Call.operands, List.mem_cons, List.mem_append, Array.toList_append, List.not_mem_nil, or_false, forall_eq_or_imp, forall_eq] at h; simp only [h]; done)
  | rfl
  | skip
 ·rename_i t x lo hi
  rw [h x (by simp [Op.operands])]
  cases lo with
  | none => cases hi with
   | none => rfl
   | some y => simp only [Option.map_some, Option.map_none]; rw [h y (by simp [Op.operands])]
  | some z => cases hi with
   | none => simp only [Option.map_some, Option.map_none]; rw [h z (by simp [Op.operands])]
   | some y => simp only [Option.map_some]; rw [h y (by simp [Op.operands]), h z (by simp [Op.operands])]
 ·rename_i t parts
  congr 1
  refine List.map_congr_left fun q hq => ?_
  rw [h q.2 (by simp only [Op.operands, List.toList_toArray, List.mem_map]; exact ⟨q, hq, rfl⟩)]
 ·rename_i fn cap
  congr 3
  refine List.map_congr_left fun x hx => ?_
  rw [h x (by simp only [Op.operands, Array.toList_append, List.mem_append]; exact .inr hx)]
 ·rename_i x t
  rw [h x (by simp [Op.operands, Call.operands])]
 ·rename_i x y _
  rw [h x (by simp [Op.operands, Call.operands]), h y (by simp [Op.operands, Call.operands])]
 ·rename_i x y _
  rw [h x (by simp [Op.operands, Call.operands]), h y (by simp [Op.operands, Call.operands])]

theorem JM {fr fr' : Nat → AV} {H : Ap} {n : Nat} {op : Op} (h : ∀ x ∈ op.operands.toList, AL fr x = AL fr' x) : BZ E fr H n op = BZ E fr' H n op := by
 unfold BZ
 split
 ·rfl
 ·rename_i e x
  rw [h x (by simp [Op.operands])]
 ·rename_i t len parts
  congr 2
  refine List.map_congr_left fun q hq => ?_
  rw [h q.2 (by simp only [Op.operands, List.toList_toArray, List.mem_map]; exact ⟨q, hq, rfl⟩)]
 ·rename_i t l c
  rw [h l (by simp [Op.operands]), h c (by simp [Op.operands])]
 ·rename_i t ad x
  rw [h ad (by simp [Op.operands]), h x (by simp [Op.operands])]
 ·rename_i x y z
  rw [h x (by simp [Op.operands]), h y (by simp [Op.operands]), h z (by simp [Op.operands])]
 ·rename_i s x t t'
  rw [h s (by simp [Op.operands, Call.operands]), h x (by simp [Op.operands, Call.operands])]
 ·rename_i f args ts
  rw [h f (by simp [Op.operands, Call.operands])]
  have : args.toList.map (fun x => A4 (AL fr x)) = args.toList.map (fun x => A4 (AL fr' x)) :=
   List.map_congr_left fun x hx => by rw [h x (by simp only [Op.operands, Call.operands, Array.toList_append, List.mem_append]; exact .inr hx)]
  rw [this]
 ·rw [Ni h]

theorem SJ {fr fr' : Nat → AV} : ∀ {l : List Operand}, (∀ x ∈ l, AL fr x = AL fr' x) → nd fr l = nd fr' l := by
 intro l
 induction l with
 | nil => intro _; rfl
 | cons x l ih => intro h; unfold nd; rw [h x (by simp), ih (fun y hy => h y (by simp [hy]))]

theorem Ks {fr fr' : Nat → AV} {op : Op} (h : ∀ x ∈ op.operands.toList, AL fr x = AL fr' x) : Co fr op = Co fr' op := by
 unfold Co
 split
 ·rfl
 ·exact SJ h

theorem CC {ops : Array Oper} {fr fr' : Nat → AV} {o : Oper} (h : ∀ d, (∃ g want, o.guard = some (g, want) ∧ (ops[g]?).bind (·.dst) = some d) → fr d = fr' d) : AP ops fr o.guard = AP ops fr' o.guard := by
 unfold AP
 split
 ·rfl
 ·rename_i g want hg
  split
  ·rename_i d hd; rw [h d ⟨g, want, hg, hd⟩]
  ·rfl

theorem Jk {ops : Array Oper} {o : Oper} {dst : Option Tmp} {c : AV} {fr : Nat → AV} (h : ∀ d, dst = some d → d ∉ o.looksAt ops) :
  (∀ x ∈ o.op.operands.toList, AL (putD dst c fr) x = AL fr x) ∧ ∀ d, (∃ g want, o.guard = some (g, want) ∧ (ops[g]?).bind (·.dst) = some d) → putD dst c fr d = fr d := by
 cases dst with
 | none => exact ⟨fun _ _ => rfl, fun _ _ => rfl⟩
 | some e =>
  have he := h e rfl
  unfold Oper.looksAt at he
  rw [List.mem_append, not_or] at he
  refine ⟨fun x hx => ?_, ?_⟩
  ·cases x with
   | tmp t =>
    have : t ≠ e := fun ht => he.1 (List.mem_filterMap.2 ⟨.tmp t, hx, by rw [ht]⟩)
    simp [AL, putD, A2, this]
   | _ => rfl
  ·rintro d ⟨g, want, hg, hd⟩
   have : d ≠ e := fun ht => he.2 (by simp [hg, hd, ht])
   simp [putD, A2, this]

theorem Q0 {x y : Option Tmp} (h : ∀ d, x = some d → y ≠ some d) (c e : AV) (fr : Nat → AV) : putD y e (putD x c fr) = putD x c (putD y e fr) := by
 cases x with
 | none => rfl
 | some d =>
  cases y with
  | none => rfl
  | some k =>
   have hne : d ≠ k := fun he => h d rfl (by rw [he])
   funext i
   simp only [putD, A2]
   split <;> split <;> first | rfl | (rename_i h1 h2; exact absurd (h2.symm.trans h1) hne) | (rename_i h1 h2; exact absurd (h1.symm.trans h2) hne)

def MU (E : Bo P) (ops : Array Oper) (o : Oper) (st : St) : RV :=
 match AP ops st.fr o.guard with
 | none => none
 | some none => match BZ E st.fr st.H st.n o.op with
  | .v p c => some (Co st.fr o.op ∧ p, c)
  | _ => none
 | some (some b) => match BZ E st.fr st.H st.n o.op with
  | .v p c => some (b = true → Co st.fr o.op ∧ p, .cond b c)
  | _ => none

theorem QS {ops : Array Oper} {o : Oper} {st : St} {p : Prop} {c : AV} (h : MU E ops o st = some (p, c)) (hp : p) {K : St → Prop} (hK : K ⟨putD o.dst c st.fr, st.H, st.n⟩) : E2 E ops o st K := by
 unfold MU at h
 unfold E2
 split at h
 ·cases h
 ·rename_i hg
  try rw [hg]
  split at h
  ·rename_i p' c' hr
   simp only [Option.some.injEq, Prod.mk.injEq] at h
   obtain ⟨rfl, rfl⟩ := h
   simp only [hr]
   exact ⟨hp.1, hp.2, hK⟩
  ·cases h
 ·rename_i b hg
  try rw [hg]
  split at h
  ·rename_i p' c' hr
   simp only [Option.some.injEq, Prod.mk.injEq] at h
   obtain ⟨rfl, rfl⟩ := h
   simp only [hr]
   exact ⟨hp, hK⟩
  ·cases h

theorem QR {ops : Array Oper} {o : Oper} {st : St} {p : Prop} {c : AV} (h : MU E ops o st = some (p, c)) {fr' : Nat → AV} {H' : Ap} {n' : Nat}
  (ha : ∀ x ∈ o.op.operands.toList, AL fr' x = AL st.fr x) (hg : ∀ d, (∃ g want, o.guard = some (g, want) ∧ (ops[g]?).bind (·.dst) = some d) → fr' d = st.fr d)
  (ht : DY o.op = true) (hs : D3 o.op = true ∨ D8 st.H H') : MU E ops o ⟨fr', H', n'⟩ = some (p, c) := by
 unfold MU at *
 simp only
 rw [CC hg, JM ha, Ks ha]
 have hv : ∀ {p : Prop} {c : AV}, BZ E st.fr st.H st.n o.op = .v p c → BZ E st.fr H' n' o.op = .v p c := by
  intro p c hr
  rcases hs with hs | hs
  ·rw [← hr]; exact P5 hs
  ·exact Rp hs ht hr
 split at h
 ·cases h
 ·split at h
  ·rename_i hr; rw [hv hr]; exact h
  ·cases h
 ·split at h
  ·rename_i hr; rw [hv hr]; exact h
  ·cases h

end
end Go.Vc
/- The Vc layer: regions in the order of the text; control. -/
set_option linter.all false
namespace Go.Vc
open Go Go.RowKit
variable [AU]

def Hm (md : Region.Mode) (ops : Array Oper) (l : Array Bool) (i : Nat) : List Nat :=
 (List.range ops.size).foldl (fun W j => if l.getD j true then W else match ops[j]? with
  | some oj => if oj.after.any (fun e => Region.binds md e && W.contains e.on) then j :: W else W
  | none => W) [i]

section
variable {P : Program} {E : Bo P} {w : World} {S : Lays} {n : Nat} {W0 : World} {M0 : Nat → Prop} {H : Ap} {a : Act}

theorem Oo {ops : Array Oper} {o : Oper} {st : St} {K : St → Prop} (ht : DY o.op = true) (h : E2 E ops o st K) : ∃ p c, MU E ops o st = some (p, c) ∧ p ∧ K ⟨putD o.dst c st.fr, st.H, st.n⟩ := by
 have noh : ∀ {p : Prop} {c : AV} {H' : Ap} {n' : Nat}, BZ E st.fr st.H st.n o.op ≠ .h p c H' n' := by
  intro p c H' n' hr
  unfold DY at ht
  split at ht
  ·rename_i x y z hop
   rw [hop] at hr
   have hr' : RS.ofV (DQ (AL st.fr x) (AL st.fr y) (AL st.fr z)) = .h p c H' n' := hr
   cases hv : DQ (AL st.fr x) (AL st.fr y) (AL st.fr z) with
   | none => rw [hv] at hr'; cases hr'
   | some q => rw [hv] at hr'; cases hr'
  ·rw [KI ht] at hr
   cases hv : Gl E.X.ty st.H st.fr o.op with
   | none => rw [hv] at hr; cases hr
   | some q => rw [hv] at hr; cases hr
 unfold E2 at h
 unfold MU
 split at h
 ·exact h.elim
 ·rename_i hg
  try rw [hg]
  split at h
  ·rename_i p c hr
   simp only [hr]
   exact ⟨_, _, rfl, ⟨h.1, h.2.1⟩, h.2.2⟩
  ·rename_i hr; exact (noh hr).elim
  ·exact h.elim
 ·rename_i b hg
  try rw [hg]
  split at h
  ·rename_i p c hr
   simp only [hr]
   exact ⟨_, _, rfl, h.1, h.2⟩
  ·rename_i hr; exact (noh hr).elim
  ·exact h.elim

/-! ### control -/
def AM (E : Bo P) (W0 : World) (M0 : Nat → Prop) (K : Exit → St → Prop) : Exit → Act → World → Prop := fun e a w => ∃ st, K e st ∧ KF W0 M0 E.N st a w

def VC (E : Bo P) (W0 : World) (M0 : Nat → Prop) (c : Code) (st : St) (K : Exit → St → Prop) : Prop :=
 ∀ a w, KF W0 M0 E.N st a w → c.wpIn (Ma E.ρ) 0 P (AM E W0 M0 K) a w

def Sub (E : Bo P) (W0 : World) (M0 : Nat → Prop) (st st' : St) : Prop := ∀ a w, KF W0 M0 E.N st a w → KF W0 M0 E.N st' a w

theorem VC.sub {c : Code} {st st' : St} {K : Exit → St → Prop} (hs : Sub E W0 M0 st st') (h : VC E W0 M0 c st' K) : VC E W0 M0 c st K := fun a w hw => h a w (hs a w hw)

theorem VC.mono {c : Code} {st : St} {K K' : Exit → St → Prop} (hk : ∀ e st, K e st → K' e st) (h : VC E W0 M0 c st K) : VC E W0 M0 c st K' :=
 fun a w hw => wpIn_mono (h a w hw) (fun e a w ⟨st, h1, h2⟩ => ⟨st, hk e st h1, h2⟩)

def HX (next : St → Prop) (K : Exit → St → Prop) : Exit → St → Prop
 | .normal, st => next st
 | e, st => K e st

def Hu (id : Nat) (K : Exit → St → Prop) : Exit → St → Prop
 | .exit id', st => if id' = id then K .normal st else K (.exit id') st
 | e, st => K e st

theorem An {st : St} {K : Exit → St → Prop} (h : K .normal st) : VC E W0 M0 .skip st K := fun a w hs => wpIn_skip ⟨st, h, hs⟩
theorem Be {id : Nat} {st : St} {K : Exit → St → Prop} (h : K (.exit id) st) : VC E W0 M0 (.exit id) st K := fun a w hs => wpIn_exit ⟨st, h, hs⟩
theorem Ao {st : St} {K : Exit → St → Prop} (h : K .ret st) : VC E W0 M0 .ret st K := fun a w hs => wpIn_ret ⟨st, h, hs⟩

theorem TL {x y : Code} {st : St} {K : Exit → St → Prop} (h : VC E W0 M0 x st (HX (fun st => VC E W0 M0 y st K) K)) : VC E W0 M0 (.seq x y) st K := by
 intro a w hs
 refine wpIn_seq (wpIn_mono (h a w hs) ?_)
 rintro e a' w' ⟨st', h1, h2⟩
 cases e with
 | normal => exact h1 a' w' h2
 | _ => exact ⟨st', h1, h2⟩

theorem Aw {id : Nat} {c : Code} {st : St} {K : Exit → St → Prop} (h : VC E W0 M0 c st (Hu id K)) : VC E W0 M0 (.block id c) st K := by
 intro a w hs
 refine wpIn_block (wpIn_mono (h a w hs) ?_)
 rintro e a' w' ⟨st', h1, h2⟩
 cases e with
 | exit id' =>
  simp only [Exit.inBlock]
  simp only [Hu] at h1
  split
  ·rename_i he; rw [if_pos he] at h1; exact ⟨st', h1, h2⟩
  ·rename_i he; rw [if_neg he] at h1; exact ⟨st', h1, h2⟩
 | _ => exact ⟨st', h1, h2⟩

def R8 (fr : Nat → AV) (c : Operand) (x y : Prop) : Prop :=
 match AL fr c with
 | .d (.bool b) => (b = true → x) ∧ (b = false → y)
 | _ => False

theorem Vj {c : Operand} {x y : Code} {st : St} {K : Exit → St → Prop} (h : R8 st.fr c (VC E W0 M0 x st K) (VC E W0 M0 y st K)) : VC E W0 M0 (.cond c x y) st K := by
 intro a w hs
 obtain ⟨S, hH, hF, hM⟩ := hs
 unfold R8 at h
 split at h
 ·rename_i b hb
  have hc := Eb hH.gl hF.at_ c
  rw [hb, R.bool_iff] at hc
  exact wpIn_cond_split hc (fun hb => h.1 hb a w ⟨S, hH, hF, hM⟩) (fun hb => h.2 hb a w ⟨S, hH, hF, hM⟩)
 ·exact h.elim

theorem Vl {σ : Type} (inv : σ → Prop) (I : σ → St) (μ : σ → Nat) (s0 : σ) {body : Code} {st : St} {K : Exit → St → Prop} (h0 : inv s0) (hs : Sub E W0 M0 st (I s0))
  (round : ∀ s, inv s → VC E W0 M0 body (I s) (HX (fun st' => ∃ s', inv s' ∧ μ s' < μ s ∧ Sub E W0 M0 st' (I s')) K)) : VC E W0 M0 (.loop body) st K := by
 intro a w hw
 have key : ∀ n s, μ s < n → inv s → ∀ a w, KF W0 M0 E.N (I s) a w → Code.roundsIn (Ma E.ρ) 0 P body (AM E W0 M0 K) n a w := by
  intro n
  induction n with
  | zero => intro s h; omega
  | succ n ih =>
   intro s hn hi a w hsim
   show Code.wpIn (Ma E.ρ) 0 P body (Exit.then (Code.roundsIn (Ma E.ρ) 0 P body (AM E W0 M0 K) n) (AM E W0 M0 K)) a w
   refine wpIn_mono (round s hi a w hsim) ?_
   rintro e a' w' ⟨st', h1, h2⟩
   cases e with
   | normal =>
    obtain ⟨s', hi', hlt, hsub⟩ := h1
    exact ih s' (by omega) hi' a' w' (hsub a' w' h2)
   | _ => exact ⟨st', h1, h2⟩
 exact wpIn_loop_rounds (μ s0 + 1) (key _ s0 (by omega) h0 a w (hs a w hw))
end
end Go.Vc
/- The Vc layer: a state seen as another: boxes renumbered, let go, forgotten. -/
set_option linter.all false
namespace Go.Vc
open Go Go.RowKit
variable [AU]

abbrev Ren := List (Option Nat)

def Kp (ρ : Ren) (H : Ap) (c c' : AV) : Prop :=
 match c' with
 | .any => True
 | .d y => match c with
  | .d x => x = y ∨ AR x = y
  | .sl k off len => match H k with
   | some (.vec _ _ xs) => (some k ∈ ρ → False) ∧ off + len ≤ xs.length ∧ D.sl ((xs.drop off).take len) = y
   | _ => False
  | .ptr k e f => match H k with
   | some (.one _ cells) => match Cg cells with
    | some ds => (some k ∈ ρ → False) ∧ e = 0 ∧ f = 0 ∧ D.ptr ds = y
    | none => False
   | _ => False
  | _ => False
 | .sl i off len => match c with
  | .sl k off' len' => ρ[i]? = some (some k) ∧ off' = off ∧ len' = len
  | .d .nils => ρ[i]? = some none ∧ off = 0 ∧ len = 0
  | _ => False
 | .ptr i e f => match c with
  | .ptr k e' f' => ρ[i]? = some (some k) ∧ e' = e ∧ f' = f
  | _ => False
 | .mp i => match c with
  | .mp k => ρ[i]? = some (some k)
  | _ => False
 | .ip sz xs e f => c = .ip sz xs e f
 | _ => False

def Qo (ρ : Ren) (H : Ap) : List AV → List AV → Prop
 | [], [] => True
 | c :: cs, c' :: cs' => Kp ρ H c c' ∧ Qo ρ H cs cs'
 | _, _ => False

def Kq (ρ : Ren) (H : Ap) (c c' : AV) : Prop :=
 match c' with
 | .agg cs' => match c with
  | .agg cs => Qo ρ H cs cs'
  | _ => False
 | .clo fn cs' => match c with
  | .clo fn' cs => fn' = fn ∧ Qo ρ H cs cs'
  | _ => False
 | c' => Kp ρ H c c'

def NU (ρ : Ren) (H : Ap) : List AV → List AV → Prop
 | [], [] => True
 | c :: cs, c' :: cs' => Kq ρ H c c' ∧ NU ρ H cs cs'
 | _, _ => False

def mt (ρ : Ren) (H : Ap) (c c' : AV) : Prop :=
 match c' with
 | .tup cs' => match c with
  | .tup cs => NU ρ H cs cs'
  | _ => False
 | c' => Kq ρ H c c'

def Kr (ρ : Ren) (H : Ap) : Bk → Bk → Prop
 | .vec t s xs, .vec t' s' xs' => t = t' ∧ s = s' ∧ xs = xs'
 | .one t cs, .one t' cs' => t = t' ∧ Qo ρ H cs cs'
 | .ob o, .ob o' => o = o'
 | _, _ => False

def FK (ρ : Ren) (H : Ap) : Ren → List (Option Bk) → Prop
 | [], [] => True
 | some k :: r, some b' :: bs => (match H k with | some b => Kr ρ H b b' | none => False) ∧ FK ρ H r bs
 | none :: r, some b' :: bs => (match b' with | .vec _ _ xs => xs = [] | _ => False) ∧ FK ρ H r bs
 | _ :: r, none :: bs => FK ρ H r bs
 | _, _ => False

def G5 : List (Nat × AV) → Nat → AV
 | [], _ => .any
 | (j, c) :: r, i => if i = j then c else G5 r i

def As (bl : List (Option Bk)) (i : Nat) : Option Bk := (bl[i]?).join

def Gn (fl : List (Nat × AV)) (bl : List (Option Bk)) : St := ⟨G5 fl, As bl, bl.length⟩

def NT (ρ : Ren) (H : Ap) (fr : Nat → AV) : List (Nat × AV) → Prop
 | [] => True
 | (i, c') :: r => mt ρ H (fr i) c' ∧ NT ρ H fr r

def CV (ρ : Ren) (bl : List (Option Bk)) (S : Lays) : Lays := fun i => match ρ[i]? with
 | some (some k) => S k
 | some none => match As bl i with
  | some (.vec _ sz _) => some ⟨none, sz, 0, []⟩
  | _ => none
 | none => none

section
variable {P : Program} {E : Bo P} {w w' : World} {S : Lays} {n : Nat} {W0 : World} {M0 : Nat → Prop} {H : Ap} {a : Act} {ρ : Ren} {bl : List (Option Bk)}

theorem RD.of_vec (hH : Ag W0 M0 H n w S) {O : Nat → Prop} {id off len ty sz : Nat} {xs : List (List D)} {u : Value} (hu : R w S n (.sl id off len) u) (hb : H id = some (.vec ty sz xs)) (hp : off + len ≤ xs.length)
  (hO : ∀ l b, S id = some l → l.blk = some b → ¬ O b) (hm : ∀ b, b < w.heap.size → ¬ own S b → ¬ O b) : RD w O (.sl ((xs.drop off).take len)) u := by
 obtain ⟨l, o, hS, ⟨hsz, _, _, hz, hnil, hbk⟩, rfl, hcap, ho, h0⟩ := hu.sl_live hH hb
 have hlen : ((xs.drop off).take len).length = len := by rw [List.length_take, List.length_drop]; omega
 by_cases hl0 : len = 0
 ·subst hl0; rw [List.take_zero]; exact .sl0 _ _
 ·cases hk : l.blk with
  | none => have := hnil hk; omega
  | some b =>
   obtain ⟨cur, hcur, hsize, hcell⟩ := hbk b hk
   have hpt : ∀ e f c, CL ((xs.drop off).take len) e f = some c → ∃ u, w.cell? ⟨b, o + e * sz + f, none⟩ = some u ∧ RD w O c u := fun e f c hh => by
    obtain ⟨u, hu', hr⟩ := hcell _ _ _ (Cc hh)
    refine ⟨u, ?_, hr.ext (Nat.le_refl _) (fun _ _ _ => rfl) hm⟩
    rw [cell_of_row w b _ cur _ (0, 0) hcur, ho (by omega), hsz, show off * sz + e * sz + f = (off + e) * sz + f by rw [Nat.add_mul]]
    exact hu'
   have := RD.sl (w := w) (O := O) ((xs.drop off).take len) sz b o (l.cap - off) (fun e f => (w.cell? ⟨b, o + e * sz + f, none⟩).getD undef) (by omega) (Array.getElem?_eq_some_iff.1 hcur).1 (hO l b hS hk)
    (fun x hx => hz x (List.mem_of_mem_drop (List.mem_of_mem_take hx))) (fun e f c hh => by obtain ⟨u, hu, _⟩ := hpt e f c hh; rw [hu]; rfl) (fun e f c hh => by obtain ⟨u, hu, hr⟩ := hpt e f c hh; rw [hu]; exact hr)
   rw [hlen] at this
   exact this

theorem RD.of_one (hH : Ag W0 M0 H n w S) {O : Nat → Prop} {id ty : Nat} {cells : List AV} {ds : List D} {u : Value} (hu : R w S n (.ptr id 0 0) u) (hb : H id = some (.one ty cells)) (hds : Cg cells = some ds)
  (hO : ∀ l b, S id = some l → l.blk = some b → ¬ O b) (hm : ∀ b, b < w.heap.size → ¬ own S b → ¬ O b) : RD w O (.ptr ds) u := by
 obtain ⟨l, k, hS, ⟨hsz, hcap, k', hk', cur, hcur, hsize, hcell⟩, hk, rfl⟩ := hu.ptr_live hH hb
 rw [hk] at hk'; cases hk'
 obtain ⟨hdl, hdd⟩ := Jj hds
 have hpt : ∀ f c, ds[f]? = some c → ∃ u, w.cell? ⟨k, 0 + f, none⟩ = some u ∧ RD w O c u := fun f c hf => by
  have hlt : f < cells.length := by have := (List.getElem?_eq_some_iff.1 hf).1; omega
  obtain ⟨d, x, h1, h2, h3⟩ := hdd f _ (List.getElem?_eq_getElem hlt)
  rw [hf] at h1; cases h1
  obtain ⟨u, hu', _, hr⟩ := hcell f _ (List.getElem?_eq_getElem hlt)
  rw [h2] at hr
  cases hr with | d hr =>
  refine ⟨u, ?_, h3 ▸ (hr.ext (Nat.le_refl _) (fun _ _ _ => rfl) hm).clean⟩
  rw [cell_of_row w k _ cur _ (0, 0) hcur, Nat.zero_add]; exact hu'
 rw [Nat.zero_mul, Nat.zero_add]
 exact .ptr ds k 0 (fun f => (w.cell? ⟨k, 0 + f, none⟩).getD undef) (Array.getElem?_eq_some_iff.1 hcur).1 (hO l k hS hk)
  (fun f c hh => by obtain ⟨u, hu, _⟩ := hpt f c hh; rw [hu]; rfl) (fun f c hh => by obtain ⟨u, hu, hr⟩ := hpt f c hh; rw [hu]; exact hr)

theorem CH {i : Nat} {l : Lay} (h : CV ρ bl S i = some l) : (∃ k, ρ[i]? = some (some k) ∧ S k = some l) ∨ (ρ[i]? = some none ∧ l.blk = none ∧ l.subs = []) := by
 unfold CV at h
 split at h
 ·rename_i k hk; exact .inl ⟨k, hk, h⟩
 ·rename_i hk
  split at h
  ·cases h; exact .inr ⟨hk, rfl, rfl⟩
  ·cases h
 ·cases h
theorem FN {l : Lay} {b : Nat} (h1 : l.blk = none) (h2 : l.subs = []) : ¬ l.has b := fun h => h.elim (fun h => by rw [h1] at h; cases h) (fun h => by rw [h2] at h; cases h)

theorem Lp {b : Nat} (h : own (CV ρ bl S) b) : own S b := by
 rcases h with h | ⟨i, l, h1, h2⟩
 ·exact .inl h
 ·rcases CH h1 with ⟨k, _, h3⟩ | ⟨_, h3, h4⟩
  ·exact .inr ⟨k, l, h3, h2⟩
  ·exact absurd h2 (FN h3 h4)

theorem HQ (hH : Ag W0 M0 H n w S) {k : Nat} (hk : some k ∈ ρ → False) : ∀ l b, S k = some l → l.blk = some b → ¬ own (CV ρ bl S) b := by
 rintro l b hS hb (h | ⟨i, l', h1, h2⟩)
 ·exact (hH.far b (AU.sub b h)).2 k l hS (.inl hb)
 ·rcases CH h1 with ⟨k', h3, h4⟩ | ⟨_, h3, h5⟩
  ·have := hH.inj2 k' k l' l b h4 hS h2 (.inl hb)
   subst this
   exact hk (List.mem_of_getElem? h3)
  ·exact absurd h2 (FN h3 h5)

theorem SC (hH : Ag W0 M0 H n w S) {c c' : AV} (h : Kp ρ H c c') {v : Value} (hv : R w S n c v) : R w (CV ρ bl S) ρ.length c' v := by
 have hm : ∀ b, b < w.heap.size → ¬ own S b → ¬ own (CV ρ bl S) b := fun b _ h h' => h (Lp h')
 have mv : ∀ {d : D} {v : Value}, RD w (own S) d v → RD w (own (CV ρ bl S)) d v := fun h => h.ext (Nat.le_refl _) (fun _ _ _ => rfl) hm
 unfold Kp at h
 split at h
 ·exact .any _
 ·rename_i y
  split at h
  ·rename_i x
   cases hv with | d hx =>
   rcases h with rfl | rfl
   ·exact .d (mv hx)
   ·exact .d (mv hx).clean
  ·rename_i k off len
   split at h
   ·rename_i ty sz xs hb
    obtain ⟨h1, h2, rfl⟩ := h
    exact .d (RD.of_vec hH hv hb h2 (HQ hH h1) hm)
   ·exact h.elim
  ·rename_i k e f
   split at h
   ·rename_i ty cells hb
    split at h
    ·rename_i ds hds
     obtain ⟨h1, rfl, rfl, rfl⟩ := h
     exact .d (RD.of_one hH hv hb hds (HQ hH h1) hm)
    ·exact h.elim
   ·exact h.elim
  ·exact h.elim
 ·rename_i i off len
  split at h
  ·rename_i k off' len'
   obtain ⟨h1, rfl, rfl⟩ := h
   have hi : i < ρ.length := (List.getElem?_eq_some_iff.1 h1).1
   have hr : CV ρ bl S i = S k := by unfold CV; simp only [h1]
   cases hv with
   | slDead _ _ _ _ hn hS => exact .slDead _ _ _ _ hi (hr.trans hS)
   | sl _ _ _ o l hn hS hc ho h0 => exact .sl _ _ _ o l hi (hr.trans hS) hc ho h0
  ·obtain ⟨h1, rfl, rfl⟩ := h
   have hi : i < ρ.length := (List.getElem?_eq_some_iff.1 h1).1
   cases hv with | d hx =>
   cases hx
   cases hb : CV ρ bl S i with
   | none => exact .slDead _ _ _ _ hi hb
   | some l =>
    have hb' := hb
    unfold CV at hb'
    simp only [h1] at hb'
    split at hb'
    ·cases hb'
     exact .sl i 0 0 0 _ hi hb (by simp) (fun h => by cases h) (fun _ => rfl)
    ·cases hb'
  ·exact h.elim
 ·rename_i i e f
  split at h
  ·rename_i k e' f'
   obtain ⟨h1, rfl, rfl⟩ := h
   have hi : i < ρ.length := (List.getElem?_eq_some_iff.1 h1).1
   have hr : CV ρ bl S i = S k := by unfold CV; simp only [h1]
   cases hv with
   | ptrDead _ _ _ _ hn hS => exact .ptrDead _ _ _ _ hi (hr.trans hS)
   | ptr _ _ _ b l hn hS hb => exact .ptr _ _ _ b l hi (hr.trans hS) hb
  ·exact h.elim
 ·rename_i i
  split at h
  ·rename_i k
   have hi : i < ρ.length := (List.getElem?_eq_some_iff.1 h).1
   have hr : CV ρ bl S i = S k := by unfold CV; simp only [h]
   cases hv with
   | mpDead _ _ hn hS => exact .mpDead _ _ hi (hr.trans hS)
   | mp _ l hn hS => exact .mp _ l hi (hr.trans hS)
  ·exact h.elim
 ·subst h
  cases hv with | ip _ _ _ _ b o u hb hO hc hr => exact .ip _ _ _ _ b o u hb (hm b hb hO) hc (fun e f c hh => mv (hr e f c hh))
 ·exact h.elim

theorem NV (hH : Ag W0 M0 H n w S) : ∀ {cs cs' : List AV}, Qo ρ H cs cs' → cs'.length = cs.length ∧ ∀ (i : Nat) (c' : AV), cs'[i]? = some c' → ∃ c, cs[i]? = some c ∧ ∀ v, R w S n c v → R w (CV ρ bl S) ρ.length c' v := by
 intro cs
 induction cs with
 | nil =>
  intro cs' h
  cases cs' with
  | nil => exact ⟨rfl, fun i c' h => by simp at h⟩
  | cons _ _ => exact h.elim
 | cons c cs ih =>
  intro cs' h
  cases cs' with
  | nil => exact h.elim
  | cons c' cs' =>
   obtain ⟨h1, h2⟩ := h
   obtain ⟨h3, h4⟩ := ih h2
   refine ⟨by simp [h3], fun i d hd => ?_⟩
   cases i with
   | zero => simp at hd; subst hd; exact ⟨c, rfl, fun v hv => SC hH h1 hv⟩
   | succ i => simpa using h4 i d (by simpa using hd)

theorem SD (hH : Ag W0 M0 H n w S) {c c' : AV} (h : Kq ρ H c c') {v : Value} (hv : R w S n c v) : R w (CV ρ bl S) ρ.length c' v := by
 unfold Kq at h
 split at h
 ·split at h
  ·obtain ⟨h1, h2⟩ := NV (bl := bl) hH h
   cases hv with | agg _ us hl h1' hr =>
   exact .agg _ us (by omega) h1' (fun i c u hc hu => by obtain ⟨c0, h3, h4⟩ := h2 i c hc; exact h4 u (hr i c0 u h3 hu))
  ·exact h.elim
 ·split at h
  ·obtain ⟨rfl, h⟩ := h
   obtain ⟨h1, h2⟩ := NV (bl := bl) hH h
   cases hv with | clo _ _ us hl hr =>
   exact .clo _ _ us (by omega) (fun i c u hc hu => by obtain ⟨c0, h3, h4⟩ := h2 i c hc; exact h4 u (hr i c0 u h3 hu))
  ·exact h.elim
 ·exact SC hH h hv

theorem UB (hH : Ag W0 M0 H n w S) : ∀ {cs cs' : List AV}, NU ρ H cs cs' → cs'.length = cs.length ∧ ∀ (i : Nat) (c' : AV), cs'[i]? = some c' → ∃ c, cs[i]? = some c ∧ ∀ v, R w S n c v → R w (CV ρ bl S) ρ.length c' v := by
 intro cs
 induction cs with
 | nil =>
  intro cs' h
  cases cs' with
  | nil => exact ⟨rfl, fun i c' h => by simp at h⟩
  | cons _ _ => exact h.elim
 | cons c cs ih =>
  intro cs' h
  cases cs' with
  | nil => exact h.elim
  | cons c' cs' =>
   obtain ⟨h1, h2⟩ := h
   obtain ⟨h3, h4⟩ := ih h2
   refine ⟨by simp [h3], fun i d hd => ?_⟩
   cases i with
   | zero => simp at hd; subst hd; exact ⟨c, rfl, fun v hv => SD hH h1 hv⟩
   | succ i => simpa using h4 i d (by simpa using hd)

theorem OT (hH : Ag W0 M0 H n w S) {c c' : AV} (h : mt ρ H c c') {v : Value} (hv : R w S n c v) : R w (CV ρ bl S) ρ.length c' v := by
 unfold mt at h
 split at h
 ·split at h
  ·obtain ⟨h1, h2⟩ := UB (bl := bl) hH h
   cases hv with | tup _ us hl hr =>
   exact .tup _ us (by omega) (fun i c u hc hu => by obtain ⟨c0, h3, h4⟩ := h2 i c hc; exact h4 u (hr i c0 u h3 hu))
  ·exact h.elim
 ·exact SD hH h hv

theorem UA (hH : Ag W0 M0 H n w S) {fr : Nat → AV} : ∀ {fl : List (Nat × AV)}, NT ρ H fr fl → ∀ i v, R w S n (fr i) v → R w (CV ρ bl S) ρ.length (G5 fl i) v := by
 intro fl
 induction fl with
 | nil => intro _ i v _; exact .any _
 | cons q fl ih =>
  obtain ⟨j, c'⟩ := q
  intro h i v hv
  simp only [G5]
  split
  ·rename_i hi; subst hi; exact OT hH h.1 hv
  ·exact ih h.2 i v hv

theorem EQ {bl : List (Option Bk)} {i : Nat} {b : Bk} : As bl i = some b ↔ bl[i]? = some (some b) := by
 unfold As
 cases h : bl[i]? with
 | none => simp
 | some x => cases x <;> simp

theorem Lh : ∀ {r : Ren} {bs : List (Option Bk)}, FK ρ H r bs → r.length = bs.length ∧ ∀ (i : Nat) (b' : Bk), bs[i]? = some (some b') →
  (∃ k b, r[i]? = some (some k) ∧ H k = some b ∧ Kr ρ H b b') ∨ (r[i]? = some none ∧ (∃ ty sz, b' = .vec ty sz [])) := by
 intro r
 induction r with
 | nil =>
  intro bs h
  cases bs with
  | nil => exact ⟨rfl, fun i b h => by simp at h⟩
  | cons _ _ => exact h.elim
 | cons q r ih =>
  intro bs h
  cases bs with
  | nil => cases q <;> exact h.elim
  | cons b' bs =>
   cases b' with
   | none =>
    have h' : FK ρ H r bs := by cases q <;> exact h
    obtain ⟨h3, h4⟩ := ih h'
    refine ⟨by simp [h3], fun i d hd => ?_⟩
    cases i with
    | zero => simp at hd
    | succ i => simpa using h4 i d (by simpa using hd)
   | some b' =>
    cases q with
    | some k =>
     obtain ⟨h1, h2⟩ := h
     obtain ⟨h3, h4⟩ := ih h2
     refine ⟨by simp [h3], fun i d hd => ?_⟩
     cases i with
     | zero =>
      simp at hd; subst hd
      split at h1
      ·rename_i b hb; exact .inl ⟨k, b, rfl, hb, h1⟩
      ·exact h1.elim
     | succ i => simpa using h4 i d (by simpa using hd)
    | none =>
     obtain ⟨h1, h2⟩ := h
     obtain ⟨h3, h4⟩ := ih h2
     refine ⟨by simp [h3], fun i d hd => ?_⟩
     cases i with
     | zero =>
      simp at hd; subst hd
      split at h1
      ·rename_i ty sz xs; subst h1; exact .inr ⟨rfl, ⟨ty, sz, rfl⟩⟩
      ·exact h1.elim
     | succ i => simpa using h4 i d (by simpa using hd)

def Eu : Ren → Bool
 | [] => true
 | some k :: r => !r.contains (some k) && Eu r
 | none :: r => Eu r

theorem P8 : ∀ {ρ : Ren}, Eu ρ = true → ∀ (i j k : Nat), ρ[i]? = some (some k) → ρ[j]? = some (some k) → i = j := by
 intro ρ
 induction ρ with
 | nil => intro _ i j k h; simp at h
 | cons q r ih =>
  intro h i j k hi hj
  have hr : Eu r = true := by cases q <;> simp [Eu] at h <;> first | exact h | exact h.2
  have hnm : ∀ m : Nat, q = some k → r[m]? ≠ some (some k) := by
   rintro m rfl hm
   simp [Eu] at h
   exact h.1 (List.mem_of_getElem? hm)
  cases i with
  | zero => cases j with
   | zero => rfl
   | succ j => exact absurd (by simpa using hj) (hnm j (by simpa using hi))
  | succ i => cases j with
   | zero => exact absurd (by simpa using hi) (hnm i (by simpa using hj))
   | succ j => rw [ih hr i j k (by simpa using hi) (by simpa using hj)]

def Ju (np : Nat) (ρ : Ren) (st : St) (fl : List (Nat × AV)) (bl : List (Option Bk)) : Prop :=
 (Eu ρ && (ρ.take np == (List.range np).map some)) = true ∧ FK ρ st.H ρ bl ∧ NT ρ st.H st.fr fl

theorem Ag.ren (hH : Ag W0 M0 H n w S) (ha : Eu ρ = true) (hp : ∀ i, i < AU.np → ρ[i]? = some (some i)) (hb : FK ρ H ρ bl) : Ag W0 M0 (As bl) bl.length w (CV ρ bl S) := by
 obtain ⟨hlen, hB⟩ := Lh hb
 have hm : ∀ b, b < w.heap.size → ¬ own S b → ¬ own (CV ρ bl S) b := fun b _ h h' => h (Lp h')
 have mv : ∀ {d : D} {v : Value}, RD w (own S) d v → RD w (own (CV ρ bl S)) d v := fun h => h.ext (Nat.le_refl _) (fun _ _ _ => rfl) hm
 constructor
 ·intro i hi
  unfold CV
  rw [List.getElem?_eq_none (by omega)]
 ·intro i l b h1 h2
  rcases CH h1 with ⟨k, _, h3⟩ | ⟨_, h3, h4⟩
  ·exact hH.lt2 k l b h3 h2
  ·exact absurd h2 (FN h3 h4)
 ·intro i b' hb'
  rw [EQ] at hb'
  rcases hB i b' hb' with ⟨k, b, h1, h2, h3⟩ | ⟨h1, hb0⟩
  ·obtain ⟨l, hl, hbox⟩ := hH.box k b h2
   refine ⟨l, by unfold CV; simp only [h1]; exact hl, ?_⟩
   cases b with
   | vec t s xs =>
    cases b' with
    | one _ _ => exact h3.elim
    | ob _ => exact h3.elim
    | vec t' s' xs' =>
     obtain ⟨rfl, rfl, rfl⟩ := h3
     obtain ⟨g1, g2, g3, g4, g5, g6⟩ := hbox
     refine ⟨g1, g2, g3, g4, g5, fun b hb => ?_⟩
     obtain ⟨cur, e1, e2, e3⟩ := g6 b hb
     exact ⟨cur, e1, e2, fun e f c hh => by obtain ⟨u, e4, e5⟩ := e3 e f c hh; exact ⟨u, e4, mv e5⟩⟩
   | one t cs =>
    cases b' with
    | vec _ _ _ => exact h3.elim
    | ob _ => exact h3.elim
    | one t' cs' =>
     obtain ⟨rfl, h3⟩ := h3
     obtain ⟨h4, h5⟩ := NV (bl := bl) hH h3
     obtain ⟨g1, g2, b, hb, cur, e1, e2, e3⟩ := hbox
     refine ⟨by omega, g2, b, hb, cur, e1, by omega, fun f c hc => ?_⟩
     obtain ⟨c0, h6, h7⟩ := h5 f c hc
     obtain ⟨u, e4, e5, e6⟩ := e3 f c0 h6
     rw [← hlen]
     exact ⟨u, e4, e5, h7 u e6⟩
   | ob o =>
    cases b' with
    | vec _ _ _ => exact h3.elim
    | one _ _ => exact h3.elim
    | ob o' => cases h3; exact o.same hbox hm
  ·obtain ⟨ty, sz, rfl⟩ := hb0
   refine ⟨⟨none, sz, 0, []⟩, by unfold CV; simp only [h1, EQ.2 hb'], ⟨rfl, by simp [maxLen], by simp, by simp, fun _ => rfl, fun b hb => by cases hb⟩⟩
 ·intro i j l l' b hi hj h1 h2
  rcases CH hi with ⟨k, hk, hSk⟩ | ⟨_, h3, h4⟩
  ·rcases CH hj with ⟨k', hk', hSk'⟩ | ⟨_, h3, h4⟩
   ·have := hH.inj2 k k' l l' b hSk hSk' h1 h2
    subst this
    exact P8 ha i j k hk hk'
   ·exact absurd h2 (FN h3 h4)
  ·exact absurd h1 (FN h3 h4)
 ·intro i l hi
  rcases CH hi with ⟨k, hk, hSk⟩ | ⟨_, h3, h4⟩
  ·exact hH.nod k l hSk
  ·rw [h4]; exact ⟨List.nodup_nil, fun b _ => by simp⟩
 ·intro i l b' hb' hi hp
  rcases CH hi with ⟨k, hk, hSk⟩ | ⟨_, h3, h4⟩
  ·rcases hB i b' (EQ.1 hb') with ⟨k', b, h1, h2, h3⟩ | ⟨h1, _⟩
   ·rw [h1] at hk; cases hk
    refine hH.plain _ l b h2 hSk ?_
    cases b <;> cases b' <;> simp_all [FA, Kr]
   ·rw [h1] at hk; cases hk
  ·exact h4
 ·intro i l b hl hi hb'
  cases hbi : As bl i with
  | none => simp [hbi] at hl
  | some b' =>
   rcases hB i b' (EQ.1 hbi) with ⟨k, b0, h1, h2, h3⟩ | ⟨h1, _⟩
   ·have : CV ρ bl S i = S k := by unfold CV; simp only [h1]
    exact hH.mut2 k l b (by rw [h2]; rfl) (by rw [← this]; exact hi) hb'
   ·rcases CH hi with ⟨k, hk, _⟩ | ⟨_, h3, h4⟩
    ·rw [h1] at hk; cases hk
    ·exact absurd hb' (FN h3 h4)
 ·exact hH.os
 ·exact hH.tape
 ·exact hH.output
 ·exact hH.size
 ·exact hH.same
 ·intro b hf
  refine ⟨(hH.far b hf).1, fun i l hi hb' => ?_⟩
  rcases CH hi with ⟨k, _, hk⟩ | ⟨_, h3, h4⟩
  ·exact (hH.far b hf).2 k l hk hb'
  ·exact absurd hb' (FN h3 h4)
 ·intro i hpn
  have hi := hp i hpn
  refine ⟨by have := (List.getElem?_eq_some_iff.1 hi).1; omega, ?_⟩
  have : CV ρ bl S i = S i := by unfold CV; simp only [hi]
  rw [this]
  exact (hH.pin i hpn).2
 ·refine hH.gl_sub fun b h => ?_
  rcases h with h | ⟨i, l, hi, hb'⟩
  ·exact .inl h
  ·rcases CH hi with ⟨k, _, hk⟩ | ⟨_, h3, h4⟩
   ·exact .inr ⟨k, l, hk, hb'⟩
   ·exact absurd hb' (FN h3 h4)

theorem OY {np : Nat} (h : (ρ.take np == (List.range np).map some) = true) : ∀ i, i < np → ρ[i]? = some (some i) := by
 intro i hi
 have h : ρ.take np = (List.range np).map some := by simpa using h
 have h2 : (ρ.take np)[i]? = ((List.range np).map some)[i]? := by rw [h]
 rw [List.getElem?_take, if_pos hi] at h2
 rw [h2, List.getElem?_map, List.getElem?_range hi]; rfl

theorem Oq {np : Nat} (hnp : AU.np = np) (ρ : Ren) {st : St} {fl : List (Nat × AV)} (h : Ju np ρ st fl bl) : Sub E W0 M0 st (Gn fl bl) := by
 obtain ⟨h1, h2, h3⟩ := h
 rw [Bool.and_eq_true] at h1
 rintro a w ⟨S, hH, hF, hM⟩
 have hlen := (Lh h2).1
 refine ⟨CV ρ bl S, hH.ren h1.1 (by rw [hnp]; exact OY h1.2) h2, ⟨hF.size, fun i => ?_⟩, hM.let_, hM.apart, fun hm2 d hd => ?_⟩
 rotate_left
 ·obtain ⟨D, e1, e2, e3, e4⟩ := hM.at_ hm2 d hd
  exact ⟨D, e1, e2, e3, fun h => e4 (Lp h)⟩
 show R w (CV ρ bl S) bl.length (G5 fl i) _
 rw [← hlen]
 exact UA hH h3 i _ (hF.at_ i)

theorem VC.mk {np : Nat} (hnp : AU.np = np) (ρ : Ren) {c : Code} {st : St} {fl : List (Nat × AV)} {K : Exit → St → Prop} (h : Ju np ρ st fl bl) (hc : VC E W0 M0 c (Gn fl bl) K) : VC E W0 M0 c st K := hc.sub (Oq hnp ρ h)
end
end Go.Vc
/- The Vc layer: from a walk of the body to what the function does. -/
set_option linter.all false
namespace Go.Vc
open Go Go.RowKit

def Gp {P : Program} (E : Bo P) (H : Ap) (fr : Nat → AV) : List ResultVar → Option (Prop × List AV)
 | [] => some (True, [])
 | .tmp t :: r => match Gp E H fr r with
  | some (p, cs) => some (Bh (fr t) ∧ p, A4 (fr t) :: cs)
  | none => none
 | .cell a ty :: r => match EN E.X.ty H ty (A4 (fr a)), Gp E H fr r with
  | some (q, c), some (p, cs) => some (Bh (fr a) ∧ q ∧ p, c :: cs)
  | _, _ => none

def Gw : List AV → AV
 | [c] => c
 | cs => .tup cs

def OZ : AV → Bool
 | .any | .d _ | .ip .. => true
 | _ => false
def Kw : AV → Bool
 | .agg cs | .clo _ cs => cs.all OZ
 | c => OZ c
def Pa : AV → Bool
 | .tup cs => cs.all Kw
 | c => Kw c

def Ef : Nat → List AV → List (Nat × AV)
 | _, [] => []
 | k, c :: cs => (k, c) :: Ef (k + 1) cs

theorem Kd : ∀ (cs : List AV) (k i : Nat), G5 (Ef k cs) i = if k ≤ i then (cs[i - k]?).getD .any else .any := by
 intro cs
 induction cs with
 | nil => intro k i; simp [Ef, G5]
 | cons c cs ih =>
  intro k i
  simp only [Ef, G5, ih]
  by_cases hi : i = k
  ·subst hi; simp
  ·rw [if_neg hi]
   by_cases hk : k ≤ i
   ·rw [if_pos (by omega), if_pos hk, show i - k = (i - (k + 1)) + 1 by omega, List.getElem?_cons_succ]
   ·rw [if_neg (by omega), if_neg hk]

def Tk {P : Program} (E : Bo P) (rs : List ResultVar) (r : AV) : Exit → St → Prop := fun e st =>
 (e = .normal ∨ e = .ret) ∧ match Gp E st.H st.fr rs with
  | some (p, cs) => p ∧ mt [] st.H (Gw cs) r
  | none => False

section
variable {P : Program} {w : World} {S S' : Lays} {n n' : Nat}

theorem HC {F F' : AU} (hO : ∀ b, b < w.heap.size → ¬ @own F S b → ¬ @own F' S' b) {c : AV} {v : Value} (hp : OZ c = true) (h : @R F w S n c v) : @R F' w S' n' c v := by
 cases h <;> simp [OZ] at hp
 ·exact .any _
 ·rename_i hx; exact .d (hx.ext (Nat.le_refl _) (fun _ _ _ => rfl) hO)
 ·rename_i sz xs e f b o u hb hO' hc hr
  exact .ip sz xs e f b o u hb (hO b hb hO') hc (fun e f c hh => (hr e f c hh).ext (Nat.le_refl _) (fun _ _ _ => rfl) hO)

theorem HD {F F' : AU} (hO : ∀ b, b < w.heap.size → ¬ @own F S b → ¬ @own F' S' b) {c : AV} {v : Value} (hp : Kw c = true) (h : @R F w S n c v) : @R F' w S' n' c v := by
 unfold Kw at hp
 split at hp
 ·cases h with | agg _ us hl h1 hr =>
  exact .agg _ us hl h1 (fun i c u hc hu => HC hO (List.all_eq_true.1 hp c (List.mem_of_getElem? hc)) (hr i c u hc hu))
 ·cases h with | clo _ _ us hl hr =>
  exact .clo _ _ us hl (fun i c u hc hu => HC hO (List.all_eq_true.1 hp c (List.mem_of_getElem? hc)) (hr i c u hc hu))
 ·exact HC hO hp h

theorem Kx {F F' : AU} (hO : ∀ b, b < w.heap.size → ¬ @own F S b → ¬ @own F' S' b) {c : AV} {v : Value} (hp : Pa c = true) (h : @R F w S n c v) : @R F' w S' n' c v := by
 unfold Pa at hp
 split at hp
 ·cases h with | tup _ us hl hr =>
  exact .tup _ us hl (fun i c u hc hu => HD hO (List.all_eq_true.1 hp c (List.mem_of_getElem? hc)) (hr i c u hc hu))
 ·exact HD hO hp h

def M9 : List Value → Value
 | [v] => v
 | vs => .tuple vs.toArray

def Fl (tmps : Array Value) : ResultVar → Sem Value
 | .tmp t => pure (tmps.getD t undef)
 | .cell a t => do loadVar t (← asAddr (tmps.getD a undef))

theorem U7 {t : TypeId} {u : Value} {w w' : World} {v : Value} (h : (Instr.loadAt t u).run P w = .ok v w') : (do loadVar t (← asAddr u) : Sem Value).run P w = .ok v w' := by
 unfold Instr.loadAt at h
 cases u with
 | pointer a => cases a <;> simp_all [Instr.sureAddr, asAddr]
 | _ => simp_all [Instr.sureAddr, asAddr]

theorem Sz {f : ResultVar → Sem Value} {w : World} : ∀ (rs : List ResultVar) (vs : List Value), rs.length = vs.length → (∀ (i : Nat) (r : ResultVar) (v : Value), rs[i]? = some r → vs[i]? = some v → (f r).run P w = .ok v w) →
  (rs.mapM f).run P w = .ok vs w := by
 intro rs
 induction rs with
 | nil =>
  intro vs hl _
  have : vs = [] := List.eq_nil_of_length_eq_zero hl.symm
  subst this
  simp
 | cons r rs ih =>
  intro vs hl h
  cases vs with
  | nil => cases hl
  | cons v vs =>
   have h1 := h 0 r v rfl rfl
   have h2 := ih vs (by simpa using hl) (fun i r' v' hr hv => h (i + 1) r' v' (by simpa using hr) (by simpa using hv))
   simp only [List.mapM_cons, Sem.run_bind, h1, Result.andThen_ok, h2, Sem.run_pure]

theorem FQ {fn : Func} {tmps : Array Value} {vs : List Value} {w : World} (hl : fn.results.toList.length = vs.length) (h : ∀ (i : Nat) (r : ResultVar) (v : Value), fn.results.toList[i]? = some r → vs[i]? = some v → (Fl tmps r).run P w = .ok v w) :
  (results fn tmps).run P w = .ok (M9 vs) w := by
 have hm := Sz (P := P) (w := w) fn.results.toList vs hl h
 have e : (fn.results.mapM (Fl tmps)) = (do let l ← fn.results.toList.mapM (Fl tmps); pure l.toArray : Sem (Array Value)) := by
  rw [Array.mapM_eq_mapM_toList, map_eq_pure_bind]
 have hr : results fn tmps = (do let vs ← fn.results.mapM (Fl tmps); pure (if h : vs.size = 1 then vs[0] else .tuple vs) : Sem Value) := by
  unfold results Fl
  rfl
 rw [hr, e]
 simp only [Sem.run_bind, hm, Result.andThen_ok, Sem.run_pure]
 congr 1
 match vs with
 | [] => rfl
 | [v] => rfl
 | v :: u :: vs => simp [M9]

variable [AU] {E : Bo P} {W0 : World} {M0 : Nat → Prop} {H : Ap}

theorem Lu (hH : Ag W0 M0 H n w S) {fr : Nat → AV} {tmps : Array Value} (hF : ∀ i, R w S n (fr i) (tmps.getD i undef)) : ∀ {rs : List ResultVar} {p : Prop} {cs : List AV}, Gp E H fr rs = some (p, cs) → p →
  ∃ vs : List Value, rs.length = vs.length ∧ cs.length = vs.length ∧ (∀ (i : Nat) (r : ResultVar) (v : Value), rs[i]? = some r → vs[i]? = some v → (Fl tmps r).run P w = .ok v w) ∧
   ∀ (i : Nat) (c : AV) (v : Value), cs[i]? = some c → vs[i]? = some v → R w S n c v := by
 intro rs
 induction rs with
 | nil =>
  intro p cs h _
  simp only [Gp, Option.some.injEq, Prod.mk.injEq] at h
  obtain ⟨_, rfl⟩ := h
  exact ⟨[], rfl, rfl, fun i r v h => by simp at h, fun i r v h => by simp at h⟩
 | cons r rs ih =>
  intro p cs h hp
  have fin : ∀ {q : Prop} {c : AV} {cs' : List AV} {v : Value}, Gp E H fr rs = some (q, cs') → q → cs = c :: cs' → (Fl tmps r).run P w = .ok v w → R w S n c v →
    ∃ vs : List Value, (r :: rs).length = vs.length ∧ cs.length = vs.length ∧ (∀ (i : Nat) (r' : ResultVar) (v : Value), (r :: rs)[i]? = some r' → vs[i]? = some v → (Fl tmps r').run P w = .ok v w) ∧
     ∀ (i : Nat) (c : AV) (v : Value), cs[i]? = some c → vs[i]? = some v → R w S n c v := by
   rintro q c cs' v h1 hq rfl h2 h3
   obtain ⟨vs, e1, e2, e3, e4⟩ := ih h1 hq
   refine ⟨v :: vs, by simp [e1], by simp [e2], fun i r' v' hr hv => ?_, fun i c' v' hc hv => ?_⟩
   ·cases i with
    | zero => simp at hr hv; subst hr hv; exact h2
    | succ i => exact e3 i r' v' (by simpa using hr) (by simpa using hv)
   ·cases i with
    | zero => simp at hc hv; subst hc hv; exact h3
    | succ i => exact e4 i c' v' (by simpa using hc) (by simpa using hv)
  cases r with
  | tmp t =>
   simp only [Gp] at h
   split at h
   ·rename_i q cs' hq
    simp only [Option.some.injEq, Prod.mk.injEq] at h
    obtain ⟨rfl, rfl⟩ := h
    exact fin hq hp.2 rfl (by simp [Fl]) ((hF t).bare_of hp.1)
   ·cases h
  | cell b ty =>
   simp only [Gp] at h
   split at h
   ·rename_i q c p' cs' hl hq
    simp only [Option.some.injEq, Prod.mk.injEq] at h
    obtain ⟨rfl, rfl⟩ := h
    obtain ⟨v, hrun, hR⟩ := IA hH hl hp.2.1 ((hF b).bare_of hp.1)
    refine fin hq hp.2.2 rfl ?_ hR
    exact U7 hrun
   ·cases h
end

/-! ### the marks at the way out -/
section
variable {w w' : World} {S : Lays} {n : Nat}

def F1 (w w' : World) : Prop := w.heap.size = w'.heap.size ∧ ∀ (b : Nat) (cur : Array Value) (t : TypeId) (z : Nat × Nat), w.heap[b]? = some (.cells cur t z) → w'.heap[b]? = some (.cells cur t z)

theorem F1.cell (h : F1 w w') {a : Addr} {u : Value} (hc : w.cell? a = some u) : w'.cell? a = some u := by
 unfold World.cell? at *
 cases ho : w.heap[a.block]? with
 | none => rw [ho] at hc; cases hc
 | some o =>
  rw [ho] at hc
  cases o <;> first | (rw [h.2 _ _ _ _ ho]; exact hc) | cases hc

theorem F1.rd (h : F1 w w') {O : Nat → Prop} {d : D} {v : Value} (hr : RD w O d v) : RD w' O d v := by
 induction hr with
 | bool b => exact .bool b
 | int k n => exact .int k n
 | str s => exact .str s
 | sl0 a cap => exact .sl0 a cap
 | nils => exact .nils
 | sl xs sz b o cap u hl hb hO' hz hc _ ih => exact .sl xs sz b o cap u hl (h.1 ▸ hb) hO' hz (fun e f c hh => h.cell (hc e f c hh)) ih
 | nilp => exact .nilp
 | raw v h1 => exact .raw v h1
 | ifc0 => exact .ifc0
 | ifc1 t p => exact .ifc1 t p
 | ptr cs b o u hb hO' hc _ ih => exact .ptr cs b o u (h.1 ▸ hb) hO' (fun f c hh => h.cell (hc f c hh)) ih

variable [AU]

theorem F1.r (h : F1 w w') {c : AV} {v : Value} (hr : R w S n c v) : R w' S n c v := by
 induction hr with
 | any v => exact .any v
 | d hx => exact .d (h.rd hx)
 | ip sz xs e f b o u hb hO hc hr => exact .ip sz xs e f b o u (h.1 ▸ hb) hO (fun e f c hh => h.cell (hc e f c hh)) (fun e f c hh => h.rd (hr e f c hh))
 | slDead id off len v hn hS => exact .slDead id off len v hn hS
 | sl id off len o l hn hS hc ho h0 => exact .sl id off len o l hn hS hc ho h0
 | ptrDead id e f v hn hS => exact .ptrDead id e f v hn hS
 | ptr id e f b l hn hS hb => exact .ptr id e f b l hn hS hb
 | mpDead id v hn hS => exact .mpDead id v hn hS
 | mp id l hn hS => exact .mp id l hn hS
 | agg cs us hl h1 _ ih => exact .agg cs us hl h1 ih
 | tup cs us hl _ ih => exact .tup cs us hl ih
 | clo fn cs us hl _ ih => exact .clo fn cs us hl ih
 | cond b c v _ hu ih => exact .cond b c v ih hu

theorem F1.box (h : F1 w w') {b : Bk} {l : Lay} (hl : ∀ b, l.has b → w'.heap[b]? = w.heap[b]?) (hb : Bx w S n b l) : Bx w' S n b l := by
 cases b with
 | vec ty sz xs =>
  obtain ⟨h1, h2, h3, h4, h5, h6⟩ := hb
  refine ⟨h1, h2, h3, h4, h5, fun b hb => ?_⟩
  obtain ⟨cur, e1, e2, e3⟩ := h6 b hb
  exact ⟨cur, h.2 _ _ _ _ e1, e2, fun e f c hh => by obtain ⟨u, e4, e5⟩ := e3 e f c hh; exact ⟨u, e4, h.rd e5⟩⟩
 | one ty cells =>
  obtain ⟨h1, h2, b, hb, cur, e1, e2, e3⟩ := hb
  exact ⟨h1, h2, b, hb, cur, h.2 _ _ _ _ e1, e2, fun f c hh => by obtain ⟨u, e4, e5, e6⟩ := e3 f c hh; exact ⟨u, e4, e5, h.r e6⟩⟩
 | ob o => exact o.ext hb (Nat.le_of_eq h.1) (fun b cur t z _ hb => h.2 _ _ _ _ hb) (fun _ _ h => h) hl

theorem Ag.shut {W0 : World} {M0 : Nat → Prop} {H : Ap} (hH : Ag W0 M0 H n w S) (h : F1 w w') (ho' : ∀ b, own S b → w'.heap[b]? = w.heap[b]?) (hs : ∀ b, b < W0.heap.size → w'.heap[b]? = w.heap[b]?) (ho : w'.os = w.os) (ht : w'.tape = w.tape) (hp : w'.output = w.output) :
  Ag W0 M0 H n w' S := by
 constructor
 ·exact hH.bnd
 ·intro i l b h1 h2; rw [← h.1]; exact hH.lt2 i l b h1 h2
 ·intro id b hb
  obtain ⟨l, hl, hbox⟩ := hH.box id b hb
  exact ⟨l, hl, h.box (fun b hb => ho' b (.inr ⟨_, l, hl, hb⟩)) hbox⟩
 ·exact hH.inj2
 ·exact hH.nod
 ·exact hH.plain
 ·exact hH.mut2
 ·exact ho.trans hH.os
 ·exact ht.trans hH.tape
 ·exact hp.trans hH.output
 ·rw [← h.1]; exact hH.size
 ·intro b hb hM; rw [hs b hb]; exact hH.same b hb hM
 ·exact hH.far
 ·exact hH.pin
 ·intro p hp
  obtain ⟨cur, t, z, h1, h2⟩ := (hH.gl p hp).all
  exact ⟨h.rd (hH.gl p hp).rd, cur, t, z, h.2 _ _ _ _ h1, h2⟩

theorem KO {D : Nat} {x : Option (List Deferred)} {o : Obj} (hD : w.heap[D]? = some (.deferred x)) : F1 w (w.putObj D o) := by
 refine ⟨by simp, fun b cur t z hb => ?_⟩
 rw [World.putObj_heap_other (fun e => ?_)]
 ·exact hb
 ·subst e; rw [hD] at hb; cases hb

theorem HN {P : Program} {fn : Func} {tmps : Array Value} {Rr : Ending → World → Prop} {W0 : World} {M0 : Nat → Prop} {H : Ap} {fr : Nat → AV} : ∀ (ds : List Deferred) (w : World), Ag W0 M0 H n w S → (∀ i, R w S n (fr i) (tmps.getD i undef)) → ds.Pairwise (fun d e => d.target ≠ e.target) → (∀ d ∈ ds, ∃ D, d.target = .collected D ∧ W0.heap.size ≤ D ∧ w.heap[D]? = some (.deferred (some [])) ∧ ¬ own S D) →
  (∀ w', Ag W0 M0 H n w' S → (∀ i, R w' S n (fr i) (tmps.getD i undef)) → ∃ v, (results fn tmps).run P w' = .ok v w' ∧ Rr (.returned v) w') → LeavesInM Fence.wide 0 P fn tmps Rr ds .returning w := by
 intro ds
 induction ds with
 | nil => intro w hH hR _ _ h; exact h w hH hR
 | cons d ds ih =>
  intro w hH hR hMa hM h
  obtain ⟨D, e1, e2, e3, e4⟩ := hM d List.mem_cons_self
  refine ⟨by simp, .inl ⟨D, _, e1, run_takeDeferred e3, ?_⟩⟩
  have hc : F1 w (w.putObj D (.deferred none)) := KO e3
  refine ih _ (hH.shut hc (fun b hb => World.putObj_heap_other (fun e => e4 (e ▸ hb))) (fun b hb => World.putObj_heap_other (by omega)) rfl rfl rfl) (fun i => hc.r (hR i)) (List.pairwise_cons.1 hMa).2 (fun e he => ?_) h
  obtain ⟨D', f1, f2, f3, f4⟩ := hM e (List.mem_cons_of_mem _ he)
  have hne : D' ≠ D := fun hD => by
   have := (List.pairwise_cons.1 hMa).1 e he
   rw [e1, f1, hD] at this
   exact this rfl
  exact ⟨D', f1, f2, (World.putObj_heap_other hne).trans f3, f4⟩
end

/-! ### a function's contract -/
section
variable {P : Program}

def pick (ds : List Nat) (S : Lays) : Lays := fun j => match ds[j]? with
 | some d => S d
 | none => none

@[reducible] def A1 (F : AU) (w : World) (S : Lays) (hlt : ∀ b, @own F S b → b < w.heap.size) (ds : List Nat) : AU where
 F := fun b => @own F S b ∧ ∀ j l, pick ds S j = some l → ¬ l.has b
 nev := fun b => b < w.heap.size ∧ ∀ j l, pick ds S j = some l → ¬ l.has b
 sub := fun b h => ⟨hlt b h.1, h.2⟩
 pin := pick ds S
 np := ds.length
 marks := true
 mx := F.mx

theorem Lo {F : AU} {W0 : World} {M0 : Nat → Prop} {H : Ap} {n : Nat} {w : World} {S : Lays} (hH : Ag W0 M0 H n w S) : ∀ b, @own F S b → b < w.heap.size := by
 rintro b (h | ⟨i, l, h1, h2⟩)
 ·have := (hH.far b (AU.sub b h)).1
  have := hH.size
  omega
 ·exact hH.lt2 i l b h1 h2

theorem Ce {ds : List Nat} {S : Lays} {j : Nat} {l : Lay} (h : pick ds S j = some l) : ∃ d, ds[j]? = some d ∧ S d = some l := by
 unfold pick at h
 split at h
 ·rename_i d hd; exact ⟨d, hd, h⟩
 ·cases h

theorem DE {F : AU} {w : World} {S : Lays} {hlt : ∀ b, @own F S b → b < w.heap.size} {ds : List Nat} {b : Nat} (h : @own (A1 F w S hlt ds) (pick ds S) b) : @own F S b := by
 rcases h with h | ⟨i, l, h1, h2⟩
 ·exact h.1
 ·obtain ⟨d, _, h3⟩ := Ce h1
  exact .inr ⟨d, l, h3, h2⟩

theorem Kc {vs : List Value} {N i : Nat} (hN : vs.length ≤ N) : (vs.toArray ++ Array.replicate (N - vs.toArray.size) undef).getD i undef = (vs[i]?).getD undef := by
 rw [Array.getD_eq_getD_getElem?, Array.getElem?_append]
 by_cases h : i < vs.length
 ·rw [if_pos (by simpa using h)]; simp
 ·rw [if_neg (by simpa using h), List.getElem?_eq_none (by omega)]
  simp [Array.getElem?_replicate]
  split <;> rfl

theorem NR (E : Bo P) {f : FuncId} {fn : Func} {c : Code} {sp : Spec} (hf : P.funcs[f]? = some fn) (hb : fn.body = some c) (hN : fn.ntmps = E.N) (hρ : E.ρ = none)
  (h : ∀ args H n p r o, sp.run args H n = some (p, r, o) → p → o = none ∧ args.all Kw = true ∧ Pa r = true ∧ args.length ≤ E.N ∧
   ∀ [AU] (W0 : World), AU.np = 0 → AU.marks = true → VC E W0 (fun _ => False) c (Gn (Ef 0 args) []) (Tk E fn.results.toList r)) : A5 P f sp := by
 intro args H n p r o hrun hp F w S vs hH hl hr
 obtain ⟨rfl, hpa, hpr, hla, hvc⟩ := h args H n p r o hrun hp
 have hlt : ∀ b, @own F S b → b < w.heap.size := Lo hH
 have hvc := @hvc (A1 F w S hlt []) w rfl rfl
 have h0 : @Ag (A1 F w S hlt []) w (fun _ => False) (As []) 0 w (pick [] S) := by
  refine @Ag.mk (A1 F w S hlt []) _ _ _ _ _ _ (fun _ _ => rfl) (fun i l b h => by cases h) (fun id b h => by cases h) (fun i j l l' b h => by cases h) (fun i l h => by cases h) (fun i l b h => by cases h) (fun i l b h => by cases h) rfl rfl rfl (Nat.le_refl _) (fun _ _ _ => rfl) (fun b hb => ⟨hb.1, fun i l h => by cases h⟩) (fun i h => absurd h (Nat.not_lt_zero i)) (fun p hp => (hH.gl p hp).ext (Nat.le_refl _) (fun _ _ _ => rfl) (fun b _ hb h => hb (DE h)))
 refine callsIn_wide.1 (callsIn_of_wp_marks (n := 0) hf hb trivial ?_)
 have hsim : @KF (A1 F w S hlt []) w (fun _ => False) E.N (Gn (Ef 0 args) []) { tmps := vs.toArray ++ Array.replicate (fn.ntmps - vs.toArray.size) undef, defers := [] } w := by
  refine ⟨pick [] S, h0, @Gk.mk (A1 F w S hlt []) _ _ _ _ _ _ ?_ fun i => ?_, @E4.nil (A1 F w S hlt []) _ _ _ (fun h => by cases h)⟩
  ·simp only [Array.size_append, Array.size_replicate, List.size_toArray, hN]; omega
  ·show @R (A1 F w S hlt []) w (pick [] S) 0 (G5 (Ef 0 args) i) _
   rw [Kd, if_pos (by omega), Nat.sub_zero, Kc (by omega)]
   cases hi : args[i]? with
   | none => exact @R.any (A1 F w S hlt []) _ _ _ _
   | some c =>
    have hlt' : i < args.length := (List.getElem?_eq_some_iff.1 hi).1
    have hv : vs[i]? = some (vs[i]'(by omega)) := List.getElem?_eq_getElem _
    rw [hv]
    exact HD (fun b _ hb h => hb (DE h)) (List.all_eq_true.1 hpa c (List.mem_of_getElem? hi)) (hr i c _ hi hv)
 have hvc2 := hvc _ w hsim
 rw [show Ma E.ρ = Fence.wide by rw [hρ]; rfl] at hvc2
 refine wpIn_mono hvc2 ?_
 rintro e a' w' ⟨st, ⟨he, hst⟩, S1, hH1, hF1, hM1⟩
 have go : LeavesInM Fence.wide 0 P fn a'.tmps (fun e w' => ∃ v S', e = .returned v ∧ Left H n w S H n w' S' ∧ ((none : Option (Ap × Nat)) = none → S' = S ∧ ∀ b, b < w.heap.size → w'.heap[b]? = w.heap[b]?) ∧ R w' S' n r v) a'.defers .returning w' := by
  refine @HN _ _ (A1 F w S hlt []) _ _ _ _ _ _ _ _ a'.defers w' hH1 (@Gk.at_ (A1 F w S hlt []) _ _ _ _ _ _ hF1) (@E4.apart (A1 F w S hlt []) _ _ _ _ hM1 rfl) (@E4.at_ (A1 F w S hlt []) _ _ _ _ hM1 rfl) (fun w' hH1 hF1 => ?_)
  split at hst
  ·rename_i q cs hres
   obtain ⟨hq, hmt⟩ := hst
   obtain ⟨us, e1, e2, e3, e4⟩ := @Lu P w' S1 st.n (A1 F w S hlt []) E w (fun _ => False) st.H hH1 st.fr a'.tmps hF1 _ _ _ hres hq
   have hpk : @R (A1 F w S hlt []) w' S1 st.n (Gw cs) (M9 us) := by
    match us, cs, e2, e4 with
    | [], [], _, _ => exact @R.tup (A1 F w S hlt []) _ _ _ [] [] rfl (fun i c u h => by simp at h)
    | [v], [c], _, e4 => exact e4 0 c v rfl rfl
    | v :: u :: us, c :: d :: cs, e2, e4 => exact @R.tup (A1 F w S hlt []) _ _ _ (c :: d :: cs) (v :: u :: us) e2.symm (fun i c' u' hc hu => e4 i c' u' hc hu)
   have hout := @OT (A1 F w S hlt []) w' S1 st.n w (fun _ => False) st.H [] [] hH1 _ _ hmt _ hpk
   have hsame : ∀ b, b < w.heap.size → w'.heap[b]? = w.heap[b]? := fun b hb => @Ag.same (A1 F w S hlt []) _ _ _ _ _ _ hH1 b hb (fun h => h)
   have hE : @BS F w S n w' S n := @BS.mk F _ _ _ _ _ _ (Nat.le_refl _) (@Ag.size (A1 F w S hlt []) _ _ _ _ _ _ hH1) (fun _ _ => .inl rfl) (fun _ _ h => h) (fun b hb _ => hsame b hb)
   refine ⟨_, FQ e1 e3, _, S, rfl, ⟨?_, hE, fun _ _ _ => rfl, fun id hid _ => hH.bnd id hid⟩, fun _ => ⟨rfl, hsame⟩, ?_⟩
   ·refine @Ag.mk F _ _ _ _ _ _ hH.bnd (fun i l b h1 h2 => Nat.lt_of_lt_of_le (hH.lt2 i l b h1 h2) hE.size) (fun id b hb => ?_) hH.inj2 hH.nod hH.plain hH.mut2 (@Ag.os (A1 F w S hlt []) _ _ _ _ _ _ hH1) (@Ag.tape (A1 F w S hlt []) _ _ _ _ _ _ hH1) (@Ag.output (A1 F w S hlt []) _ _ _ _ _ _ hH1) hE.size (fun b hb _ => hsame b hb) hH.far hH.pin (hH.glx hE)
    obtain ⟨l, hl, hbox⟩ := hH.box id b hb
    exact ⟨l, hl, hbox.ext hE (fun k hk => hsame k (hH.lt2 id l k hl hk))⟩
   ·refine Kx (fun b hb hno h => hno (Or.inl (show @AU.F (A1 F w S hlt []) b from ⟨h, fun j l hj => by cases hj⟩))) hpr hout
  ·exact hst.elim
 rcases he with rfl | rfl
 ·exact go
 ·exact go
end
end Go.Vc
/- The Vc layer: tables, environments, the walk's rewriting rules. -/
set_option linter.all false
namespace Go.Vc
open Go Go.RowKit

def K5.ofTab {P : Program} (tab : List (Nat × TI)) (h : tab.all (fun p => X5 P p.1 p.2) = true) : K5 P where
 ty := fun t => tab.lookup t
 ok := by
  intro t ti ht
  have : (t, ti) ∈ tab := by
   clear h
   induction tab with
   | nil => simp at ht
   | cons q r ih =>
    obtain ⟨u, x⟩ := q
    rw [List.lookup_cons] at ht
    split at ht
    ·rename_i he
     simp only [Option.some.injEq] at ht
     subst ht
     have : t = u := by simpa using he
     subst this
     exact List.mem_cons_self
    ·exact List.mem_cons_of_mem _ (ih ht)
  exact List.all_eq_true.1 h _ this

section
variable {P : Program}

def Bo.empty (X : K5 P) : Bo P := ⟨X, 0, none, fun _ => none, fun f sp h => (by cases h), fun f sp h => (by cases h)⟩

def Bo.add (E : Bo P) (f : FuncId) (sp : Spec) (hm : A5 P f sp) (he : IU P f = true) : Bo P where
 X := E.X
 N := E.N
 ρ := E.ρ
 Γ := fun g => if g = f then some sp else E.Γ g
 ok := by
  intro g sp' h
  split at h
  ·rename_i hg; subst hg; cases h; exact hm
  ·exact E.ok g sp' h
 ent := by
  intro g sp' h
  split at h
  ·rename_i hg; subst hg; exact he
  ·exact E.ent g sp' h

def Bo.at_ (E : Bo P) (N : Nat) : Bo P := ⟨E.X, N, E.ρ, E.Γ, E.ok, E.ent⟩

def Spec.pure (g : List AV → Option (Prop × AV)) : Spec := ⟨fun _ _ => [], fun args _ _ => match g args with
 | some (p, r) => some (p, r, none)
 | none => none⟩

theorem A7 (E : Bo P) {f : FuncId} {fn : Func} {c : Code} {g : List AV → Option (Prop × AV)} (hf : P.funcs[f]? = some fn) (hb : fn.body = some c) (hN : fn.ntmps = E.N) (hρ : E.ρ = none)
  (h : ∀ args p r, g args = some (p, r) → p → (args.all Kw && Pa r && decide (args.length ≤ E.N)) = true ∧
   ∀ [AU] (W0 : World), AU.np = 0 → AU.marks = true → VC E W0 (fun _ => False) c (Gn (Ef 0 args) []) (Tk E fn.results.toList r)) : A5 P f (Spec.pure g) := by
 refine NR E hf hb hN hρ fun args H n p r o hrun hp => ?_
 simp only [Spec.pure] at hrun
 split at hrun
 ·rename_i p' r' hg
  simp only [Option.some.injEq, Prod.mk.injEq] at hrun
  obtain ⟨rfl, rfl, rfl⟩ := hrun
  obtain ⟨h1, h2⟩ := h args p' r' hg hp
  simp only [Bool.and_eq_true, decide_eq_true_eq] at h1
  exact ⟨rfl, h1.1.1, h1.1.2, h1.2, h2⟩
 ·cases hrun

theorem Calm.nil (E : Bo P) : Calm E [] := fun f sp h => (by cases h)

theorem HM (ops : Array Oper) (fr : Nat → AV) : AP ops fr none = some none := rfl
end
end Go.Vc
