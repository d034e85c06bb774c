/- The Vc layer, part 2. -/
import Derived.Test.YtmbjnkgpcbpclaaGreatV1
import Derived.OrdersIn
import Derived.LoopNIn
import Derived.RangeFuncCalls
import Derived.Scope
import Derived.RangeFuncLeaves
/- The Vc layer: specifications of functions, and calls. -/
set_option linter.all false
namespace Go.Vc
open Go Go.RowKit
structure Spec where
 dom : List AV → Av → List Nat
 run : List AV → Av → Nat → Option (Prop × AV × Option (Av × Nat))
def Cb {α : Type} (D : List Nat) (f : Nat → Option α) : Nat → Option α := fun i => if i ∈ D then f i else none
def Ed {α : Type} (D : List Nat) (n : Nat) (f g : Nat → Option α) : Nat → Option α := fun i => if i ∈ D ∨ n ≤ i then g i else f i
def B6 {α : Type} (B : List Nat) (f : Nat → Option α) : Nat → Option α := fun i => if i ∈ B then none else f i
def Gq (H : Av) (S : Lays) (b : Nat) : Prop := ∃ i l, (H i).isSome = true ∧ S i = some l ∧ l.has b
variable [Bl] in
structure Left (H : Av) (n : Nat) (w : World) (S : Lays) (H' : Av) (n' : Nat) (w' : World) (S' : Lays) : Prop where
 heap : Ai w (Gq H S) H' n' w' S'
 ext : Cu w S n w' S' n'
 far : ∀ id, id < n → H id = none → S' id = S id
 new : ∀ id, n ≤ id → H' id = none → S' id = none
def A5 (P : Program) (f : FuncId) (sp : Spec) : Prop :=
 ∀ (args : List AV) (H : Av) (n : Nat) (p : Prop) (r : AV) (o : Option (Av × Nat)), sp.run args H n = some (p, r, o) → p →
  ∀ [Bl] (w : World) (S : Lays) (vs : List Value), Ai w (Gq H S) H n w S → vs.length = args.length → (∀ (i : Nat) (c : AV) (u : Value), args[i]? = some c → vs[i]? = some u → R w S n c u) →
   Calls P f vs.toArray w fun e w' => ∃ v S', e = .returned v ∧ Left H n w S (o.getD (H, n)).1 (o.getD (H, n)).2 w' S' ∧ (o = none → S' = S ∧ ∀ b, b < w.heap.size → w'.heap[b]? = w.heap[b]?) ∧ R w' S' (o.getD (H, n)).2 r v
def Kg (P : Program) (f : FuncId) : Bool :=
 match P.funcs[f]? with
 | some fn => fn.name != "runtime.NumGoroutine" && fn.body.isSome
 | none => false
theorem Fr {P : Program} {f : FuncId} (h : Kg P f = true) (args : Array Value) (w : World) : (callFunc f args).run P w = .ok (.enter f args) w := by
 unfold Kg at h
 split at h
 ·rename_i fn hf
  simp only [Bool.and_eq_true, bne_iff_ne, ne_eq] at h
  have hb : fn.body ≠ none := by intro e; rw [e] at h; simp at h
  simp [callFunc, hf, h.1, hb]
 ·cases h
structure Bq (P : Program) where
 X : LR P
 N : Nat
 ρ : Option Nat
 Γ : FuncId → Option Spec
 ok : ∀ f sp, Γ f = some sp → A5 P f sp
 ent : ∀ f sp, Γ f = some sp → Kg P f = true
variable [Bl]
/-! ### arguments -/
def EV (H : Av) (D : List Nat) : AV → Option (Prop × AV × List Nat)
 | .d x => some (True, .d (Bi x), [])
 | .sl id off len => if id ∈ D then some (True, .sl id off len, []) else match H id with
  | some (.vec _ _ xs) => some (off + len ≤ xs.length, .d (.sl ((xs.drop off).take len)), [id])
  | _ => none
 | .ptr id e f => if id ∈ D then some (True, .ptr id e f, []) else match H id with
  | some (.one _ cells) => match CK cells with
   | some ds => some (e = 0 ∧ f = 0, .d (.ptr ds), [id])
   | none => none
  | _ => none
 | .ip sz xs e f => some (True, .ip sz xs e f, [])
 | .mp id => if id ∈ D then some (True, .mp id, []) else none
 | _ => none
def FA (H : Av) (D : List Nat) : List AV → Option (Prop × List AV × List Nat)
 | [] => some (True, [], [])
 | c :: cs => match EV H D c with
  | some (p, c', B) => match FA H D cs with
   | some (q, cs', B') => some (p ∧ q, c' :: cs', B ++ B')
   | none => none
  | none => none
def FQ (H : Av) (D : List Nat) : AV → Option (Prop × AV × List Nat)
 | .agg cs => match FA H D cs with
  | some (p, cs', B) => some (p, .agg cs', B)
  | none => none
 | .clo fn cs => match FA H D cs with
  | some (p, cs', B) => some (p, .clo fn cs', B)
  | none => none
 | .d x => EV H D (.d x)
 | .sl id off len => EV H D (.sl id off len)
 | .ptr id e f => EV H D (.ptr id e f)
 | .ip sz xs e f => EV H D (.ip sz xs e f)
 | .mp id => EV H D (.mp id)
 | _ => none
def D9 (H : Av) (D : List Nat) : List AV → Option (Prop × List AV × List Nat)
 | [] => some (True, [], [])
 | c :: cs => match FQ H D c with
  | some (p, c', B) => match D9 H D cs with
   | some (q, cs', B') => some (p ∧ q, c' :: cs', B ++ B')
   | none => none
  | none => none
/-! ### results that hold no memory -/
def ZI : D → Bool
 | .bool _ | .int _ _ | .str _ | .nils | .nilp | .ifc _ => true
 | _ => false
def Tw : AV → Bool
 | .d x => ZI x
 | .any => true
 | _ => false
def TO : AV → Bool
 | .agg cs => cs.all Tw
 | .d x => ZI x
 | .any => true
 | _ => false
def Tx : AV → Bool
 | .tup vs => vs.all TO
 | .agg cs => cs.all Tw
 | .d x => ZI x
 | .any => true
 | _ => false
section
variable {P : Program} {X : LR P} {w w' : World} {S : Lays} {n : Nat} {W0 : World} {M0 : Nat → Prop} {H : Av}
theorem IJ (B : List Nat) : Cu w S n w (B6 B S) n := by
 refine ⟨Nat.le_refl _, Nat.le_refl _, fun i _ => ?_, fun c _ hO => ?_, fun _ _ _ => rfl⟩
 ·unfold B6; split
  ·exact .inr rfl
  ·exact .inl rfl
 ·rintro (hf | ⟨i, l, h1, h2⟩)
  ·exact hO (.inl hf)
  unfold B6 at h1
  split at h1
  ·cases h1
  ·exact hO (.inr ⟨i, l, h1, h2⟩)
theorem Cf {B : List Nat} {i : Nat} {l : Lay} (h : B6 B S i = some l) : i ∉ B ∧ S i = some l := by
 unfold B6 at h
 split at h
 ·cases h
 ·exact ⟨by assumption, h⟩
theorem Hk (hH : Ai W0 M0 H n w S) {id : Nat} {l : Lay} {b : Nat} {B : List Nat} (hS : S id = some l) (hb : l.blk = some b) (hB : id ∈ B) : ¬ own (B6 B S) b := by
 rintro (hf | ⟨i, l', h1, h2⟩)
 ·exact (hH.far b (Bl.sub b hf)).2 id l hS (.inl hb)
 obtain ⟨h3, h4⟩ := Cf h1
 exact h3 (by rw [hH.inj2 i id l' l b h4 hS h2 (.inl hb)]; exact hB)
theorem OH (hH : Ai W0 M0 H n w S) {D B0 : List Nat} {c c' : AV} {p : Prop} {B : List Nat} (h : EV H D c = some (p, c', B)) (hp : p) (hB : ∀ i ∈ B, i ∈ B0) {v : Value} (hv : R w S n c v) : R w (B6 B0 S) n c' v := by
 have hE : Cu w S n w (B6 B0 S) n := IJ B0
 unfold EV at h
 split at h
 ·simp only [Option.some.injEq, Prod.mk.injEq] at h
  obtain ⟨_, rfl, _⟩ := h
  cases hv with | d hx => exact .d (hE.rd hx).clean
 ·rename_i id off len
  split at h
  ·simp only [Option.some.injEq, Prod.mk.injEq] at h
   obtain ⟨_, rfl, _⟩ := h
   exact hE.r hv
  ·split at h
   ·rename_i ty sz xs hb
    simp only [Option.some.injEq, Prod.mk.injEq] at h
    obtain ⟨rfl, rfl, rfl⟩ := h
    obtain ⟨l, o, hS, ⟨hsz, _, _, hz, hnil, hbk⟩, rfl, hcap, ho, h0⟩ := hv.sl_live hH hb
    have hlen : ((xs.drop off).take len).length = len := by rw [List.length_take, List.length_drop]; omega
    by_cases hl0 : len = 0
    ·subst hl0; rw [List.take_zero]; exact .d (.sl0 _ _)
    ·cases hk : l.blk with
     | none => have := hnil hk; omega
     | some b =>
      obtain ⟨cur, hcur, hsize, hcell⟩ := hbk b hk
      have hpt : ∀ e f c, D4 ((xs.drop off).take len) e f = some c → ∃ u, w.cell? ⟨b, o + e * sz + f, none⟩ = some u ∧ RD w (own (B6 B0 S)) c u := fun e f c hh => by
       obtain ⟨u, hu', hr⟩ := hcell _ _ _ (CF hh)
       refine ⟨u, ?_, hE.rd hr⟩
       rw [cell_of_row w b _ cur _ (0, 0) hcur, ho (by omega), hsz, show off * sz + e * sz + f = (off + e) * sz + f by rw [Nat.add_mul]]
       exact hu'
      have := RD.sl (w := w) (O := own (B6 B0 S)) ((xs.drop off).take len) sz b o (l.cap - off) (fun e f => (w.cell? ⟨b, o + e * sz + f, none⟩).getD undef) (by omega) (Array.getElem?_eq_some_iff.1 hcur).1 (Hk hH hS hk (hB id (by simp)))
       (fun x hx => hz x (List.mem_of_mem_drop (List.mem_of_mem_take hx))) (fun e f c hh => by obtain ⟨u, hu, _⟩ := hpt e f c hh; rw [hu]; rfl) (fun e f c hh => by obtain ⟨u, hu, hr⟩ := hpt e f c hh; rw [hu]; exact hr)
      rw [hlen] at this
      exact .d this
   ·cases h
 ·rename_i id e f
  split at h
  ·simp only [Option.some.injEq, Prod.mk.injEq] at h
   obtain ⟨_, rfl, _⟩ := h
   exact hE.r hv
  ·split at h
   ·rename_i ty cells hb
    split at h
    ·rename_i ds hds
     simp only [Option.some.injEq, Prod.mk.injEq] at h
     obtain ⟨rfl, rfl, rfl⟩ := h
     obtain ⟨rfl, rfl⟩ := hp
     obtain ⟨l, k, hS, ⟨hsz, hcap, k', hk', cur, hcur, hsize, hcell⟩, hk, rfl⟩ := hv.ptr_live hH hb
     rw [hk] at hk'; cases hk'
     obtain ⟨hdl, hdd⟩ := K4 hds
     have hpt : ∀ f c, ds[f]? = some c → ∃ u, w.cell? ⟨k, 0 + f, none⟩ = some u ∧ RD w (own (B6 B0 S)) c u := fun f c hf => by
      have hlt : f < cells.length := by have := (List.getElem?_eq_some_iff.1 hf).1; omega
      obtain ⟨d, x, h1, h2, h3⟩ := hdd f _ (List.getElem?_eq_getElem hlt)
      rw [hf] at h1; cases h1
      obtain ⟨u, hu', _, hr⟩ := hcell f _ (List.getElem?_eq_getElem hlt)
      rw [h2] at hr
      cases hr with | d hr =>
      refine ⟨u, ?_, h3 ▸ (hE.rd hr).clean⟩
      rw [cell_of_row w k _ cur _ (0, 0) hcur, Nat.zero_add]; exact hu'
     rw [Nat.zero_mul, Nat.zero_add]
     exact .d (.ptr ds k 0 (fun f => (w.cell? ⟨k, 0 + f, none⟩).getD undef) (Array.getElem?_eq_some_iff.1 hcur).1 (Hk hH hS hk (hB id (by simp)))
      (fun f c hh => by obtain ⟨u, hu, _⟩ := hpt f c hh; rw [hu]; rfl) (fun f c hh => by obtain ⟨u, hu, hr⟩ := hpt f c hh; rw [hu]; exact hr))
    ·cases h
   ·cases h
 ·simp only [Option.some.injEq, Prod.mk.injEq] at h
  obtain ⟨_, rfl, _⟩ := h
  exact hE.r hv
 ·split at h
  ·simp only [Option.some.injEq, Prod.mk.injEq] at h
   obtain ⟨_, rfl, _⟩ := h
   exact hE.r hv
  ·cases h
 ·cases h
theorem OJ (hH : Ai W0 M0 H n w S) {D B0 : List Nat} : ∀ {cs cs' : List AV} {p : Prop} {B : List Nat}, FA H D cs = some (p, cs', B) → p → (∀ i ∈ B, i ∈ B0) →
  cs'.length = cs.length ∧ ∀ (us : List Value), us.length = cs.length → (∀ (i : Nat) (c : AV) (u : Value), cs[i]? = some c → us[i]? = some u → R w S n c u) → ∀ (i : Nat) (c : AV) (u : Value), cs'[i]? = some c → us[i]? = some u → R w (B6 B0 S) n c u := by
 intro cs
 induction cs with
 | nil =>
  intro cs' p B h hp hB
  simp only [FA, Option.some.injEq, Prod.mk.injEq] at h
  obtain ⟨_, rfl, _⟩ := h
  exact ⟨rfl, fun us hl hu i c u hc => by simp at hc⟩
 | cons c cs ih =>
  intro cs' p B h hp hB
  unfold FA at h
  split at h
  ·rename_i q c' B1 h1
   split at h
   ·rename_i q2 cs2 B2 h2
    simp only [Option.some.injEq, Prod.mk.injEq] at h
    obtain ⟨rfl, rfl, rfl⟩ := h
    obtain ⟨hl, hr⟩ := ih h2 hp.2 (fun i hi => hB i (List.mem_append.2 (.inr hi)))
    refine ⟨by simp [hl], fun us hus hu i d u hd hui => ?_⟩
    cases us with
    | nil => simp at hui
    | cons u0 us =>
     cases i with
     | zero =>
      simp at hd hui
      subst hd hui
      exact OH hH h1 hp.1 (fun i hi => hB i (List.mem_append.2 (.inl hi))) (hu 0 c u0 rfl rfl)
     | succ i => exact hr us (by simpa using hus) (fun j d' u' hd' hu' => hu (j + 1) d' u' (by simpa using hd') (by simpa using hu')) i d u (by simpa using hd) (by simpa using hui)
   ·cases h
  ·cases h
theorem VG (hH : Ai W0 M0 H n w S) {D B0 : List Nat} {c c' : AV} {p : Prop} {B : List Nat} (h : FQ H D c = some (p, c', B)) (hp : p) (hB : ∀ i ∈ B, i ∈ B0) {v : Value} (hv : R w S n c v) : R w (B6 B0 S) n c' v := by
 unfold FQ at h
 split at h
 ·split at h
  ·rename_i q cs' B1 h1
   simp only [Option.some.injEq, Prod.mk.injEq] at h
   obtain ⟨rfl, rfl, rfl⟩ := h
   cases hv with | agg _ us hl h1' hr =>
   obtain ⟨hl', hr'⟩ := OJ hH h1 hp hB
   exact .agg _ us (by omega) h1' (hr' us hl hr)
  ·cases h
 ·split at h
  ·rename_i q cs' B1 h1
   simp only [Option.some.injEq, Prod.mk.injEq] at h
   obtain ⟨rfl, rfl, rfl⟩ := h
   cases hv with | clo fn _ us hl hr =>
   obtain ⟨hl', hr'⟩ := OJ hH h1 hp hB
   exact .clo _ _ us (by omega) (hr' us hl hr)
  ·cases h
 all_goals first
  | exact OH hH h hp hB hv
  | cases h
theorem OI (hH : Ai W0 M0 H n w S) {D B0 : List Nat} : ∀ {cs cs' : List AV} {p : Prop} {B : List Nat}, D9 H D cs = some (p, cs', B) → p → (∀ i ∈ B, i ∈ B0) →
  cs'.length = cs.length ∧ ∀ (us : List Value), us.length = cs.length → (∀ (i : Nat) (c : AV) (u : Value), cs[i]? = some c → us[i]? = some u → R w S n c u) → ∀ (i : Nat) (c : AV) (u : Value), cs'[i]? = some c → us[i]? = some u → R w (B6 B0 S) n c u := by
 intro cs
 induction cs with
 | nil =>
  intro cs' p B h hp hB
  simp only [D9, Option.some.injEq, Prod.mk.injEq] at h
  obtain ⟨_, rfl, _⟩ := h
  exact ⟨rfl, fun us hl hu i c u hc => by simp at hc⟩
 | cons c cs ih =>
  intro cs' p B h hp hB
  unfold D9 at h
  split at h
  ·rename_i q c' B1 h1
   split at h
   ·rename_i q2 cs2 B2 h2
    simp only [Option.some.injEq, Prod.mk.injEq] at h
    obtain ⟨rfl, rfl, rfl⟩ := h
    obtain ⟨hl, hr⟩ := ih h2 hp.2 (fun i hi => hB i (List.mem_append.2 (.inr hi)))
    refine ⟨by simp [hl], fun us hus hu i d u hd hui => ?_⟩
    cases us with
    | nil => simp at hui
    | cons u0 us =>
     cases i with
     | zero =>
      simp at hd hui
      subst hd hui
      exact VG hH h1 hp.1 (fun i hi => hB i (List.mem_append.2 (.inl hi))) (hu 0 c u0 rfl rfl)
     | succ i => exact hr us (by simpa using hus) (fun j d' u' hd' hu' => hu (j + 1) d' u' (by simpa using hd') (by simpa using hu')) i d u (by simpa using hd) (by simpa using hui)
   ·cases h
  ·cases h
theorem MT {D : List Nat} : ∀ {cs cs' : List AV} {p : Prop} {B : List Nat}, D9 H D cs = some (p, cs', B) → ∀ i ∈ B, i ∉ D ∧ (H i).isSome = true := by
 have one : ∀ {c c' : AV} {p : Prop} {B : List Nat}, EV H D c = some (p, c', B) → ∀ i ∈ B, i ∉ D ∧ (H i).isSome = true := by
  intro c c' p B h
  unfold EV at h
  split at h
  ·simp only [Option.some.injEq, Prod.mk.injEq] at h
   obtain ⟨_, _, rfl⟩ := h; intro i hi; cases hi
  ·split at h
   ·simp only [Option.some.injEq, Prod.mk.injEq] at h
    obtain ⟨_, _, rfl⟩ := h; intro i hi; cases hi
   ·rename_i hd
    split at h
    ·rename_i hb
     simp only [Option.some.injEq, Prod.mk.injEq] at h
     obtain ⟨_, _, rfl⟩ := h
     intro i hi
     simp at hi; subst hi
     exact ⟨hd, by rw [hb]; rfl⟩
    ·cases h
  ·split at h
   ·simp only [Option.some.injEq, Prod.mk.injEq] at h
    obtain ⟨_, _, rfl⟩ := h; intro i hi; cases hi
   ·rename_i hd
    split at h
    ·rename_i hb
     split at h
     ·simp only [Option.some.injEq, Prod.mk.injEq] at h
      obtain ⟨_, _, rfl⟩ := h
      intro i hi
      simp at hi; subst hi
      exact ⟨hd, by rw [hb]; rfl⟩
     ·cases h
    ·cases h
  ·simp only [Option.some.injEq, Prod.mk.injEq] at h
   obtain ⟨_, _, rfl⟩ := h; intro i hi; cases hi
  ·split at h
   ·simp only [Option.some.injEq, Prod.mk.injEq] at h
    obtain ⟨_, _, rfl⟩ := h; intro i hi; cases hi
   ·cases h
  ·cases h
 have many : ∀ {cs cs' : List AV} {p : Prop} {B : List Nat}, FA H D cs = some (p, cs', B) → ∀ i ∈ B, i ∉ D ∧ (H i).isSome = true := by
  intro cs
  induction cs with
  | nil =>
   intro cs' p B h
   simp only [FA, Option.some.injEq, Prod.mk.injEq] at h
   obtain ⟨_, _, rfl⟩ := h; intro i hi; cases hi
  | cons c cs ih =>
   intro cs' p B h
   unfold FA at h
   split at h
   ·rename_i h1
    split at h
    ·rename_i h2
     simp only [Option.some.injEq, Prod.mk.injEq] at h
     obtain ⟨_, _, rfl⟩ := h
     intro i hi
     rcases List.mem_append.1 hi with hi | hi
     ·exact one h1 i hi
     ·exact ih h2 i hi
    ·cases h
   ·cases h
 have any : ∀ {c c' : AV} {p : Prop} {B : List Nat}, FQ H D c = some (p, c', B) → ∀ i ∈ B, i ∉ D ∧ (H i).isSome = true := by
  intro c c' p B h
  unfold FQ at h
  split at h
  ·split at h
   ·rename_i h1
    simp only [Option.some.injEq, Prod.mk.injEq] at h
    obtain ⟨_, _, rfl⟩ := h
    exact many h1
   ·cases h
  ·split at h
   ·rename_i h1
    simp only [Option.some.injEq, Prod.mk.injEq] at h
    obtain ⟨_, _, rfl⟩ := h
    exact many h1
   ·cases h
  all_goals first
   | exact one h
   | cases h
 intro cs
 induction cs with
 | nil =>
  intro cs' p B h
  simp only [D9, Option.some.injEq, Prod.mk.injEq] at h
  obtain ⟨_, _, rfl⟩ := h; intro i hi; cases hi
 | cons c cs ih =>
  intro cs' p B h
  unfold D9 at h
  split at h
  ·rename_i h1
   split at h
   ·rename_i h2
    simp only [Option.some.injEq, Prod.mk.injEq] at h
    obtain ⟨_, _, rfl⟩ := h
    intro i hi
    rcases List.mem_append.1 hi with hi | hi
    ·exact any h1 i hi
    ·exact ih h2 i hi
   ·cases h
  ·cases h
theorem MY {O O' : Nat → Prop} {x : D} {v : Value} (hs : ZI x = true) (h : RD w O x v) : RD w O' x v := by
 cases h <;> simp [ZI] at hs
 ·exact .bool _
 ·exact .int _ _
 ·exact .str _
 ·exact .nils
 ·exact .nilp
 ·exact .ifc0
 ·exact .ifc1 _ _
theorem R4 {S' : Lays} {n' : Nat} {c : AV} {v : Value} (hs : Tw c = true) (h : R w S n c v) : R w S' n' c v := by
 cases h <;> simp [Tw] at hs
 ·exact .any _
 ·rename_i h; exact .d (MY hs h)
theorem X3 {S' : Lays} {n' : Nat} {c : AV} {v : Value} (hs : TO c = true) (h : R w S n c v) : R w S' n' c v := by
 cases h <;> simp [TO] at hs
 ·exact .any _
 ·rename_i h; exact .d (MY hs h)
 ·rename_i cs us hl h1 hr
  exact .agg cs us hl h1 (fun i c u hc hu => R4 (hs c (List.mem_of_getElem? hc)) (hr i c u hc hu))
theorem X4 {S' : Lays} {n' : Nat} {c : AV} {v : Value} (hs : Tx c = true) (h : R w S n c v) : R w S' n' c v := by
 cases h <;> simp [Tx] at hs
 ·exact .any _
 ·rename_i h; exact .d (MY hs h)
 ·rename_i cs us hl h1 hr
  exact .agg cs us hl h1 (fun i c u hc hu => R4 (hs c (List.mem_of_getElem? hc)) (hr i c u hc hu))
 ·rename_i cs us hl hr
  exact .tup cs us hl (fun i c u hc hu => X3 (hs c (List.mem_of_getElem? hc)) (hr i c u hc hu))
theorem Ai.enter (hH : Ai W0 M0 H n w S) (D B : List Nat) (hDB : ∀ i ∈ B, i ∉ D) : Ai w (Gq (Cb D H) (B6 B S)) (Cb D H) n w (B6 B S) := by
 have hE : Cu w S n w (B6 B S) n := IJ B
 constructor
 ·intro id hid
  unfold B6; split
  ·rfl
  ·exact hH.bnd id hid
 ·intro i l b h hb
  exact hH.lt2 i l b (Cf h).2 hb
 ·intro id b hb
  unfold Cb at hb
  split at hb
  ·rename_i hid
   obtain ⟨l, hl, hB⟩ := hH.box id b hb
   exact ⟨l, by unfold B6; rw [if_neg (fun h => hDB id h hid)]; exact hl, hB.ext hE (fun _ _ => rfl)⟩
  ·cases hb
 ·intro i j l l' b hi hj h1 h2
  exact hH.inj2 i j l l' b (Cf hi).2 (Cf hj).2 h1 h2
 ·exact fun i l h => hH.nod i l (Cf h).2
 ·intro i l b hb hi hp
  unfold Cb at hb
  split at hb
  ·exact hH.plain i l b hb (Cf hi).2 hp
  ·cases hb
 ·intro i l b hl hi hb
  exact .inr ⟨i, l, hl, hi, hb⟩
 ·rfl
 ·rfl
 ·rfl
 ·exact Nat.le_refl _
 ·intro b _ _; rfl
 ·intro b hf
  obtain ⟨h1, h2⟩ := hH.far b hf
  exact ⟨by have := hH.size; omega, fun i l hi => h2 i l (Cf hi).2⟩
 ·intro i hp
  obtain ⟨h1, h2⟩ := hH.pin i hp
  refine ⟨h1, ?_⟩
  unfold B6
  split
  ·exact .inr rfl
  ·exact h2
 ·exact hH.glx hE
theorem Ai.back (hH : Ai W0 M0 H n w S) {D B : List Nat} (hDB : ∀ i ∈ B, i ∉ D) {H' : Av} {n' : Nat} {S' : Lays} (hL : Left (Cb D H) n w (B6 B S) H' n' w' S') :
  Ai W0 M0 (B6 B (Ed D n H H')) n' w' S' ∧ Cu w S n w' S' n' := by
 have hE0 : Cu w S n w (B6 B S) n := IJ B
 have hE : Cu w S n w' S' n' := hE0.trans hL.ext
 have notlive : ∀ {id l b}, S id = some l → l.has b → id ∉ D → ¬ Gq (Cb D H) (B6 B S) b := by
  rintro id l b hS hb hD ⟨i, l', h1, h2, h3⟩
  have h4 := (Cf h2).2
  have : i = id := hH.inj2 i id l' l b h4 hS h3 hb
  subst this
  unfold Cb at h1
  rw [if_neg hD] at h1; cases h1
 have old : ∀ b, Gq (Cb D H) (B6 B S) b → W0.heap.size ≤ b ∨ M0 b := by
  rintro b ⟨i, l, h1, h2, h3⟩
  refine hH.mut2 i l b ?_ (Cf h2).2 h3
  unfold Cb at h1
  split at h1
  ·exact h1
  ·cases h1
 refine ⟨?_, hE⟩
 constructor
 ·exact hL.heap.bnd
 ·exact hL.heap.lt2
 ·intro id b hb
  unfold B6 at hb
  split at hb
  ·cases hb
  ·rename_i hB
   unfold Ed at hb
   split at hb
   ·exact hL.heap.box id b hb
   ·rename_i hc
    obtain ⟨l, hl, hbox⟩ := hH.box id b hb
    have hidn : id < n := by omega
    have hD : id ∉ D := fun h => hc (.inl h)
    have hS' : S' id = some l := by
     rw [hL.far id hidn (by unfold Cb; rw [if_neg hD])]
     unfold B6; rw [if_neg hB]; exact hl
    exact ⟨l, hS', hbox.ext hE (fun k hk => hL.heap.same k (hH.lt2 id l k hl hk) (notlive hl hk hD))⟩
 ·exact hL.heap.inj2
 ·exact hL.heap.nod
 ·intro i l b hb hS hp
  unfold B6 at hb
  split at hb
  ·cases hb
  ·unfold Ed at hb
   split at hb
   ·exact hL.heap.plain i l b hb hS hp
   ·rename_i hc
    have hidn : i < n := by omega
    have hD : i ∉ D := fun h => hc (.inl h)
    rw [hL.far i hidn (by unfold Cb; rw [if_neg hD])] at hS
    exact hH.plain i l b hb (Cf hS).2 hp
 ·intro i l b hlive hS hb
  unfold B6 at hlive
  split at hlive
  ·cases hlive
  ·rename_i hB
   unfold Ed at hlive
   split at hlive
   ·rcases hL.heap.mut2 i l b hlive hS hb with h | h
    ·left; have := hH.size; omega
    ·exact old b h
   ·rename_i hc
    have hidn : i < n := by omega
    have hD : i ∉ D := fun h => hc (.inl h)
    rw [hL.far i hidn (by unfold Cb; rw [if_neg hD])] at hS
    exact hH.mut2 i l b hlive (Cf hS).2 hb
 ·exact hL.heap.os.trans hH.os
 ·exact hL.heap.tape.trans hH.tape
 ·exact hL.heap.output.trans hH.output
 ·have := hH.size; have := hL.heap.size; omega
 ·intro b hb hM
  rw [hL.heap.same b (by have := hH.size; omega) (fun h => ?_)]
  ·exact hH.same b hb hM
  ·rcases old b h with h | h
   ·omega
   ·exact hM h
 ·intro b hf
  exact ⟨(hH.far b hf).1, (hL.heap.far b hf).2⟩
 ·exact hL.heap.pin
 ·exact hL.heap.gl
theorem Ai.back_same (hH : Ai W0 M0 H n w S) {D B : List Nat} (hDB : ∀ i ∈ B, i ∉ D) (hL : Left (Cb D H) n w (B6 B S) (Cb D H) n w' (B6 B S)) (hBl : ∀ i ∈ B, (H i).isSome = true) (hq : ∀ b, b < w.heap.size → w'.heap[b]? = w.heap[b]?) :
  Ai W0 M0 H n w' S ∧ Cu w S n w' S n := by
 have notlive : ∀ {id l b}, S id = some l → l.has b → id ∉ D → ¬ Gq (Cb D H) (B6 B S) b := by
  rintro id l b hS hb hD ⟨i, l', h1, h2, h3⟩
  have h4 := (Cf h2).2
  have : i = id := hH.inj2 i id l' l b h4 hS h3 hb
  subst this
  unfold Cb at h1
  rw [if_neg hD] at h1; cases h1
 have old : ∀ b, Gq (Cb D H) (B6 B S) b → W0.heap.size ≤ b ∨ M0 b := by
  rintro b ⟨i, l, h1, h2, h3⟩
  refine hH.mut2 i l b ?_ (Cf h2).2 h3
  unfold Cb at h1
  split at h1
  ·exact h1
  ·cases h1
 have hE : Cu w S n w' S n := ⟨Nat.le_refl _, hL.ext.size, fun _ _ => .inl rfl, fun _ _ h => h, fun b hb hO => hL.ext.same b hb (fun h => hO (by
  rcases h with hf | ⟨i, l, h1, h2⟩
  ·exact .inl hf
  ·exact .inr ⟨i, l, (Cf h1).2, h2⟩))⟩
 refine ⟨?_, hE⟩
 constructor
 ·exact hH.bnd
 ·intro i l b h hb
  have := hH.lt2 i l b h hb
  have := hL.ext.size
  omega
 ·intro id b hb
  obtain ⟨l, hl, hbox⟩ := hH.box id b hb
  exact ⟨l, hl, hbox.ext hE (fun k hk => hq k (hH.lt2 id l k hl hk))⟩
 ·exact hH.inj2
 ·exact hH.nod
 ·exact hH.plain
 ·exact hH.mut2
 ·exact hL.heap.os.trans hH.os
 ·exact hL.heap.tape.trans hH.tape
 ·exact hL.heap.output.trans hH.output
 ·have := hH.size; have := hL.heap.size; omega
 ·intro b hb hM
  rw [hL.heap.same b (by have := hH.size; omega) (fun h => ?_)]
  ·exact hH.same b hb hM
  ·rcases old b h with h | h
   ·omega
   ·exact hM h
 ·exact hH.far
 ·exact hH.pin
 ·exact hH.glx hE
end
end Go.Vc
/- The Vc layer: one operation. -/
set_option linter.all false
namespace Go.Vc
open Go Go.RowKit
variable [Bl]
inductive RS where
 | v (p : Prop) (c : AV)
 | h (p : Prop) (c : AV) (H : Av) (n : Nat)
 | bad
def RS.ofV : RV → RS
 | some (p, c) => .v p c
 | none => .bad
def RS.ofH : RH → RS
 | some (p, c, H, n) => .h p c H n
 | none => .bad
def D5 (sp : Spec) (H : Av) (n : Nat) (args : List AV) : RS :=
 match D9 H (sp.dom args H) args with
 | some (q, args', B) => match sp.run args' (Cb (sp.dom args H) H) n with
  | some (p, r, none) => if Tx r then .v (q ∧ p) r else .h (q ∧ p) r (B6 B H) n
  | some (p, r, some (H', n')) => .h (q ∧ p) r (B6 B (Ed (sp.dom args H) n H H')) n'
  | none => .bad
 | none => .bad
def RI : Op → Bool
 | .move _ | .assign _ | .nilCheck _ | .binOp .. | .unOp .. | .convert .. | .slice _ _ _ _ none | .fieldAddr .. | .field .. | .indexAddr .. | .index .. | .load .. | .extract .. | .build .. => true
 | .makeFunc .. => true
 | .call ⟨.builtin .len, _, _⟩ | .call ⟨.builtin .max, _, _⟩ | .call ⟨.builtin .min, _, _⟩ => true
 | _ => false
section
variable {P : Program}
def C0 (E : Bq P) (fr : Nat → AV) (H : Av) (n : Nat) (o : Op) : RS :=
 match o with
 | .alloc e => .ofH (I3 E.X.ty H n e)
 | .box e x => .ofH (RX H n e (AD (Bc fr x)))
 | .buildSlice t len parts => .ofH (Eb E.X.ty H n t len (parts.toList.map fun p => (p.1, AD (Bc fr p.2))))
 | .makeSlice t l c => .ofH (Lk E.X.ty H n t (AD (Bc fr l)) (AD (Bc fr c)))
 | .store t a x => match G0 E.X.ty H t (AD (Bc fr a)) (AD (Bc fr x)) with
  | some (p, H') => .h p .any H' n
  | none => .bad
 | .pick c a b => .ofV (EC (Bc fr c) (Bc fr a) (Bc fr b))
 | .call ⟨.builtin .append, ⟨[s, x]⟩, ⟨[t, t']⟩⟩ => if t' = t then .ofH (E3 E.X.ty H n t (AD (Bc fr s)) (AD (Bc fr x))) else .bad
 | .call ⟨.value f, args, _⟩ => match AD (Bc fr f) with
  | .clo (.func f) cap => match E.Γ f with
   | some sp => D5 sp H n ((args.toList.map fun x => AD (Bc fr x)) ++ cap)
   | none => .bad
  | _ => .bad
 | o => .ofV (Hc E.X.ty H fr o)
def CN (fr : Nat → AV) (o : Op) : Prop :=
 match o with
 | .pick .. => True
 | o => nd fr o.operands.toList
def NV (ρ : Option Nat) : Fence := { Fence.wide with round := ρ }
theorem GQ {ρ : Option Nat} {f : FuncId} {args : Array Value} {w : World} {R : Ending → World → Prop} (h : Calls P f args w R) : CallsIn (NV ρ) 0 P f args w R := by
 cases ρ with
 | none => exact callsIn_wide.2 h
 | some l => exact CallsIn.inRound l (callsIn_wide.2 h)
theorem FY {ρ : Option Nat} {o : Oper} {a : Act} {w : World} {K : Act → World → Prop} {Q : Exit → Act → World → Prop} (hd : ∀ c, o.op ≠ .defer c) (h : o.uponIn (NV ρ) 0 P a K Q ((execOp a.eval o).run P w)) : o.wpIn (NV ρ) 0 P a w K Q := by
 refine ⟨fun _ _ => trivial, ?_⟩
 rw [Oper.semAt_eq _ _ _ hd]
 exact h
def Ns (P : Program) (ρ : Option Nat) (W0 : World) (M0 : Nat → Prop) (o : Oper) (a : Act) (w : World) (S : Lays) (n : Nat) (c : AV) (H' : Av) (n' : Nat) : Prop :=
 ∀ (Q : Exit → Act → World → Prop) (K : Act → World → Prop),
  (∀ v w' S', Ai W0 M0 H' n' w' S' → Cu w S n w' S' n' → R w' S' n' c v → K (a.put o.dst v) w') → o.wpIn (NV ρ) 0 P a w K Q
variable {E : Bq P} {w : World} {S : Lays} {n : Nat} {W0 : World} {M0 : Nat → Prop} {H : Av} {fr : Nat → AV} {a : Act}
theorem O4 (hH : Ai W0 M0 H n w S) (D : List Nat) : Ed D n H (Cb D H) = H := by
 funext i
 unfold Ed Cb
 by_cases hD : i ∈ D
 ·simp [hD]
 ·simp only [hD, false_or, if_false]
  split
  ·rename_i hn
   cases hi : H i with
   | none => rfl
   | some b =>
    obtain ⟨l, hl, _⟩ := hH.box i b hi
    rw [hH.bnd i hn] at hl; cases hl
  ·rfl
def RS.heap (r : RS) (H : Av) (n : Nat) : Option (Prop × AV × Av × Nat) :=
 match r with
 | .v p c => some (p, c, H, n)
 | .h p c H' n' => some (p, c, H', n')
 | .bad => none
theorem Un (hH : Ai W0 M0 H n w S) {f : FuncId} {sp : Spec} (hf : E.Γ f = some sp) {args : List AV} {p : Prop} {c : AV} {H' : Av} {n' : Nat} (h : (D5 sp H n args).heap H n = some (p, c, H', n')) (hp : p)
  {vs : List Value} (hl : vs.length = args.length) (hr : ∀ (i : Nat) (c : AV) (u : Value), args[i]? = some c → vs[i]? = some u → R w S n c u) :
  Calls P f vs.toArray w fun e w' => ∃ v S', e = .returned v ∧ Ai W0 M0 H' n' w' S' ∧ Cu w S n w' S' n' ∧ R w' S' n' c v := by
 unfold D5 at h
 split at h
 ·rename_i q args' B hra
  have hfar := MT hra
  have hDB : ∀ i ∈ B, i ∉ sp.dom args H := fun i hi => (hfar i hi).1
  have hE0 := hH.enter (sp.dom args H) B hDB
  have go : ∀ {p' : Prop} {r : AV} {o : Option (Av × Nat)}, sp.run args' (Cb (sp.dom args H) H) n = some (p', r, o) → q → p' →
    Calls P f vs.toArray w fun e w' => ∃ v S', e = .returned v ∧ Left (Cb (sp.dom args H) H) n w (B6 B S) (o.getD (Cb (sp.dom args H) H, n)).1 (o.getD (Cb (sp.dom args H) H, n)).2 w' S' ∧
     (o = none → S' = B6 B S ∧ ∀ b, b < w.heap.size → w'.heap[b]? = w.heap[b]?) ∧ R w' S' (o.getD (Cb (sp.dom args H) H, n)).2 r v := by
   intro p' r o hrun hq hp'
   obtain ⟨hl', hr'⟩ := OI (B0 := B) hH hra hq (fun i hi => hi)
   exact E.ok f sp hf args' (Cb (sp.dom args H) H) n p' r o hrun hp' w (B6 B S) vs hE0 (by omega) (hr' vs hl hr)
  split at h
  ·rename_i p' r hrun
   split at h
   ·rename_i hsc
    simp only [RS.heap, Option.some.injEq, Prod.mk.injEq] at h
    obtain ⟨rfl, rfl, rfl, rfl⟩ := h
    refine Calls.mono (go hrun hp.1 hp.2) ?_
    rintro e w' ⟨v, S', rfl, hL, hs, hR⟩
    obtain ⟨rfl, hq⟩ := hs rfl
    obtain ⟨h1, h2⟩ := hH.back_same hDB hL (fun i hi => (hfar i hi).2) hq
    exact ⟨v, S, rfl, h1, h2, X4 hsc hR⟩
   ·simp only [RS.heap, Option.some.injEq, Prod.mk.injEq] at h
    obtain ⟨rfl, rfl, rfl, rfl⟩ := h
    refine Calls.mono (go hrun hp.1 hp.2) ?_
    rintro e w' ⟨v, S', rfl, hL, hs, hR⟩
    obtain ⟨h1, h2⟩ := hH.back hDB hL
    rw [show (Option.getD (none : Option (Av × Nat)) (Cb (sp.dom args H) H, n)).1 = Cb (sp.dom args H) H from rfl, O4 hH] at h1
    exact ⟨v, S', rfl, h1, h2, hR⟩
  ·rename_i p' r H1 n1 hrun
   simp only [RS.heap, Option.some.injEq, Prod.mk.injEq] at h
   obtain ⟨rfl, rfl, rfl, rfl⟩ := h
   refine Calls.mono (go hrun hp.1 hp.2) ?_
   rintro e w' ⟨v, S', rfl, hL, hs, hR⟩
   obtain ⟨h1, h2⟩ := hH.back hDB hL
   exact ⟨v, S', rfl, h1, h2, hR⟩
  ·cases h
 ·cases h
theorem Ns.value {ρ : Option Nat} {o : Oper} (hd : ∀ c, o.op ≠ .defer c) {c : AV} {H' : Av} {n' : Nat} (h : ∃ r w' S', (execOp a.eval o).run P w = .ok (.value r) w' ∧ Ai W0 M0 H' n' w' S' ∧ Cu w S n w' S' n' ∧ R w' S' n' c r) : Ns P ρ W0 M0 o a w S n c H' n' := by
 obtain ⟨r, w', S', h1, h2, h3, h4⟩ := h
 intro Q K hK
 refine FY hd ?_
 rw [h1]
 exact hK r w' S' h2 h3 h4
theorem Yf (hH : Ai W0 M0 H n w S) (hF : ∀ i, R w S n (fr i) (a.tmps.getD i undef)) {o : Oper} {c : AV} {p : Prop} {H' : Av} {n' : Nat} (h : (C0 E fr H n o.op).heap H n = some (p, c, H', n')) (hp : p) (hn : CN fr o.op) :
  Ns P E.ρ W0 M0 o a w S n c H' n' := by
 have hnd : ∀ c, o.op ≠ .defer c := fun c e => by rw [e] at h; simp [C0, Hc, RS.ofV, RS.heap] at h
 have ev : nd fr o.op.operands.toList → ∀ x ∈ o.op.operands.toList, R w S n (AD (Bc fr x)) (a.eval x) := fun hn x hx => (EP hH.gl hF x).bare_of (H8 hn x hx)
 have hval : (RS.ofV (Hc E.X.ty H fr o.op)).heap H n = some (p, c, H', n') → nd fr o.op.operands.toList → Ns P E.ρ W0 M0 o a w S n c H' n' := by
  intro h hn
  cases hv : Hc E.X.ty H fr o.op with
  | none => rw [hv] at h; cases h
  | some pc =>
   obtain ⟨p', c'⟩ := pc
   rw [hv] at h
   simp only [RS.ofV, RS.heap, Option.some.injEq, Prod.mk.injEq] at h
   obtain ⟨rfl, rfl, rfl, rfl⟩ := h
   obtain ⟨r, h1, h2⟩ := WB hH hF hv hp hn
   exact .value hnd ⟨r, w, S, h1, hH, Cu.refl _ _ _, h2⟩
 have val : ∀ {s : Sem Value}, (execOp a.eval o = do pure (.value (← s))) → (∃ r w' S', s.run P w = .ok r w' ∧ Ai W0 M0 H' n' w' S' ∧ Cu w S n w' S' n' ∧ R w' S' n' c r) → Ns P E.ρ W0 M0 o a w S n c H' n' := by
  rintro s he ⟨r, w', S', hr, h1, h2, h3⟩
  exact .value hnd ⟨r, w', S', by rw [he]; simp only [Sem.run_bind, hr, Result.andThen_ok, Sem.run_pure], h1, h2, h3⟩
 have hof : ∀ {r : RH}, (RS.ofH r).heap H n = some (p, c, H', n') → r = some (p, c, H', n') := by
  intro r hr
  cases r with
  | none => cases hr
  | some x => obtain ⟨_, _, _, _⟩ := x; exact hr
 obtain ⟨dst, op, type, pos, after, guard⟩ := o
 simp only at h hn ev hval hnd
 unfold C0 at h
 split at h
 ·rename_i e
  exact val rfl (RW hH (hof h) hp)
 ·rename_i e x
  refine val rfl (W6 hH (hof h) (ev hn x (by simp [Op.operands])))
 ·rename_i t len parts
  refine val rfl (JT hH (hof h) hp (by simp) (fun i k c hi => ?_))
  rw [List.getElem?_map] at hi
  cases hq : parts.toList[i]? with
  | none => rw [hq] at hi; cases hi
  | some q =>
   rw [hq] at hi
   simp only [Option.map_some, Option.some.injEq, Prod.mk.injEq] at hi
   obtain ⟨rfl, rfl⟩ := hi
   refine ⟨a.eval q.2, ?_, ev hn q.2 ?_⟩
   ·rw [Array.getElem?_toList] at hq
    simp [hq]
   ·simp only [Op.operands, List.toList_toArray, List.mem_map]
    exact ⟨q, List.mem_of_getElem? hq, rfl⟩
 ·rename_i t l c
  exact val rfl (TZ hH (hof h) hp (ev hn l (by simp [Op.operands])) (ev hn c (by simp [Op.operands])))
 ·rename_i t ad x
  split at h
  ·rename_i p' H1 hst
   simp only [RS.heap, Option.some.injEq, Prod.mk.injEq] at h
   obtain ⟨rfl, rfl, rfl, rfl⟩ := h
   obtain ⟨w', S', hrun, h1, h2⟩ := Lo hH hst hp (ev hn ad (by simp [Op.operands])) (ev hn x (by simp [Op.operands]))
   intro Q K hK
   refine FY hnd ?_
   have : (execOp a.eval ⟨dst, .store t ad x, type, pos, after, guard⟩).run P w = .ok .skip w' := by
    simp only [execOp, Sem.run_bind, hrun, Result.andThen_ok, Sem.run_pure]
   rw [this]
   exact hK undef w' S' h1 h2 (.any _)
  ·cases h
 ·rename_i x y z
  cases hv : EC (Bc fr x) (Bc fr y) (Bc fr z) with
  | none => rw [hv] at h; cases h
  | some pc =>
   obtain ⟨p', c'⟩ := pc
   rw [hv] at h
   simp only [RS.ofV, RS.heap, Option.some.injEq, Prod.mk.injEq] at h
   obtain ⟨rfl, rfl, rfl, rfl⟩ := h
   unfold EC at hv
   split at hv
   ·rename_i b b1 b2 e1 e2 e3
    simp only [Option.some.injEq, Prod.mk.injEq] at hv
    obtain ⟨rfl, rfl⟩ := hv
    have r1 := (EP hH.gl hF x).bare_of hp.1
    rw [e1, R.bool_iff] at r1
    cases b with
    | true =>
     have r2 := (EP hH.gl hF y).bare_of (hp.2.1 rfl)
     rw [e2] at r2
     exact .value hnd ⟨a.eval y, w, S, by simp [execOp, asBool, r1], hH, Cu.refl _ _ _, r2⟩
    | false =>
     have r2 := (EP hH.gl hF z).bare_of (hp.2.2 rfl)
     rw [e3] at r2
     exact .value hnd ⟨a.eval z, w, S, by simp [execOp, asBool, r1], hH, Cu.refl _ _ _, r2⟩
   ·rename_i x' e1 e2 _
    simp only [Option.some.injEq, Prod.mk.injEq] at hv
    obtain ⟨rfl, rfl⟩ := hv
    have r1 := (EP hH.gl hF x).bare_of hp.1
    rw [e1, R.bool_iff] at r1
    have r2 := (EP hH.gl hF y).bare_of hp.2
    rw [e2] at r2
    exact .value hnd ⟨a.eval y, w, S, by simp [execOp, asBool, r1], hH, Cu.refl _ _ _, r2⟩
   ·rename_i y' e1 e2 _
    simp only [Option.some.injEq, Prod.mk.injEq] at hv
    obtain ⟨rfl, rfl⟩ := hv
    have r1 := (EP hH.gl hF x).bare_of hp.1
    rw [e1, R.bool_iff] at r1
    have r2 := (EP hH.gl hF z).bare_of hp.2
    rw [e2] at r2
    exact .value hnd ⟨a.eval z, w, S, by simp [execOp, asBool, r1], hH, Cu.refl _ _ _, r2⟩
   ·cases hv
 ·rename_i s x t t'
  split at h
  ·rename_i ht; subst ht
   obtain ⟨r, w', S', hrun, h1⟩ := Hx (ty' := type) hH (hof h) hp (ev hn s (by simp [Op.operands, Call.operands])) (ev hn x (by simp [Op.operands, Call.operands]))
   refine .value hnd ⟨r, w', S', ?_, h1⟩
   simp only [execOp, resolve, invoke, builtin, Sem.run_bind, Sem.run_pure, Result.andThen_ok, List.map_toArray, List.map_cons, List.map_nil]
   rw [hrun]
   rfl
  ·cases h
 ·rename_i f args ts
  split at h
  ·rename_i g cap hcl
   split at h
   ·rename_i sp hsp
    have rf := ev hn f (by simp [Op.operands, Call.operands])
    rw [hcl] at rf
    generalize hvf : a.eval f = vf at rf
    cases rf with | clo _ _ us hul hur =>
    have hrun : (execOp a.eval ⟨dst, .call ⟨.value f, args, ts⟩, type, pos, after, guard⟩).run P w = .ok (.enter g ((args.toList.map a.eval) ++ us).toArray) w := by
     simp only [execOp, resolve, Sem.run_bind, hvf]
     simp [Deferred.ofValue, invoke, Fr (E.ent g sp hsp)]
    have hcall := Un (E := E) hH hsp h hp (vs := (args.toList.map a.eval) ++ us) (by simp [hul]) (fun i c u hc hu => by
     by_cases hi : i < args.toList.length
     ·rw [List.getElem?_append_left (by simpa using hi), List.getElem?_map] at hc hu
      cases hq : args.toList[i]? with
      | none => rw [hq] at hc; cases hc
      | some q =>
       rw [hq] at hc hu; cases hc; cases hu
       refine ev hn q ?_
       simp only [Op.operands, Call.operands, Array.toList_append, List.mem_append]
       exact .inr (List.mem_of_getElem? hq)
     ·rw [List.getElem?_append_right (by simpa using hi)] at hc hu
      simp only [List.length_map] at hc hu
      exact hur _ c u hc hu)
    intro Q K hK
    refine FY hnd ?_
    rw [hrun, Oper.uponIn_enter]
    refine ⟨fun h => (by cases h), GQ (Calls.mono hcall ?_)⟩
    rintro e w' ⟨v, S', rfl, h1, h2, h3⟩
    exact hK v w' S' h1 h2 h3
   ·cases h
  ·cases h
 ·refine hval h ?_
  unfold CN at hn
  split at hn
  ·exfalso; simp_all
  ·exact hn
end
end Go.Vc
/- The Vc layer: regions, whatever order they come up in. -/
set_option linter.all false
namespace Go.Vc
open Go Go.RowKit
variable [Bl]
def putD (dst : Option Tmp) (c : AV) (fr : Nat → AV) : Nat → AV :=
 match dst with
 | some d => CI fr d c
 | none => fr
def Jb (c : AV) (want : Bool) : Option Bool :=
 match c with
 | .d (.bool x) => some (if want then x else !x)
 | .cond g (.d (.bool x)) => some (g && (if want then x else !x))
 | .cond false _ => some false
 | _ => none
def Bg (ops : Array Oper) (fr : Nat → AV) : Option (Nat × Bool) → Option (Option Bool)
 | none => some none
 | some (g, want) => match (ops[g]?).bind (·.dst) with
  | some d => match Jb (fr d) want with
   | some b => some (some b)
   | none => none
  | none => none
section
variable {P : Program}
def Fy (E : Bq P) (ops : Array Oper) (o : Oper) (st : St) (K : St → Prop) : Prop :=
 match Bg ops st.fr o.guard with
 | none => False
 | some none => match C0 E st.fr st.H st.n o.op with
  | .v p c => CN st.fr o.op ∧ p ∧ K ⟨putD o.dst c st.fr, st.H, st.n⟩
  | .h p c H' n' => CN st.fr o.op ∧ p ∧ K ⟨putD o.dst c st.fr, H', n'⟩
  | .bad => False
 | some (some b) => match C0 E st.fr st.H st.n o.op with
  | .v p c => (b = true → CN st.fr o.op ∧ p) ∧ K ⟨putD o.dst (.cond b c) st.fr, st.H, st.n⟩
  | .h p c H' n' => (b = true → CN st.fr o.op ∧ p ∧ K ⟨putD o.dst c st.fr, H', n'⟩) ∧ (b = false → K ⟨putD o.dst (.cond false .any) st.fr, st.H, st.n⟩)
  | .bad => False
theorem KD {E : Bq P} {ops : Array Oper} {o : Oper} {st : St} {K K' : St → Prop} (hk : ∀ st, K st → K' st) (h : Fy E ops o st K) : Fy E ops o st K' := by
 unfold Fy at *
 split at h
 ·exact h
 ·split at h
  ·exact ⟨h.1, h.2.1, hk _ h.2.2⟩
  ·exact ⟨h.1, h.2.1, hk _ h.2.2⟩
  ·exact h
 ·split at h
  ·exact ⟨h.1, hk _ h.2⟩
  ·exact ⟨fun hb => ⟨(h.1 hb).1, (h.1 hb).2.1, hk _ (h.1 hb).2.2⟩, fun hb => hk _ (h.2 hb)⟩
  ·exact h
variable {E : Bq P} {w : World} {S : Lays} {n : Nat} {W0 : World} {M0 : Nat → Prop} {H : Av} {a : Act}
theorem Hb.putD {N : Nat} {fr : Nat → AV} {v : Value} {c : AV} {dst : Option Tmp} (h : Hb w S n N fr a) (hd : ∀ d, dst = some d → d < N) (hc : R w S n c v) : Hb w S n N (Vc.putD dst c fr) (a.put dst v) := by
 cases dst with
 | none => simpa [Vc.putD, Act.put] using h
 | some d => exact h.put (hd d rfl) hc
theorem H5 {ops : Array Oper} {fr : Nat → AV} {o : Oper} (h : Bg ops fr o.guard = some none) (y : Nat → Option Bool) : Region.wanted o y = true := by
 unfold Bg at h
 unfold Region.wanted
 split at h
 ·rename_i hg; rw [hg]
 ·split at h
  ·split at h <;> cases h
  ·cases h
theorem Ga {ops : Array Oper} {fr : Nat → AV} {o : Oper} {b : Bool} (h : Bg ops fr o.guard = some (some b)) (hF : ∀ i, R w S n (fr i) (a.tmps.getD i undef)) : Region.wanted o (yielded ops a.tmps) = b := by
 unfold Bg at h
 unfold Region.wanted
 split at h
 ·cases h
 ·rename_i g want hg
  split at h
  ·rename_i d hd
   split at h
   ·rename_i b' hb
    simp only [Option.some.injEq] at h
    subst h
    rw [hg]
    simp only [yielded, hd, Option.bind_some]
    have hR := hF d
    simp only [Array.getD_eq_getD_getElem?] at hR
    have bl : ∀ x : Bool, R w S n (.d (.bool x)) ((a.tmps[d]?).getD undef) → a.tmps[d]? = some (.bool x) := by
     intro x hx
     rw [R.bool_iff] at hx
     cases ht : a.tmps[d]? with
     | none => rw [ht] at hx; cases hx
     | some v => rw [ht] at hx; simp at hx; rw [hx]
    unfold Jb at hb
    split at hb
    ·rename_i x hc
     simp only [Option.some.injEq] at hb
     rw [hc] at hR
     rw [bl x hR]
     subst hb
     cases want <;> cases x <;> rfl
    ·rename_i gg x hc
     simp only [Option.some.injEq] at hb
     rw [hc] at hR
     cases hR with | cond _ _ _ hr hu =>
     cases gg with
     | true =>
      rw [bl x (hr rfl)]
      subst hb
      cases want <;> cases x <;> rfl
     | false =>
      subst hb
      have := hu rfl
      cases ht : a.tmps[d]? with
      | none => rfl
      | some v => rw [ht] at this; simp at this; subst this; rfl
    ·rename_i hc
     simp only [Option.some.injEq] at hb
     rw [hc] at hR
     cases hR with | cond _ _ _ hr hu =>
     subst hb
     have := hu rfl
     cases ht : a.tmps[d]? with
     | none => rfl
     | some v => rw [ht] at this; simp at this; subst this; rfl
    ·cases hb
   ·cases h
  ·cases h
theorem E1 {dst : Option Tmp} {v : Value} : (a.put dst v).defers = a.defers := by cases dst <;> rfl
def JK (W0 : World) (M0 : Nat → Prop) (N : Nat) (K : St → Prop) : Act → World → Prop := fun a w => ∃ st, K st ∧ Mh W0 M0 N st a w
theorem VY {ops : Array Oper} {o : Oper} {st : St} {K : St → Prop} (h : Fy E ops o st K) (hd : ∀ d, o.dst = some d → d < E.N) (hs : Mh W0 M0 E.N st a w) (Q : Exit → Act → World → Prop) :
  if Region.wanted o (yielded ops a.tmps) = true then o.wpIn (NV E.ρ) 0 P a w (JK W0 M0 E.N K) Q else JK W0 M0 E.N K (a.put o.dst undef) w := by
 obtain ⟨S, hH, hF, hM⟩ := hs
 have run : ∀ {p : Prop} {c : AV} {H' : Av} {n' : Nat}, (C0 E st.fr st.H st.n o.op).heap st.H st.n = some (p, c, H', n') → p → CN st.fr o.op → ∀ c', (∀ w S n v, R w S n c v → R w S n c' v) → K ⟨putD o.dst c' st.fr, H', n'⟩ →
   o.wpIn (NV E.ρ) 0 P a w (JK W0 M0 E.N K) Q := by
  intro p c H' n' hr hp hn c' hcc hK
  refine Yf hH hF.at_ hr hp hn Q _ (fun v w' S' h1 h2 h3 => ⟨_, hK, S', h1, ?_⟩)
  exact ⟨(hF.ext h2).putD hd (hcc _ _ _ _ h3), by rw [E1]; exact hM.ext h2⟩
 unfold Fy at h
 split at h
 ·exact h.elim
 ·rename_i hg
  rw [if_pos (H5 hg _)]
  split at h
  ·rename_i p c hr
   exact run (by rw [hr]; rfl) h.2.1 h.1 c (fun _ _ _ _ h => h) h.2.2
  ·rename_i p c H' n' hr
   exact run (by rw [hr]; rfl) h.2.1 h.1 c (fun _ _ _ _ h => h) h.2.2
  ·exact h.elim
 ·rename_i b hg
  rw [Ga hg hF.at_]
  split at h
  ·rename_i p c hr
   cases b with
   | true =>
    rw [if_pos rfl]
    exact run (by rw [hr]; rfl) (h.1 rfl).2 (h.1 rfl).1 (.cond true c) (fun _ _ _ _ h => .cond _ _ _ (fun _ => h) (fun e => by cases e)) h.2
   | false =>
    rw [if_neg (by simp)]
    exact ⟨_, h.2, S, hH, hF.putD hd (.cond _ _ _ (fun e => by cases e) (fun _ => rfl)), by rw [E1]; exact hM⟩
  ·rename_i p c H' n' hr
   cases b with
   | true =>
    rw [if_pos rfl]
    exact run (by rw [hr]; rfl) (h.1 rfl).2.1 (h.1 rfl).1 c (fun _ _ _ _ h => h) (h.1 rfl).2.2
   | false =>
    rw [if_neg (by simp)]
    exact ⟨_, h.2 rfl, S, hH, hF.putD hd (.cond _ _ _ (fun e => by cases e) (fun _ => rfl)), by rw [E1]; exact hM⟩
  ·exact h.elim
theorem Mh.drawn {N : Nat} {st : St} {k : Nat} (h : Mh W0 M0 N st a w) : Mh W0 M0 N st a { w with drawn := k } := by
 obtain ⟨S, hH, hF, hM⟩ := h
 have hE : Cu w S st.n { w with drawn := k } S st.n := ⟨Nat.le_refl _, Nat.le_refl _, fun _ _ => .inl rfl, fun _ _ h => h, fun _ _ _ => rfl⟩
 refine ⟨S, ⟨hH.bnd, hH.lt2, fun id b hb => ?_, hH.inj2, hH.nod, hH.plain, hH.mut2, hH.os, hH.tape, hH.output, hH.size, hH.same, hH.far, hH.pin, hH.glx hE⟩, hF.ext hE, hM.ext hE⟩
 obtain ⟨l, hl, hb'⟩ := hH.box id b hb
 exact ⟨l, hl, hb'.ext hE (fun _ _ => rfl)⟩
end
end Go.Vc
/- The Vc layer: an operation that only yields a value may be taken first. -/
set_option linter.all false
namespace Go.Vc
open Go Go.RowKit
variable [Bl]
def Ev (H H' : Av) : Prop := ∀ id b, H id = some b → H' id = some b
def Ep : Op → Bool
 | .move _ | .assign _ | .binOp .. | .unOp .. | .field .. | .index .. | .extract .. | .pick .. => true
 | _ => false
def EK : Op → Bool
 | .pick .. => true
 | o => RI o
def MS (calm : List FuncId) : Op → Bool
 | .call ⟨.value (.func f), _, _⟩ => calm.contains f
 | o => EK o
section
variable {P : Program} {E : Bq P}
def Calm (E : Bq P) (calm : List FuncId) : Prop :=
 ∀ f sp, f ∈ calm → E.Γ f = some sp → ∀ args H n p r o, sp.run args H n = some (p, r, o) → o = none ∧ Tx r = true
theorem Sd {fr : Nat → AV} {H H' : Av} {n n' : Nat} {op : Op} (h : Ep op = true) : C0 E fr H n op = C0 E fr H' n' op := by
 unfold Ep at h
 split at h <;> first | rfl | cases h
theorem Sb {H H' : Av} (h : Ev H H') {x : AV} {r : Prop × AV} (hr : Mj H x = some r) : Mj H' x = some r := by
 unfold Mj at *
 split at hr
 ·split at hr
  ·rename_i hb; simp only [h _ _ hb]; exact hr
  ·cases hr
 all_goals exact hr
theorem Sa {ty : TypeId → Option TI} {H H' : Av} (h : Ev H H') {t : TypeId} {x : AV} {r : Prop × AV} (hr : Mi ty H t x = some r) : Mi ty H' t x = some r := by
 unfold Mi at *
 repeat' split at hr
 all_goals first
  | (cases hr; done)
  | (rename_i hb; simp only [h _ _ hb, *] at *; done)
  | (simp_all [Ev]; done)
theorem Ny {ty : TypeId → Option TI} {H H' : Av} (h : Ev H H') {t : TypeId} {x : AV} {lo hi : Option AV} {r : Prop × AV} (hr : EO ty H t x lo hi = some r) : EO ty H' t x lo hi = some r := by
 unfold EO at *
 repeat' split at hr
 all_goals first
  | (cases hr; done)
  | (rename_i hb; simp only [h _ _ hb, *] at *; done)
  | (simp_all [Ev]; done)
theorem Jq {ty : TypeId → Option TI} {H H' : Av} (h : Ev H H') {s : TypeId} {x : AV} {f : Nat} {r : Prop × AV} (hr : Dn ty H s x f = some r) : Dn ty H' s x f = some r := by
 unfold Dn at *
 repeat' split at hr
 all_goals first
  | (cases hr; done)
  | (rename_i hb; simp only [h _ _ hb, *] at *; done)
  | (simp_all [Ev]; done)
theorem Jr {ty : TypeId → Option TI} {H H' : Av} (h : Ev H H') {t : TypeId} {x i : AV} {r : Prop × AV} (hr : Dp ty H t x i = some r) : Dp ty H' t x i = some r := by
 unfold Dp at *
 repeat' split at hr
 all_goals first
  | (cases hr; done)
  | (rename_i hb; simp only [h _ _ hb, *] at *; done)
  | (simp_all [Ev]; done)
theorem Pt {ty : TypeId → Option TI} {H H' : Av} (h : Ev H H') {t : TypeId} {x : AV} {r : Prop × AV} (hr : FJ ty H t x = some r) : FJ ty H' t x = some r := by
 unfold FJ at *
 repeat' split at hr
 all_goals first
  | (cases hr; done)
  | (rename_i hb; simp only [h _ _ hb, *] at *; done)
  | (simp_all [Ev]; done)
theorem NI {H H' : Av} (h : Ev H H') {x : AV} {r : List AV} (hr : DY H x = some r) : DY H' x = some r := by
 unfold DY at *
 repeat' split at hr
 all_goals first
  | (cases hr; done)
  | (rename_i hb; simp only [h _ _ hb, *] at *; done)
  | (simp_all [Ev]; done)
theorem Ps {ty : TypeId → Option TI} {H H' : Av} (h : Ev H H') {s t : TypeId} {x : AV} {r : Prop × AV} (hr : HJ ty H s t x = some r) : HJ ty H' s t x = some r := by
 unfold HJ at *
 repeat' split at hr
 all_goals first
  | (cases hr; done)
  | (rename_i hb; simp only [h _ _ hb, *] at *; done)
  | (simp_all [Ev]; done)
theorem PI {H H' : Av} (h : Ev H H') {pl : Nat → Option (Nat × Nat)} : ∀ {parts : List (Nat × AV)} {cs out : List AV}, EU H pl cs parts = some out → EU H' pl cs parts = some out := by
 intro parts
 induction parts with
 | nil => intro cs out hr; exact hr
 | cons q parts ih =>
  intro cs out hr
  obtain ⟨i, x⟩ := q
  unfold EU at hr ⊢
  split at hr
  ·rename_i hpl hcs
   rw [NI h hcs]
   simp only [hpl]
   split at hr
   ·rename_i hc; rw [if_pos hc]; exact ih hr
   ·cases hr
  ·cases hr
theorem Nv {ty : TypeId → Option TI} {H H' : Av} (h : Ev H H') {t : TypeId} {parts : List (Nat × AV)} {r : Prop × AV} (hr : Fm ty H t parts = some r) : Fm ty H' t parts = some r := by
 have go : ∀ {pl : Nat → Option (Nat × Nat)} {cs : List AV} {k : List AV → Prop × AV}, (EU H pl cs parts).map k = some r → (EU H' pl cs parts).map k = some r := by
  intro pl cs k hk
  rw [Option.map_eq_some_iff] at *
  obtain ⟨x, h1, h2⟩ := hk
  exact ⟨x, PI h h1, h2⟩
 unfold Fm at *
 repeat' split at hr
 ·exact go hr
 ·exact go hr
 ·cases hr
 ·cases hr
theorem Sf {ty : TypeId → Option TI} {H H' : Av} (h : Ev H H') {fr : Nat → AV} {op : Op} {r : Prop × AV} (hr : Hc ty H fr op = some r) : Hc ty H' fr op = some r := by
 unfold Hc at hr ⊢
 split at hr
 all_goals first
  | (cases hr; done)
  | exact hr
  | exact Sb h hr
  | exact Ps h hr
  | exact Ny h hr
  | exact Jq h hr
  | exact Jr h hr
  | exact Pt h hr
  | exact Nv h hr
  | exact Sa h hr
theorem Mk {fr : Nat → AV} {H : Av} {n : Nat} {op : Op} (h : RI op = true) : C0 E fr H n op = .ofV (Hc E.X.ty H fr op) := by
 unfold RI at h
 split at h <;> first | rfl | cases h
theorem Ua {fr : Nat → AV} {H H' : Av} {n n' : Nat} (h : Ev H H') {op : Op} (ht : EK op = true) {p : Prop} {c : AV} (hr : C0 E fr H n op = .v p c) : C0 E fr H' n' op = .v p c := by
 unfold EK at ht
 split at ht
 ·exact hr
 ·rw [Mk ht] at *
  cases hv : Hc E.X.ty H fr op with
  | none => rw [hv] at hr; cases hr
  | some r => rw [hv] at hr; rw [Sf h hv]; exact hr
theorem Sc {calm : List FuncId} (hc : Calm E calm) {fr : Nat → AV} {H H' : Av} {n n' : Nat} {op : Op} (hq : MS calm op = true) {p : Prop} {c : AV} (hr : C0 E fr H n op = .h p c H' n') : False := by
 unfold MS at hq
 split at hq
 ·rename_i f args ts
  have hr' : (match E.Γ f with | some sp => D5 sp H n ((args.toList.map fun x => AD (Bc fr x)) ++ []) | none => .bad) = RS.h p c H' n' := hr
  split at hr'
  ·rename_i sp hsp
   unfold D5 at hr'
   split at hr'
   ·split at hr'
    ·rename_i hrun
     obtain ⟨_, hsc⟩ := hc f sp (by simpa using hq) hsp _ _ _ _ _ _ hrun
     rw [if_pos hsc] at hr'; cases hr'
    ·rename_i hrun
     obtain ⟨ho, _⟩ := hc f sp (by simpa using hq) hsp _ _ _ _ _ _ hrun
     cases ho
    ·cases hr'
   ·cases hr'
  ·cases hr'
 ·unfold EK at hq
  split at hq
  ·rename_i x y z _
   have hr' : RS.ofV (EC (Bc fr x) (Bc fr y) (Bc fr z)) = .h p c H' n' := hr
   cases hv : EC (Bc fr x) (Bc fr y) (Bc fr z) with
   | none => rw [hv] at hr'; cases hr'
   | some q => rw [hv] at hr'; cases hr'
  ·rw [Mk hq] at hr
   cases hv : Hc E.X.ty H fr op with
   | none => rw [hv] at hr; cases hr
   | some q => rw [hv] at hr; cases hr
/-! ### frames that agree on what an operation looks at -/
theorem Pu {ty : TypeId → Option TI} {H : Av} {fr fr' : Nat → AV} {op : Op} (h : ∀ x ∈ op.operands.toList, Bc fr x = Bc fr' x) : Hc ty H fr op = Hc ty H fr' op := by
 unfold Hc
 split <;> first
  | (simp only [Op.operands, Call.operands, List.mem_cons, List.mem_append, Array.toList_append, List.not_mem_nil, or_false, forall_eq_or_imp, forall_eq] at h; simp only [h]; done)
  | rfl
  | skip
 ·rename_i t x lo hi
  rw [h x (by simp [Op.operands])]
  cases lo with
  | none => cases hi with
   | none => rfl
   | some y => simp only [Option.map_some, Option.map_none]; rw [h y (by simp [Op.operands])]
  | some z => cases hi with
   | none => simp only [Option.map_some, Option.map_none]; rw [h z (by simp [Op.operands])]
   | some y => simp only [Option.map_some]; rw [h y (by simp [Op.operands]), h z (by simp [Op.operands])]
 ·rename_i t parts
  congr 1
  refine List.map_congr_left fun q hq => ?_
  rw [h q.2 (by simp only [Op.operands, List.toList_toArray, List.mem_map]; exact ⟨q, hq, rfl⟩)]
 ·rename_i fn cap
  congr 3
  refine List.map_congr_left fun x hx => ?_
  rw [h x (by simp only [Op.operands, Array.toList_append, List.mem_append]; exact .inr hx)]
 ·rename_i x t
  rw [h x (by simp [Op.operands, Call.operands])]
 ·rename_i x y _
  rw [h x (by simp [Op.operands, Call.operands]), h y (by simp [Op.operands, Call.operands])]
 ·rename_i x y _
  rw [h x (by simp [Op.operands, Call.operands]), h y (by simp [Op.operands, Call.operands])]
theorem Ll {fr fr' : Nat → AV} {H : Av} {n : Nat} {op : Op} (h : ∀ x ∈ op.operands.toList, Bc fr x = Bc fr' x) : C0 E fr H n op = C0 E fr' H n op := by
 unfold C0
 split
 ·rfl
 ·rename_i e x
  rw [h x (by simp [Op.operands])]
 ·rename_i t len parts
  congr 2
  refine List.map_congr_left fun q hq => ?_
  rw [h q.2 (by simp only [Op.operands, List.toList_toArray, List.mem_map]; exact ⟨q, hq, rfl⟩)]
 ·rename_i t l c
  rw [h l (by simp [Op.operands]), h c (by simp [Op.operands])]
 ·rename_i t ad x
  rw [h ad (by simp [Op.operands]), h x (by simp [Op.operands])]
 ·rename_i x y z
  rw [h x (by simp [Op.operands]), h y (by simp [Op.operands]), h z (by simp [Op.operands])]
 ·rename_i s x t t'
  rw [h s (by simp [Op.operands, Call.operands]), h x (by simp [Op.operands, Call.operands])]
 ·rename_i f args ts
  rw [h f (by simp [Op.operands, Call.operands])]
  have : args.toList.map (fun x => AD (Bc fr x)) = args.toList.map (fun x => AD (Bc fr' x)) :=
   List.map_congr_left fun x hx => by rw [h x (by simp only [Op.operands, Call.operands, Array.toList_append, List.mem_append]; exact .inr hx)]
  rw [this]
 ·rw [Pu h]
theorem Vp {fr fr' : Nat → AV} : ∀ {l : List Operand}, (∀ x ∈ l, Bc fr x = Bc fr' x) → nd fr l = nd fr' l := by
 intro l
 induction l with
 | nil => intro _; rfl
 | cons x l ih => intro h; unfold nd; rw [h x (by simp), ih (fun y hy => h y (by simp [hy]))]
theorem LA {fr fr' : Nat → AV} {op : Op} (h : ∀ x ∈ op.operands.toList, Bc fr x = Bc fr' x) : CN fr op = CN fr' op := by
 unfold CN
 split
 ·rfl
 ·exact Vp h
theorem Dq {ops : Array Oper} {fr fr' : Nat → AV} {o : Oper} (h : ∀ d, (∃ g want, o.guard = some (g, want) ∧ (ops[g]?).bind (·.dst) = some d) → fr d = fr' d) : Bg ops fr o.guard = Bg ops fr' o.guard := by
 unfold Bg
 split
 ·rfl
 ·rename_i g want hg
  split
  ·rename_i d hd; rw [h d ⟨g, want, hg, hd⟩]
  ·rfl
theorem K5 {ops : Array Oper} {o : Oper} {dst : Option Tmp} {c : AV} {fr : Nat → AV} (h : ∀ d, dst = some d → d ∉ o.looksAt ops) :
  (∀ x ∈ o.op.operands.toList, Bc (putD dst c fr) x = Bc fr x) ∧ ∀ d, (∃ g want, o.guard = some (g, want) ∧ (ops[g]?).bind (·.dst) = some d) → putD dst c fr d = fr d := by
 cases dst with
 | none => exact ⟨fun _ _ => rfl, fun _ _ => rfl⟩
 | some e =>
  have he := h e rfl
  unfold Oper.looksAt at he
  rw [List.mem_append, not_or] at he
  refine ⟨fun x hx => ?_, ?_⟩
  ·cases x with
   | tmp t =>
    have : t ≠ e := fun ht => he.1 (List.mem_filterMap.2 ⟨.tmp t, hx, by rw [ht]⟩)
    simp [Bc, putD, AA, this]
   | _ => rfl
  ·rintro d ⟨g, want, hg, hd⟩
   have : d ≠ e := fun ht => he.2 (by simp [hg, hd, ht])
   simp [putD, AA, this]
theorem Tm {x y : Option Tmp} (h : ∀ d, x = some d → y ≠ some d) (c e : AV) (fr : Nat → AV) : putD y e (putD x c fr) = putD x c (putD y e fr) := by
 cases x with
 | none => rfl
 | some d =>
  cases y with
  | none => rfl
  | some k =>
   have hne : d ≠ k := fun he => h d rfl (by rw [he])
   funext i
   simp only [putD, AA]
   split <;> split <;> first | rfl | (rename_i h1 h2; exact absurd (h2.symm.trans h1) hne) | (rename_i h1 h2; exact absurd (h1.symm.trans h2) hne)
def Pf (E : Bq P) (ops : Array Oper) (o : Oper) (st : St) : RV :=
 match Bg ops st.fr o.guard with
 | none => none
 | some none => match C0 E st.fr st.H st.n o.op with
  | .v p c => some (CN st.fr o.op ∧ p, c)
  | _ => none
 | some (some b) => match C0 E st.fr st.H st.n o.op with
  | .v p c => some (b = true → CN st.fr o.op ∧ p, .cond b c)
  | _ => none
theorem TD {ops : Array Oper} {o : Oper} {st : St} {p : Prop} {c : AV} (h : Pf E ops o st = some (p, c)) (hp : p) {K : St → Prop} (hK : K ⟨putD o.dst c st.fr, st.H, st.n⟩) : Fy E ops o st K := by
 unfold Pf at h
 unfold Fy
 split at h
 ·cases h
 ·rename_i hg
  try rw [hg]
  split at h
  ·rename_i p' c' hr
   simp only [Option.some.injEq, Prod.mk.injEq] at h
   obtain ⟨rfl, rfl⟩ := h
   simp only [hr]
   exact ⟨hp.1, hp.2, hK⟩
  ·cases h
 ·rename_i b hg
  try rw [hg]
  split at h
  ·rename_i p' c' hr
   simp only [Option.some.injEq, Prod.mk.injEq] at h
   obtain ⟨rfl, rfl⟩ := h
   simp only [hr]
   exact ⟨hp, hK⟩
  ·cases h
theorem TC {ops : Array Oper} {o : Oper} {st : St} {p : Prop} {c : AV} (h : Pf E ops o st = some (p, c)) {fr' : Nat → AV} {H' : Av} {n' : Nat}
  (ha : ∀ x ∈ o.op.operands.toList, Bc fr' x = Bc st.fr x) (hg : ∀ d, (∃ g want, o.guard = some (g, want) ∧ (ops[g]?).bind (·.dst) = some d) → fr' d = st.fr d)
  (ht : EK o.op = true) (hs : Ep o.op = true ∨ Ev st.H H') : Pf E ops o ⟨fr', H', n'⟩ = some (p, c) := by
 unfold Pf at *
 simp only
 rw [Dq hg, Ll ha, LA ha]
 have hv : ∀ {p : Prop} {c : AV}, C0 E st.fr st.H st.n o.op = .v p c → C0 E st.fr H' n' o.op = .v p c := by
  intro p c hr
  rcases hs with hs | hs
  ·rw [← hr]; exact Sd hs
  ·exact Ua hs ht hr
 split at h
 ·cases h
 ·split at h
  ·rename_i hr; rw [hv hr]; exact h
  ·cases h
 ·split at h
  ·rename_i hr; rw [hv hr]; exact h
  ·cases h
end
end Go.Vc
/- The Vc layer: regions in the order of the text; control. -/
set_option linter.all false
namespace Go.Vc
open Go Go.RowKit
variable [Bl]
def Iy (md : Region.Mode) (ops : Array Oper) (l : Array Bool) (i : Nat) : List Nat :=
 (List.range ops.size).foldl (fun W j => if l.getD j true then W else match ops[j]? with
  | some oj => if oj.after.any (fun e => Region.binds md e && W.contains e.on) then j :: W else W
  | none => W) [i]
section
variable {P : Program} {E : Bq P} {w : World} {S : Lays} {n : Nat} {W0 : World} {M0 : Nat → Prop} {H : Av} {a : Act}
theorem Q0 {ops : Array Oper} {o : Oper} {st : St} {K : St → Prop} (ht : EK o.op = true) (h : Fy E ops o st K) : ∃ p c, Pf E ops o st = some (p, c) ∧ p ∧ K ⟨putD o.dst c st.fr, st.H, st.n⟩ := by
 have noh : ∀ {p : Prop} {c : AV} {H' : Av} {n' : Nat}, C0 E st.fr st.H st.n o.op ≠ .h p c H' n' := by
  intro p c H' n' hr
  unfold EK at ht
  split at ht
  ·rename_i x y z hop
   rw [hop] at hr
   have hr' : RS.ofV (EC (Bc st.fr x) (Bc st.fr y) (Bc st.fr z)) = .h p c H' n' := hr
   cases hv : EC (Bc st.fr x) (Bc st.fr y) (Bc st.fr z) with
   | none => rw [hv] at hr'; cases hr'
   | some q => rw [hv] at hr'; cases hr'
  ·rw [Mk ht] at hr
   cases hv : Hc E.X.ty st.H st.fr o.op with
   | none => rw [hv] at hr; cases hr
   | some q => rw [hv] at hr; cases hr
 unfold Fy at h
 unfold Pf
 split at h
 ·exact h.elim
 ·rename_i hg
  try rw [hg]
  split at h
  ·rename_i p c hr
   simp only [hr]
   exact ⟨_, _, rfl, ⟨h.1, h.2.1⟩, h.2.2⟩
  ·rename_i hr; exact (noh hr).elim
  ·exact h.elim
 ·rename_i b hg
  try rw [hg]
  split at h
  ·rename_i p c hr
   simp only [hr]
   exact ⟨_, _, rfl, h.1, h.2⟩
  ·rename_i hr; exact (noh hr).elim
  ·exact h.elim
/-! ### control -/
def AR (E : Bq P) (W0 : World) (M0 : Nat → Prop) (K : Exit → St → Prop) : Exit → Act → World → Prop := fun e a w => ∃ st, K e st ∧ Mh W0 M0 E.N st a w
def VC (E : Bq P) (W0 : World) (M0 : Nat → Prop) (c : Code) (st : St) (K : Exit → St → Prop) : Prop :=
 ∀ a w, Mh W0 M0 E.N st a w → c.wpIn (NV E.ρ) 0 P (AR E W0 M0 K) a w
def Sub (E : Bq P) (W0 : World) (M0 : Nat → Prop) (st st' : St) : Prop := ∀ a w, Mh W0 M0 E.N st a w → Mh W0 M0 E.N st' a w
theorem VC.sub {c : Code} {st st' : St} {K : Exit → St → Prop} (hs : Sub E W0 M0 st st') (h : VC E W0 M0 c st' K) : VC E W0 M0 c st K := fun a w hw => h a w (hs a w hw)
theorem VC.mono {c : Code} {st : St} {K K' : Exit → St → Prop} (hk : ∀ e st, K e st → K' e st) (h : VC E W0 M0 c st K) : VC E W0 M0 c st K' :=
 fun a w hw => wpIn_mono (h a w hw) (fun e a w ⟨st, h1, h2⟩ => ⟨st, hk e st h1, h2⟩)
def Jp (next : St → Prop) (K : Exit → St → Prop) : Exit → St → Prop
 | .normal, st => next st
 | e, st => K e st
def I7 (id : Nat) (K : Exit → St → Prop) : Exit → St → Prop
 | .exit id', st => if id' = id then K .normal st else K (.exit id') st
 | e, st => K e st
theorem An {st : St} {K : Exit → St → Prop} (h : K .normal st) : VC E W0 M0 .skip st K := fun a w hs => wpIn_skip ⟨st, h, hs⟩
theorem AJ {id : Nat} {st : St} {K : Exit → St → Prop} (h : K (.exit id) st) : VC E W0 M0 (.exit id) st K := fun a w hs => wpIn_exit ⟨st, h, hs⟩
theorem Am {st : St} {K : Exit → St → Prop} (h : K .ret st) : VC E W0 M0 .ret st K := fun a w hs => wpIn_ret ⟨st, h, hs⟩
theorem Wt {x y : Code} {st : St} {K : Exit → St → Prop} (h : VC E W0 M0 x st (Jp (fun st => VC E W0 M0 y st K) K)) : VC E W0 M0 (.seq x y) st K := by
 intro a w hs
 refine wpIn_seq (wpIn_mono (h a w hs) ?_)
 rintro e a' w' ⟨st', h1, h2⟩
 cases e with
 | normal => exact h1 a' w' h2
 | _ => exact ⟨st', h1, h2⟩
theorem As {id : Nat} {c : Code} {st : St} {K : Exit → St → Prop} (h : VC E W0 M0 c st (I7 id K)) : VC E W0 M0 (.block id c) st K := by
 intro a w hs
 refine wpIn_block (wpIn_mono (h a w hs) ?_)
 rintro e a' w' ⟨st', h1, h2⟩
 cases e with
 | exit id' =>
  simp only [Exit.inBlock]
  simp only [I7] at h1
  split
  ·rename_i he; rw [if_pos he] at h1; exact ⟨st', h1, h2⟩
  ·rename_i he; rw [if_neg he] at h1; exact ⟨st', h1, h2⟩
 | _ => exact ⟨st', h1, h2⟩
def Uq (fr : Nat → AV) (c : Operand) (x y : Prop) : Prop :=
 match Bc fr c with
 | .d (.bool b) => (b = true → x) ∧ (b = false → y)
 | _ => False
theorem XD {c : Operand} {x y : Code} {st : St} {K : Exit → St → Prop} (h : Uq st.fr c (VC E W0 M0 x st K) (VC E W0 M0 y st K)) : VC E W0 M0 (.cond c x y) st K := by
 intro a w hs
 obtain ⟨S, hH, hF, hM⟩ := hs
 unfold Uq at h
 split at h
 ·rename_i b hb
  have hc := EP hH.gl hF.at_ c
  rw [hb, R.bool_iff] at hc
  exact wpIn_cond_split hc (fun hb => h.1 hb a w ⟨S, hH, hF, hM⟩) (fun hb => h.2 hb a w ⟨S, hH, hF, hM⟩)
 ·exact h.elim
theorem XF {σ : Type} (inv : σ → Prop) (I : σ → St) (μ : σ → Nat) (s0 : σ) {body : Code} {st : St} {K : Exit → St → Prop} (h0 : inv s0) (hs : Sub E W0 M0 st (I s0))
  (round : ∀ s, inv s → VC E W0 M0 body (I s) (Jp (fun st' => ∃ s', inv s' ∧ μ s' < μ s ∧ Sub E W0 M0 st' (I s')) K)) : VC E W0 M0 (.loop body) st K := by
 intro a w hw
 have key : ∀ n s, μ s < n → inv s → ∀ a w, Mh W0 M0 E.N (I s) a w → Code.roundsIn (NV E.ρ) 0 P body (AR E W0 M0 K) n a w := by
  intro n
  induction n with
  | zero => intro s h; omega
  | succ n ih =>
   intro s hn hi a w hsim
   show Code.wpIn (NV E.ρ) 0 P body (Exit.then (Code.roundsIn (NV E.ρ) 0 P body (AR E W0 M0 K) n) (AR E W0 M0 K)) a w
   refine wpIn_mono (round s hi a w hsim) ?_
   rintro e a' w' ⟨st', h1, h2⟩
   cases e with
   | normal =>
    obtain ⟨s', hi', hlt, hsub⟩ := h1
    exact ih s' (by omega) hi' a' w' (hsub a' w' h2)
   | _ => exact ⟨st', h1, h2⟩
 exact wpIn_loop_rounds (μ s0 + 1) (key _ s0 (by omega) h0 a w (hs a w hw))
end
end Go.Vc
/- The Vc layer: a state seen as another: boxes renumbered, let go, forgotten. -/
set_option linter.all false
namespace Go.Vc
open Go Go.RowKit
variable [Bl]
abbrev Ren := List (Option Nat)
def L7 (ρ : Ren) (H : Av) (c c' : AV) : Prop :=
 match c' with
 | .any => True
 | .d y => match c with
  | .d x => x = y ∨ Bi x = y
  | .sl k off len => match H k with
   | some (.vec _ _ xs) => (some k ∈ ρ → False) ∧ off + len ≤ xs.length ∧ D.sl ((xs.drop off).take len) = y
   | _ => False
  | .ptr k e f => match H k with
   | some (.one _ cells) => match CK cells with
    | some ds => (some k ∈ ρ → False) ∧ e = 0 ∧ f = 0 ∧ D.ptr ds = y
    | none => False
   | _ => False
  | _ => False
 | .sl i off len => match c with
  | .sl k off' len' => ρ[i]? = some (some k) ∧ off' = off ∧ len' = len
  | .d .nils => ρ[i]? = some none ∧ off = 0 ∧ len = 0
  | _ => False
 | .ptr i e f => match c with
  | .ptr k e' f' => ρ[i]? = some (some k) ∧ e' = e ∧ f' = f
  | _ => False
 | .mp i => match c with
  | .mp k => ρ[i]? = some (some k)
  | _ => False
 | .ip sz xs e f => c = .ip sz xs e f
 | _ => False
def Ta (ρ : Ren) (H : Av) : List AV → List AV → Prop
 | [], [] => True
 | c :: cs, c' :: cs' => L7 ρ H c c' ∧ Ta ρ H cs cs'
 | _, _ => False
def L8 (ρ : Ren) (H : Av) (c c' : AV) : Prop :=
 match c' with
 | .agg cs' => match c with
  | .agg cs => Ta ρ H cs cs'
  | _ => False
 | .clo fn cs' => match c with
  | .clo fn' cs => fn' = fn ∧ Ta ρ H cs cs'
  | _ => False
 | c' => L7 ρ H c c'
def Qf (ρ : Ren) (H : Av) : List AV → List AV → Prop
 | [], [] => True
 | c :: cs, c' :: cs' => L8 ρ H c c' ∧ Qf ρ H cs cs'
 | _, _ => False
def mt (ρ : Ren) (H : Av) (c c' : AV) : Prop :=
 match c' with
 | .tup cs' => match c with
  | .tup cs => Qf ρ H cs cs'
  | _ => False
 | c' => L8 ρ H c c'
def L9 (ρ : Ren) (H : Av) : B7 → B7 → Prop
 | .vec t s xs, .vec t' s' xs' => t = t' ∧ s = s' ∧ xs = xs'
 | .one t cs, .one t' cs' => t = t' ∧ Ta ρ H cs cs'
 | .ob o, .ob o' => o = o'
 | _, _ => False
def GD (ρ : Ren) (H : Av) : Ren → List (Option B7) → Prop
 | [], [] => True
 | some k :: r, some b' :: bs => (match H k with | some b => L9 ρ H b b' | none => False) ∧ GD ρ H r bs
 | none :: r, some b' :: bs => (match b' with | .vec _ _ xs => xs = [] | _ => False) ∧ GD ρ H r bs
 | _ :: r, none :: bs => GD ρ H r bs
 | _, _ => False
def H4 : List (Nat × AV) → Nat → AV
 | [], _ => .any
 | (j, c) :: r, i => if i = j then c else H4 r i
def Ax (bl : List (Option B7)) (i : Nat) : Option B7 := (bl[i]?).join
def Hd (fl : List (Nat × AV)) (bl : List (Option B7)) : St := ⟨H4 fl, Ax bl, bl.length⟩
def Qe (ρ : Ren) (H : Av) (fr : Nat → AV) : List (Nat × AV) → Prop
 | [] => True
 | (i, c') :: r => mt ρ H (fr i) c' ∧ Qe ρ H fr r
def DH (ρ : Ren) (bl : List (Option B7)) (S : Lays) : Lays := fun i => match ρ[i]? with
 | some (some k) => S k
 | some none => match Ax bl i with
  | some (.vec _ sz _) => some ⟨none, sz, 0, []⟩
  | _ => none
 | none => none
section
variable {P : Program} {E : Bq P} {w w' : World} {S : Lays} {n : Nat} {W0 : World} {M0 : Nat → Prop} {H : Av} {a : Act} {ρ : Ren} {bl : List (Option B7)}
theorem RD.of_vec (hH : Ai W0 M0 H n w S) {O : Nat → Prop} {id off len ty sz : Nat} {xs : List (List D)} {u : Value} (hu : R w S n (.sl id off len) u) (hb : H id = some (.vec ty sz xs)) (hp : off + len ≤ xs.length)
  (hO : ∀ l b, S id = some l → l.blk = some b → ¬ O b) (hm : ∀ b, b < w.heap.size → ¬ own S b → ¬ O b) : RD w O (.sl ((xs.drop off).take len)) u := by
 obtain ⟨l, o, hS, ⟨hsz, _, _, hz, hnil, hbk⟩, rfl, hcap, ho, h0⟩ := hu.sl_live hH hb
 have hlen : ((xs.drop off).take len).length = len := by rw [List.length_take, List.length_drop]; omega
 by_cases hl0 : len = 0
 ·subst hl0; rw [List.take_zero]; exact .sl0 _ _
 ·cases hk : l.blk with
  | none => have := hnil hk; omega
  | some b =>
   obtain ⟨cur, hcur, hsize, hcell⟩ := hbk b hk
   have hpt : ∀ e f c, D4 ((xs.drop off).take len) e f = some c → ∃ u, w.cell? ⟨b, o + e * sz + f, none⟩ = some u ∧ RD w O c u := fun e f c hh => by
    obtain ⟨u, hu', hr⟩ := hcell _ _ _ (CF hh)
    refine ⟨u, ?_, hr.ext (Nat.le_refl _) (fun _ _ _ => rfl) hm⟩
    rw [cell_of_row w b _ cur _ (0, 0) hcur, ho (by omega), hsz, show off * sz + e * sz + f = (off + e) * sz + f by rw [Nat.add_mul]]
    exact hu'
   have := RD.sl (w := w) (O := O) ((xs.drop off).take len) sz b o (l.cap - off) (fun e f => (w.cell? ⟨b, o + e * sz + f, none⟩).getD undef) (by omega) (Array.getElem?_eq_some_iff.1 hcur).1 (hO l b hS hk)
    (fun x hx => hz x (List.mem_of_mem_drop (List.mem_of_mem_take hx))) (fun e f c hh => by obtain ⟨u, hu, _⟩ := hpt e f c hh; rw [hu]; rfl) (fun e f c hh => by obtain ⟨u, hu, hr⟩ := hpt e f c hh; rw [hu]; exact hr)
   rw [hlen] at this
   exact this
theorem RD.of_one (hH : Ai W0 M0 H n w S) {O : Nat → Prop} {id ty : Nat} {cells : List AV} {ds : List D} {u : Value} (hu : R w S n (.ptr id 0 0) u) (hb : H id = some (.one ty cells)) (hds : CK cells = some ds)
  (hO : ∀ l b, S id = some l → l.blk = some b → ¬ O b) (hm : ∀ b, b < w.heap.size → ¬ own S b → ¬ O b) : RD w O (.ptr ds) u := by
 obtain ⟨l, k, hS, ⟨hsz, hcap, k', hk', cur, hcur, hsize, hcell⟩, hk, rfl⟩ := hu.ptr_live hH hb
 rw [hk] at hk'; cases hk'
 obtain ⟨hdl, hdd⟩ := K4 hds
 have hpt : ∀ f c, ds[f]? = some c → ∃ u, w.cell? ⟨k, 0 + f, none⟩ = some u ∧ RD w O c u := fun f c hf => by
  have hlt : f < cells.length := by have := (List.getElem?_eq_some_iff.1 hf).1; omega
  obtain ⟨d, x, h1, h2, h3⟩ := hdd f _ (List.getElem?_eq_getElem hlt)
  rw [hf] at h1; cases h1
  obtain ⟨u, hu', _, hr⟩ := hcell f _ (List.getElem?_eq_getElem hlt)
  rw [h2] at hr
  cases hr with | d hr =>
  refine ⟨u, ?_, h3 ▸ (hr.ext (Nat.le_refl _) (fun _ _ _ => rfl) hm).clean⟩
  rw [cell_of_row w k _ cur _ (0, 0) hcur, Nat.zero_add]; exact hu'
 rw [Nat.zero_mul, Nat.zero_add]
 exact .ptr ds k 0 (fun f => (w.cell? ⟨k, 0 + f, none⟩).getD undef) (Array.getElem?_eq_some_iff.1 hcur).1 (hO l k hS hk)
  (fun f c hh => by obtain ⟨u, hu, _⟩ := hpt f c hh; rw [hu]; rfl) (fun f c hh => by obtain ⟨u, hu, hr⟩ := hpt f c hh; rw [hu]; exact hr)
theorem Dw {i : Nat} {l : Lay} (h : DH ρ bl S i = some l) : (∃ k, ρ[i]? = some (some k) ∧ S k = some l) ∨ (ρ[i]? = some none ∧ l.blk = none ∧ l.subs = []) := by
 unfold DH at h
 split at h
 ·rename_i k hk; exact .inl ⟨k, hk, h⟩
 ·rename_i hk
  split at h
  ·cases h; exact .inr ⟨hk, rfl, rfl⟩
  ·cases h
 ·cases h
theorem GG {l : Lay} {b : Nat} (h1 : l.blk = none) (h2 : l.subs = []) : ¬ l.has b := fun h => h.elim (fun h => by rw [h1] at h; cases h) (fun h => by rw [h2] at h; cases h)
theorem MP {b : Nat} (h : own (DH ρ bl S) b) : own S b := by
 rcases h with h | ⟨i, l, h1, h2⟩
 ·exact .inl h
 ·rcases Dw h1 with ⟨k, _, h3⟩ | ⟨_, h3, h4⟩
  ·exact .inr ⟨k, l, h3, h2⟩
  ·exact absurd h2 (GG h3 h4)
theorem Jg (hH : Ai W0 M0 H n w S) {k : Nat} (hk : some k ∈ ρ → False) : ∀ l b, S k = some l → l.blk = some b → ¬ own (DH ρ bl S) b := by
 rintro l b hS hb (h | ⟨i, l', h1, h2⟩)
 ·exact (hH.far b (Bl.sub b h)).2 k l hS (.inl hb)
 ·rcases Dw h1 with ⟨k', h3, h4⟩ | ⟨_, h3, h5⟩
  ·have := hH.inj2 k' k l' l b h4 hS h2 (.inl hb)
   subst this
   exact hk (List.mem_of_getElem? h3)
  ·exact absurd h2 (GG h3 h5)
theorem Vi (hH : Ai W0 M0 H n w S) {c c' : AV} (h : L7 ρ H c c') {v : Value} (hv : R w S n c v) : R w (DH ρ bl S) ρ.length c' v := by
 have hm : ∀ b, b < w.heap.size → ¬ own S b → ¬ own (DH ρ bl S) b := fun b _ h h' => h (MP h')
 have mv : ∀ {d : D} {v : Value}, RD w (own S) d v → RD w (own (DH ρ bl S)) d v := fun h => h.ext (Nat.le_refl _) (fun _ _ _ => rfl) hm
 unfold L7 at h
 split at h
 ·exact .any _
 ·rename_i y
  split at h
  ·rename_i x
   cases hv with | d hx =>
   rcases h with rfl | rfl
   ·exact .d (mv hx)
   ·exact .d (mv hx).clean
  ·rename_i k off len
   split at h
   ·rename_i ty sz xs hb
    obtain ⟨h1, h2, rfl⟩ := h
    exact .d (RD.of_vec hH hv hb h2 (Jg hH h1) hm)
   ·exact h.elim
  ·rename_i k e f
   split at h
   ·rename_i ty cells hb
    split at h
    ·rename_i ds hds
     obtain ⟨h1, rfl, rfl, rfl⟩ := h
     exact .d (RD.of_one hH hv hb hds (Jg hH h1) hm)
    ·exact h.elim
   ·exact h.elim
  ·exact h.elim
 ·rename_i i off len
  split at h
  ·rename_i k off' len'
   obtain ⟨h1, rfl, rfl⟩ := h
   have hi : i < ρ.length := (List.getElem?_eq_some_iff.1 h1).1
   have hr : DH ρ bl S i = S k := by unfold DH; simp only [h1]
   cases hv with
   | slDead _ _ _ _ hn hS => exact .slDead _ _ _ _ hi (hr.trans hS)
   | sl _ _ _ o l hn hS hc ho h0 => exact .sl _ _ _ o l hi (hr.trans hS) hc ho h0
  ·obtain ⟨h1, rfl, rfl⟩ := h
   have hi : i < ρ.length := (List.getElem?_eq_some_iff.1 h1).1
   cases hv with | d hx =>
   cases hx
   cases hb : DH ρ bl S i with
   | none => exact .slDead _ _ _ _ hi hb
   | some l =>
    have hb' := hb
    unfold DH at hb'
    simp only [h1] at hb'
    split at hb'
    ·cases hb'
     exact .sl i 0 0 0 _ hi hb (by simp) (fun h => by cases h) (fun _ => rfl)
    ·cases hb'
  ·exact h.elim
 ·rename_i i e f
  split at h
  ·rename_i k e' f'
   obtain ⟨h1, rfl, rfl⟩ := h
   have hi : i < ρ.length := (List.getElem?_eq_some_iff.1 h1).1
   have hr : DH ρ bl S i = S k := by unfold DH; simp only [h1]
   cases hv with
   | ptrDead _ _ _ _ hn hS => exact .ptrDead _ _ _ _ hi (hr.trans hS)
   | ptr _ _ _ b l hn hS hb => exact .ptr _ _ _ b l hi (hr.trans hS) hb
  ·exact h.elim
 ·rename_i i
  split at h
  ·rename_i k
   have hi : i < ρ.length := (List.getElem?_eq_some_iff.1 h).1
   have hr : DH ρ bl S i = S k := by unfold DH; simp only [h]
   cases hv with
   | mpDead _ _ hn hS => exact .mpDead _ _ hi (hr.trans hS)
   | mp _ l hn hS => exact .mp _ l hi (hr.trans hS)
  ·exact h.elim
 ·subst h
  cases hv with | ip _ _ _ _ b o u hb hO hc hr => exact .ip _ _ _ _ b o u hb (hm b hb hO) hc (fun e f c hh => mv (hr e f c hh))
 ·exact h.elim
theorem Qg (hH : Ai W0 M0 H n w S) : ∀ {cs cs' : List AV}, Ta ρ H cs cs' → cs'.length = cs.length ∧ ∀ (i : Nat) (c' : AV), cs'[i]? = some c' → ∃ c, cs[i]? = some c ∧ ∀ v, R w S n c v → R w (DH ρ bl S) ρ.length c' v := by
 intro cs
 induction cs with
 | nil =>
  intro cs' h
  cases cs' with
  | nil => exact ⟨rfl, fun i c' h => by simp at h⟩
  | cons _ _ => exact h.elim
 | cons c cs ih =>
  intro cs' h
  cases cs' with
  | nil => exact h.elim
  | cons c' cs' =>
   obtain ⟨h1, h2⟩ := h
   obtain ⟨h3, h4⟩ := ih h2
   refine ⟨by simp [h3], fun i d hd => ?_⟩
   cases i with
   | zero => simp at hd; subst hd; exact ⟨c, rfl, fun v hv => Vi hH h1 hv⟩
   | succ i => simpa using h4 i d (by simpa using hd)
theorem Vj (hH : Ai W0 M0 H n w S) {c c' : AV} (h : L8 ρ H c c') {v : Value} (hv : R w S n c v) : R w (DH ρ bl S) ρ.length c' v := by
 unfold L8 at h
 split at h
 ·split at h
  ·obtain ⟨h1, h2⟩ := Qg (bl := bl) hH h
   cases hv with | agg _ us hl h1' hr =>
   exact .agg _ us (by omega) h1' (fun i c u hc hu => by obtain ⟨c0, h3, h4⟩ := h2 i c hc; exact h4 u (hr i c0 u h3 hu))
  ·exact h.elim
 ·split at h
  ·obtain ⟨rfl, h⟩ := h
   obtain ⟨h1, h2⟩ := Qg (bl := bl) hH h
   cases hv with | clo _ _ us hl hr =>
   exact .clo _ _ us (by omega) (fun i c u hc hu => by obtain ⟨c0, h3, h4⟩ := h2 i c hc; exact h4 u (hr i c0 u h3 hu))
  ·exact h.elim
 ·exact Vi hH h hv
theorem Xh (hH : Ai W0 M0 H n w S) : ∀ {cs cs' : List AV}, Qf ρ H cs cs' → cs'.length = cs.length ∧ ∀ (i : Nat) (c' : AV), cs'[i]? = some c' → ∃ c, cs[i]? = some c ∧ ∀ v, R w S n c v → R w (DH ρ bl S) ρ.length c' v := by
 intro cs
 induction cs with
 | nil =>
  intro cs' h
  cases cs' with
  | nil => exact ⟨rfl, fun i c' h => by simp at h⟩
  | cons _ _ => exact h.elim
 | cons c cs ih =>
  intro cs' h
  cases cs' with
  | nil => exact h.elim
  | cons c' cs' =>
   obtain ⟨h1, h2⟩ := h
   obtain ⟨h3, h4⟩ := ih h2
   refine ⟨by simp [h3], fun i d hd => ?_⟩
   cases i with
   | zero => simp at hd; subst hd; exact ⟨c, rfl, fun v hv => Vj hH h1 hv⟩
   | succ i => simpa using h4 i d (by simpa using hd)
theorem Rp (hH : Ai W0 M0 H n w S) {c c' : AV} (h : mt ρ H c c') {v : Value} (hv : R w S n c v) : R w (DH ρ bl S) ρ.length c' v := by
 unfold mt at h
 split at h
 ·split at h
  ·obtain ⟨h1, h2⟩ := Xh (bl := bl) hH h
   cases hv with | tup _ us hl hr =>
   exact .tup _ us (by omega) (fun i c u hc hu => by obtain ⟨c0, h3, h4⟩ := h2 i c hc; exact h4 u (hr i c0 u h3 hu))
  ·exact h.elim
 ·exact Vj hH h hv
theorem Xg (hH : Ai W0 M0 H n w S) {fr : Nat → AV} : ∀ {fl : List (Nat × AV)}, Qe ρ H fr fl → ∀ i v, R w S n (fr i) v → R w (DH ρ bl S) ρ.length (H4 fl i) v := by
 intro fl
 induction fl with
 | nil => intro _ i v _; exact .any _
 | cons q fl ih =>
  obtain ⟨j, c'⟩ := q
  intro h i v hv
  simp only [H4]
  split
  ·rename_i hi; subst hi; exact Rp hH h.1 hv
  ·exact ih h.2 i v hv
theorem FN {bl : List (Option B7)} {i : Nat} {b : B7} : Ax bl i = some b ↔ bl[i]? = some (some b) := by
 unfold Ax
 cases h : bl[i]? with
 | none => simp
 | some x => cases x <;> simp
theorem MH : ∀ {r : Ren} {bs : List (Option B7)}, GD ρ H r bs → r.length = bs.length ∧ ∀ (i : Nat) (b' : B7), bs[i]? = some (some b') →
  (∃ k b, r[i]? = some (some k) ∧ H k = some b ∧ L9 ρ H b b') ∨ (r[i]? = some none ∧ (∃ ty sz, b' = .vec ty sz [])) := by
 intro r
 induction r with
 | nil =>
  intro bs h
  cases bs with
  | nil => exact ⟨rfl, fun i b h => by simp at h⟩
  | cons _ _ => exact h.elim
 | cons q r ih =>
  intro bs h
  cases bs with
  | nil => cases q <;> exact h.elim
  | cons b' bs =>
   cases b' with
   | none =>
    have h' : GD ρ H r bs := by cases q <;> exact h
    obtain ⟨h3, h4⟩ := ih h'
    refine ⟨by simp [h3], fun i d hd => ?_⟩
    cases i with
    | zero => simp at hd
    | succ i => simpa using h4 i d (by simpa using hd)
   | some b' =>
    cases q with
    | some k =>
     obtain ⟨h1, h2⟩ := h
     obtain ⟨h3, h4⟩ := ih h2
     refine ⟨by simp [h3], fun i d hd => ?_⟩
     cases i with
     | zero =>
      simp at hd; subst hd
      split at h1
      ·rename_i b hb; exact .inl ⟨k, b, rfl, hb, h1⟩
      ·exact h1.elim
     | succ i => simpa using h4 i d (by simpa using hd)
    | none =>
     obtain ⟨h1, h2⟩ := h
     obtain ⟨h3, h4⟩ := ih h2
     refine ⟨by simp [h3], fun i d hd => ?_⟩
     cases i with
     | zero =>
      simp at hd; subst hd
      split at h1
      ·rename_i ty sz xs; subst h1; exact .inr ⟨rfl, ⟨ty, sz, rfl⟩⟩
      ·exact h1.elim
     | succ i => simpa using h4 i d (by simpa using hd)
def Fp : Ren → Bool
 | [] => true
 | some k :: r => !r.contains (some k) && Fp r
 | none :: r => Fp r
theorem Sj : ∀ {ρ : Ren}, Fp ρ = true → ∀ (i j k : Nat), ρ[i]? = some (some k) → ρ[j]? = some (some k) → i = j := by
 intro ρ
 induction ρ with
 | nil => intro _ i j k h; simp at h
 | cons q r ih =>
  intro h i j k hi hj
  have hr : Fp r = true := by cases q <;> simp [Fp] at h <;> first | exact h | exact h.2
  have hnm : ∀ m : Nat, q = some k → r[m]? ≠ some (some k) := by
   rintro m rfl hm
   simp [Fp] at h
   exact h.1 (List.mem_of_getElem? hm)
  cases i with
  | zero => cases j with
   | zero => rfl
   | succ j => exact absurd (by simpa using hj) (hnm j (by simpa using hi))
  | succ i => cases j with
   | zero => exact absurd (by simpa using hi) (hnm i (by simpa using hj))
   | succ j => rw [ih hr i j k (by simpa using hi) (by simpa using hj)]
def KF (np : Nat) (ρ : Ren) (st : St) (fl : List (Nat × AV)) (bl : List (Option B7)) : Prop :=
 (Fp ρ && (ρ.take np == (List.range np).map some)) = true ∧ GD ρ st.H ρ bl ∧ Qe ρ st.H st.fr fl
theorem Ai.ren (hH : Ai W0 M0 H n w S) (ha : Fp ρ = true) (hp : ∀ i, i < Bl.np → ρ[i]? = some (some i)) (hb : GD ρ H ρ bl) : Ai W0 M0 (Ax bl) bl.length w (DH ρ bl S) := by
 obtain ⟨hlen, hB⟩ := MH hb
 have hm : ∀ b, b < w.heap.size → ¬ own S b → ¬ own (DH ρ bl S) b := fun b _ h h' => h (MP h')
 have mv : ∀ {d : D} {v : Value}, RD w (own S) d v → RD w (own (DH ρ bl S)) d v := fun h => h.ext (Nat.le_refl _) (fun _ _ _ => rfl) hm
 constructor
 ·intro i hi
  unfold DH
  rw [List.getElem?_eq_none (by omega)]
 ·intro i l b h1 h2
  rcases Dw h1 with ⟨k, _, h3⟩ | ⟨_, h3, h4⟩
  ·exact hH.lt2 k l b h3 h2
  ·exact absurd h2 (GG h3 h4)
 ·intro i b' hb'
  rw [FN] at hb'
  rcases hB i b' hb' with ⟨k, b, h1, h2, h3⟩ | ⟨h1, hb0⟩
  ·obtain ⟨l, hl, hbox⟩ := hH.box k b h2
   refine ⟨l, by unfold DH; simp only [h1]; exact hl, ?_⟩
   cases b with
   | vec t s xs =>
    cases b' with
    | one _ _ => exact h3.elim
    | ob _ => exact h3.elim
    | vec t' s' xs' =>
     obtain ⟨rfl, rfl, rfl⟩ := h3
     obtain ⟨g1, g2, g3, g4, g5, g6⟩ := hbox
     refine ⟨g1, g2, g3, g4, g5, fun b hb => ?_⟩
     obtain ⟨cur, e1, e2, e3⟩ := g6 b hb
     exact ⟨cur, e1, e2, fun e f c hh => by obtain ⟨u, e4, e5⟩ := e3 e f c hh; exact ⟨u, e4, mv e5⟩⟩
   | one t cs =>
    cases b' with
    | vec _ _ _ => exact h3.elim
    | ob _ => exact h3.elim
    | one t' cs' =>
     obtain ⟨rfl, h3⟩ := h3
     obtain ⟨h4, h5⟩ := Qg (bl := bl) hH h3
     obtain ⟨g1, g2, b, hb, cur, e1, e2, e3⟩ := hbox
     refine ⟨by omega, g2, b, hb, cur, e1, by omega, fun f c hc => ?_⟩
     obtain ⟨c0, h6, h7⟩ := h5 f c hc
     obtain ⟨u, e4, e5, e6⟩ := e3 f c0 h6
     rw [← hlen]
     exact ⟨u, e4, e5, h7 u e6⟩
   | ob o =>
    cases b' with
    | vec _ _ _ => exact h3.elim
    | one _ _ => exact h3.elim
    | ob o' => cases h3; exact o.same hbox hm
  ·obtain ⟨ty, sz, rfl⟩ := hb0
   refine ⟨⟨none, sz, 0, []⟩, by unfold DH; simp only [h1, FN.2 hb'], ⟨rfl, by simp [maxLen], by simp, by simp, fun _ => rfl, fun b hb => by cases hb⟩⟩
 ·intro i j l l' b hi hj h1 h2
  rcases Dw hi with ⟨k, hk, hSk⟩ | ⟨_, h3, h4⟩
  ·rcases Dw hj with ⟨k', hk', hSk'⟩ | ⟨_, h3, h4⟩
   ·have := hH.inj2 k k' l l' b hSk hSk' h1 h2
    subst this
    exact Sj ha i j k hk hk'
   ·exact absurd h2 (GG h3 h4)
  ·exact absurd h1 (GG h3 h4)
 ·intro i l hi
  rcases Dw hi with ⟨k, hk, hSk⟩ | ⟨_, h3, h4⟩
  ·exact hH.nod k l hSk
  ·rw [h4]; exact ⟨List.nodup_nil, fun b _ => by simp⟩
 ·intro i l b' hb' hi hp
  rcases Dw hi with ⟨k, hk, hSk⟩ | ⟨_, h3, h4⟩
  ·rcases hB i b' (FN.1 hb') with ⟨k', b, h1, h2, h3⟩ | ⟨h1, _⟩
   ·rw [h1] at hk; cases hk
    refine hH.plain _ l b h2 hSk ?_
    cases b <;> cases b' <;> simp_all [G6, L9]
   ·rw [h1] at hk; cases hk
  ·exact h4
 ·intro i l b hl hi hb'
  cases hbi : Ax bl i with
  | none => simp [hbi] at hl
  | some b' =>
   rcases hB i b' (FN.1 hbi) with ⟨k, b0, h1, h2, h3⟩ | ⟨h1, _⟩
   ·have : DH ρ bl S i = S k := by unfold DH; simp only [h1]
    exact hH.mut2 k l b (by rw [h2]; rfl) (by rw [← this]; exact hi) hb'
   ·rcases Dw hi with ⟨k, hk, _⟩ | ⟨_, h3, h4⟩
    ·rw [h1] at hk; cases hk
    ·exact absurd hb' (GG h3 h4)
 ·exact hH.os
 ·exact hH.tape
 ·exact hH.output
 ·exact hH.size
 ·exact hH.same
 ·intro b hf
  refine ⟨(hH.far b hf).1, fun i l hi hb' => ?_⟩
  rcases Dw hi with ⟨k, _, hk⟩ | ⟨_, h3, h4⟩
  ·exact (hH.far b hf).2 k l hk hb'
  ·exact absurd hb' (GG h3 h4)
 ·intro i hpn
  have hi := hp i hpn
  refine ⟨by have := (List.getElem?_eq_some_iff.1 hi).1; omega, ?_⟩
  have : DH ρ bl S i = S i := by unfold DH; simp only [hi]
  rw [this]
  exact (hH.pin i hpn).2
 ·refine hH.gl_sub fun b h => ?_
  rcases h with h | ⟨i, l, hi, hb'⟩
  ·exact .inl h
  ·rcases Dw hi with ⟨k, _, hk⟩ | ⟨_, h3, h4⟩
   ·exact .inr ⟨k, l, hk, hb'⟩
   ·exact absurd hb' (GG h3 h4)
theorem Rv {np : Nat} (h : (ρ.take np == (List.range np).map some) = true) : ∀ i, i < np → ρ[i]? = some (some i) := by
 intro i hi
 have h : ρ.take np = (List.range np).map some := by simpa using h
 have h2 : (ρ.take np)[i]? = ((List.range np).map some)[i]? := by rw [h]
 rw [List.getElem?_take, if_pos hi] at h2
 rw [h2, List.getElem?_map, List.getElem?_range hi]; rfl
theorem Q2 {np : Nat} (hnp : Bl.np = np) (ρ : Ren) {st : St} {fl : List (Nat × AV)} (h : KF np ρ st fl bl) : Sub E W0 M0 st (Hd fl bl) := by
 obtain ⟨h1, h2, h3⟩ := h
 rw [Bool.and_eq_true] at h1
 rintro a w ⟨S, hH, hF, hM⟩
 have hlen := (MH h2).1
 refine ⟨DH ρ bl S, hH.ren h1.1 (by rw [hnp]; exact Rv h1.2) h2, ⟨hF.size, fun i => ?_⟩, hM.let_, hM.apart, fun hm2 d hd => ?_⟩
 rotate_left
 ·obtain ⟨D, e1, e2, e3, e4⟩ := hM.at_ hm2 d hd
  exact ⟨D, e1, e2, e3, fun h => e4 (MP h)⟩
 show R w (DH ρ bl S) bl.length (H4 fl i) _
 rw [← hlen]
 exact Xg hH h3 i _ (hF.at_ i)
theorem VC.mk {np : Nat} (hnp : Bl.np = np) (ρ : Ren) {c : Code} {st : St} {fl : List (Nat × AV)} {K : Exit → St → Prop} (h : KF np ρ st fl bl) (hc : VC E W0 M0 c (Hd fl bl) K) : VC E W0 M0 c st K := hc.sub (Q2 hnp ρ h)
end
end Go.Vc
/- The Vc layer: from a walk of the body to what the function does. -/
set_option linter.all false
namespace Go.Vc
open Go Go.RowKit
def Hf {P : Program} (E : Bq P) (H : Av) (fr : Nat → AV) : List ResultVar → Option (Prop × List AV)
 | [] => some (True, [])
 | .tmp t :: r => match Hf E H fr r with
  | some (p, cs) => some (Bw (fr t) ∧ p, AD (fr t) :: cs)
  | none => none
 | .cell a ty :: r => match FJ E.X.ty H ty (AD (fr a)), Hf E H fr r with
  | some (q, c), some (p, cs) => some (Bw (fr a) ∧ q ∧ p, c :: cs)
  | _, _ => none
def Hm : List AV → AV
 | [c] => c
 | cs => .tup cs
def Rw : AV → Bool
 | .any | .d _ | .ip .. => true
 | _ => false
def LG : AV → Bool
 | .agg cs | .clo _ cs => cs.all Rw
 | c => Rw c
def Rx : AV → Bool
 | .tup cs => cs.all LG
 | c => LG c
def ET : Nat → List AV → List (Nat × AV)
 | _, [] => []
 | k, c :: cs => (k, c) :: ET (k + 1) cs
theorem Lz : ∀ (cs : List AV) (k i : Nat), H4 (ET k cs) i = if k ≤ i then (cs[i - k]?).getD .any else .any := by
 intro cs
 induction cs with
 | nil => intro k i; simp [ET, H4]
 | cons c cs ih =>
  intro k i
  simp only [ET, H4, ih]
  by_cases hi : i = k
  ·subst hi; simp
  ·rw [if_neg hi]
   by_cases hk : k ≤ i
   ·rw [if_pos (by omega), if_pos hk, show i - k = (i - (k + 1)) + 1 by omega, List.getElem?_cons_succ]
   ·rw [if_neg (by omega), if_neg hk]
def VJ {P : Program} (E : Bq P) (rs : List ResultVar) (r : AV) : Exit → St → Prop := fun e st =>
 (e = .normal ∨ e = .ret) ∧ match Hf E st.H st.fr rs with
  | some (p, cs) => p ∧ mt [] st.H (Hm cs) r
  | none => False
section
variable {P : Program} {w : World} {S S' : Lays} {n n' : Nat}
theorem IU {F F' : Bl} (hO : ∀ b, b < w.heap.size → ¬ @own F S b → ¬ @own F' S' b) {c : AV} {v : Value} (hp : Rw c = true) (h : @R F w S n c v) : @R F' w S' n' c v := by
 cases h <;> simp [Rw] at hp
 ·exact .any _
 ·rename_i hx; exact .d (hx.ext (Nat.le_refl _) (fun _ _ _ => rfl) hO)
 ·rename_i sz xs e f b o u hb hO' hc hr
  exact .ip sz xs e f b o u hb (hO b hb hO') hc (fun e f c hh => (hr e f c hh).ext (Nat.le_refl _) (fun _ _ _ => rfl) hO)
theorem IV {F F' : Bl} (hO : ∀ b, b < w.heap.size → ¬ @own F S b → ¬ @own F' S' b) {c : AV} {v : Value} (hp : LG c = true) (h : @R F w S n c v) : @R F' w S' n' c v := by
 unfold LG at hp
 split at hp
 ·cases h with | agg _ us hl h1 hr =>
  exact .agg _ us hl h1 (fun i c u hc hu => IU hO (List.all_eq_true.1 hp c (List.mem_of_getElem? hc)) (hr i c u hc hu))
 ·cases h with | clo _ _ us hl hr =>
  exact .clo _ _ us hl (fun i c u hc hu => IU hO (List.all_eq_true.1 hp c (List.mem_of_getElem? hc)) (hr i c u hc hu))
 ·exact IU hO hp h
theorem LH {F F' : Bl} (hO : ∀ b, b < w.heap.size → ¬ @own F S b → ¬ @own F' S' b) {c : AV} {v : Value} (hp : Rx c = true) (h : @R F w S n c v) : @R F' w S' n' c v := by
 unfold Rx at hp
 split at hp
 ·cases h with | tup _ us hl hr =>
  exact .tup _ us hl (fun i c u hc hu => IV hO (List.all_eq_true.1 hp c (List.mem_of_getElem? hc)) (hr i c u hc hu))
 ·exact IV hO hp h
def OD : List Value → Value
 | [v] => v
 | vs => .tuple vs.toArray
def Gf (tmps : Array Value) : ResultVar → Sem Value
 | .tmp t => pure (tmps.getD t undef)
 | .cell a t => do loadVar t (← asAddr (tmps.getD a undef))
theorem Xd {t : TypeId} {u : Value} {w w' : World} {v : Value} (h : (Instr.loadAt t u).run P w = .ok v w') : (do loadVar t (← asAddr u) : Sem Value).run P w = .ok v w' := by
 unfold Instr.loadAt at h
 cases u with
 | pointer a => cases a <;> simp_all [Instr.sureAddr, asAddr]
 | _ => simp_all [Instr.sureAddr, asAddr]
theorem UX {f : ResultVar → Sem Value} {w : World} : ∀ (rs : List ResultVar) (vs : List Value), rs.length = vs.length → (∀ (i : Nat) (r : ResultVar) (v : Value), rs[i]? = some r → vs[i]? = some v → (f r).run P w = .ok v w) →
  (rs.mapM f).run P w = .ok vs w := by
 intro rs
 induction rs with
 | nil =>
  intro vs hl _
  have : vs = [] := List.eq_nil_of_length_eq_zero hl.symm
  subst this
  simp
 | cons r rs ih =>
  intro vs hl h
  cases vs with
  | nil => cases hl
  | cons v vs =>
   have h1 := h 0 r v rfl rfl
   have h2 := ih vs (by simpa using hl) (fun i r' v' hr hv => h (i + 1) r' v' (by simpa using hr) (by simpa using hv))
   simp only [List.mapM_cons, Sem.run_bind, h1, Result.andThen_ok, h2, Sem.run_pure]
theorem GJ {fn : Func} {tmps : Array Value} {vs : List Value} {w : World} (hl : fn.results.toList.length = vs.length) (h : ∀ (i : Nat) (r : ResultVar) (v : Value), fn.results.toList[i]? = some r → vs[i]? = some v → (Gf tmps r).run P w = .ok v w) :
  (results fn tmps).run P w = .ok (OD vs) w := by
 have hm := UX (P := P) (w := w) fn.results.toList vs hl h
 have e : (fn.results.mapM (Gf tmps)) = (do let l ← fn.results.toList.mapM (Gf tmps); pure l.toArray : Sem (Array Value)) := by
  rw [Array.mapM_eq_mapM_toList, map_eq_pure_bind]
 have hr : results fn tmps = (do let vs ← fn.results.mapM (Gf tmps); pure (if h : vs.size = 1 then vs[0] else .tuple vs) : Sem Value) := by
  unfold results Gf
  rfl
 rw [hr, e]
 simp only [Sem.run_bind, hm, Result.andThen_ok, Sem.run_pure]
 congr 1
 match vs with
 | [] => rfl
 | [v] => rfl
 | v :: u :: vs => simp [OD]
variable [Bl] {E : Bq P} {W0 : World} {M0 : Nat → Prop} {H : Av}
theorem MV (hH : Ai W0 M0 H n w S) {fr : Nat → AV} {tmps : Array Value} (hF : ∀ i, R w S n (fr i) (tmps.getD i undef)) : ∀ {rs : List ResultVar} {p : Prop} {cs : List AV}, Hf E H fr rs = some (p, cs) → p →
  ∃ vs : List Value, rs.length = vs.length ∧ cs.length = vs.length ∧ (∀ (i : Nat) (r : ResultVar) (v : Value), rs[i]? = some r → vs[i]? = some v → (Gf tmps r).run P w = .ok v w) ∧
   ∀ (i : Nat) (c : AV) (v : Value), cs[i]? = some c → vs[i]? = some v → R w S n c v := by
 intro rs
 induction rs with
 | nil =>
  intro p cs h _
  simp only [Hf, Option.some.injEq, Prod.mk.injEq] at h
  obtain ⟨_, rfl⟩ := h
  exact ⟨[], rfl, rfl, fun i r v h => by simp at h, fun i r v h => by simp at h⟩
 | cons r rs ih =>
  intro p cs h hp
  have fin : ∀ {q : Prop} {c : AV} {cs' : List AV} {v : Value}, Hf E H fr rs = some (q, cs') → q → cs = c :: cs' → (Gf tmps r).run P w = .ok v w → R w S n c v →
    ∃ vs : List Value, (r :: rs).length = vs.length ∧ cs.length = vs.length ∧ (∀ (i : Nat) (r' : ResultVar) (v : Value), (r :: rs)[i]? = some r' → vs[i]? = some v → (Gf tmps r').run P w = .ok v w) ∧
     ∀ (i : Nat) (c : AV) (v : Value), cs[i]? = some c → vs[i]? = some v → R w S n c v := by
   rintro q c cs' v h1 hq rfl h2 h3
   obtain ⟨vs, e1, e2, e3, e4⟩ := ih h1 hq
   refine ⟨v :: vs, by simp [e1], by simp [e2], fun i r' v' hr hv => ?_, fun i c' v' hc hv => ?_⟩
   ·cases i with
    | zero => simp at hr hv; subst hr hv; exact h2
    | succ i => exact e3 i r' v' (by simpa using hr) (by simpa using hv)
   ·cases i with
    | zero => simp at hc hv; subst hc hv; exact h3
    | succ i => exact e4 i c' v' (by simpa using hc) (by simpa using hv)
  cases r with
  | tmp t =>
   simp only [Hf] at h
   split at h
   ·rename_i q cs' hq
    simp only [Option.some.injEq, Prod.mk.injEq] at h
    obtain ⟨rfl, rfl⟩ := h
    exact fin hq hp.2 rfl (by simp [Gf]) ((hF t).bare_of hp.1)
   ·cases h
  | cell b ty =>
   simp only [Hf] at h
   split at h
   ·rename_i q c p' cs' hl hq
    simp only [Option.some.injEq, Prod.mk.injEq] at h
    obtain ⟨rfl, rfl⟩ := h
    obtain ⟨v, hrun, hR⟩ := JU hH hl hp.2.1 ((hF b).bare_of hp.1)
    refine fin hq hp.2.2 rfl ?_ hR
    exact Xd hrun
   ·cases h
end
/-! ### the marks at the way out -/
section
variable {w w' : World} {S : Lays} {n : Nat}
def Gx (w w' : World) : Prop := w.heap.size = w'.heap.size ∧ ∀ (b : Nat) (cur : Array Value) (t : TypeId) (z : Nat × Nat), w.heap[b]? = some (.cells cur t z) → w'.heap[b]? = some (.cells cur t z)
theorem Gx.cell (h : Gx w w') {a : Addr} {u : Value} (hc : w.cell? a = some u) : w'.cell? a = some u := by
 unfold World.cell? at *
 cases ho : w.heap[a.block]? with
 | none => rw [ho] at hc; cases hc
 | some o =>
  rw [ho] at hc
  cases o <;> first | (rw [h.2 _ _ _ _ ho]; exact hc) | cases hc
theorem Gx.rd (h : Gx w w') {O : Nat → Prop} {d : D} {v : Value} (hr : RD w O d v) : RD w' O d v := by
 induction hr with
 | bool b => exact .bool b
 | int k n => exact .int k n
 | str s => exact .str s
 | sl0 a cap => exact .sl0 a cap
 | nils => exact .nils
 | sl xs sz b o cap u hl hb hO' hz hc _ ih => exact .sl xs sz b o cap u hl (h.1 ▸ hb) hO' hz (fun e f c hh => h.cell (hc e f c hh)) ih
 | nilp => exact .nilp
 | raw v h1 => exact .raw v h1
 | ifc0 => exact .ifc0
 | ifc1 t p => exact .ifc1 t p
 | ptr cs b o u hb hO' hc _ ih => exact .ptr cs b o u (h.1 ▸ hb) hO' (fun f c hh => h.cell (hc f c hh)) ih
variable [Bl]
theorem Gx.r (h : Gx w w') {c : AV} {v : Value} (hr : R w S n c v) : R w' S n c v := by
 induction hr with
 | any v => exact .any v
 | d hx => exact .d (h.rd hx)
 | ip sz xs e f b o u hb hO hc hr => exact .ip sz xs e f b o u (h.1 ▸ hb) hO (fun e f c hh => h.cell (hc e f c hh)) (fun e f c hh => h.rd (hr e f c hh))
 | slDead id off len v hn hS => exact .slDead id off len v hn hS
 | sl id off len o l hn hS hc ho h0 => exact .sl id off len o l hn hS hc ho h0
 | ptrDead id e f v hn hS => exact .ptrDead id e f v hn hS
 | ptr id e f b l hn hS hb => exact .ptr id e f b l hn hS hb
 | mpDead id v hn hS => exact .mpDead id v hn hS
 | mp id l hn hS => exact .mp id l hn hS
 | agg cs us hl h1 _ ih => exact .agg cs us hl h1 ih
 | tup cs us hl _ ih => exact .tup cs us hl ih
 | clo fn cs us hl _ ih => exact .clo fn cs us hl ih
 | cond b c v _ hu ih => exact .cond b c v ih hu
theorem Gx.box (h : Gx w w') {b : B7} {l : Lay} (hl : ∀ b, l.has b → w'.heap[b]? = w.heap[b]?) (hb : BQ w S n b l) : BQ w' S n b l := by
 cases b with
 | vec ty sz xs =>
  obtain ⟨h1, h2, h3, h4, h5, h6⟩ := hb
  refine ⟨h1, h2, h3, h4, h5, fun b hb => ?_⟩
  obtain ⟨cur, e1, e2, e3⟩ := h6 b hb
  exact ⟨cur, h.2 _ _ _ _ e1, e2, fun e f c hh => by obtain ⟨u, e4, e5⟩ := e3 e f c hh; exact ⟨u, e4, h.rd e5⟩⟩
 | one ty cells =>
  obtain ⟨h1, h2, b, hb, cur, e1, e2, e3⟩ := hb
  exact ⟨h1, h2, b, hb, cur, h.2 _ _ _ _ e1, e2, fun f c hh => by obtain ⟨u, e4, e5, e6⟩ := e3 f c hh; exact ⟨u, e4, e5, h.r e6⟩⟩
 | ob o => exact o.ext hb (Nat.le_of_eq h.1) (fun b cur t z _ hb => h.2 _ _ _ _ hb) (fun _ _ h => h) hl
theorem Ai.shut {W0 : World} {M0 : Nat → Prop} {H : Av} (hH : Ai W0 M0 H n w S) (h : Gx w w') (ho' : ∀ b, own S b → w'.heap[b]? = w.heap[b]?) (hs : ∀ b, b < W0.heap.size → w'.heap[b]? = w.heap[b]?) (ho : w'.os = w.os) (ht : w'.tape = w.tape) (hp : w'.output = w.output) :
  Ai W0 M0 H n w' S := by
 constructor
 ·exact hH.bnd
 ·intro i l b h1 h2; rw [← h.1]; exact hH.lt2 i l b h1 h2
 ·intro id b hb
  obtain ⟨l, hl, hbox⟩ := hH.box id b hb
  exact ⟨l, hl, h.box (fun b hb => ho' b (.inr ⟨_, l, hl, hb⟩)) hbox⟩
 ·exact hH.inj2
 ·exact hH.nod
 ·exact hH.plain
 ·exact hH.mut2
 ·exact ho.trans hH.os
 ·exact ht.trans hH.tape
 ·exact hp.trans hH.output
 ·rw [← h.1]; exact hH.size
 ·intro b hb hM; rw [hs b hb]; exact hH.same b hb hM
 ·exact hH.far
 ·exact hH.pin
 ·intro p hp
  obtain ⟨cur, t, z, h1, h2⟩ := (hH.gl p hp).all
  exact ⟨h.rd (hH.gl p hp).rd, cur, t, z, h.2 _ _ _ _ h1, h2⟩
theorem Mq {D : Nat} {x : Option (List Deferred)} {o : Obj} (hD : w.heap[D]? = some (.deferred x)) : Gx w (w.putObj D o) := by
 refine ⟨by simp, fun b cur t z hb => ?_⟩
 rw [World.putObj_heap_other (fun e => ?_)]
 ·exact hb
 ·subst e; rw [hD] at hb; cases hb
theorem Je {P : Program} {fn : Func} {tmps : Array Value} {Rr : Ending → World → Prop} {W0 : World} {M0 : Nat → Prop} {H : Av} {fr : Nat → AV} : ∀ (ds : List Deferred) (w : World), Ai W0 M0 H n w S → (∀ i, R w S n (fr i) (tmps.getD i undef)) → ds.Pairwise (fun d e => d.target ≠ e.target) → (∀ d ∈ ds, ∃ D, d.target = .collected D ∧ W0.heap.size ≤ D ∧ w.heap[D]? = some (.deferred (some [])) ∧ ¬ own S D) →
  (∀ w', Ai W0 M0 H n w' S → (∀ i, R w' S n (fr i) (tmps.getD i undef)) → ∃ v, (results fn tmps).run P w' = .ok v w' ∧ Rr (.returned v) w') → LeavesInM Fence.wide 0 P fn tmps Rr ds .returning w := by
 intro ds
 induction ds with
 | nil => intro w hH hR _ _ h; exact h w hH hR
 | cons d ds ih =>
  intro w hH hR hMa hM h
  obtain ⟨D, e1, e2, e3, e4⟩ := hM d List.mem_cons_self
  refine ⟨by simp, .inl ⟨D, _, e1, run_takeDeferred e3, ?_⟩⟩
  have hc : Gx w (w.putObj D (.deferred none)) := Mq e3
  refine ih _ (hH.shut hc (fun b hb => World.putObj_heap_other (fun e => e4 (e ▸ hb))) (fun b hb => World.putObj_heap_other (by omega)) rfl rfl rfl) (fun i => hc.r (hR i)) (List.pairwise_cons.1 hMa).2 (fun e he => ?_) h
  obtain ⟨D', f1, f2, f3, f4⟩ := hM e (List.mem_cons_of_mem _ he)
  have hne : D' ≠ D := fun hD => by
   have := (List.pairwise_cons.1 hMa).1 e he
   rw [e1, f1, hD] at this
   exact this rfl
  exact ⟨D', f1, f2, (World.putObj_heap_other hne).trans f3, f4⟩
end
/-! ### a function's contract -/
section
variable {P : Program}
def pick (ds : List Nat) (S : Lays) : Lays := fun j => match ds[j]? with
 | some d => S d
 | none => none
@[reducible] def A9 (F : Bl) (w : World) (S : Lays) (hlt : ∀ b, @own F S b → b < w.heap.size) (ds : List Nat) : Bl where
 F := fun b => @own F S b ∧ ∀ j l, pick ds S j = some l → ¬ l.has b
 nev := fun b => b < w.heap.size ∧ ∀ j l, pick ds S j = some l → ¬ l.has b
 sub := fun b h => ⟨hlt b h.1, h.2⟩
 pin := pick ds S
 np := ds.length
 marks := true
 mx := F.mx
theorem MO {F : Bl} {W0 : World} {M0 : Nat → Prop} {H : Av} {n : Nat} {w : World} {S : Lays} (hH : Ai W0 M0 H n w S) : ∀ b, @own F S b → b < w.heap.size := by
 rintro b (h | ⟨i, l, h1, h2⟩)
 ·have := (hH.far b (Bl.sub b h)).1
  have := hH.size
  omega
 ·exact hH.lt2 i l b h1 h2
theorem CH {ds : List Nat} {S : Lays} {j : Nat} {l : Lay} (h : pick ds S j = some l) : ∃ d, ds[j]? = some d ∧ S d = some l := by
 unfold pick at h
 split at h
 ·rename_i d hd; exact ⟨d, hd, h⟩
 ·cases h
theorem E0 {F : Bl} {w : World} {S : Lays} {hlt : ∀ b, @own F S b → b < w.heap.size} {ds : List Nat} {b : Nat} (h : @own (A9 F w S hlt ds) (pick ds S) b) : @own F S b := by
 rcases h with h | ⟨i, l, h1, h2⟩
 ·exact h.1
 ·obtain ⟨d, _, h3⟩ := CH h1
  exact .inr ⟨d, l, h3, h2⟩
theorem Ly {vs : List Value} {N i : Nat} (hN : vs.length ≤ N) : (vs.toArray ++ Array.replicate (N - vs.toArray.size) undef).getD i undef = (vs[i]?).getD undef := by
 rw [Array.getD_eq_getD_getElem?, Array.getElem?_append]
 by_cases h : i < vs.length
 ·rw [if_pos (by simpa using h)]; simp
 ·rw [if_neg (by simpa using h), List.getElem?_eq_none (by omega)]
  simp [Array.getElem?_replicate]
  split <;> rfl
theorem Qd (E : Bq P) {f : FuncId} {fn : Func} {c : Code} {sp : Spec} (hf : P.funcs[f]? = some fn) (hb : fn.body = some c) (hN : fn.ntmps = E.N) (hρ : E.ρ = none)
  (h : ∀ args H n p r o, sp.run args H n = some (p, r, o) → p → o = none ∧ args.all LG = true ∧ Rx r = true ∧ args.length ≤ E.N ∧
   ∀ [Bl] (W0 : World), Bl.np = 0 → Bl.marks = true → VC E W0 (fun _ => False) c (Hd (ET 0 args) []) (VJ E fn.results.toList r)) : A5 P f sp := by
 intro args H n p r o hrun hp F w S vs hH hl hr
 obtain ⟨rfl, hpa, hpr, hla, hvc⟩ := h args H n p r o hrun hp
 have hlt : ∀ b, @own F S b → b < w.heap.size := MO hH
 have hvc := @hvc (A9 F w S hlt []) w rfl rfl
 have h0 : @Ai (A9 F w S hlt []) w (fun _ => False) (Ax []) 0 w (pick [] S) := by
  refine @Ai.mk (A9 F w S hlt []) _ _ _ _ _ _ (fun _ _ => rfl) (fun i l b h => by cases h) (fun id b h => by cases h) (fun i j l l' b h => by cases h) (fun i l h => by cases h) (fun i l b h => by cases h) (fun i l b h => by cases h) rfl rfl rfl (Nat.le_refl _) (fun _ _ _ => rfl) (fun b hb => ⟨hb.1, fun i l h => by cases h⟩) (fun i h => absurd h (Nat.not_lt_zero i)) (fun p hp => (hH.gl p hp).ext (Nat.le_refl _) (fun _ _ _ => rfl) (fun b _ hb h => hb (E0 h)))
 refine callsIn_wide.1 (callsIn_of_wp_marks (n := 0) hf hb trivial ?_)
 have hsim : @Mh (A9 F w S hlt []) w (fun _ => False) E.N (Hd (ET 0 args) []) { tmps := vs.toArray ++ Array.replicate (fn.ntmps - vs.toArray.size) undef, defers := [] } w := by
  refine ⟨pick [] S, h0, @Hb.mk (A9 F w S hlt []) _ _ _ _ _ _ ?_ fun i => ?_, @F4.nil (A9 F w S hlt []) _ _ _ (fun h => by cases h)⟩
  ·simp only [Array.size_append, Array.size_replicate, List.size_toArray, hN]; omega
  ·show @R (A9 F w S hlt []) w (pick [] S) 0 (H4 (ET 0 args) i) _
   rw [Lz, if_pos (by omega), Nat.sub_zero, Ly (by omega)]
   cases hi : args[i]? with
   | none => exact @R.any (A9 F w S hlt []) _ _ _ _
   | some c =>
    have hlt' : i < args.length := (List.getElem?_eq_some_iff.1 hi).1
    have hv : vs[i]? = some (vs[i]'(by omega)) := List.getElem?_eq_getElem _
    rw [hv]
    exact IV (fun b _ hb h => hb (E0 h)) (List.all_eq_true.1 hpa c (List.mem_of_getElem? hi)) (hr i c _ hi hv)
 have hvc2 := hvc _ w hsim
 rw [show NV E.ρ = Fence.wide by rw [hρ]; rfl] at hvc2
 refine wpIn_mono hvc2 ?_
 rintro e a' w' ⟨st, ⟨he, hst⟩, S1, hH1, hF1, hM1⟩
 have go : LeavesInM Fence.wide 0 P fn a'.tmps (fun e w' => ∃ v S', e = .returned v ∧ Left H n w S H n w' S' ∧ ((none : Option (Av × Nat)) = none → S' = S ∧ ∀ b, b < w.heap.size → w'.heap[b]? = w.heap[b]?) ∧ R w' S' n r v) a'.defers .returning w' := by
  refine @Je _ _ (A9 F w S hlt []) _ _ _ _ _ _ _ _ a'.defers w' hH1 (@Hb.at_ (A9 F w S hlt []) _ _ _ _ _ _ hF1) (@F4.apart (A9 F w S hlt []) _ _ _ _ hM1 rfl) (@F4.at_ (A9 F w S hlt []) _ _ _ _ hM1 rfl) (fun w' hH1 hF1 => ?_)
  split at hst
  ·rename_i q cs hres
   obtain ⟨hq, hmt⟩ := hst
   obtain ⟨us, e1, e2, e3, e4⟩ := @MV P w' S1 st.n (A9 F w S hlt []) E w (fun _ => False) st.H hH1 st.fr a'.tmps hF1 _ _ _ hres hq
   have hpk : @R (A9 F w S hlt []) w' S1 st.n (Hm cs) (OD us) := by
    match us, cs, e2, e4 with
    | [], [], _, _ => exact @R.tup (A9 F w S hlt []) _ _ _ [] [] rfl (fun i c u h => by simp at h)
    | [v], [c], _, e4 => exact e4 0 c v rfl rfl
    | v :: u :: us, c :: d :: cs, e2, e4 => exact @R.tup (A9 F w S hlt []) _ _ _ (c :: d :: cs) (v :: u :: us) e2.symm (fun i c' u' hc hu => e4 i c' u' hc hu)
   have hout := @Rp (A9 F w S hlt []) w' S1 st.n w (fun _ => False) st.H [] [] hH1 _ _ hmt _ hpk
   have hsame : ∀ b, b < w.heap.size → w'.heap[b]? = w.heap[b]? := fun b hb => @Ai.same (A9 F w S hlt []) _ _ _ _ _ _ hH1 b hb (fun h => h)
   have hE : @Cu F w S n w' S n := @Cu.mk F _ _ _ _ _ _ (Nat.le_refl _) (@Ai.size (A9 F w S hlt []) _ _ _ _ _ _ hH1) (fun _ _ => .inl rfl) (fun _ _ h => h) (fun b hb _ => hsame b hb)
   refine ⟨_, GJ e1 e3, _, S, rfl, ⟨?_, hE, fun _ _ _ => rfl, fun id hid _ => hH.bnd id hid⟩, fun _ => ⟨rfl, hsame⟩, ?_⟩
   ·refine @Ai.mk F _ _ _ _ _ _ hH.bnd (fun i l b h1 h2 => Nat.lt_of_lt_of_le (hH.lt2 i l b h1 h2) hE.size) (fun id b hb => ?_) hH.inj2 hH.nod hH.plain hH.mut2 (@Ai.os (A9 F w S hlt []) _ _ _ _ _ _ hH1) (@Ai.tape (A9 F w S hlt []) _ _ _ _ _ _ hH1) (@Ai.output (A9 F w S hlt []) _ _ _ _ _ _ hH1) hE.size (fun b hb _ => hsame b hb) hH.far hH.pin (hH.glx hE)
    obtain ⟨l, hl, hbox⟩ := hH.box id b hb
    exact ⟨l, hl, hbox.ext hE (fun k hk => hsame k (hH.lt2 id l k hl hk))⟩
   ·refine LH (fun b hb hno h => hno (Or.inl (show @Bl.F (A9 F w S hlt []) b from ⟨h, fun j l hj => by cases hj⟩))) hpr hout
  ·exact hst.elim
 rcases he with rfl | rfl
 ·exact go
 ·exact go
end
end Go.Vc
/- The Vc layer: tables, environments, the walk's rewriting rules. -/
set_option linter.all false
namespace Go.Vc
open Go Go.RowKit
def LR.ofTab {P : Program} (tab : List (Nat × TI)) (h : tab.all (fun p => ZQ P p.1 p.2) = true) : LR P where
 ty := fun t => tab.lookup t
 ok := by
  intro t ti ht
  have : (t, ti) ∈ tab := by
   clear h
   induction tab with
   | nil => simp at ht
   | cons q r ih =>
    obtain ⟨u, x⟩ := q
    rw [List.lookup_cons] at ht
    split at ht
    ·rename_i he
     simp only [Option.some.injEq] at ht
     subst ht
     have : t = u := by simpa using he
     subst this
     exact List.mem_cons_self
    ·exact List.mem_cons_of_mem _ (ih ht)
  exact List.all_eq_true.1 h _ this
section
variable {P : Program}
def Bq.empty (X : LR P) : Bq P := ⟨X, 0, none, fun _ => none, fun f sp h => (by cases h), fun f sp h => (by cases h)⟩
def Bq.add (E : Bq P) (f : FuncId) (sp : Spec) (hm : A5 P f sp) (he : Kg P f = true) : Bq P where
 X := E.X
 N := E.N
 ρ := E.ρ
 Γ := fun g => if g = f then some sp else E.Γ g
 ok := by
  intro g sp' h
  split at h
  ·rename_i hg; subst hg; cases h; exact hm
  ·exact E.ok g sp' h
 ent := by
  intro g sp' h
  split at h
  ·rename_i hg; subst hg; exact he
  ·exact E.ent g sp' h
def Bq.at_ (E : Bq P) (N : Nat) : Bq P := ⟨E.X, N, E.ρ, E.Γ, E.ok, E.ent⟩
def Spec.pure (g : List AV → Option (Prop × AV)) : Spec := ⟨fun _ _ => [], fun args _ _ => match g args with
 | some (p, r) => some (p, r, none)
 | none => none⟩
theorem A1 (E : Bq P) {f : FuncId} {fn : Func} {c : Code} {g : List AV → Option (Prop × AV)} (hf : P.funcs[f]? = some fn) (hb : fn.body = some c) (hN : fn.ntmps = E.N) (hρ : E.ρ = none)
  (h : ∀ args p r, g args = some (p, r) → p → (args.all LG && Rx r && decide (args.length ≤ E.N)) = true ∧
   ∀ [Bl] (W0 : World), Bl.np = 0 → Bl.marks = true → VC E W0 (fun _ => False) c (Hd (ET 0 args) []) (VJ E fn.results.toList r)) : A5 P f (Spec.pure g) := by
 refine Qd E hf hb hN hρ fun args H n p r o hrun hp => ?_
 simp only [Spec.pure] at hrun
 split at hrun
 ·rename_i p' r' hg
  simp only [Option.some.injEq, Prod.mk.injEq] at hrun
  obtain ⟨rfl, rfl, rfl⟩ := hrun
  obtain ⟨h1, h2⟩ := h args p' r' hg hp
  simp only [Bool.and_eq_true, decide_eq_true_eq] at h1
  exact ⟨rfl, h1.1.1, h1.1.2, h1.2, h2⟩
 ·cases hrun
theorem Calm.nil (E : Bq P) : Calm E [] := fun f sp h => (by cases h)
theorem Jc (ops : Array Oper) (fr : Nat → AV) : Bg ops fr none = some none := rfl
end
