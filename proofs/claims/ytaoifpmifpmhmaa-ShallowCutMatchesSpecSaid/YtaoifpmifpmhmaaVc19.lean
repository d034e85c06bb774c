/- The Vc layer: functions that turn boxes that they are handed, or hand back new ones. -/
import Derived.Test.YtaoifpmifpmhmaaVc18
set_option linter.all false
namespace Go.Vc
open Go Go.RowKit

/-! ### numbers of boxes in values -/
def ids1 : AV → List Nat
  | .sl id _ _ => [id]
  | .ptr id _ _ => [id]
  | _ => []
def idsL : List AV → List Nat
  | [] => []
  | c :: cs => ids1 c ++ idsL cs
def ids2 : AV → List Nat
  | .agg cs => idsL cs
  | .clo _ cs => idsL cs
  | c => ids1 c
def idsA : List AV → List Nat
  | [] => []
  | c :: cs => ids2 c ++ idsA cs
def idsB : Option Box → List Nat
  | some (.one _ cs) => idsL cs
  | _ => []
def addIds : List Nat → List Nat → List Nat
  | l, [] => l
  | l, i :: r => if l.contains i then addIds l r else addIds (l ++ [i]) r
def idsBs (H : Heap) : List Nat → List Nat
  | [] => []
  | i :: r => idsB (H i) ++ idsBs H r
/-- The boxes that arguments lead to. -/
def reach (args : List AV) (H : Heap) : List Nat := addIds (addIds [] (idsA args)) (idsBs H (addIds [] (idsA args)))

def ixOf : List Nat → Nat → Option Nat
  | [], _ => none
  | d :: r, i => if i = d then some 0 else match ixOf r i with
    | some j => some (j + 1)
    | none => none
def nodupB : List Nat → Bool
  | [] => true
  | d :: r => !r.contains d && nodupB r

theorem ixOf_get : ∀ {l : List Nat} {i j : Nat}, ixOf l i = some j → l[j]? = some i := by
  intro l
  induction l with
  | nil => intro i j h; cases h
  | cons d r ih =>
    intro i j h
    unfold ixOf at h
    split at h
    · rename_i hi; cases h; simp [hi]
    · split at h
      · rename_i k hk; cases h; simpa using ih hk
      · cases h
theorem ixOf_none : ∀ {l : List Nat} {i : Nat}, ixOf l i = none → i ∉ l := by
  intro l
  induction l with
  | nil => intro i _ h; cases h
  | cons d r ih =>
    intro i h hm
    unfold ixOf at h
    split at h
    · cases h
    · rename_i hi
      split at h
      · cases h
      · rename_i hn
        rcases List.mem_cons.1 hm with rfl | hm
        · exact hi rfl
        · exact ih hn hm
theorem ixOf_of : ∀ {l : List Nat} {i j : Nat}, nodupB l = true → l[j]? = some i → ixOf l i = some j := by
  intro l
  induction l with
  | nil => intro i j _ h; simp at h
  | cons d r ih =>
    intro i j hn h
    simp only [nodupB, Bool.and_eq_true, Bool.not_eq_true'] at hn
    unfold ixOf
    cases j with
    | zero => simp at h; simp [h]
    | succ j =>
      have hr : r[j]? = some i := by simpa using h
      have : i ≠ d := fun e => by
        have : r.contains d = true := by rw [List.contains_iff_mem]; exact List.mem_of_getElem? (e ▸ hr)
        rw [hn.1] at this; cases this
      rw [if_neg this, ih hn.2 hr]

/-! ### the callee's numbers -/
def ix1 (ds : List Nat) : AV → Option AV
  | .sl id off len => match ixOf ds id with
    | some j => some (.sl j off len)
    | none => none
  | .ptr id e f => match ixOf ds id with
    | some j => some (.ptr j e f)
    | none => none
  | .d x => some (.d x)
  | .ip sz xs e f => some (.ip sz xs e f)
  | .any => some .any
  | _ => none
def ixL (ds : List Nat) : List AV → Option (List AV)
  | [] => some []
  | c :: cs => match ix1 ds c, ixL ds cs with
    | some c', some cs' => some (c' :: cs')
    | _, _ => none
def ix2 (ds : List Nat) : AV → Option AV
  | .agg cs => match ixL ds cs with
    | some cs' => some (.agg cs')
    | none => none
  | .clo fn cs => match ixL ds cs with
    | some cs' => some (.clo fn cs')
    | none => none
  | c => ix1 ds c
def ixA (ds : List Nat) : List AV → Option (List AV)
  | [] => some []
  | c :: cs => match ix2 ds c, ixA ds cs with
    | some c', some cs' => some (c' :: cs')
    | _, _ => none
def ixBox (ds : List Nat) : Option Box → Option Box
  | some (.vec t s xs) => some (.vec t s xs)
  | some (.one t cs) => match ixL ds cs with
    | some cs' => some (.one t cs')
    | none => none
  | none => none
def ixBs (ds : List Nat) (H : Heap) : List Nat → Option (List (Option Box))
  | [] => some []
  | d :: r => match ixBox ds (H d), ixBs ds H r with
    | some b, some bs => some (some b :: bs)
    | _, _ => none

/-! ### and back -/
def ouN (ds : List Nat) (n i : Nat) : Nat := match ds[i]? with
  | some d => d
  | none => n + (i - ds.length)
def ou1 (ds : List Nat) (n : Nat) : AV → AV
  | .sl i off len => .sl (ouN ds n i) off len
  | .ptr i e f => .ptr (ouN ds n i) e f
  | .d x => .d x
  | .ip sz xs e f => .ip sz xs e f
  | _ => .any
def ouL (ds : List Nat) (n : Nat) : List AV → List AV
  | [] => []
  | c :: cs => ou1 ds n c :: ouL ds n cs
def ou2 (ds : List Nat) (n : Nat) : AV → AV
  | .agg cs => .agg (ouL ds n cs)
  | .clo fn cs => .clo fn (ouL ds n cs)
  | c => ou1 ds n c
def ouL2 (ds : List Nat) (n : Nat) : List AV → List AV
  | [] => []
  | c :: cs => ou2 ds n c :: ouL2 ds n cs
def ou3 (ds : List Nat) (n : Nat) : AV → AV
  | .tup cs => .tup (ouL2 ds n cs)
  | c => ou2 ds n c
def ouBox (ds : List Nat) (n : Nat) : Option Box → Option Box
  | some (.vec t s xs) => some (.vec t s xs)
  | some (.one t cs) => some (.one t (ouL ds n cs))
  | none => none
def ouH (ds : List Nat) (n : Nat) (H : Heap) (bf : List (Option Box)) : Heap := fun i =>
  if i < n then match ixOf ds i with
    | some j => ouBox ds n (getB bf j)
    | none => H i
  else ouBox ds n (getB bf (ds.length + (i - n)))

def allSome : List (Option Box) → Bool
  | [] => true
  | some _ :: r => allSome r
  | none :: _ => false

/-- A function on boxes: arguments and boxes by the callee's own numbers; condition, result, boxes behind it. -/
abbrev GFun := List AV → List (Option Box) → Option (Prop × AV × List (Option Box))

def genRun (g : GFun) (ds : List Nat) (args : List AV) (H : Heap) (n : Nat) : Option (Prop × AV × Option (Heap × Nat)) :=
  match ixA ds args, ixBs ds H ds with
  | some ia, some bl => match g ia bl with
    | some (p, r, bf) => if nodupB ds = true ∧ ds.length ≤ bf.length ∧ allSome (bf.drop ds.length) = true then some (p, ou3 ds n r, some (ouH ds n H bf, n + (bf.length - ds.length))) else none
    | none => none
  | _, _ => none

/-- All boxes that the arguments lead to are handed over. -/
def Spec.gen (g : GFun) : Spec := ⟨reach, fun args H n => genRun g (reach args H) args H n⟩
/-- The arguments are only read; the result lies in new boxes. -/
def Spec.fresh (g : GFun) : Spec := ⟨fun _ _ => [], fun args H n => genRun g [] args H n⟩

/-- What is asked where the body ends. -/
def retG {P : Program} (E : Env P) (rs : List ResultVar) (m : Nat) (r : AV) (bf : List (Option Box)) : Exit → St → Prop := fun e st =>
  (e = .normal ∨ e = .ret) ∧ match resA E st.H st.fr rs with
    | some (p, cs) => p ∧ ∃ ρ : Ren, (apartB ρ && (ρ.take m == (List.range m).map some)) = true ∧ mtBs ρ st.H ρ bf ∧ mt ρ st.H (packA cs) r
    | none => False

section
variable {F : Far} {P : Program} {w w' : World} {S S2 : Lays} {n m k : Nat} {ds : List Nat} {hlt : ∀ b, @own F S b → b < w.heap.size} {H : Heap}

theorem pick_ix {i j : Nat} (h : ixOf ds i = some j) : pick ds S j = S i := by
  unfold pick; simp only [ixOf_get h]

theorem ix1_ok {c c' : AV} (h : ix1 ds c = some c') {v : Value} (hv : @R F w S n c v) : @R (inner F w S hlt ds) w (pick ds S) ds.length c' v := by
  have mv : ∀ {d : D} {v : Value}, RD w (@own F S) d v → RD w (@own (inner F w S hlt ds) (pick ds S)) d v := fun h => h.ext (Nat.le_refl _) (fun _ _ _ => rfl) (fun b _ hb hb' => hb (own_inner hb'))
  unfold ix1 at h
  split at h
  · rename_i id off len
    split at h
    · rename_i j hj
      cases h
      have hjl : j < ds.length := (List.getElem?_eq_some_iff.1 (ixOf_get hj)).1
      cases hv with
      | slDead _ _ _ _ hn hS => exact @R.slDead (inner F w S hlt ds) _ _ _ _ _ _ _ hjl ((pick_ix hj).trans hS)
      | sl _ _ _ o l hn hS hc ho h0 => exact @R.sl (inner F w S hlt ds) _ _ _ _ _ _ o l hjl ((pick_ix hj).trans hS) hc ho h0
    · cases h
  · rename_i id e f
    split at h
    · rename_i j hj
      cases h
      have hjl : j < ds.length := (List.getElem?_eq_some_iff.1 (ixOf_get hj)).1
      cases hv with
      | ptrDead _ _ _ _ hn hS => exact @R.ptrDead (inner F w S hlt ds) _ _ _ _ _ _ _ hjl ((pick_ix hj).trans hS)
      | ptr _ _ _ b l hn hS hb => exact @R.ptr (inner F w S hlt ds) _ _ _ _ _ _ b l hjl ((pick_ix hj).trans hS) hb
    · cases h
  · cases h
    cases hv with | d hx => exact @R.d (inner F w S hlt ds) _ _ _ _ _ (mv hx)
  · cases h
    cases hv with | ip _ _ _ _ b o u hb hO hc hr => exact @R.ip (inner F w S hlt ds) _ _ _ _ _ _ _ b o u hb (fun h => hO (own_inner h)) hc (fun e f c hh => mv (hr e f c hh))
  · cases h
    exact @R.any (inner F w S hlt ds) _ _ _ _
  · cases h

theorem ixL_ok : ∀ {cs cs' : List AV}, ixL ds cs = some cs' → cs'.length = cs.length ∧ ∀ (i : Nat) (c' : AV), cs'[i]? = some c' → ∃ c, cs[i]? = some c ∧ ix1 ds c = some c' := by
  intro cs
  induction cs with
  | nil => intro cs' h; cases h; exact ⟨rfl, fun i c' h => by simp at h⟩
  | cons c cs ih =>
    intro cs' h
    unfold ixL at h
    split at h
    · rename_i c1 cs1 h1 h2
      cases h
      obtain ⟨h3, h4⟩ := ih h2
      refine ⟨by simp [h3], fun i d hd => ?_⟩
      cases i with
      | zero => simp at hd; subst hd; exact ⟨c, rfl, h1⟩
      | succ i => simpa using h4 i d (by simpa using hd)
    · cases h

theorem ix2_ok {c c' : AV} (h : ix2 ds c = some c') {v : Value} (hv : @R F w S n c v) : @R (inner F w S hlt ds) w (pick ds S) ds.length c' v := by
  unfold ix2 at h
  split at h
  · split at h
    · rename_i cs' hcs
      cases h
      obtain ⟨h1, h2⟩ := ixL_ok hcs
      cases hv with | agg _ us hl h1' hr =>
      exact @R.agg (inner F w S hlt ds) _ _ _ _ us (by omega) h1' (fun i c u hc hu => by obtain ⟨c0, h3, h4⟩ := h2 i c hc; exact ix1_ok h4 (hr i c0 u h3 hu))
    · cases h
  · split at h
    · rename_i cs' hcs
      cases h
      obtain ⟨h1, h2⟩ := ixL_ok hcs
      cases hv with | clo _ _ us hl hr =>
      exact @R.clo (inner F w S hlt ds) _ _ _ _ _ us (by omega) (fun i c u hc hu => by obtain ⟨c0, h3, h4⟩ := h2 i c hc; exact ix1_ok h4 (hr i c0 u h3 hu))
    · cases h
  · exact ix1_ok h hv

theorem ixA_ok : ∀ {cs cs' : List AV}, ixA ds cs = some cs' → cs'.length = cs.length ∧ ∀ (i : Nat) (c' : AV), cs'[i]? = some c' → ∃ c, cs[i]? = some c ∧ ix2 ds c = some c' := by
  intro cs
  induction cs with
  | nil => intro cs' h; cases h; exact ⟨rfl, fun i c' h => by simp at h⟩
  | cons c cs ih =>
    intro cs' h
    unfold ixA at h
    split at h
    · rename_i c1 cs1 h1 h2
      cases h
      obtain ⟨h3, h4⟩ := ih h2
      refine ⟨by simp [h3], fun i d hd => ?_⟩
      cases i with
      | zero => simp at hd; subst hd; exact ⟨c, rfl, h1⟩
      | succ i => simpa using h4 i d (by simpa using hd)
    · cases h

theorem ixBs_ok : ∀ {l : List Nat} {bs : List (Option Box)}, ixBs ds H l = some bs → bs.length = l.length ∧ ∀ (i : Nat) (b : Box), getB bs i = some b → ∃ d, l[i]? = some d ∧ ixBox ds (H d) = some b := by
  intro l
  induction l with
  | nil => intro bs h; cases h; exact ⟨rfl, fun i b h => by simp [getB] at h⟩
  | cons d l ih =>
    intro bs h
    unfold ixBs at h
    split at h
    · rename_i b1 bs1 h1 h2
      cases h
      obtain ⟨h3, h4⟩ := ih h2
      refine ⟨by simp [h3], fun i b hb => ?_⟩
      cases i with
      | zero => simp [getB] at hb; subst hb; exact ⟨d, rfl, h1⟩
      | succ i => simpa using h4 i b (by simpa [getB] using hb)
    · cases h
theorem ixBs_live : ∀ {l : List Nat} {bs : List (Option Box)}, ixBs ds H l = some bs → ∀ d ∈ l, (H d).isSome = true := by
  intro l
  induction l with
  | nil => intro bs h d hd; cases hd
  | cons d l ih =>
    intro bs h e he
    unfold ixBs at h
    split at h
    · rename_i b1 bs1 h1 h2
      rcases List.mem_cons.1 he with rfl | he
      · cases hd : H e with
        | none => rw [hd] at h1; cases h1
        | some => rfl
      · exact ih h2 e he
    · cases h

theorem ixBox_ok {b b' : Box} (h : ixBox ds (some b) = some b') {l : Lay} (hb : @BoxOk F w S n b l) : @BoxOk (inner F w S hlt ds) w (pick ds S) ds.length b' l := by
  have mv : ∀ {d : D} {v : Value}, RD w (@own F S) d v → RD w (@own (inner F w S hlt ds) (pick ds S)) d v := fun h => h.ext (Nat.le_refl _) (fun _ _ _ => rfl) (fun b _ hb hb' => hb (own_inner hb'))
  cases b with
  | vec t s xs =>
    cases h
    obtain ⟨h1, h2, h3, h4, h5, h6⟩ := hb
    refine ⟨h1, h2, h3, h4, h5, fun b hb => ?_⟩
    obtain ⟨cur, e1, e2, e3⟩ := h6 b hb
    exact ⟨cur, e1, e2, fun e f c hh => by obtain ⟨u, e4, e5⟩ := e3 e f c hh; exact ⟨u, e4, mv e5⟩⟩
  | one t cs =>
    unfold ixBox at h
    simp only at h
    split at h
    · rename_i cs' hcs
      cases h
      obtain ⟨h1, h2⟩ := ixL_ok hcs
      obtain ⟨g1, g2, b, hb, cur, e1, e2, e3⟩ := hb
      refine ⟨by omega, g2, b, hb, cur, e1, by omega, fun f c hc => ?_⟩
      obtain ⟨c0, h3, h4⟩ := h2 f c hc
      obtain ⟨u, e4, e5, e6⟩ := e3 f c0 h3
      exact ⟨u, e4, e5, ix1_ok h4 e6⟩
    · cases h

theorem pick_inj (hn : nodupB ds = true) {i j d : Nat} (hi : ds[i]? = some d) (hj : ds[j]? = some d) : i = j := by
  have := (ixOf_of hn hi).symm.trans (ixOf_of hn hj)
  cases this; rfl

/-- The callee's memory out of the caller's. -/
theorem HeapOk.view {W0 : World} {M0 : Nat → Prop} (hH : @HeapOk F W0 M0 H n w S) (hn : nodupB ds = true) {bl : List (Option Box)} (hb : ixBs ds H ds = some bl) :
    @HeapOk (inner F w S hlt ds) w (fun b => ∃ j l, pick ds S j = some l ∧ l.blk = some b) (getB bl) bl.length w (pick ds S) := by
  obtain ⟨hl, hB⟩ := ixBs_ok hb
  refine @HeapOk.mk (inner F w S hlt ds) _ _ _ _ _ _ ?_ ?_ ?_ ?_ ?_ rfl rfl rfl (Nat.le_refl _) (fun _ _ _ => rfl) ?_ ?_
  · intro j hj
    unfold pick
    rw [List.getElem?_eq_none (by omega)]
  · intro j l b h1 h2
    obtain ⟨d, _, h3⟩ := pick_some h1
    exact hH.lt_ d l b h3 h2
  · intro j b h
    obtain ⟨d, h1, h2⟩ := hB j b h
    cases hd : H d with
    | none => rw [hd] at h2; cases h2
    | some b0 =>
      rw [hd] at h2
      obtain ⟨l, h3, h4⟩ := hH.box d b0 hd
      refine ⟨l, by unfold pick; simp only [h1]; exact h3, ?_⟩
      rw [hl]
      exact ixBox_ok h2 h4
  · intro i j l l' b hi hj h1 h2
    obtain ⟨d, e1, e2⟩ := pick_some hi
    obtain ⟨d', e3, e4⟩ := pick_some hj
    have := hH.inj d d' l l' b e2 e4 h1 h2
    subst this
    exact pick_inj hn e1 e3
  · intro j l b _ h1 h2
    exact .inr ⟨j, l, h1, h2⟩
  · intro b h
    exact h
  · intro j h
    exact ⟨by have : j < ds.length := h; omega, .inl rfl⟩

/-! ### behind -/
def ouS (ds : List Nat) (n : Nat) (S S2 : Lays) : Lays := fun i =>
  if i < n then match ixOf ds i with
    | some j => S2 j
    | none => S i
  else S2 (ds.length + (i - n))

theorem ouS_ou (hn : nodupB ds = true) (hd : ∀ d ∈ ds, d < n) (i : Nat) : ouS ds n S S2 (ouN ds n i) = S2 i := by
  unfold ouS ouN
  cases hi : ds[i]? with
  | some d =>
    simp only
    rw [if_pos (hd d (List.mem_of_getElem? hi)), ixOf_of hn hi]
  | none =>
    have : ds.length ≤ i := by
      rw [List.getElem?_eq_none_iff] at hi; exact hi
    simp only
    rw [if_neg (by omega)]
    congr 1
    omega
end
end Go.Vc
