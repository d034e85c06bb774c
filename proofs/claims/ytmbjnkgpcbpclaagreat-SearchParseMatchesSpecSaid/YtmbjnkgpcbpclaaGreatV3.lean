/- The Vc layer, part 3. -/
import Derived.Test.YtmbjnkgpcbpclaaGreatV2
import Derived.RangeFuncIn
import Derived.RangeFuncSeq
import Derived.ProofKit
import Derived.DataOpen
import Derived.OpenShut
import Derived.SizedLaws
/- The Vc layer: functions that turn boxes that they are handed, or hand back new ones. -/
set_option linter.all false
namespace Go.Vc
open Go Go.RowKit

/-! ### numbers of boxes in values -/
def ids1 : AV → List Nat
 | .sl id _ _ => [id]
 | .ptr id _ _ => [id]
 | .mp id => [id]
 | _ => []
def idsL : List AV → List Nat
 | [] => []
 | c :: cs => ids1 c ++ idsL cs
def ids2 : AV → List Nat
 | .agg cs => idsL cs
 | .clo _ cs => idsL cs
 | c => ids1 c
def idsA : List AV → List Nat
 | [] => []
 | c :: cs => ids2 c ++ idsA cs
def idsB : Option Box → List Nat
 | some (.one _ cs) => idsL cs
 | _ => []
def addIds : List Nat → List Nat → List Nat
 | l, [] => l
 | l, i :: r => if l.contains i then addIds l r else addIds (l ++ [i]) r
def idsBs (H : Heap) : List Nat → List Nat
 | [] => []
 | i :: r => idsB (H i) ++ idsBs H r
def reach (args : List AV) (H : Heap) : List Nat := addIds (addIds [] (idsA args)) (idsBs H (addIds [] (idsA args)))

def ixOf : List Nat → Nat → Option Nat
 | [], _ => none
 | d :: r, i => if i = d then some 0 else match ixOf r i with
  | some j => some (j + 1)
  | none => none
def nodupB : List Nat → Bool
 | [] => true
 | d :: r => !r.contains d && nodupB r

theorem ixOf_get : ∀ {l : List Nat} {i j : Nat}, ixOf l i = some j → l[j]? = some i := by
 intro l
 induction l with
 | nil => intro i j h; cases h
 | cons d r ih =>
  intro i j h
  unfold ixOf at h
  split at h
  ·rename_i hi; cases h; simp [hi]
  ·split at h
   ·rename_i k hk; cases h; simpa using ih hk
   ·cases h
theorem ixOf_none : ∀ {l : List Nat} {i : Nat}, ixOf l i = none → i ∉ l := by
 intro l
 induction l with
 | nil => intro i _ h; cases h
 | cons d r ih =>
  intro i h hm
  unfold ixOf at h
  split at h
  ·cases h
  ·rename_i hi
   split at h
   ·cases h
   ·rename_i hn
    rcases List.mem_cons.1 hm with rfl | hm
    ·exact hi rfl
    ·exact ih hn hm
theorem ixOf_of : ∀ {l : List Nat} {i j : Nat}, nodupB l = true → l[j]? = some i → ixOf l i = some j := by
 intro l
 induction l with
 | nil => intro i j _ h; simp at h
 | cons d r ih =>
  intro i j hn h
  simp only [nodupB, Bool.and_eq_true, Bool.not_eq_true'] at hn
  unfold ixOf
  cases j with
  | zero => simp at h; simp [h]
  | succ j =>
   have hr : r[j]? = some i := by simpa using h
   have : i ≠ d := fun e => by
    have : r.contains d = true := by rw [List.contains_iff_mem]; exact List.mem_of_getElem? (e ▸ hr)
    rw [hn.1] at this; cases this
   rw [if_neg this, ih hn.2 hr]

/-! ### the callee's numbers -/
def ix1 (ds : List Nat) : AV → Option AV
 | .sl id off len => match ixOf ds id with
  | some j => some (.sl j off len)
  | none => none
 | .ptr id e f => match ixOf ds id with
  | some j => some (.ptr j e f)
  | none => none
 | .mp id => match ixOf ds id with
  | some j => some (.mp j)
  | none => none
 | .d x => some (.d x)
 | .ip sz xs e f => some (.ip sz xs e f)
 | .any => some .any
 | _ => none
def ixL (ds : List Nat) : List AV → Option (List AV)
 | [] => some []
 | c :: cs => match ix1 ds c, ixL ds cs with
  | some c', some cs' => some (c' :: cs')
  | _, _ => none
def ix2 (ds : List Nat) : AV → Option AV
 | .agg cs => match ixL ds cs with
  | some cs' => some (.agg cs')
  | none => none
 | .clo fn cs => match ixL ds cs with
  | some cs' => some (.clo fn cs')
  | none => none
 | c => ix1 ds c
def ixA (ds : List Nat) : List AV → Option (List AV)
 | [] => some []
 | c :: cs => match ix2 ds c, ixA ds cs with
  | some c', some cs' => some (c' :: cs')
  | _, _ => none
def ixBox (ds : List Nat) : Option Box → Option Box
 | some (.vec t s xs) => some (.vec t s xs)
 | some (.one t cs) => match ixL ds cs with
  | some cs' => some (.one t cs')
  | none => none
 | some (.ob o) => some (.ob o)
 | _ => none
def ixBs (ds : List Nat) (H : Heap) : List Nat → Option (List (Option Box))
 | [] => some []
 | d :: r => match ixBox ds (H d), ixBs ds H r with
  | some b, some bs => some (some b :: bs)
  | _, _ => none

/-! ### and back -/
def ouN (ds : List Nat) (n i : Nat) : Nat := match ds[i]? with
 | some d => d
 | none => n + (i - ds.length)
def ou1 (ds : List Nat) (n : Nat) : AV → AV
 | .sl i off len => .sl (ouN ds n i) off len
 | .ptr i e f => .ptr (ouN ds n i) e f
 | .mp i => .mp (ouN ds n i)
 | .d x => .d x
 | .ip sz xs e f => .ip sz xs e f
 | _ => .any
def ouL (ds : List Nat) (n : Nat) : List AV → List AV
 | [] => []
 | c :: cs => ou1 ds n c :: ouL ds n cs
def ou2 (ds : List Nat) (n : Nat) : AV → AV
 | .agg cs => .agg (ouL ds n cs)
 | .clo fn cs => .clo fn (ouL ds n cs)
 | c => ou1 ds n c
def ouL2 (ds : List Nat) (n : Nat) : List AV → List AV
 | [] => []
 | c :: cs => ou2 ds n c :: ouL2 ds n cs
def ou3 (ds : List Nat) (n : Nat) : AV → AV
 | .tup cs => .tup (ouL2 ds n cs)
 | c => ou2 ds n c
def ouBox (ds : List Nat) (n : Nat) : Option Box → Option Box
 | some (.vec t s xs) => some (.vec t s xs)
 | some (.one t cs) => some (.one t (ouL ds n cs))
 | some (.ob o) => some (.ob o)
 | none => none
def ouH (ds : List Nat) (n : Nat) (H : Heap) (bf : List (Option Box)) : Heap := fun i =>
 if i < n then match ixOf ds i with
  | some j => ouBox ds n (getB bf j)
  | none => H i
 else ouBox ds n (getB bf (ds.length + (i - n)))

def allSome : List (Option Box) → Bool
 | [] => true
 | some _ :: r => allSome r
 | none :: _ => false

abbrev GFun := List AV → List (Option Box) → Option (Prop × AV × List (Option Box))

def genRun (g : GFun) (ds : List Nat) (args : List AV) (H : Heap) (n : Nat) : Option (Prop × AV × Option (Heap × Nat)) :=
 match ixA ds args, ixBs ds H ds with
 | some ia, some bl => match g ia bl with
  | some (p, r, bf) => if nodupB ds = true ∧ ds.length ≤ bf.length ∧ allSome (bf.drop ds.length) = true then some (p, ou3 ds n r, some (ouH ds n H bf, n + (bf.length - ds.length))) else none
  | none => none
 | _, _ => none

def Spec.gen (g : GFun) : Spec := ⟨reach, fun args H n => genRun g (reach args H) args H n⟩
def Spec.fresh (g : GFun) : Spec := ⟨fun _ _ => [], fun args H n => genRun g [] args H n⟩

def retG {P : Program} (E : Env P) (rs : List ResultVar) (m : Nat) (r : AV) (bf : List (Option Box)) : Exit → St → Prop := fun e st =>
 (e = .normal ∨ e = .ret) ∧ match resA E st.H st.fr rs with
  | some (p, cs) => p ∧ ∃ ρ : Ren, (apartB ρ && (ρ.take m == (List.range m).map some)) = true ∧ mtBs ρ st.H ρ bf ∧ mt ρ st.H (packA cs) r
  | none => False

section
variable {F : Far} {P : Program} {w w' : World} {S S2 : Lays} {n m k : Nat} {ds : List Nat} {hlt : ∀ b, @own F S b → b < w.heap.size} {H : Heap}

theorem pick_ix {i j : Nat} (h : ixOf ds i = some j) : pick ds S j = S i := by
 unfold pick; simp only [ixOf_get h]

theorem ix1_ok {c c' : AV} (h : ix1 ds c = some c') {v : Value} (hv : @R F w S n c v) : @R (inner F w S hlt ds) w (pick ds S) ds.length c' v := by
 have mv : ∀ {d : D} {v : Value}, RD w (@own F S) d v → RD w (@own (inner F w S hlt ds) (pick ds S)) d v := fun h => h.ext (Nat.le_refl _) (fun _ _ _ => rfl) (fun b _ hb hb' => hb (own_inner hb'))
 unfold ix1 at h
 split at h
 ·rename_i id off len
  split at h
  ·rename_i j hj
   cases h
   have hjl : j < ds.length := (List.getElem?_eq_some_iff.1 (ixOf_get hj)).1
   cases hv with
   | slDead _ _ _ _ hn hS => exact @R.slDead (inner F w S hlt ds) _ _ _ _ _ _ _ hjl ((pick_ix hj).trans hS)
   | sl _ _ _ o l hn hS hc ho h0 => exact @R.sl (inner F w S hlt ds) _ _ _ _ _ _ o l hjl ((pick_ix hj).trans hS) hc ho h0
  ·cases h
 ·rename_i id e f
  split at h
  ·rename_i j hj
   cases h
   have hjl : j < ds.length := (List.getElem?_eq_some_iff.1 (ixOf_get hj)).1
   cases hv with
   | ptrDead _ _ _ _ hn hS => exact @R.ptrDead (inner F w S hlt ds) _ _ _ _ _ _ _ hjl ((pick_ix hj).trans hS)
   | ptr _ _ _ b l hn hS hb => exact @R.ptr (inner F w S hlt ds) _ _ _ _ _ _ b l hjl ((pick_ix hj).trans hS) hb
  ·cases h
 ·rename_i id
  split at h
  ·rename_i j hj
   cases h
   have hjl : j < ds.length := (List.getElem?_eq_some_iff.1 (ixOf_get hj)).1
   cases hv with
   | mpDead _ _ hn hS => exact @R.mpDead (inner F w S hlt ds) _ _ _ _ _ hjl ((pick_ix hj).trans hS)
   | mp _ l hn hS => exact @R.mp (inner F w S hlt ds) _ _ _ _ l hjl ((pick_ix hj).trans hS)
  ·cases h
 ·cases h
  cases hv with | d hx => exact @R.d (inner F w S hlt ds) _ _ _ _ _ (mv hx)
 ·cases h
  cases hv with | ip _ _ _ _ b o u hb hO hc hr => exact @R.ip (inner F w S hlt ds) _ _ _ _ _ _ _ b o u hb (fun h => hO (own_inner h)) hc (fun e f c hh => mv (hr e f c hh))
 ·cases h
  exact @R.any (inner F w S hlt ds) _ _ _ _
 ·cases h

theorem ixL_ok : ∀ {cs cs' : List AV}, ixL ds cs = some cs' → cs'.length = cs.length ∧ ∀ (i : Nat) (c' : AV), cs'[i]? = some c' → ∃ c, cs[i]? = some c ∧ ix1 ds c = some c' := by
 intro cs
 induction cs with
 | nil => intro cs' h; cases h; exact ⟨rfl, fun i c' h => by simp at h⟩
 | cons c cs ih =>
  intro cs' h
  unfold ixL at h
  split at h
  ·rename_i c1 cs1 h1 h2
   cases h
   obtain ⟨h3, h4⟩ := ih h2
   refine ⟨by simp [h3], fun i d hd => ?_⟩
   cases i with
   | zero => simp at hd; subst hd; exact ⟨c, rfl, h1⟩
   | succ i => simpa using h4 i d (by simpa using hd)
  ·cases h

theorem ix2_ok {c c' : AV} (h : ix2 ds c = some c') {v : Value} (hv : @R F w S n c v) : @R (inner F w S hlt ds) w (pick ds S) ds.length c' v := by
 unfold ix2 at h
 split at h
 ·split at h
  ·rename_i cs' hcs
   cases h
   obtain ⟨h1, h2⟩ := ixL_ok hcs
   cases hv with | agg _ us hl h1' hr =>
   exact @R.agg (inner F w S hlt ds) _ _ _ _ us (by omega) h1' (fun i c u hc hu => by obtain ⟨c0, h3, h4⟩ := h2 i c hc; exact ix1_ok h4 (hr i c0 u h3 hu))
  ·cases h
 ·split at h
  ·rename_i cs' hcs
   cases h
   obtain ⟨h1, h2⟩ := ixL_ok hcs
   cases hv with | clo _ _ us hl hr =>
   exact @R.clo (inner F w S hlt ds) _ _ _ _ _ us (by omega) (fun i c u hc hu => by obtain ⟨c0, h3, h4⟩ := h2 i c hc; exact ix1_ok h4 (hr i c0 u h3 hu))
  ·cases h
 ·exact ix1_ok h hv

theorem ixA_ok : ∀ {cs cs' : List AV}, ixA ds cs = some cs' → cs'.length = cs.length ∧ ∀ (i : Nat) (c' : AV), cs'[i]? = some c' → ∃ c, cs[i]? = some c ∧ ix2 ds c = some c' := by
 intro cs
 induction cs with
 | nil => intro cs' h; cases h; exact ⟨rfl, fun i c' h => by simp at h⟩
 | cons c cs ih =>
  intro cs' h
  unfold ixA at h
  split at h
  ·rename_i c1 cs1 h1 h2
   cases h
   obtain ⟨h3, h4⟩ := ih h2
   refine ⟨by simp [h3], fun i d hd => ?_⟩
   cases i with
   | zero => simp at hd; subst hd; exact ⟨c, rfl, h1⟩
   | succ i => simpa using h4 i d (by simpa using hd)
  ·cases h

theorem ixBs_ok : ∀ {l : List Nat} {bs : List (Option Box)}, ixBs ds H l = some bs → bs.length = l.length ∧ ∀ (i : Nat) (b : Box), getB bs i = some b → ∃ d, l[i]? = some d ∧ ixBox ds (H d) = some b := by
 intro l
 induction l with
 | nil => intro bs h; cases h; exact ⟨rfl, fun i b h => by simp [getB] at h⟩
 | cons d l ih =>
  intro bs h
  unfold ixBs at h
  split at h
  ·rename_i b1 bs1 h1 h2
   cases h
   obtain ⟨h3, h4⟩ := ih h2
   refine ⟨by simp [h3], fun i b hb => ?_⟩
   cases i with
   | zero => simp [getB] at hb; subst hb; exact ⟨d, rfl, h1⟩
   | succ i => simpa using h4 i b (by simpa [getB] using hb)
  ·cases h
theorem ixBs_live : ∀ {l : List Nat} {bs : List (Option Box)}, ixBs ds H l = some bs → ∀ d ∈ l, (H d).isSome = true := by
 intro l
 induction l with
 | nil => intro bs h d hd; cases hd
 | cons d l ih =>
  intro bs h e he
  unfold ixBs at h
  split at h
  ·rename_i b1 bs1 h1 h2
   rcases List.mem_cons.1 he with rfl | he
   ·cases hd : H e with
    | none => rw [hd] at h1; cases h1
    | some => rfl
   ·exact ih h2 e he
  ·cases h

theorem ixBox_ok {b b' : Box} (h : ixBox ds (some b) = some b') {l : Lay} (hb : @BoxOk F w S n b l) : @BoxOk (inner F w S hlt ds) w (pick ds S) ds.length b' l := by
 have mv : ∀ {d : D} {v : Value}, RD w (@own F S) d v → RD w (@own (inner F w S hlt ds) (pick ds S)) d v := fun h => h.ext (Nat.le_refl _) (fun _ _ _ => rfl) (fun b _ hb hb' => hb (own_inner hb'))
 cases b with
 | vec t s xs =>
  cases h
  obtain ⟨h1, h2, h3, h4, h5, h6⟩ := hb
  refine ⟨h1, h2, h3, h4, h5, fun b hb => ?_⟩
  obtain ⟨cur, e1, e2, e3⟩ := h6 b hb
  exact ⟨cur, e1, e2, fun e f c hh => by obtain ⟨u, e4, e5⟩ := e3 e f c hh; exact ⟨u, e4, mv e5⟩⟩
 | one t cs =>
  unfold ixBox at h
  simp only at h
  split at h
  ·rename_i cs' hcs
   cases h
   obtain ⟨h1, h2⟩ := ixL_ok hcs
   obtain ⟨g1, g2, b, hb, cur, e1, e2, e3⟩ := hb
   refine ⟨by omega, g2, b, hb, cur, e1, by omega, fun f c hc => ?_⟩
   obtain ⟨c0, h3, h4⟩ := h2 f c hc
   obtain ⟨u, e4, e5, e6⟩ := e3 f c0 h3
   exact ⟨u, e4, e5, ix1_ok h4 e6⟩
  ·cases h
 | ob o =>
  cases h
  exact o.same hb (fun b _ hb hb' => hb (own_inner hb'))

theorem pick_inj (hn : nodupB ds = true) {i j d : Nat} (hi : ds[i]? = some d) (hj : ds[j]? = some d) : i = j := by
 have := (ixOf_of hn hi).symm.trans (ixOf_of hn hj)
 cases this; rfl

theorem HeapOk.view {W0 : World} {M0 : Nat → Prop} (hH : @HeapOk F W0 M0 H n w S) (hn : nodupB ds = true) {bl : List (Option Box)} (hb : ixBs ds H ds = some bl) :
  @HeapOk (inner F w S hlt ds) w (fun b => ∃ j l, pick ds S j = some l ∧ l.has b) (getB bl) bl.length w (pick ds S) := by
 obtain ⟨hl, hB⟩ := ixBs_ok hb
 refine @HeapOk.mk (inner F w S hlt ds) _ _ _ _ _ _ ?_ ?_ ?_ ?_ ?_ ?_ ?_ rfl rfl rfl (Nat.le_refl _) (fun _ _ _ => rfl) ?_ ?_ (fun p hp => (hH.gl p hp).ext (Nat.le_refl _) (fun _ _ _ => rfl) (fun b _ hb h => hb (own_inner h)))
 ·intro j hj
  unfold pick
  rw [List.getElem?_eq_none (by omega)]
 ·intro j l b h1 h2
  obtain ⟨d, _, h3⟩ := pick_some h1
  exact hH.lt2 d l b h3 h2
 ·intro j b h
  obtain ⟨d, h1, h2⟩ := hB j b h
  cases hd : H d with
  | none => rw [hd] at h2; cases h2
  | some b0 =>
   rw [hd] at h2
   obtain ⟨l, h3, h4⟩ := hH.box d b0 hd
   refine ⟨l, by unfold pick; simp only [h1]; exact h3, ?_⟩
   rw [hl]
   exact ixBox_ok h2 h4
 ·intro i j l l' b hi hj h1 h2
  obtain ⟨d, e1, e2⟩ := pick_some hi
  obtain ⟨d', e3, e4⟩ := pick_some hj
  have := hH.inj2 d d' l l' b e2 e4 h1 h2
  subst this
  exact pick_inj hn e1 e3
 ·intro j l hj
  obtain ⟨d, _, h3⟩ := pick_some hj
  exact hH.nod d l h3
 ·intro j l b hb' hj hp
  obtain ⟨d, e1, e2⟩ := pick_some hj
  obtain ⟨d', h1, h2⟩ := hB j b hb'
  rw [e1] at h1; cases h1
  cases hd : H d with
  | none => rw [hd] at h2; cases h2
  | some b0 =>
   rw [hd] at h2
   refine hH.plain d l b0 hd e2 ?_
   cases b0 with
   | ob o => cases h2; exact hp
   | _ => rfl
 ·intro j l b _ h1 h2
  exact .inr ⟨j, l, h1, h2⟩
 ·intro b h
  exact h
 ·intro j h
  exact ⟨by have : j < ds.length := h; omega, .inl rfl⟩

/-! ### behind -/
def ouS (ds : List Nat) (n : Nat) (S S2 : Lays) : Lays := fun i =>
 if i < n then match ixOf ds i with
  | some j => S2 j
  | none => S i
 else S2 (ds.length + (i - n))

theorem ouS_ou (hn : nodupB ds = true) (hd : ∀ d ∈ ds, d < n) (i : Nat) : ouS ds n S S2 (ouN ds n i) = S2 i := by
 unfold ouS ouN
 cases hi : ds[i]? with
 | some d =>
  simp only
  rw [if_pos (hd d (List.mem_of_getElem? hi)), ixOf_of hn hi]
 | none =>
  have : ds.length ≤ i := by
   rw [List.getElem?_eq_none_iff] at hi; exact hi
  simp only
  rw [if_neg (by omega)]
  congr 1
  omega
end
end Go.Vc
/- The Vc layer: functions that turn boxes that they are handed, or hand back new ones: their contracts. -/
set_option linter.all false
namespace Go.Vc
open Go Go.RowKit

section
variable {F : Far} {P : Program} {w w' : World} {S S2 : Lays} {n : Nat} {ds : List Nat} {hlt : ∀ b, @own F S b → b < w.heap.size} {H : Heap} {bf : List (Option Box)} {W0 : World} {M0 M1 : Nat → Prop}

structure Handed (F : Far) (H : Heap) (n : Nat) (w : World) (S : Lays) (ds : List Nat) : Prop where
 nd : nodupB ds = true
 live : ∀ d ∈ ds, ∃ l, S d = some l
 lt : ∀ d ∈ ds, d < n
 alive : ∀ d ∈ ds, (H d).isSome = true

theorem Handed.mk' (hH : @HeapOk F W0 M0 H n w S) (hn : nodupB ds = true) (hl : ∀ d ∈ ds, (H d).isSome = true) : Handed F H n w S ds := by
 have live : ∀ d ∈ ds, ∃ l, S d = some l := fun d hd => by
  obtain ⟨b, hb⟩ := Option.isSome_iff_exists.1 (hl d hd)
  obtain ⟨l, h1, _⟩ := hH.box d b hb
  exact ⟨l, h1⟩
 refine ⟨hn, live, fun d hd => ?_, hl⟩
 obtain ⟨l, h1⟩ := live d hd
 exact hH.lt h1

theorem ixOf_mem {l : List Nat} {i j : Nat} (h : ixOf l i = some j) : i ∈ l := List.mem_of_getElem? (ixOf_get h)

theorem own_out (hD : Handed F H n w S ds) (hH : @HeapOk F W0 M0 H n w S) {b : Nat} (h : @own F (ouS ds n S S2) b) : @own (inner F w S hlt ds) S2 b := by
 rcases h with h | ⟨i, l, h1, h2⟩
 ·refine .inl ⟨.inl h, fun j l hj hb => ?_⟩
  obtain ⟨d, _, h3⟩ := pick_some hj
  exact (hH.far b (Far.sub b h)).2 d l h3 hb
 ·unfold ouS at h1
  split at h1
  ·split at h1
   ·rename_i j hj; exact .inr ⟨j, l, h1, h2⟩
   ·rename_i hno
    refine .inl ⟨.inr ⟨i, l, h1, h2⟩, fun j l' hj hb => ?_⟩
    obtain ⟨d, h3, h4⟩ := pick_some hj
    have := hH.inj2 d i l' l b h4 h1 hb h2
    subst this
    exact ixOf_none hno (List.mem_of_getElem? h3)
  ·exact .inr ⟨_, l, h1, h2⟩

theorem ouN_lt (hD : Handed F H n w S ds) {m i : Nat} (hm : ds.length ≤ m) (hi : i < m) : ouN ds n i < n + (m - ds.length) := by
 unfold ouN
 cases h : ds[i]? with
 | some d => have := hD.lt d (List.mem_of_getElem? h); simp only; omega
 | none =>
  have : ds.length ≤ i := by rw [List.getElem?_eq_none_iff] at h; exact h
  simp only; omega

theorem ou1_ok (hD : Handed F H n w S ds) (hH : @HeapOk F W0 M0 H n w S) {m : Nat} (hm : ds.length ≤ m) {c : AV} {v : Value} (hv : @R (inner F w S hlt ds) w' S2 m c v) : @R F w' (ouS ds n S S2) (n + (m - ds.length)) (ou1 ds n c) v := by
 have mv : ∀ {d : D} {v : Value}, RD w' (@own (inner F w S hlt ds) S2) d v → RD w' (@own F (ouS ds n S S2)) d v := fun h => h.ext (Nat.le_refl _) (fun _ _ _ => rfl) (fun b _ hb hb' => hb (own_out hD hH hb'))
 cases hv with
 | any v => exact .any _
 | d hx => exact .d (mv hx)
 | ip sz xs e f b o u hb hO hc hr => exact .ip sz xs e f b o u hb (fun h => hO (own_out hD hH h)) hc (fun e f c hh => mv (hr e f c hh))
 | slDead id off len v hn hS => exact .slDead _ off len v (ouN_lt hD hm hn) ((ouS_ou hD.nd hD.lt id).trans hS)
 | sl id off len o l hn hS hc ho h0 => exact .sl _ off len o l (ouN_lt hD hm hn) ((ouS_ou hD.nd hD.lt id).trans hS) hc ho h0
 | ptrDead id e f v hn hS => exact .ptrDead _ e f v (ouN_lt hD hm hn) ((ouS_ou hD.nd hD.lt id).trans hS)
 | ptr id e f b l hn hS hb => exact .ptr _ e f b l (ouN_lt hD hm hn) ((ouS_ou hD.nd hD.lt id).trans hS) hb
 | mpDead id v hn hS => exact .mpDead _ v (ouN_lt hD hm hn) ((ouS_ou hD.nd hD.lt id).trans hS)
 | mp id l hn hS => exact .mp _ l (ouN_lt hD hm hn) ((ouS_ou hD.nd hD.lt id).trans hS)
 | agg cs us hl h1 hr => exact .any _
 | tup cs us hl hr => exact .any _
 | clo fn cs us hl hr => exact .any _
 | cond b c v hr hu => exact .any _

theorem ouL_get {cs : List AV} : ∀ {i : Nat} {c : AV}, (ouL ds n cs)[i]? = some c → ∃ c0, cs[i]? = some c0 ∧ c = ou1 ds n c0 := by
 induction cs with
 | nil => intro i c h; simp [ouL] at h
 | cons c cs ih =>
  intro i d h
  cases i with
  | zero => simp [ouL] at h; exact ⟨c, rfl, h.symm⟩
  | succ i => simpa using ih (by simpa [ouL] using h)
theorem ouL_length (cs : List AV) : (ouL ds n cs).length = cs.length := by
 induction cs with
 | nil => rfl
 | cons c cs ih => simp [ouL, ih]
theorem ouL2_get {cs : List AV} : ∀ {i : Nat} {c : AV}, (ouL2 ds n cs)[i]? = some c → ∃ c0, cs[i]? = some c0 ∧ c = ou2 ds n c0 := by
 induction cs with
 | nil => intro i c h; simp [ouL2] at h
 | cons c cs ih =>
  intro i d h
  cases i with
  | zero => simp [ouL2] at h; exact ⟨c, rfl, h.symm⟩
  | succ i => simpa using ih (by simpa [ouL2] using h)
theorem ouL2_length (cs : List AV) : (ouL2 ds n cs).length = cs.length := by
 induction cs with
 | nil => rfl
 | cons c cs ih => simp [ouL2, ih]

theorem ou2_ok (hD : Handed F H n w S ds) (hH : @HeapOk F W0 M0 H n w S) {m : Nat} (hm : ds.length ≤ m) {c : AV} {v : Value} (hv : @R (inner F w S hlt ds) w' S2 m c v) : @R F w' (ouS ds n S S2) (n + (m - ds.length)) (ou2 ds n c) v := by
 unfold ou2
 split
 ·rename_i cs
  cases hv with | agg _ us hl h1 hr =>
  exact .agg _ us (by rw [ouL_length]; exact hl) h1 (fun i c u hc hu => by obtain ⟨c0, h3, rfl⟩ := ouL_get hc; exact ou1_ok hD hH hm (hr i c0 u h3 hu))
 ·rename_i fn cs
  cases hv with | clo _ _ us hl hr =>
  exact .clo _ _ us (by rw [ouL_length]; exact hl) (fun i c u hc hu => by obtain ⟨c0, h3, rfl⟩ := ouL_get hc; exact ou1_ok hD hH hm (hr i c0 u h3 hu))
 ·exact ou1_ok hD hH hm hv

theorem ou3_ok (hD : Handed F H n w S ds) (hH : @HeapOk F W0 M0 H n w S) {m : Nat} (hm : ds.length ≤ m) {c : AV} {v : Value} (hv : @R (inner F w S hlt ds) w' S2 m c v) : @R F w' (ouS ds n S S2) (n + (m - ds.length)) (ou3 ds n c) v := by
 unfold ou3
 split
 ·rename_i cs
  cases hv with | tup _ us hl hr =>
  exact .tup _ us (by rw [ouL2_length]; exact hl) (fun i c u hc hu => by obtain ⟨c0, h3, rfl⟩ := ouL2_get hc; exact ou2_ok hD hH hm (hr i c0 u h3 hu))
 ·exact ou2_ok hD hH hm hv

theorem ouBox_ok (hD : Handed F H n w S ds) (hH : @HeapOk F W0 M0 H n w S) {m : Nat} (hm : ds.length ≤ m) {b b' : Box} (hb' : ouBox ds n (some b) = some b') {l : Lay} (hb : @BoxOk (inner F w S hlt ds) w' S2 m b l) : @BoxOk F w' (ouS ds n S S2) (n + (m - ds.length)) b' l := by
 have mv : ∀ {d : D} {v : Value}, RD w' (@own (inner F w S hlt ds) S2) d v → RD w' (@own F (ouS ds n S S2)) d v := fun h => h.ext (Nat.le_refl _) (fun _ _ _ => rfl) (fun b _ hb hb' => hb (own_out hD hH hb'))
 cases b with
 | vec t s xs =>
  cases hb'
  obtain ⟨h1, h2, h3, h4, h5, h6⟩ := hb
  refine ⟨h1, h2, h3, h4, h5, fun b hb => ?_⟩
  obtain ⟨cur, e1, e2, e3⟩ := h6 b hb
  exact ⟨cur, e1, e2, fun e f c hh => by obtain ⟨u, e4, e5⟩ := e3 e f c hh; exact ⟨u, e4, mv e5⟩⟩
 | one t cs =>
  cases hb'
  obtain ⟨g1, g2, b, hb, cur, e1, e2, e3⟩ := hb
  refine ⟨by rw [ouL_length]; exact g1, g2, b, hb, cur, e1, by rw [ouL_length]; exact e2, fun f c hc => ?_⟩
  obtain ⟨c0, h3, rfl⟩ := ouL_get hc
  obtain ⟨u, e4, e5, e6⟩ := e3 f c0 h3
  exact ⟨u, e4, e5, ou1_ok hD hH hm e6⟩
 | ob o =>
  cases hb'
  exact o.same hb (fun b _ hb hb' => hb (own_out hD hH hb'))

theorem allSome_get : ∀ {l : List (Option Box)} {i : Nat}, allSome l = true → i < l.length → ∃ b, l[i]? = some (some b) := by
 intro l
 induction l with
 | nil => intro i _ h; cases h
 | cons b l ih =>
  intro i h hi
  cases b with
  | none => cases h
  | some b =>
   cases i with
   | zero => exact ⟨b, rfl⟩
   | succ i => simpa using ih (i := i) h (by simpa using hi)

theorem HeapOk.unview (hH : @HeapOk F w (liveB H S) H n w S) (hD : Handed F H n w S ds) (hlen : ds.length ≤ bf.length) (hall : allSome (bf.drop ds.length) = true)
  (h2 : @HeapOk (inner F w S hlt ds) w (fun b => ∃ j l, pick ds S j = some l ∧ l.has b) (getB bf) bf.length w' S2) :
  @Left F H n w S (ouH ds n H bf) (n + (bf.length - ds.length)) w' (ouS ds n S S2) := by
 have hM : ∀ b, (∃ j l, pick ds S j = some l ∧ l.has b) → liveB H S b := by
  rintro b ⟨j, l, h1, h3⟩
  obtain ⟨d, h4, h5⟩ := pick_some h1
  exact ⟨d, l, hD.alive d (List.mem_of_getElem? h4), h5, h3⟩
 have hMo : ∀ b, (∃ j l, pick ds S j = some l ∧ l.has b) → @own F S b := by
  rintro b ⟨j, l, h1, h3⟩
  obtain ⟨d, h4, h5⟩ := pick_some h1
  exact .inr ⟨d, l, h5, h3⟩
 have hpin : ∀ i j, ixOf ds i = some j → S2 j = S i ∨ S2 j = none := by
  intro i j hj
  have := (@HeapOk.pin (inner F w S hlt ds) _ _ _ _ _ _ h2 j (List.getElem?_eq_some_iff.1 (ixOf_get hj)).1).2
  rwa [show (inner F w S hlt ds).pin j = S i from pick_ix hj] at this
 have hE : @Ext F w S n w' (ouS ds n S S2) (n + (bf.length - ds.length)) := by
  refine @Ext.mk F _ _ _ _ _ _ (by omega) (@HeapOk.size (inner F w S hlt ds) _ _ _ _ _ _ h2) (fun i hi => ?_) (fun b hb hno h => ?_) (fun b hb hno => ?_)
  ·unfold ouS
   rw [if_pos hi]
   split
   ·rename_i j hj; exact hpin i j hj
   ·exact .inl rfl
  ·rcases own_out (hlt := hlt) hD hH h with h | ⟨j, l, h3, h4⟩
   ·exact hno h.1
   ·exact (@HeapOk.far (inner F w S hlt ds) _ _ _ _ _ _ h2 b ⟨hb, fun j l hj hb' => hno (hMo b ⟨j, l, hj, hb'⟩)⟩).2 j l h3 h4
  ·exact @HeapOk.same (inner F w S hlt ds) _ _ _ _ _ _ h2 b hb (fun h => hno (hMo b h))
 have hold : ∀ i l b, i < n → ixOf ds i = none → S i = some l → l.has b → w'.heap[b]? = w.heap[b]? := by
  intro i l b hi hno hS hb
  refine @HeapOk.same (inner F w S hlt ds) _ _ _ _ _ _ h2 b (hH.lt2 i l b hS hb) ?_
  rintro ⟨j, l', h1, h3⟩
  obtain ⟨d, h4, h5⟩ := pick_some h1
  have := hH.inj2 d i l' l b h5 hS h3 hb
  subst this
  exact ixOf_none hno (List.mem_of_getElem? h4)
 refine ⟨?_, hE, fun i hi hHi => ?_, fun i hi hHi => ?_⟩
 ·refine @HeapOk.mk F _ _ _ _ _ _ ?_ ?_ ?_ ?_ ?_ ?_ ?_ (@HeapOk.os (inner F w S hlt ds) _ _ _ _ _ _ h2) (@HeapOk.tape (inner F w S hlt ds) _ _ _ _ _ _ h2) (@HeapOk.output (inner F w S hlt ds) _ _ _ _ _ _ h2) hE.size (fun b hb hno => ?_) ?_ ?_ (hH.glx hE)
  ·intro i hi
   unfold ouS
   rw [if_neg (by omega)]
   exact @HeapOk.bnd (inner F w S hlt ds) _ _ _ _ _ _ h2 _ (by omega)
  ·intro i l b h1 h3
   unfold ouS at h1
   split at h1
   ·split at h1
    ·exact @HeapOk.lt2 (inner F w S hlt ds) _ _ _ _ _ _ h2 _ l b h1 h3
    ·exact Nat.lt_of_lt_of_le (hH.lt2 i l b h1 h3) hE.size
   ·exact @HeapOk.lt2 (inner F w S hlt ds) _ _ _ _ _ _ h2 _ l b h1 h3
  ·intro i b hb
   have boxed : ∀ j, ouBox ds n (getB bf j) = some b → ∃ l, S2 j = some l ∧ @BoxOk F w' (ouS ds n S S2) (n + (bf.length - ds.length)) b l := by
    intro j hj
    cases hg : getB bf j with
    | none => rw [hg] at hj; cases hj
    | some b0 =>
     rw [hg] at hj
     obtain ⟨l, h3, h4⟩ := @HeapOk.box (inner F w S hlt ds) _ _ _ _ _ _ h2 j b0 hg
     exact ⟨l, h3, ouBox_ok hD hH hlen hj h4⟩
   unfold ouH at hb
   split at hb
   ·rename_i hi
    split at hb
    ·rename_i j hj
     obtain ⟨l, h3, h4⟩ := boxed j hb
     refine ⟨l, ?_, h4⟩
     unfold ouS
     rw [if_pos hi]
     simp only [hj]
     exact h3
    ·rename_i hno
     obtain ⟨l, h3, h4⟩ := hH.box i b hb
     refine ⟨l, ?_, @BoxOk.ext F _ _ _ _ _ _ _ _ h4 hE (fun k hk => hold i l k hi hno h3 hk)⟩
     unfold ouS
     rw [if_pos hi]
     simp only [hno]
     exact h3
   ·rename_i hi
    obtain ⟨l, h3, h4⟩ := boxed _ hb
    refine ⟨l, ?_, h4⟩
    unfold ouS
    rw [if_neg hi]
    exact h3
  ·intro i j l l' b hi hj h1 h3
   -- an old box of the caller's, not handed over, lies in a block that is far from the callee
   have apart : ∀ {i k l l'}, ixOf ds i = none → S i = some l → S2 k = some l' → l.has b → l'.has b → False := by
    intro i k l l' hno hS h2k hb hb'
    refine (@HeapOk.far (inner F w S hlt ds) _ _ _ _ _ _ h2 b ⟨hH.lt2 i l b hS hb, fun j l' hj hb' => ?_⟩).2 k l' h2k hb'
    obtain ⟨d, h4, h5⟩ := pick_some hj
    have := hH.inj2 d i l' l b h5 hS hb' hb
    subst this
    exact ixOf_none hno (List.mem_of_getElem? h4)
   have same2 : ∀ {k k' : Nat}, S2 k = some l → S2 k' = some l' → k = k' := fun h4 h5 => @HeapOk.inj2 (inner F w S hlt ds) _ _ _ _ _ _ h2 _ _ l l' b h4 h5 h1 h3
   unfold ouS at hi hj
   split at hi
   ·split at hi
    ·rename_i hin a ha
     split at hj
     ·split at hj
      ·rename_i hjn a' ha'
       have := same2 hi hj
       subst this
       have e1 := ixOf_get ha
       rw [ixOf_get ha'] at e1
       cases e1; rfl
      ·rename_i hno; exact (apart hno hj hi h3 h1).elim
     ·rename_i hjn
      have := same2 hi hj
      have hk := (List.getElem?_eq_some_iff.1 (ixOf_get ha)).1
      omega
    ·rename_i hin hno
     split at hj
     ·split at hj
      ·exact (apart hno hi hj h1 h3).elim
      ·exact hH.inj2 i j l l' b hi hj h1 h3
     ·exact (apart hno hi hj h1 h3).elim
   ·rename_i hin
    split at hj
    ·split at hj
     ·rename_i hjn a' ha'
      have := same2 hi hj
      have hk := (List.getElem?_eq_some_iff.1 (ixOf_get ha')).1
      omega
     ·rename_i hno; exact (apart hno hj hi h3 h1).elim
    ·have := same2 hi hj
     omega
  ·intro i l hi
   unfold ouS at hi
   split at hi
   ·split at hi
    ·exact @HeapOk.nod (inner F w S hlt ds) _ _ _ _ _ _ h2 _ l hi
    ·exact hH.nod i l hi
   ·exact @HeapOk.nod (inner F w S hlt ds) _ _ _ _ _ _ h2 _ l hi
  ·intro i l b hb hi hp
   have back : ∀ j, ouBox ds n (getB bf j) = some b → S2 j = some l → l.subs = [] := by
    intro j hj hS
    cases hg : getB bf j with
    | none => rw [hg] at hj; cases hj
    | some b0 =>
     rw [hg] at hj
     refine @HeapOk.plain (inner F w S hlt ds) _ _ _ _ _ _ h2 j l b0 hg hS ?_
     cases b0 with
     | ob o => cases hj; exact hp
     | _ => rfl
   unfold ouH at hb
   unfold ouS at hi
   split at hb
   ·rename_i hin
    rw [if_pos hin] at hi
    split at hb
    ·rename_i j hj
     simp only [hj] at hi
     exact back j hb hi
    ·rename_i hno
     simp only [hno] at hi
     exact hH.plain i l b hb hi hp
   ·rename_i hin
    rw [if_neg hin] at hi
    exact back _ hb hi
  ·intro i l b hl hi hb
   have some_of : ∀ j, (ouBox ds n (getB bf j)).isSome = true → (getB bf j).isSome = true := by
    intro j hj
    cases hg : getB bf j with
    | none => rw [hg] at hj; cases hj
    | some => rfl
   unfold ouH at hl
   unfold ouS at hi
   split at hl
   ·rename_i hin
    rw [if_pos hin] at hi
    split at hl
    ·rename_i j hj
     simp only [hj] at hi
     rcases @HeapOk.mut2 (inner F w S hlt ds) _ _ _ _ _ _ h2 j l b (some_of j hl) hi hb with h | h
     ·exact .inl h
     ·exact .inr (hM b h)
    ·rename_i hno
     simp only [hno] at hi
     exact .inr ⟨i, l, hl, hi, hb⟩
   ·rename_i hin
    rw [if_neg hin] at hi
    rcases @HeapOk.mut2 (inner F w S hlt ds) _ _ _ _ _ _ h2 _ l b (some_of _ hl) hi hb with h | h
    ·exact .inl h
    ·exact .inr (hM b h)
  ·exact @HeapOk.same (inner F w S hlt ds) _ _ _ _ _ _ h2 b hb (fun h => hno (hM b h))
  ·intro b hb
   obtain ⟨h3, h4⟩ := hH.far b hb
   have h5 := (@HeapOk.far (inner F w S hlt ds) _ _ _ _ _ _ h2 b ⟨h3, fun j l hj hb' => by obtain ⟨d, _, h6⟩ := pick_some hj; exact h4 d l h6 hb'⟩).2
   refine ⟨h3, fun i l hi => ?_⟩
   unfold ouS at hi
   split at hi
   ·split at hi
    ·exact h5 _ l hi
    ·exact h4 i l hi
   ·exact h5 _ l hi
  ·intro i hp
   obtain ⟨h3, h4⟩ := hH.pin i hp
   refine ⟨by omega, ?_⟩
   unfold ouS
   rw [if_pos h3]
   split
   ·rename_i j hj
    rcases hpin i j hj with h | h
    ·rw [h]; exact h4
    ·exact .inr h
   ·exact h4
 ·unfold ouS
  rw [if_pos hi]
  split
  ·rename_i j hj
   have := hD.alive i (ixOf_mem hj)
   rw [hHi] at this; cases this
  ·rfl
 ·unfold ouH at hHi
  rw [if_neg (by omega)] at hHi
  unfold ouS
  rw [if_neg (by omega)]
  by_cases hb : ds.length + (i - n) < bf.length
  ·obtain ⟨b, hb'⟩ := allSome_get (i := i - n) hall (by rw [List.length_drop]; omega)
   rw [List.getElem?_drop] at hb'
   rw [getB_some.2 hb'] at hHi
   cases b with
   | ob o => cases hHi
   | _ => cases hHi
  ·exact @HeapOk.bnd (inner F w S hlt ds) _ _ _ _ _ _ h2 _ (by omega)
end

theorem meets_gen {P : Program} (E : Env P) {f : FuncId} {fn : Func} {c : Code} {sp : Spec} (hf : P.funcs[f]? = some fn) (hb : fn.body = some c) (hN : fn.ntmps = E.N) (hρ : E.ρ = none) (dsOf : List AV → Heap → List Nat) (g : GFun)
  (hsp : ∀ args H n, sp.run args H n = genRun g (dsOf args H) args H n)
  (h : ∀ ia bl p r bf, g ia bl = some (p, r, bf) → p → ia.length ≤ E.N ∧ ∀ [Far] (W0 : World) (M0 : Nat → Prop), Far.np = bl.length → Far.marks = true → VC E W0 M0 c (mkSt (enumF 0 ia) bl) (retG E fn.results.toList bl.length r bf)) : Meets P f sp := by
 intro args H n p r o hrun hp F w S vs hH hl hr
 rw [hsp] at hrun
 unfold genRun at hrun
 generalize dsOf args H = ds at hrun
 split at hrun
 ·rename_i ia bl hia hbl
  split at hrun
  ·rename_i p' r' bf hg
   split at hrun
   ·rename_i hc
    obtain ⟨hnd, hlen, hall⟩ := hc
    simp only [Option.some.injEq, Prod.mk.injEq] at hrun
    obtain ⟨rfl, rfl, rfl⟩ := hrun
    have hlt : ∀ b, @own F S b → b < w.heap.size := own_lt hH
    obtain ⟨hla, hvc⟩ := h ia bl p' r' bf hg hp
    obtain ⟨hbll, _⟩ := ixBs_ok hbl
    obtain ⟨hial, hiaR⟩ := ixA_ok hia
    have hD : Handed F H n w S ds := Handed.mk' hH hnd (ixBs_live hbl)
    have hvc := @hvc (inner F w S hlt ds) w (fun b => ∃ j l, pick ds S j = some l ∧ l.has b) hbll.symm rfl
    have h0 := hH.view (hlt := hlt) hnd hbl
    refine callsIn_wide.1 (callsIn_of_wp_marks (n := 0) hf hb trivial ?_)
    have hsim : @Sim (inner F w S hlt ds) w (fun b => ∃ j l, pick ds S j = some l ∧ l.has b) E.N (mkSt (enumF 0 ia) bl) { tmps := vs.toArray ++ Array.replicate (fn.ntmps - vs.toArray.size) undef, defers := [] } w := by
     refine ⟨pick ds S, h0, @FrOk.mk (inner F w S hlt ds) _ _ _ _ _ _ ?_ fun i => ?_, @Marks.nil (inner F w S hlt ds) _ _ _ (fun h => by cases h)⟩
     ·simp only [Array.size_append, Array.size_replicate, List.size_toArray, hN]; omega
     ·show @R (inner F w S hlt ds) w (pick ds S) bl.length (getF (enumF 0 ia) i) _
      rw [getF_enum, if_pos (by omega), Nat.sub_zero, frame_get (by omega), hbll]
      cases hi : ia[i]? with
      | none => exact @R.any (inner F w S hlt ds) _ _ _ _
      | some c =>
       have hlt' : i < ia.length := (List.getElem?_eq_some_iff.1 hi).1
       have hv : vs[i]? = some (vs[i]'(by omega)) := List.getElem?_eq_getElem _
       rw [hv]
       obtain ⟨c0, h3, h4⟩ := hiaR i c hi
       exact ix2_ok h4 (hr i c0 _ h3 hv)
    have hvc2 := hvc _ w hsim
    rw [show fen E.ρ = Fence.wide by rw [hρ]; rfl] at hvc2
    refine wpIn_mono hvc2 ?_
    rintro e a' w' ⟨st, ⟨he, hst⟩, S1, hH1, hF1, hM1⟩
    have go : LeavesInM Fence.wide 0 P fn a'.tmps (fun e w' => ∃ v S', e = .returned v ∧ Left H n w S (Option.getD (some (ouH ds n H bf, n + (bf.length - ds.length))) (H, n)).1 (Option.getD (some (ouH ds n H bf, n + (bf.length - ds.length))) (H, n)).2 w' S' ∧
      ((some (ouH ds n H bf, n + (bf.length - ds.length)) : Option (Heap × Nat)) = none → S' = S ∧ ∀ b, b < w.heap.size → w'.heap[b]? = w.heap[b]?) ∧ R w' S' (Option.getD (some (ouH ds n H bf, n + (bf.length - ds.length))) (H, n)).2 (ou3 ds n r') v) a'.defers .returning w' := by
     refine @leave_marks _ _ (inner F w S hlt ds) _ _ _ _ _ _ _ _ a'.defers w' hH1 (@FrOk.at_ (inner F w S hlt ds) _ _ _ _ _ _ hF1) (@Marks.apart (inner F w S hlt ds) _ _ _ _ hM1 rfl) (@Marks.at_ (inner F w S hlt ds) _ _ _ _ hM1 rfl) (fun w' hH1 hF1 => ?_)
     split at hst
     ·rename_i q cs hres
      obtain ⟨hq, ρ, hρ1, hbs, hmt⟩ := hst
      rw [Bool.and_eq_true] at hρ1
      obtain ⟨us, e1, e2, e3, e4⟩ := @resA_ok P w' S1 st.n (inner F w S hlt ds) E w _ st.H hH1 st.fr a'.tmps hF1 _ _ _ hres hq
      have hpk : @R (inner F w S hlt ds) w' S1 st.n (packA cs) (packV us) := by
       match us, cs, e2, e4 with
       | [], [], _, _ => exact @R.tup (inner F w S hlt ds) _ _ _ [] [] rfl (fun i c u h => by simp at h)
       | [v], [c], _, e4 => exact e4 0 c v rfl rfl
       | v :: u :: us, c :: d :: cs, e2, e4 => exact @R.tup (inner F w S hlt ds) _ _ _ (c :: d :: cs) (v :: u :: us) e2.symm (fun i c' u' hc hu => e4 i c' u' hc hu)
      have hout := @mt_ok (inner F w S hlt ds) w' S1 st.n w _ st.H ρ bf hH1 _ _ hmt _ hpk
      have hren := @HeapOk.ren (inner F w S hlt ds) w' S1 st.n w _ st.H ρ bf hH1 hρ1.1 (fun i hi => pins_ok hρ1.2 i (by rw [hbll]; exact hi)) hbs
      have hlr := (mtBs_ok hbs).1
      rw [hlr] at hout
      exact ⟨_, results_run e1 e3, _, ouS ds n S (renS ρ bf S1), rfl, hH.unview hD hlen hall hren, fun h => (by cases h), ou3_ok hD hH hlen hout⟩
     ·exact hst.elim
    rcases he with rfl | rfl
    ·exact go
    ·exact go
   ·cases hrun
  ·cases hrun
 ·cases hrun

theorem meets_handed {P : Program} (E : Env P) {f : FuncId} {fn : Func} {c : Code} {g : GFun} (hf : P.funcs[f]? = some fn) (hb : fn.body = some c) (hN : fn.ntmps = E.N) (hρ : E.ρ = none)
  (h : ∀ ia bl p r bf, g ia bl = some (p, r, bf) → p → ia.length ≤ E.N ∧ ∀ [Far] (W0 : World) (M0 : Nat → Prop), Far.np = bl.length → Far.marks = true → VC E W0 M0 c (mkSt (enumF 0 ia) bl) (retG E fn.results.toList bl.length r bf)) : Meets P f (Spec.gen g) :=
 meets_gen E hf hb hN hρ reach g (fun _ _ _ => rfl) h
theorem meets_fresh {P : Program} (E : Env P) {f : FuncId} {fn : Func} {c : Code} {g : GFun} (hf : P.funcs[f]? = some fn) (hb : fn.body = some c) (hN : fn.ntmps = E.N) (hρ : E.ρ = none)
  (h : ∀ ia bl p r bf, g ia bl = some (p, r, bf) → p → ia.length ≤ E.N ∧ ∀ [Far] (W0 : World) (M0 : Nat → Prop), Far.np = bl.length → Far.marks = true → VC E W0 M0 c (mkSt (enumF 0 ia) bl) (retG E fn.results.toList bl.length r bf)) : Meets P f (Spec.fresh g) :=
 meets_gen E hf hb hN hρ (fun _ _ => []) g (fun _ _ _ => rfl) h
end Go.Vc
/- The Vc layer: a range over a function. -/
set_option linter.all false
namespace Go.Vc
open Go Go.RowKit

def Env.inR {P : Program} (E : Env P) (l : Nat) : Env P := ⟨E.X, E.N, some l, E.Γ, E.ok, E.ent⟩
/-! ### what leads to boxes below a number -/
def lt1 (m : Nat) : AV → Bool
 | .sl id _ _ => decide (id < m)
 | .ptr id _ _ => decide (id < m)
 | .mp id => decide (id < m)
 | .d _ => true
 | .ip .. => true
 | .any => true
 | _ => false
def lt2 (m : Nat) : AV → Bool
 | .agg cs => cs.all (lt1 m)
 | .clo _ cs => cs.all (lt1 m)
 | c => lt1 m c
theorem R.far {G G' : Far} {w : World} {S : Lays} {n : Nat} (hO : ∀ b, b < w.heap.size → ¬ @own G S b → ¬ @own G' S b) {c : AV} {v : Value} (h : @R G w S n c v) : @R G' w S n c v := by
 induction h with
 | any v => exact @R.any G' _ _ _ v
 | d hx => exact @R.d G' _ _ _ _ _ (hx.ext (Nat.le_refl _) (fun _ _ _ => rfl) hO)
 | ip sz xs e f b o u hb hO' hc hr => exact @R.ip G' _ _ _ sz xs e f b o u hb (hO b hb hO') hc (fun e f c hh => (hr e f c hh).ext (Nat.le_refl _) (fun _ _ _ => rfl) hO)
 | slDead id off len v hn hS => exact @R.slDead G' _ _ _ id off len v hn hS
 | sl id off len o l hn hS hc ho h0 => exact @R.sl G' _ _ _ id off len o l hn hS hc ho h0
 | ptrDead id e f v hn hS => exact @R.ptrDead G' _ _ _ id e f v hn hS
 | ptr id e f b l hn hS hb => exact @R.ptr G' _ _ _ id e f b l hn hS hb
 | mpDead id v hn hS => exact @R.mpDead G' _ _ _ id v hn hS
 | mp id l hn hS => exact @R.mp G' _ _ _ id l hn hS
 | agg cs us hl h1 _ ih => exact @R.agg G' _ _ _ cs us hl h1 ih
 | tup cs us hl _ ih => exact @R.tup G' _ _ _ cs us hl ih
 | clo fn cs us hl _ ih => exact @R.clo G' _ _ _ fn cs us hl ih
 | cond b c v _ hu ih => exact @R.cond G' _ _ _ b c v ih hu

theorem BoxOk.far {G G' : Far} {w : World} {S : Lays} {n : Nat} (hO : ∀ b, b < w.heap.size → ¬ @own G S b → ¬ @own G' S b) {b : Box} {l : Lay} (h : @BoxOk G w S n b l) : @BoxOk G' w S n b l := by
 cases b with
 | vec ty sz xs =>
  obtain ⟨h1, h2, h3, h4, h5, h6⟩ := h
  refine ⟨h1, h2, h3, h4, h5, fun b hb => ?_⟩
  obtain ⟨cur, e1, e2, e3⟩ := h6 b hb
  exact ⟨cur, e1, e2, fun e f c hh => by obtain ⟨u, e4, e5⟩ := e3 e f c hh; exact ⟨u, e4, e5.ext (Nat.le_refl _) (fun _ _ _ => rfl) hO⟩⟩
 | one ty cells =>
  obtain ⟨h1, h2, b, hb, cur, e1, e2, e3⟩ := h
  exact ⟨h1, h2, b, hb, cur, e1, e2, fun f c hh => by obtain ⟨u, e4, e5, e6⟩ := e3 f c hh; exact ⟨u, e4, e5, e6.far hO⟩⟩
 | ob o => exact o.same h hO

theorem box_far {G G' : Far} {w : World} {S : Lays} {n : Nat} {H : Heap} (hO : ∀ b, b < w.heap.size → ¬ @own G S b → ¬ @own G' S b) (h : ∀ (id : Nat) (b : Box), H id = some b → ∃ l, S id = some l ∧ @BoxOk G w S n b l) :
  ∀ (id : Nat) (b : Box), H id = some b → ∃ l, S id = some l ∧ @BoxOk G' w S n b l := fun id b hb => by
 obtain ⟨l, h1, h2⟩ := h id b hb
 exact ⟨l, h1, h2.far hO⟩

section
variable [F : Far] {P : Program} {w w' : World} {S S' : Lays} {n m : Nat} {H : Heap} {W0 : World} {M0 : Nat → Prop}

/-! ### a view of one's own memory, as it lies at some point -/
@[reducible] def own_view (F : Far) (w : World) (S : Lays) (m : Nat) (hlt : ∀ b, Far.F b → b < w.heap.size) (hno : ∀ b i l, Far.F b → S i = some l → ¬ l.has b) : Far where
 F := F.F
 nev := fun b => b < w.heap.size ∧ ∀ i l, S i = some l → ¬ l.has b
 sub := fun b h => ⟨hlt b h, fun i l hi => hno b i l h hi⟩
 pin := S
 np := m
 marks := false
 mx := F.mx

theorem far_lt (hH : HeapOk W0 M0 H n w S) : ∀ b, Far.F b → b < w.heap.size := fun b h => by
 have := (hH.far b (Far.sub b h)).1
 have := hH.size
 omega
theorem far_no (hH : HeapOk W0 M0 H n w S) : ∀ b i l, Far.F b → S i = some l → ¬ l.has b := fun b i l h hi => (hH.far b (Far.sub b h)).2 i l hi

def liveM (H : Heap) (S : Lays) (b : Nat) : Prop := ∃ i l, (H i).isSome = true ∧ S i = some l ∧ l.has b

theorem HeapOk.up (hH : HeapOk W0 M0 H n w S) (hm : m ≤ n) (hnp : Far.np ≤ m) {H' : Heap} {n' : Nat} (h : @HeapOk (own_view F w S m (far_lt hH) (far_no hH)) w (liveM H S) H' n' w' S') : HeapOk W0 M0 H' n' w' S' ∧ Ext w S m w' S' n' := by
 have hp : ∀ i, i < m → i < n' ∧ (S' i = S i ∨ S' i = none) := fun i hi => @HeapOk.pin (own_view F w S m _ _) _ _ _ _ _ _ h i hi
 have hL : ∀ b, liveM H S b → W0.heap.size ≤ b ∨ M0 b := fun b ⟨i, l, h1, h2, h3⟩ => hH.mut2 i l b h1 h2 h3
 have hsz := @HeapOk.size (own_view F w S m _ _) _ _ _ _ _ _ h
 have hsame : ∀ b, b < w.heap.size → ¬ liveM H S b → w'.heap[b]? = w.heap[b]? := @HeapOk.same (own_view F w S m _ _) _ _ _ _ _ _ h
 have hfar : ∀ b, b < w.heap.size → (∀ i l, S i = some l → ¬ l.has b) → ∀ i l, S' i = some l → ¬ l.has b := fun b h1 h2 => (@HeapOk.far (own_view F w S m _ _) _ _ _ _ _ _ h b ⟨h1, h2⟩).2
 refine ⟨?_, ?_⟩
 ·refine ⟨@HeapOk.bnd (own_view F w S m _ _) _ _ _ _ _ _ h, @HeapOk.lt2 (own_view F w S m _ _) _ _ _ _ _ _ h, box_far (G := own_view F w S m _ _) (G' := F) (fun _ _ h => h) (@HeapOk.box (own_view F w S m _ _) _ _ _ _ _ _ h), @HeapOk.inj2 (own_view F w S m _ _) _ _ _ _ _ _ h, @HeapOk.nod (own_view F w S m _ _) _ _ _ _ _ _ h, @HeapOk.plain (own_view F w S m _ _) _ _ _ _ _ _ h, fun i l b h1 h2 h3 => ?_,
   (@HeapOk.os (own_view F w S m _ _) _ _ _ _ _ _ h).trans hH.os, (@HeapOk.tape (own_view F w S m _ _) _ _ _ _ _ _ h).trans hH.tape, (@HeapOk.output (own_view F w S m _ _) _ _ _ _ _ _ h).trans hH.output, Nat.le_trans hH.size hsz, fun b hb hM => ?_, fun b hb => ?_, fun i hi => ?_, @HeapOk.gl (own_view F w S m _ _) _ _ _ _ _ _ h⟩
  ·rcases @HeapOk.mut2 (own_view F w S m _ _) _ _ _ _ _ _ h i l b h1 h2 h3 with h4 | h4
   ·have := hH.size; left; omega
   ·exact hL b h4
  ·rw [hsame b (by have := hH.size; omega) (fun h4 => ?_)]
   ·exact hH.same b hb hM
   ·rcases hL b h4 with h5 | h5
    ·omega
    ·exact hM h5
  ·obtain ⟨h1, h2⟩ := hH.far b hb
   exact ⟨h1, hfar b (by have := hH.size; omega) h2⟩
  ·obtain ⟨h1, h2⟩ := hH.pin i hi
   obtain ⟨h3, h4⟩ := hp i (by omega)
   refine ⟨h3, ?_⟩
   rcases h4 with h4 | h4
   ·rw [h4]; exact h2
   ·exact .inr h4
 ·refine ⟨?_, hsz, fun i hi => (hp i hi).2, fun b hb hno ho => ?_, fun b hb hno => hsame b hb (fun ⟨i, l, _, h2, h3⟩ => hno (.inr ⟨i, l, h2, h3⟩))⟩
  ·rcases Nat.eq_zero_or_pos m with h0 | h0
   ·omega
   ·have := (hp (m - 1) (by omega)).1; omega
  ·rcases ho with ho | ⟨i, l, h1, h2⟩
   ·exact hno (.inl ho)
   ·exact hfar b hb (fun i l hi hb' => hno (.inr ⟨i, l, hi, hb'⟩)) i l h1 h2

end

/-! ### iterators -/
def KeepN [Far] (w : World) (S : Lays) (W W' : World) : Prop := W.heap.size ≤ W'.heap.size ∧ ∀ b, b < w.heap.size → ¬ own S b → W'.heap[b]? = W.heap[b]?

structure IterOk (P : Program) (g : FuncId) (caps : List AV) (ar : Nat) (xs : List (List AV)) : Prop where
 ent : enters P g = true
 len : ∀ x ∈ xs, x.length = ar
 run : ∀ [Far] (w : World) (S : Lays) (n : Nat) (lb : List Value), lb.length = caps.length → (∀ (i : Nat) (c : AV) (u : Value), caps[i]? = some c → lb[i]? = some u → R w S n c u) →
  ∃ encs : Nat → List Value, (∀ k, (encs k).length = ar) ∧ (∀ (k : Nat) (x : List AV), xs[k]? = some x → ∀ (i : Nat) (c : AV) (u : Value), x[i]? = some c → (encs k)[i]? = some u → R w S n c u) ∧
   ∀ (l : Nat) (J : Nat → World → Prop) (Jx : World → Prop) (W : World), (∀ k W, J k W → KeepN w S w W) → (∀ (k : Nat) (W : World) (d : Nat), J k W → J k { W with drawn := d }) →
    (∀ k W1, J k W1 → k < xs.length → YieldAt Fence.wide 0 P l (encs k).toArray W1 fun e W' => (e = .returned (.bool true) ∧ J (k + 1) W') ∨ (e = .returned (.bool false) ∧ Jx W')) → J 0 W →
    CallsIn Fence.wide 0 P g (#[.func (.yield l) #[] #[]] ++ lb.toArray) W fun e W' => (∃ v, e = .returned v) ∧ (J xs.length W' ∨ Jx W')

section
variable [F : Far] {P : Program} {E : Env P} {W0 : World} {M0 : Nat → Prop}

end
end Go.Vc
/- The Vc layer: rows of typed data; the rewriting rules of the walk; steps. -/
set_option linter.all false
namespace Go.Vc
open Go Go.RowKit

/-! ### rows -/
def rows {α : Type} (f : α → List D) (l : List α) : List (List D) := l.map f
theorem rows_len {α : Type} (f : α → List D) (l : List α) : (rows f l).length = l.length := List.length_map _
theorem rows_get {α : Type} (f : α → List D) (l : List α) (i : Nat) : (rows f l)[i]? = (l[i]?).map f := List.getElem?_map
theorem rows_drop {α : Type} (f : α → List D) (l : List α) (i : Nat) : (rows f l).drop i = rows f (l.drop i) := (List.map_drop).symm
theorem rows_take {α : Type} (f : α → List D) (l : List α) (i : Nat) : (rows f l).take i = rows f (l.take i) := (List.map_take).symm
theorem rows_app {α : Type} (f : α → List D) (l m : List α) : rows f l ++ rows f m = rows f (l ++ m) := (List.map_append).symm
theorem rows_nil {α : Type} (f : α → List D) : rows f [] = [] := rfl
theorem rows_set {α : Type} (f : α → List D) (l : List α) (i : Nat) (a : α) : (rows f l).set i (f a) = rows f (l.set i a) := (List.map_set).symm
theorem rows_rect {α : Type} {f : α → List D} {k : Nat} (h : ∀ a, (f a).length = k) (l : List α) : Rect k (rows f l) := by
 intro x hx
 obtain ⟨a, _, rfl⟩ := List.mem_map.1 hx
 exact h a

def eI (n : Int) : List D := [.int .i64 n]
def eB (b : Bool) : List D := [.bool b]
def eU (b : UInt8) : List D := [.int .u8 (b.toNat : Int)]
def eS (s : List UInt8) : List D := [.str s]
def eL {α : Type} (f : α → List D) (l : List α) : List D := [.sl (rows f l)]
abbrev bools (l : List Bool) : D := .sl (rows eB l)
abbrev bytes (l : List UInt8) : D := .sl (rows eU l)
theorem rect_eI (l : List Int) : Rect 1 (rows eI l) := rows_rect (f := eI) (fun _ => rfl) l
theorem rect_eB (l : List Bool) : Rect 1 (rows eB l) := rows_rect (f := eB) (fun _ => rfl) l
theorem rect_eU (l : List UInt8) : Rect 1 (rows eU l) := rows_rect (f := eU) (fun _ => rfl) l
theorem rect_eS (l : List (List UInt8)) : Rect 1 (rows eS l) := rows_rect (f := eS) (fun _ => rfl) l
theorem rect_eL {α : Type} (f : α → List D) (l : List (List α)) : Rect 1 (rows (eL f) l) := rows_rect (f := eL f) (fun _ => rfl) l
theorem rect_nil (k : Nat) : Rect k [] := fun x h => by cases h
theorem rect_cons (k : Nat) (x : List D) (xs : List (List D)) : Rect k (x :: xs) = (x.length = k ∧ Rect k xs) := by
 apply propext; unfold Rect; simp
theorem bytes_is (l : List UInt8) : IsBytes (rows eU l) := by
 intro x hx
 obtain ⟨b, _, rfl⟩ := List.mem_map.1 hx
 exact ⟨b, rfl⟩
theorem bytes_str (l : List UInt8) : strOf (rows eU l) = l := by simp [strOf, rows, eU, Function.comp_def]

def dI : List (List D) → List Int := List.map fun x => match x with | [.int _ n] => n | _ => 0
def dB : List (List D) → List Bool := List.map fun x => match x with | [.bool b] => b | _ => false
def dU : List (List D) → List UInt8 := strOf
theorem dI_rows (l : List Int) : dI (rows eI l) = l := by simp [dI, rows, eI, Function.comp_def]
theorem dB_rows (l : List Bool) : dB (rows eB l) = l := by simp [dB, rows, eB, Function.comp_def]
theorem dU_rows (l : List UInt8) : dU (rows eU l) = l := bytes_str l

/-! ### the rules -/
section
variable {P : Program}

theorem fr_rules : (∀ (f : Nat → AV) (i : Nat) (x : AV) (j : Nat), upd f i x j = if j = i then x else f j) ∧ (∀ (f : Nat → Option Box) (i : Nat) (x : Option Box) (j : Nat), upd f i x j = if j = i then x else f j) ∧
  (∀ (d : Tmp) (c : AV) (f : Nat → AV), putD (some d) c f = upd f d c) ∧ (∀ (c : AV) (f : Nat → AV), putD none c f = f) ∧
  (∀ (j : Nat) (c : AV) (r : List (Nat × AV)) (i : Nat), getF ((j, c) :: r) i = if i = j then c else getF r i) ∧ (∀ (i : Nat), getF [] i = .any) ∧
  (∀ (b : Option Box) (r : List (Option Box)), getB (b :: r) 0 = b) ∧ (∀ (b : Option Box) (r : List (Option Box)) (i : Nat), getB (b :: r) (i + 1) = getB r i) ∧ (∀ (i : Nat), getB [] i = none) ∧
  (∀ (k : Nat), enumF k [] = []) ∧ (∀ (k : Nat) (c : AV) (cs : List AV), enumF k (c :: cs) = (k, c) :: enumF (k + 1) cs) := by
 refine ⟨fun _ _ _ _ => rfl, fun _ _ _ _ => rfl, fun _ _ _ => rfl, fun _ _ => rfl, fun _ _ _ _ => rfl, fun _ => rfl, fun b r => ?_, fun b r i => ?_, fun i => rfl, fun _ => rfl, fun _ _ _ => rfl⟩
 ·simp [getB]
 ·simp [getB]

theorem av_rules : (∀ (x : D), bare (.d x) = .d x) ∧ (∀ (i o l : Nat), bare (.sl i o l) = .sl i o l) ∧ (∀ (i o l : Nat), bare (.ptr i o l) = .ptr i o l) ∧ (∀ (cs : List AV), bare (.agg cs) = .agg cs) ∧ (∀ (cs : List AV), bare (.tup cs) = .tup cs) ∧
  (∀ (f : Fn) (cs : List AV), bare (.clo f cs) = .clo f cs) ∧ (∀ (z : Nat) (xs : List (List D)) (e f : Nat), bare (.ip z xs e f) = .ip z xs e f) ∧ (bare .any = .any) ∧ (∀ (b : Bool) (v : AV), bare (.cond b v) = v) ∧
  (∀ (x : D), needs (.d x) = True) ∧ (∀ (i o l : Nat), needs (.sl i o l) = True) ∧ (∀ (i o l : Nat), needs (.ptr i o l) = True) ∧ (∀ (cs : List AV), needs (.agg cs) = True) ∧ (∀ (cs : List AV), needs (.tup cs) = True) ∧
  (∀ (f : Fn) (cs : List AV), needs (.clo f cs) = True) ∧ (∀ (z : Nat) (xs : List (List D)) (e f : Nat), needs (.ip z xs e f) = True) ∧ (needs .any = True) ∧ (∀ (b : Bool) (v : AV), needs (.cond b v) = (b = true)) ∧ (∀ (i : Nat), bare (.mp i) = .mp i) ∧ (∀ (i : Nat), needs (.mp i) = True) :=
 ⟨fun _ => rfl, fun _ _ _ => rfl, fun _ _ _ => rfl, fun _ => rfl, fun _ => rfl, fun _ _ => rfl, fun _ _ _ _ => rfl, rfl, fun _ _ => rfl, fun _ => rfl, fun _ _ _ => rfl, fun _ _ _ => rfl, fun _ => rfl, fun _ => rfl, fun _ _ => rfl, fun _ _ _ _ => rfl, rfl, fun _ _ => rfl, fun _ => rfl, fun _ => rfl⟩

variable [Far] in
theorem ev_rules : (∀ (fr : Nat → AV) (t : Tmp), evO fr (.tmp t) = fr t) ∧ (∀ (fr : Nat → AV) (b : Bool), evO fr (.const (.bool b)) = .d (.bool b)) ∧ (∀ (fr : Nat → AV) (k : IntKind) (n : Int), evO fr (.const (.int k n)) = .d (.int k n)) ∧
  (∀ (fr : Nat → AV) (s : ByteArray), evO fr (.const (.string s)) = .d (.str s.data.toList)) ∧ (∀ (fr : Nat → AV), evO fr (.const (.slice none 0 0)) = .d .nils) ∧ (∀ (fr : Nat → AV), evO fr (.const (.pointer none)) = .d .nilp) ∧ (∀ (fr : Nat → AV), evO fr (.const .nilFunc) = .any) ∧
  (∀ (fr : Nat → AV) (f : FuncId), evO fr (.func f) = .clo (.func f) []) ∧ (∀ (fr : Nat → AV), nd fr [] = True) ∧ (∀ (fr : Nat → AV) (x : Operand) (r : List Operand), nd fr (x :: r) = (needs (evO fr x) ∧ nd fr r)) ∧ (∀ (fr : Nat → AV), evO fr (.const (.map none)) = .any) :=
 ⟨fun _ _ => rfl, fun _ _ => rfl, fun _ _ _ => rfl, fun _ _ => rfl, fun _ => rfl, fun _ => rfl, fun _ => rfl, fun _ _ => rfl, fun _ => rfl, fun _ _ _ => rfl, fun _ => rfl⟩

variable {E : Env P}

variable [Far] in
theorem op_rules (E : Env P) : (∀ (fr : Nat → AV) (H : Heap) (n : Nat) (e : TypeId), aOp E fr H n (.alloc e) = .ofH (aAlloc E.X.ty H n e)) ∧ (∀ (fr : Nat → AV) (H : Heap) (n : Nat) (e : TypeId) (x : Operand), aOp E fr H n (.box e x) = .ofH (aBox H n e (bare (evO fr x)))) ∧
  (∀ (fr : Nat → AV) (H : Heap) (n : Nat) (t : TypeId) (len : Nat) (ps : List (Nat × Operand)), aOp E fr H n (.buildSlice t len ps.toArray) = .ofH (aBuildSlice E.X.ty H n t len (ps.map fun p => (p.1, bare (evO fr p.2))))) ∧
  (∀ (fr : Nat → AV) (H : Heap) (n : Nat) (t : TypeId) (l c : Operand), aOp E fr H n (.makeSlice t l c) = .ofH (aMake E.X.ty H n t (bare (evO fr l)) (bare (evO fr c)))) ∧
  (∀ (fr : Nat → AV) (H : Heap) (n : Nat) (t : TypeId) (a x : Operand), aOp E fr H n (.store t a x) = match aStore E.X.ty H t (bare (evO fr a)) (bare (evO fr x)) with | some (p, H') => .h p .any H' n | none => .bad) ∧
  (∀ (fr : Nat → AV) (H : Heap) (n : Nat) (c a b : Operand), aOp E fr H n (.pick c a b) = .ofV (aPick (evO fr c) (evO fr a) (evO fr b))) ∧
  (∀ (fr : Nat → AV) (H : Heap) (n : Nat) (s x : Operand) (t : TypeId), aOp E fr H n (.call ⟨.builtin .append, #[s, x], #[t, t]⟩) = .ofH (aAppend E.X.ty H n t (bare (evO fr s)) (bare (evO fr x)))) ∧
  (∀ (fr : Nat → AV) (H : Heap) (n : Nat) (x : Operand), aOp E fr H n (.move x) = .v True (bare (evO fr x))) ∧ (∀ (fr : Nat → AV) (H : Heap) (n : Nat) (x : Operand), aOp E fr H n (.assign x) = .v True (bare (evO fr x))) ∧
  (∀ (fr : Nat → AV) (H : Heap) (n : Nat) (x : Operand), aOp E fr H n (.nilCheck x) = .ofV (aNil H (bare (evO fr x)))) ∧
  (∀ (fr : Nat → AV) (H : Heap) (n : Nat) (op : BinOp) (t r : TypeId) (x y : Operand), aOp E fr H n (.binOp op t x y r) = .ofV (aBin E.X.ty op t (bare (evO fr x)) (bare (evO fr y)))) ∧
  (∀ (fr : Nat → AV) (H : Heap) (n : Nat) (op : UnOp) (t : TypeId) (x : Operand), aOp E fr H n (.unOp op t x) = .ofV (aUn op (bare (evO fr x)))) ∧
  (∀ (fr : Nat → AV) (H : Heap) (n : Nat) (s t : TypeId) (x : Operand), aOp E fr H n (.convert s t x) = .ofV (aConv E.X.ty H s t (bare (evO fr x)))) :=
 ⟨fun _ _ _ _ => rfl, fun _ _ _ _ _ => rfl, fun _ _ _ _ _ _ => rfl, fun _ _ _ _ _ _ => rfl, fun _ _ _ _ _ _ => rfl, fun _ _ _ _ _ _ => rfl, fun fr H n s x t => if_pos rfl, fun _ _ _ _ => rfl, fun _ _ _ _ => rfl, fun _ _ _ _ => rfl, fun _ _ _ _ _ _ _ _ => rfl, fun _ _ _ _ _ _ => rfl, fun _ _ _ _ _ _ => rfl⟩

variable [Far] in
theorem op_rules2 (E : Env P) : (∀ (fr : Nat → AV) (H : Heap) (n : Nat) (t : TypeId) (x : Operand), aOp E fr H n (.slice t x none none none) = .ofV (aSlice E.X.ty H t (bare (evO fr x)) none none)) ∧
  (∀ (fr : Nat → AV) (H : Heap) (n : Nat) (t : TypeId) (x y : Operand), aOp E fr H n (.slice t x (some y) none none) = .ofV (aSlice E.X.ty H t (bare (evO fr x)) (some (bare (evO fr y))) none)) ∧
  (∀ (fr : Nat → AV) (H : Heap) (n : Nat) (t : TypeId) (x y : Operand), aOp E fr H n (.slice t x none (some y) none) = .ofV (aSlice E.X.ty H t (bare (evO fr x)) none (some (bare (evO fr y))))) ∧
  (∀ (fr : Nat → AV) (H : Heap) (n : Nat) (t : TypeId) (x y z : Operand), aOp E fr H n (.slice t x (some y) (some z) none) = .ofV (aSlice E.X.ty H t (bare (evO fr x)) (some (bare (evO fr y))) (some (bare (evO fr z))))) ∧
  (∀ (fr : Nat → AV) (H : Heap) (n : Nat) (s : TypeId) (x : Operand) (f : Nat), aOp E fr H n (.fieldAddr s x f) = .ofV (aFieldAddr E.X.ty H s (bare (evO fr x)) f)) ∧ (∀ (fr : Nat → AV) (H : Heap) (n : Nat) (s : TypeId) (x : Operand) (f : Nat), aOp E fr H n (.field s x f) = .ofV (aField E.X.ty s (bare (evO fr x)) f)) ∧
  (∀ (fr : Nat → AV) (H : Heap) (n : Nat) (s : TypeId) (x i : Operand), aOp E fr H n (.indexAddr s x i) = .ofV (aIndexAddr E.X.ty H s (bare (evO fr x)) (bare (evO fr i)))) ∧ (∀ (fr : Nat → AV) (H : Heap) (n : Nat) (s : TypeId) (x i : Operand), aOp E fr H n (.index s x i) = .ofV (aIndex E.X.ty s (bare (evO fr x)) (bare (evO fr i)))) ∧
  (∀ (fr : Nat → AV) (H : Heap) (n : Nat) (t : TypeId) (x : Operand), aOp E fr H n (.load t x) = .ofV (aLoad E.X.ty H t (bare (evO fr x)))) ∧ (∀ (fr : Nat → AV) (H : Heap) (n : Nat) (x : Operand) (i : Nat), aOp E fr H n (.extract x i) = .ofV (aExtract (bare (evO fr x)) i)) ∧
  (∀ (fr : Nat → AV) (H : Heap) (n : Nat) (t : TypeId) (ps : List (Nat × Operand)), aOp E fr H n (.build t ps.toArray) = .ofV (aBuild E.X.ty H t (ps.map fun p => (p.1, bare (evO fr p.2))))) ∧
  (∀ (fr : Nat → AV) (H : Heap) (n : Nat) (f : Fn) (cs : List Operand), aOp E fr H n (.makeFunc f #[] cs.toArray) = .v True (.clo f (cs.map fun x => bare (evO fr x)))) ∧
  (∀ (fr : Nat → AV) (H : Heap) (n : Nat) (t : TypeId) (x : Operand), aOp E fr H n (.call ⟨.builtin .len, #[x], #[t]⟩) = .ofV (aLen E.X.ty H t (bare (evO fr x)))) :=
 ⟨fun _ _ _ _ _ => rfl, fun _ _ _ _ _ _ => rfl, fun _ _ _ _ _ _ => rfl, fun _ _ _ _ _ _ _ => rfl, fun _ _ _ _ _ _ => rfl, fun _ _ _ _ _ _ => rfl, fun _ _ _ _ _ _ => rfl, fun _ _ _ _ _ _ => rfl, fun _ _ _ _ _ => rfl, fun _ _ _ _ _ => rfl, fun _ _ _ _ _ => rfl, fun _ _ _ _ _ => rfl, fun _ _ _ _ _ => rfl⟩

variable [Far] in
theorem call_rule (E : Env P) {f : FuncId} {sp : Spec} (h : E.Γ f = some sp) (fr : Nat → AV) (H : Heap) (n : Nat) (args : List Operand) (ts : Array TypeId) :
  aOp E fr H n (.call ⟨.value (.func f), args.toArray, ts⟩) = callS sp H n (args.map fun x => bare (evO fr x)) := by
 have : aOp E fr H n (.call ⟨.value (.func f), args.toArray, ts⟩) = match E.Γ f with | some sp => callS sp H n ((args.map fun x => bare (evO fr x)) ++ []) | none => .bad := rfl
 rw [this, h, List.append_nil]

variable [Far] in
theorem call_clo (E : Env P) (fr : Nat → AV) (H : Heap) (n : Nat) (t : Tmp) (args : List Operand) (ts : Array TypeId) :
  aOp E fr H n (.call ⟨.value (.tmp t), args.toArray, ts⟩) = match bare (fr t) with
   | .clo (.func f) cap => (match E.Γ f with | some sp => callS sp H n ((args.map fun x => bare (evO fr x)) ++ cap) | none => .bad)
   | _ => .bad := rfl

variable [Far] in
theorem mm_rules (E : Env P) : (∀ (fr : Nat → AV) (H : Heap) (n : Nat) (x y : Operand) (ts : Array TypeId), aOp E fr H n (.call ⟨.builtin .max, #[x, y], ts⟩) = .ofV (match bare (evO fr x), bare (evO fr y) with | .d (.int k a), .d (.int _ b) => some (True, .d (.int k (max a b))) | _, _ => none)) ∧
  (∀ (fr : Nat → AV) (H : Heap) (n : Nat) (x y : Operand) (ts : Array TypeId), aOp E fr H n (.call ⟨.builtin .min, #[x, y], ts⟩) = .ofV (match bare (evO fr x), bare (evO fr y) with | .d (.int k a), .d (.int _ b) => some (True, .d (.int k (min a b))) | _, _ => none)) :=
 ⟨fun _ _ _ _ _ _ => rfl, fun _ _ _ _ _ _ => rfl⟩

theorem rs_rules : (∀ (p : Prop) (c : AV), RS.ofV (some (p, c)) = .v p c) ∧ (∀ (p : Prop) (c : AV) (H : Heap) (n : Nat), RS.ofH (some (p, c, H, n)) = .h p c H n) :=
 ⟨fun _ _ => rfl, fun _ _ _ _ => rfl⟩

/-! ### what is asked of operands -/
variable [Far] in
theorem nd_rules : (∀ (fr : Nat → AV) (x : Operand), ndO fr (.move x) = nd fr [x]) ∧ (∀ (fr : Nat → AV) (x : Operand), ndO fr (.assign x) = nd fr [x]) ∧ (∀ (fr : Nat → AV) (e : TypeId), ndO fr (.alloc e) = True) ∧ (∀ (fr : Nat → AV) (e : TypeId) (x : Operand), ndO fr (.box e x) = nd fr [x]) ∧
  (∀ (fr : Nat → AV) (c a b : Operand), ndO fr (.pick c a b) = True) ∧ (∀ (fr : Nat → AV) (t : TypeId) (a x : Operand), ndO fr (.store t a x) = nd fr [a, x]) ∧ (∀ (fr : Nat → AV) (t : TypeId) (x : Operand), ndO fr (.load t x) = nd fr [x]) ∧
  (∀ (fr : Nat → AV) (x : Operand), ndO fr (.nilCheck x) = nd fr [x]) ∧ (∀ (fr : Nat → AV) (op : BinOp) (t r : TypeId) (x y : Operand), ndO fr (.binOp op t x y r) = nd fr [x, y]) ∧ (∀ (fr : Nat → AV) (op : UnOp) (t : TypeId) (x : Operand), ndO fr (.unOp op t x) = nd fr [x]) ∧
  (∀ (fr : Nat → AV) (s t : TypeId) (x : Operand), ndO fr (.convert s t x) = nd fr [x]) ∧ (∀ (fr : Nat → AV) (s : TypeId) (x : Operand) (f : Nat), ndO fr (.fieldAddr s x f) = nd fr [x]) ∧ (∀ (fr : Nat → AV) (s : TypeId) (x : Operand) (f : Nat), ndO fr (.field s x f) = nd fr [x]) ∧
  (∀ (fr : Nat → AV) (s : TypeId) (x i : Operand), ndO fr (.indexAddr s x i) = nd fr [x, i]) ∧ (∀ (fr : Nat → AV) (s : TypeId) (x i : Operand), ndO fr (.index s x i) = nd fr [x, i]) ∧ (∀ (fr : Nat → AV) (x : Operand) (i : Nat), ndO fr (.extract x i) = nd fr [x]) ∧
  (∀ (fr : Nat → AV) (t : TypeId) (l c : Operand), ndO fr (.makeSlice t l c) = nd fr [l, c]) ∧ (∀ (fr : Nat → AV) (t : TypeId) (ps : List (Nat × Operand)), ndO fr (.build t ps.toArray) = nd fr (ps.map (·.2))) ∧
  (∀ (fr : Nat → AV) (t : TypeId) (k : Nat) (ps : List (Nat × Operand)), ndO fr (.buildSlice t k ps.toArray) = nd fr (ps.map (·.2))) ∧ (∀ (fr : Nat → AV) (b : Builtin) (args : List Operand) (ts : Array TypeId), ndO fr (.call ⟨.builtin b, args.toArray, ts⟩) = nd fr args) ∧
  (∀ (fr : Nat → AV) (f : Operand) (args : List Operand) (ts : Array TypeId), ndO fr (.call ⟨.value f, args.toArray, ts⟩) = nd fr (f :: args)) ∧ (∀ (fr : Nat → AV) (f : Fn) (cs : List Operand), ndO fr (.makeFunc f #[] cs.toArray) = nd fr cs) := by
 refine ⟨?_, ?_, ?_, ?_, ?_, ?_, ?_, ?_, ?_, ?_, ?_, ?_, ?_, ?_, ?_, ?_, ?_, ?_, ?_, ?_, ?_, ?_⟩ <;> intros <;> simp [ndO, Op.operands, Call.operands, nd]

variable [Far] in
theorem nd_slice (fr : Nat → AV) (t : TypeId) (x : Operand) : (ndO fr (.slice t x none none none) = nd fr [x]) ∧ (∀ y, ndO fr (.slice t x (some y) none none) = nd fr [x, y]) ∧ (∀ y, ndO fr (.slice t x none (some y) none) = nd fr [x, y]) ∧ (∀ y z, ndO fr (.slice t x (some y) (some z) none) = nd fr [x, y, z]) := by
 refine ⟨?_, ?_, ?_, ?_⟩ <;> intros <;> simp [ndO, Op.operands, nd]

theorem bin_rules (ty : TypeId → Option TI) (t : TypeId) : (∀ (k : IntKind) (a b : Int), aBin ty .add t (.d (.int k a)) (.d (.int k b)) = some (ar k (a + b))) ∧ (∀ (k : IntKind) (a b : Int), aBin ty .sub t (.d (.int k a)) (.d (.int k b)) = some (ar k (a - b))) ∧ (∀ (k : IntKind) (a b : Int), aBin ty .mul t (.d (.int k a)) (.d (.int k b)) = some (ar k (a * b))) ∧
  (∀ (k : IntKind) (a b : Int), aBin ty .quo t (.d (.int k a)) (.d (.int k b)) = some (b ≠ 0 ∧ (ar k (a.tdiv b)).1, (ar k (a.tdiv b)).2)) ∧ (∀ (k : IntKind) (a b : Int), aBin ty .rem t (.d (.int k a)) (.d (.int k b)) = some (b ≠ 0, .d (.int k (a.tmod b)))) ∧
  (∀ (k : IntKind) (a b : Int), aBin ty .eql t (.d (.int k a)) (.d (.int k b)) = some (True, .d (.bool (decide (a = b))))) ∧ (∀ (k : IntKind) (a b : Int), aBin ty .neq t (.d (.int k a)) (.d (.int k b)) = some (True, .d (.bool (!decide (a = b))))) ∧
  (∀ (k : IntKind) (a b : Int), aBin ty .lss t (.d (.int k a)) (.d (.int k b)) = some (True, .d (.bool (decide (a < b))))) ∧ (∀ (k : IntKind) (a b : Int), aBin ty .leq t (.d (.int k a)) (.d (.int k b)) = some (True, .d (.bool (decide (a ≤ b))))) ∧
  (∀ (k : IntKind) (a b : Int), aBin ty .gtr t (.d (.int k a)) (.d (.int k b)) = some (True, .d (.bool (decide (b < a))))) ∧ (∀ (k : IntKind) (a b : Int), aBin ty .geq t (.d (.int k a)) (.d (.int k b)) = some (True, .d (.bool (decide (b ≤ a))))) ∧
  (∀ (op : BinOp) (a b : List UInt8), aBin ty op t (.d (.str a)) (.d (.str b)) = aStr op a b) ∧ (∀ (op : BinOp) (cs ds : List AV), aBin ty op t (.agg cs) (.agg ds) = match op with | .eql => aEqAgg ty t false cs ds | .neq => aEqAgg ty t true cs ds | _ => none) ∧
  (∀ (op : BinOp), aBin ty op t (.d .nilp) (.d .nilp) = eqP ty op t true) ∧ (∀ (op : BinOp) (cs : List D), aBin ty op t (.d .nilp) (.d (.ptr cs)) = eqP ty op t false) ∧ (∀ (op : BinOp) (cs : List D), aBin ty op t (.d (.ptr cs)) (.d .nilp) = eqP ty op t false) ∧
  (∀ (b : Bool), eqP ty .eql t b = match ty t with | some ⟨.ptr _, _, _, _⟩ => some (True, .d (.bool b)) | _ => none) ∧ (∀ (b : Bool), eqP ty .neq t b = match ty t with | some ⟨.ptr _, _, _, _⟩ => some (True, .d (.bool (!b))) | _ => none) := by
 refine ⟨?_, ?_, ?_, ?_, ?_, ?_, ?_, ?_, ?_, ?_, ?_, ?_, ?_, ?_, ?_, ?_, ?_, ?_⟩ <;> intros <;> first | rfl | (simp [aBin, aInt]; done)

theorem ar_rules : (∀ (n : Int), ar .i64 n = (inI64 n, .d (.int .i64 n))) ∧ (∀ (n : Int), ar .u8 n = (True, .d (.int .u8 (IntKind.u8.wrap n)))) ∧ (∀ (n : Int), ar .u64 n = (True, .d (.int .u64 (IntKind.u64.wrap n)))) := ⟨fun _ => rfl, fun _ => rfl, fun _ => rfl⟩

theorem bit_rules (ty : TypeId → Option TI) (t : TypeId) : (∀ (k k' : IntKind) (a b : Int), aBin ty .shl t (.d (.int k a)) (.d (.int k' b)) = some (0 ≤ b, .d (.int k (k.wrap (a * 2 ^ (min b.toNat k.bits)))))) ∧ (∀ (k k' : IntKind) (a b : Int), aBin ty .shr t (.d (.int k a)) (.d (.int k' b)) = some (0 ≤ b, .d (.int k (a.fdiv (2 ^ (min b.toNat k.bits)))))) ∧
  (∀ (k : IntKind) (a b : Int), aBin ty .and t (.d (.int k a)) (.d (.int k b)) = some (True, .d (.int k (bitsR .and k a b)))) ∧ (∀ (k : IntKind) (a b : Int), aBin ty .or t (.d (.int k a)) (.d (.int k b)) = some (True, .d (.int k (bitsR .or k a b)))) ∧ (∀ (k : IntKind) (a b : Int), aBin ty .xor t (.d (.int k a)) (.d (.int k b)) = some (True, .d (.int k (bitsR .xor k a b)))) := by
 refine ⟨?_, ?_, ?_, ?_, ?_⟩ <;> intros <;> simp [aBin, aInt, aShift]

theorem un_rules : (∀ (b : Bool), aUn .not (.d (.bool b)) = some (True, .d (.bool !b))) ∧ (∀ (k : IntKind) (n : Int), aUn .neg (.d (.int k n)) = some (ar k (0 - n))) ∧
  (∀ (x y z : Bool), aPick (.d (.bool x)) (.d (.bool y)) (.d (.bool z)) = some (True, .d (.bool (bif x then y else z)))) ∧ (∀ (x g y z : Bool), aPick (.d (.bool x)) (.cond g (.d (.bool y))) (.d (.bool z)) = some (x = true → g = true, .d (.bool (bif x then y else z)))) ∧
  (∀ (x y g z : Bool), aPick (.d (.bool x)) (.d (.bool y)) (.cond g (.d (.bool z))) = some (x = false → g = true, .d (.bool (bif x then y else z)))) ∧
  (∀ (f x y z : Bool), aPick (.cond f (.d (.bool x))) (.d (.bool y)) (.d (.bool z)) = some (f = true, .d (.bool (bif x then y else z)))) ∧ (∀ (f x g y z : Bool), aPick (.cond f (.d (.bool x))) (.cond g (.d (.bool y))) (.d (.bool z)) = some (f = true ∧ (x = true → g = true), .d (.bool (bif x then y else z)))) ∧
  (∀ (f x y g z : Bool), aPick (.cond f (.d (.bool x))) (.d (.bool y)) (.cond g (.d (.bool z))) = some (f = true ∧ (x = false → g = true), .d (.bool (bif x then y else z)))) ∧
  (∀ b : Bool, aPick (.d (.bool false)) (.cond false .any) (.d (.bool b)) = some (True ∧ True, .d (.bool b))) ∧ (∀ b : Bool, aPick (.d (.bool true)) (.d (.bool b)) (.cond false .any) = some (True ∧ True, .d (.bool b))) := by
 refine ⟨fun _ => rfl, fun _ _ => rfl, ?_, ?_, ?_, ?_, ?_, ?_, fun _ => rfl, fun _ => rfl⟩ <;> intros <;> simp_all [aPick, bare, needs]
end

theorem bif_and (x y : Bool) : (bif x then y else false) = (x && y) := by cases x <;> rfl
theorem bif_or (x y : Bool) : (bif x then true else y) = (x || y) := by cases x <;> rfl

/-! ### steps -/
section
variable [Far] {P : Program} {E : Env P} {W0 : World} {M0 : Nat → Prop}

theorem vc_seq_k {x y : Code} {st : St} {K : Exit → St → Prop} (h : ∀ N : St → Prop, (∀ st, VC E W0 M0 y st K → N st) → VC E W0 M0 x st (thenK N K)) : VC E W0 M0 (.seq x y) st K :=
 vc_seq (h _ fun _ h => h)
theorem vc_cond_k {c : Operand} {x y : Code} {st : St} {K : Exit → St → Prop} {b : Bool} (hb : evO st.fr c = .d (.bool b)) (h1 : b = true → VC E W0 M0 x st K) (h2 : b = false → VC E W0 M0 y st K) : VC E W0 M0 (.cond c x y) st K :=
 vc_cond (by unfold condK; rw [hb]; exact ⟨h1, h2⟩)
/-! one operation at a time -/
section
variable {ops : Array Oper} {K : St → Prop} {o : Op} {d : Option Tmp} {t : TypeId} {p : String} {af : Array Edge} {r : List Oper} {fr : Nat → AV} {H H' : Heap} {n n' : Nat} {q : Prop} {c : AV} {b : Bool} {gd : Nat × Bool}
end

theorem vc_loop_mk {σ : Type} (inv : σ → Prop) (fl : σ → List (Nat × AV)) (bl : σ → List (Option Box)) (μ : σ → Nat) {np : Nat} (hnp : Far.np = np) (s0 : σ) {body : Code} {st : St} {K : Exit → St → Prop} (h0 : inv s0) (ρ : Ren) (hs : subOk np ρ st (fl s0) (bl s0))
  (round : ∀ s, inv s → ∀ N : St → Prop, (∀ st', (∃ s', inv s' ∧ μ s' < μ s ∧ ∃ ρ : Ren, subOk np ρ st' (fl s') (bl s')) → N st') → VC E W0 M0 body (mkSt (fl s) (bl s)) (thenK N K)) : VC E W0 M0 (.loop body) st K :=
 vc_loop inv (fun s => mkSt (fl s) (bl s)) μ s0 h0 (sub_mk hnp ρ hs) (fun s hi => (round s hi _ fun _ h => h).mono fun e st h => by
  cases e with
  | normal => obtain ⟨s', h1, h2, ρ', h3⟩ := h; exact ⟨s', h1, h2, sub_mk hnp ρ' h3⟩
  | _ => exact h)

theorem vc_cut {np : Nat} (hnp : Far.np = np) (fl : List (Nat × AV)) (bl : List (Option Box)) (ρ : Ren) {c : Code} {st : St} {K : Exit → St → Prop} (h : subOk np ρ st fl bl) (hc : VC E W0 M0 c (mkSt fl bl) K) : VC E W0 M0 c st K := VC.mk hnp ρ h hc
end
end Go.Vc
/- The Vc layer: the walk's rewriting rules under one name. -/
set_option linter.all false
namespace Go.Vc
open Go Go.RowKit

theorem splice_rules {α : Type} : (∀ (cs : List α), splice cs 0 [] = cs) ∧ (∀ (c v : α) (cs vs : List α), splice (c :: cs) 0 (v :: vs) = v :: splice cs 0 vs) ∧ (∀ (c : α) (cs vs : List α) (n : Nat), splice (c :: cs) (n + 1) vs = c :: splice cs n vs) := by
 refine ⟨fun cs => by simp [splice], fun c v cs vs => by simp [splice], fun c cs vs n => ?_⟩
 simp [splice, Nat.add_right_comm]

theorem list_rules {α : Type} : (∀ (l : List α), l.take 0 = []) ∧ (∀ (l : List α), l.drop 0 = l) ∧ (∀ (a : α) (l : List α) (n : Nat), (a :: l).take (n + 1) = a :: l.take n) ∧ (∀ (a : α) (l : List α) (n : Nat), (a :: l).drop (n + 1) = l.drop n) ∧
  (∀ (n : Nat), ([] : List α).take n = []) ∧ (∀ (n : Nat), ([] : List α).drop n = []) ∧ (∀ (a : α) (l : List α), (a :: l)[0]? = some a) ∧ (∀ (a : α) (l : List α) (n : Nat), (a :: l)[n + 1]? = l[n]?) ∧ (∀ (n : Nat), ([] : List α)[n]? = none) ∧
  (∀ (a : α) (l : List α), (a :: l).length = l.length + 1) ∧ (([] : List α).length = 0) ∧ (∀ (l : List α), [] ++ l = l) ∧ (∀ (l : List α), l ++ [] = l) ∧ (∀ (a : α) (l m : List α), (a :: l) ++ m = a :: (l ++ m)) ∧
  (∀ (a b : α) (l : List α), (a :: l).set 0 b = b :: l) ∧ (∀ (a b : α) (l : List α) (n : Nat), (a :: l).set (n + 1) b = a :: l.set n b) := by
 refine ⟨fun _ => rfl, fun _ => rfl, fun _ _ _ => rfl, fun _ _ _ => rfl, fun n => List.take_nil, fun n => List.drop_nil, fun _ _ => rfl, fun _ _ _ => rfl, fun _ => rfl, fun _ _ => rfl, rfl, fun _ => rfl, fun l => List.append_nil l, fun _ _ _ => rfl, fun _ _ _ => rfl, fun _ _ _ _ => rfl⟩

theorem opt_rules {α β : Type} : (∀ (f : α → β) (a : α), Option.map f (some a) = some (f a)) ∧ (∀ (f : α → β), Option.map f none = none) := ⟨fun _ _ => rfl, fun _ => rfl⟩
theorem opt_bind {α β : Type} : (∀ (f : α → Option β) (a : α), Option.bind (some a) f = f a) := fun _ _ => rfl
theorem map_rules {α β : Type} : (∀ (f : α → β), List.map f [] = []) ∧ (∀ (f : α → β) (a : α) (l : List α), List.map f (a :: l) = f a :: List.map f l) := ⟨fun _ => rfl, fun _ _ _ => rfl⟩

theorem st_rules : (∀ (fl : List (Nat × AV)) (bl : List (Option Box)), mkSt fl bl = ⟨getF fl, getB bl, bl.length⟩) := fun _ _ => rfl
theorem b_rules : (∀ (p : Prop) [Decidable p], (decide p = true) = p) ∧ (∀ (p : Prop) [Decidable p], (decide p = false) ↔ ¬p) ∧ (∀ b : Bool, ((!b) = true) = (b = false)) ∧ (∀ b : Bool, ((!b) = false) = (b = true)) ∧ (∀ a b : Bool, ((a && b) = true) = (a = true ∧ b = true)) ∧ (∀ a b : Bool, ((a || b) = true) = (a = true ∨ b = true)) ∧ (∀ a b : Bool, ((!a) = b) ↔ a = !b) ∧ ((!true) = false) ∧ ((!false) = true) ∧ (∀ a b : Bool, ((a && b) = false) ↔ (a = true → b = false)) ∧ (∀ a b : Bool, ((a || b) = false) ↔ (a = false ∧ b = false)) ∧ (∀ b : Bool, (!!b) = b) := by
 refine ⟨fun _ _ => by simp, fun _ _ => by simp, ?_, ?_, ?_, ?_, ?_, ?_, ?_, ?_, ?_, ?_⟩ <;> simp

theorem bool_rules : (∀ b : Bool, (bif true then b else false) = b) ∧ (∀ b : Bool, (bif false then b else false) = false) ∧ ((!true) = false) ∧ ((!false) = true) ∧ (∀ b : Bool, (true && b) = b) ∧ (∀ b : Bool, (false && b) = false) ∧ (∀ b : Bool, (true || b) = true) ∧ (∀ b : Bool, (false || b) = b) ∧ (∀ b : Bool, (b && true) = b) ∧ (∀ b : Bool, (b || false) = b) := by
 refine ⟨?_, ?_, ?_, ?_, ?_, ?_, ?_, ?_, ?_, ?_⟩ <;> simp

theorem env_rules {P : Program} (E : Env P) : (∀ N : Nat, (E.at_ N).X = E.X) ∧ (∀ N : Nat, (E.at_ N).N = N) ∧ (∀ N : Nat, (E.at_ N).Γ = E.Γ) ∧ (∀ l : Nat, (E.inR l).X = E.X) ∧ (∀ l : Nat, (E.inR l).N = E.N) ∧ (∀ l : Nat, (E.inR l).Γ = E.Γ) :=
 ⟨fun _ => rfl, fun _ => rfl, fun _ => rfl, fun _ => rfl, fun _ => rfl, fun _ => rfl⟩
theorem envx_rules {P : Program} (X : Ctx P) : (Env.empty X).X = X := rfl

theorem guard_rules : (∀ (ops : Array Oper) (fr : Nat → AV), guardA ops fr none = some none) ∧ (∀ (ops : Array Oper) (fr : Nat → AV) (g : Nat) (want : Bool), guardA ops fr (some (g, want)) = match (ops[g]?).bind (·.dst) with
  | some d => (match gWant (fr d) want with | some b => some (some b) | none => none)
  | none => none) ∧ (∀ (l : List Oper) (i : Nat), (l.toArray)[i]? = l[i]?) ∧ (∀ (x : Bool), gWant (.d (.bool x)) true = some x) ∧ (∀ (x : Bool), gWant (.d (.bool x)) false = some !x) ∧ (∀ (g x : Bool), gWant (.cond g (.d (.bool x))) true = some (g && x)) ∧ (∀ (g x : Bool), gWant (.cond g (.d (.bool x))) false = some (g && !x)) ∧ (∀ (x : Bool), gWant (.cond false .any) x = some false) :=
 ⟨fun _ _ => rfl, fun _ _ _ _ => rfl, fun l i => by simp, fun _ => rfl, fun _ => rfl, fun _ _ => rfl, fun _ _ => rfl, fun _ => rfl⟩

theorem k_rules : (∀ (N : St → Prop) (K : Exit → St → Prop), thenK N K .normal = N) ∧ (∀ (N : St → Prop) (K : Exit → St → Prop), thenK N K .ret = K .ret) ∧ (∀ (N : St → Prop) (K : Exit → St → Prop) (i : Nat), thenK N K (.exit i) = K (.exit i)) ∧
  (∀ (i : Nat) (K : Exit → St → Prop), blockK i K .normal = K .normal) ∧ (∀ (i : Nat) (K : Exit → St → Prop), blockK i K .ret = K .ret) ∧ (∀ (i j : Nat) (K : Exit → St → Prop), blockK i K (.exit j) = if j = i then K .normal else K (.exit j)) := by
 refine ⟨fun _ _ => rfl, fun _ _ => rfl, fun _ _ _ => rfl, fun _ _ => rfl, fun _ _ => rfl, fun i j K => ?_⟩
 funext st
 simp only [blockK]
 split <;> rfl


theorem cell_rules : (∀ (cs : List AV), cellsOfA (.agg cs) = cs) ∧ (∀ (x : D), cellsOfA (.d x) = [.d x]) ∧ (∀ (i o l : Nat), cellsOfA (.sl i o l) = [.sl i o l]) ∧ (∀ (i o l : Nat), cellsOfA (.ptr i o l) = [.ptr i o l]) ∧
  (∀ (H : Heap) (cs : List AV), cellsA H (.agg cs) = some cs) ∧ (∀ (H : Heap) (x : D), cellsA H (.d x) = some [.d x]) ∧ (∀ (H : Heap) (z : Nat) (xs : List (List D)) (e f : Nat), cellsA H (.ip z xs e f) = some [.ip z xs e f]) ∧ (∀ (H : Heap) (f : Fn) (cs : List AV), cellsA H (.clo f cs) = some [.clo f cs]) ∧
  (∀ (H : Heap) (i o l : Nat), cellsA H (.sl i o l) = match H i with | some _ => some [.sl i o l] | none => none) ∧ (∀ (H : Heap) (i o l : Nat), cellsA H (.ptr i o l) = match H i with | some _ => some [.ptr i o l] | none => none) ∧
  (∀ (H : Heap), fz H [] = some (True, [], H)) ∧ (∀ (H : Heap) (c : AV) (cs : List AV), fz H (c :: cs) = match fz1 H c with | some (p, d, H1) => (match fz H1 cs with | some (q, ds, H2) => some (p ∧ q, d :: ds, H2) | none => none) | none => none) ∧
  (∀ (H : Heap) (x : D), fz1 H (.d x) = some (True, cleanD x, H)) ∧ (∀ (H : Heap) (id off len : Nat), fz1 H (.sl id off len) = match H id with | some (.vec _ _ xs) => some (off + len ≤ xs.length, .sl ((xs.drop off).take len), upd H id none) | _ => none) ∧
  (∀ (H : Heap) (id : Nat), fz1 H (.ptr id 0 0) = match H id with | some (.one _ cells) => (match pureL cells with | some ds => some (True, .ptr ds, upd H id none) | none => none) | _ => none) ∧
  (pureL [] = some []) ∧ (∀ (x : D) (cs : List AV), pureL (.d x :: cs) = match pureL cs with | some ds => some (cleanD x :: ds) | none => none) ∧
  (cleanD .nils = .sl []) ∧ (∀ b, cleanD (.bool b) = .bool b) ∧ (∀ k n, cleanD (.int k n) = .int k n) ∧ (∀ s, cleanD (.str s) = .str s) ∧ (∀ xs, cleanD (.sl xs) = .sl xs) ∧ (cleanD .nilp = .nilp) ∧ (∀ cs, cleanD (.ptr cs) = .ptr cs) := by
 refine ⟨fun _ => rfl, fun _ => rfl, fun _ _ _ => rfl, fun _ _ _ => rfl, fun _ _ => rfl, fun _ _ => rfl, fun _ _ _ _ _ => rfl, fun _ _ _ => rfl, fun _ _ _ _ => rfl, fun _ _ _ _ => rfl, fun _ => rfl, fun _ _ _ => rfl, fun _ _ => rfl, fun _ _ _ _ => rfl, fun _ _ => rfl, rfl, fun _ _ => rfl, rfl, fun _ => rfl, fun _ _ => rfl, fun _ => rfl, fun _ => rfl, rfl, fun _ => rfl⟩

theorem fill_rules : (∀ (H : Heap) (pl : Nat → Option (Nat × Nat)) (cs : List AV), fillA H pl cs [] = some cs) ∧ (∀ (H : Heap) (pl : Nat → Option (Nat × Nat)) (cs : List AV) (i : Nat) (v : AV) (rest : List (Nat × AV)), fillA H pl cs ((i, v) :: rest) = match pl i, cellsA H v with
   | some (off, sz), some vs => if vs.length = sz ∧ off + sz ≤ cs.length then fillA H pl (splice cs off vs) rest else none
   | _, _ => none) ∧
  (∀ (sz : Nat) (H : Heap) (k : Nat), fzRows sz H k [] = some (True, [], H)) ∧ (∀ (sz : Nat) (H : Heap) (k i : Nat) (v : AV) (r : List (Nat × AV)), fzRows sz H k ((i, v) :: r) = if i = k then match fz H (cellsOfA v) with
   | some (p, ds, H1) => if ds.length = sz then (match fzRows sz H1 (k + 1) r with
    | some (q, rows, H2) => some (p ∧ q, ds :: rows, H2)
    | none => none) else none
   | none => none else none) := ⟨fun _ _ _ => rfl, fun _ _ _ _ _ _ => rfl, fun _ _ _ => rfl, fun _ _ _ _ _ _ => rfl⟩

theorem bnd_rules : (∀ (len : Nat) (k : Nat → Nat → AV), bnds none none len k = some (True, k 0 len)) ∧ (∀ (q : IntKind) (l : Int) (len : Nat) (k : Nat → Nat → AV), bnds (some (.d (.int q l))) none len k = some (0 ≤ l ∧ l ≤ len, k l.toNat len)) ∧
  (∀ (q : IntKind) (h : Int) (len : Nat) (k : Nat → Nat → AV), bnds none (some (.d (.int q h))) len k = some (0 ≤ h ∧ h ≤ len, k 0 h.toNat)) ∧ (∀ (q q' : IntKind) (l h : Int) (len : Nat) (k : Nat → Nat → AV), bnds (some (.d (.int q l))) (some (.d (.int q' h))) len k = some (0 ≤ l ∧ l ≤ h ∧ h ≤ len, k l.toNat h.toNat)) :=
 ⟨fun _ _ => rfl, fun _ _ _ _ => rfl, fun _ _ _ _ => rfl, fun _ _ _ _ _ _ => rfl⟩

theorem str_rules : (∀ a b : List UInt8, aStr .add a b = some (a.length + b.length ≤ 9223372036854775807, .d (.str (a ++ b)))) ∧ (∀ a b : List UInt8, aStr .eql a b = some (True, .d (.bool (decide (a = b))))) ∧ (∀ a b : List UInt8, aStr .neq a b = some (True, .d (.bool (!decide (a = b))))) ∧
  (∀ a b : List UInt8, aStr .lss a b = some (True, .d (.bool (Op.bytesLess a b)))) ∧ (∀ a b : List UInt8, aStr .leq a b = some (True, .d (.bool (Op.bytesLess a b || decide (a = b))))) ∧
  (∀ a b : List UInt8, aStr .gtr a b = some (True, .d (.bool !(Op.bytesLess a b || decide (a = b))))) ∧ (∀ a b : List UInt8, aStr .geq a b = some (True, .d (.bool !(Op.bytesLess a b)))) :=
 ⟨fun _ _ => rfl, fun _ _ => rfl, fun _ _ => rfl, fun _ _ => rfl, fun _ _ => rfl, fun _ _ => rfl, fun _ _ => rfl⟩

theorem eq_rules : (∀ (ty : TypeId → Option TI) (t : TypeId) (neg : Bool) (cs ds : List AV), aEqAgg ty t neg cs ds = match ty t with
   | some ⟨.struct _ (k :: ks), _, _, _⟩ => (eqAgg (k :: ks) cs ds).map fun b => (True, .d (.bool (if neg then !b else b)))
   | _ => none) ∧ (eqAgg [] [] [] = some true) ∧ (∀ (k : BK) (ks : List BK) (x y : D) (xs ys : List AV), eqAgg (k :: ks) (.d x :: xs) (.d y :: ys) = match eqD k x y, eqAgg ks xs ys with | some b, some c => some (b && c) | _, _ => none) ∧
  (∀ a b, eqD .b (.bool a) (.bool b) = some (a == b)) ∧ (∀ k a b, eqD (.i k) (.int k a) (.int k b) = some (decide (a = b))) ∧ (∀ a b, eqD .s (.str a) (.str b) = some (decide (a = b))) := by
 refine ⟨fun _ _ _ _ _ => rfl, rfl, fun _ _ _ _ _ _ => rfl, fun _ _ => rfl, fun k a b => by simp [eqD], fun _ _ => rfl⟩

/-! ### calls -/
theorem rd_rules : (∀ (H : Heap) (D : List Nat) (x : Vc.D), readA H D (.d x) = some (True, .d (cleanD x), [])) ∧ (∀ (H : Heap) (D : List Nat) (id off len : Nat), readA H D (.sl id off len) = if id ∈ D then some (True, .sl id off len, []) else match H id with
   | some (.vec _ _ xs) => some (off + len ≤ xs.length, .d (.sl ((xs.drop off).take len)), [id])
   | _ => none) ∧ (∀ (H : Heap) (D : List Nat) (id e f : Nat), readA H D (.ptr id e f) = if id ∈ D then some (True, .ptr id e f, []) else match H id with | some (.one _ cells) => (match pureL cells with | some ds => some (e = 0 ∧ f = 0, .d (.ptr ds), [id]) | none => none) | _ => none) ∧ (∀ (H : Heap) (D : List Nat) (z : Nat) (xs : List (List Vc.D)) (e f : Nat), readA H D (.ip z xs e f) = some (True, .ip z xs e f, [])) ∧
  (∀ (H : Heap) (D : List Nat) (cs : List AV), readA H D (.agg cs) = match readL H D cs with | some (p, cs', B) => some (p, .agg cs', B) | none => none) ∧ (∀ (H : Heap) (D : List Nat) (f : Fn) (cs : List AV), readA H D (.clo f cs) = match readL H D cs with | some (p, cs', B) => some (p, .clo f cs', B) | none => none) ∧
  (∀ (H : Heap) (D : List Nat) (x : Vc.D), read1 H D (.d x) = some (True, .d (cleanD x), [])) ∧ (∀ (H : Heap) (D : List Nat) (id off len : Nat), read1 H D (.sl id off len) = if id ∈ D then some (True, .sl id off len, []) else match H id with
   | some (.vec _ _ xs) => some (off + len ≤ xs.length, .d (.sl ((xs.drop off).take len)), [id])
   | _ => none) ∧ (∀ (H : Heap) (D : List Nat) (id e f : Nat), read1 H D (.ptr id e f) = if id ∈ D then some (True, .ptr id e f, []) else match H id with | some (.one _ cells) => (match pureL cells with | some ds => some (e = 0 ∧ f = 0, .d (.ptr ds), [id]) | none => none) | _ => none) ∧ (∀ (H : Heap) (D : List Nat) (z : Nat) (xs : List (List Vc.D)) (e f : Nat), read1 H D (.ip z xs e f) = some (True, .ip z xs e f, [])) ∧
  (∀ (H : Heap) (D : List Nat), readL H D [] = some (True, [], [])) ∧ (∀ (H : Heap) (D : List Nat) (c : AV) (cs : List AV), readL H D (c :: cs) = match read1 H D c with | some (p, c', B) => (match readL H D cs with | some (q, cs', B') => some (p ∧ q, c' :: cs', B ++ B') | none => none) | none => none) ∧
  (∀ (H : Heap) (D : List Nat), readArgs H D [] = some (True, [], [])) ∧ (∀ (H : Heap) (D : List Nat) (c : AV) (cs : List AV), readArgs H D (c :: cs) = match readA H D c with | some (p, c', B) => (match readArgs H D cs with | some (q, cs', B') => some (p ∧ q, c' :: cs', B ++ B') | none => none) | none => none) ∧ (∀ (H : Heap) (D : List Nat) (id : Nat), readA H D (.mp id) = if id ∈ D then some (True, .mp id, []) else none) ∧ (∀ (H : Heap) (D : List Nat) (id : Nat), read1 H D (.mp id) = if id ∈ D then some (True, .mp id, []) else none) := by
 refine ⟨fun _ _ _ => rfl, fun _ _ _ _ _ => rfl, fun _ _ _ _ _ => rfl, fun _ _ _ _ _ _ => rfl, fun _ _ _ => rfl, fun _ _ _ _ => rfl, fun _ _ _ => rfl, fun _ _ _ _ _ => rfl, fun _ _ _ _ _ => rfl, fun _ _ _ _ _ _ => rfl, fun _ _ => rfl, fun _ _ _ _ => rfl, fun _ _ => rfl, fun _ _ _ _ => rfl, fun _ _ _ => rfl, fun _ _ _ => rfl⟩

theorem pure_rules (g : List AV → Option (Prop × AV)) : (∀ args H, (Spec.pure g).dom args H = []) ∧ (∀ args H n, (Spec.pure g).run args H n = match g args with | some (p, r) => some (p, r, none) | none => none) := ⟨fun _ _ => rfl, fun _ _ _ => rfl⟩
theorem gen_rules (g : GFun) : (∀ args H, (Spec.gen g).dom args H = reach args H) ∧ (∀ args H n, (Spec.gen g).run args H n = genRun g (reach args H) args H n) ∧ (∀ args H, (Spec.fresh g).dom args H = []) ∧ (∀ args H n, (Spec.fresh g).run args H n = genRun g [] args H n) := ⟨fun _ _ => rfl, fun _ _ _ => rfl, fun _ _ => rfl, fun _ _ _ => rfl⟩

theorem heap_rules : (∀ (D : List Nat) (f : Heap) (i : Nat), restr D f i = if i ∈ D then f i else none) ∧ (∀ (D : List Nat) (n : Nat) (f g : Heap) (i : Nat), merge D n f g i = if i ∈ D ∨ n ≤ i then g i else f i) ∧ (∀ (B : List Nat) (f : Heap) (i : Nat), killL B f i = if i ∈ B then none else f i) ∧
  (∀ (f : Heap), killL [] f = f) ∧ (∀ (n : Nat) (H : Heap) (bf : List (Option Box)) (ds : List Nat) (i : Nat), ouH ds n H bf i = if i < n then (match ixOf ds i with | some j => ouBox ds n (getB bf j) | none => H i) else ouBox ds n (getB bf (ds.length + (i - n)))) := by
 refine ⟨fun _ _ _ => rfl, fun _ _ _ _ _ => rfl, fun _ _ _ => rfl, fun f => ?_, fun _ _ _ _ _ => rfl⟩
 funext i; simp [killL]

theorem sc_rules : (∀ b, scA (.d (.bool b)) = true) ∧ (∀ k n, scA (.d (.int k n)) = true) ∧ (∀ s, scA (.d (.str s)) = true) ∧ (scA (.d .nils) = true) ∧ (scA (.d .nilp) = true) ∧ (∀ xs, scA (.d (.sl xs)) = false) ∧ (∀ xs, scA (.d (.ptr xs)) = false) ∧ (∀ cs, scA (.agg cs) = cs.all sc1) ∧ (∀ vs, scA (.tup vs) = vs.all sc2) ∧
  (∀ b, sc2 (.d (.bool b)) = true) ∧ (∀ k n, sc2 (.d (.int k n)) = true) ∧ (∀ s, sc2 (.d (.str s)) = true) ∧ (sc2 (.d .nils) = true) ∧ (sc2 (.d .nilp) = true) ∧ (∀ xs, sc2 (.d (.sl xs)) = false) ∧ (∀ xs, sc2 (.d (.ptr xs)) = false) ∧ (∀ cs, sc2 (.agg cs) = cs.all sc1) ∧
  (∀ b, sc1 (.d (.bool b)) = true) ∧ (∀ k n, sc1 (.d (.int k n)) = true) ∧ (∀ s, sc1 (.d (.str s)) = true) ∧ (sc1 (.d .nils) = true) ∧ (sc1 (.d .nilp) = true) ∧ (∀ xs, sc1 (.d (.sl xs)) = false) ∧ (∀ xs, sc1 (.d (.ptr xs)) = false) ∧
  (∀ {α : Type} (p : α → Bool), [].all p = true) ∧ (∀ {α : Type} (p : α → Bool) (a : α) (l : List α), (a :: l).all p = (p a && l.all p)) := by
 refine ⟨?_, ?_, ?_, ?_, ?_, ?_, ?_, ?_, ?_, ?_, ?_, ?_, ?_, ?_, ?_, ?_, ?_, ?_, ?_, ?_, ?_, ?_, ?_, ?_, ?_, ?_⟩ <;> intros <;> rfl


/-! ### a state seen as another -/
theorem mt_rules (ρ : Ren) (H : Heap) : (∀ x y : D, Vc.mt ρ H (.d x) (.d y) = (x = y ∨ cleanD x = y)) ∧ (∀ (k o l : Nat) (y : D), Vc.mt ρ H (.sl k o l) (.d y) = match H k with | some (.vec _ _ xs) => (some k ∈ ρ → False) ∧ o + l ≤ xs.length ∧ D.sl ((xs.drop o).take l) = y | _ => False) ∧
  (∀ (k e f : Nat) (y : D), Vc.mt ρ H (.ptr k e f) (.d y) = match H k with | some (.one _ cells) => (match pureL cells with | some ds => (some k ∈ ρ → False) ∧ e = 0 ∧ f = 0 ∧ D.ptr ds = y | none => False) | _ => False) ∧
  (∀ (k o l i o' l' : Nat), Vc.mt ρ H (.sl k o l) (.sl i o' l') = (ρ[i]? = some (some k) ∧ o = o' ∧ l = l')) ∧ (∀ (i o' l' : Nat), Vc.mt ρ H (.d .nils) (.sl i o' l') = (ρ[i]? = some none ∧ o' = 0 ∧ l' = 0)) ∧
  (∀ (k o l i o' l' : Nat), Vc.mt ρ H (.ptr k o l) (.ptr i o' l') = (ρ[i]? = some (some k) ∧ o = o' ∧ l = l')) ∧ (∀ c : AV, Vc.mt ρ H c .any = True) ∧ (∀ (c : AV) (z : Nat) (xs : List (List D)) (e f : Nat), Vc.mt ρ H c (.ip z xs e f) = (c = .ip z xs e f)) ∧
  (∀ cs cs' : List AV, Vc.mt ρ H (.agg cs) (.agg cs') = mtL ρ H cs cs') ∧ (∀ (f g : Fn) (cs cs' : List AV), Vc.mt ρ H (.clo f cs) (.clo g cs') = (f = g ∧ mtL ρ H cs cs')) ∧ (∀ cs cs' : List AV, Vc.mt ρ H (.tup cs) (.tup cs') = mtL2 ρ H cs cs') ∧
  (mtL ρ H [] [] = True) ∧ (∀ (c c' : AV) (cs cs' : List AV), mtL ρ H (c :: cs) (c' :: cs') = (mt1 ρ H c c' ∧ mtL ρ H cs cs')) ∧ (mtL2 ρ H [] [] = True) ∧ (∀ (c c' : AV) (cs cs' : List AV), mtL2 ρ H (c :: cs) (c' :: cs') = (mt2 ρ H c c' ∧ mtL2 ρ H cs cs')) := by
 refine ⟨?_, ?_, ?_, ?_, ?_, ?_, ?_, ?_, ?_, ?_, ?_, ?_, ?_, ?_, ?_⟩ <;> intros <;> first | rfl | (simp [Vc.mt, mt2, mt1]; done) | (simp [Vc.mt, mt2, mt1, and_comm, eq_comm]; done) | skip
 all_goals (simp only [Vc.mt, mt2, mt1]; apply propext; constructor <;> (intro h; simp_all))

theorem mt2_rules (ρ : Ren) (H : Heap) : (∀ x y : D, mt2 ρ H (.d x) (.d y) = (x = y ∨ cleanD x = y)) ∧ (∀ (k o l : Nat) (y : D), mt2 ρ H (.sl k o l) (.d y) = match H k with | some (.vec _ _ xs) => (some k ∈ ρ → False) ∧ o + l ≤ xs.length ∧ D.sl ((xs.drop o).take l) = y | _ => False) ∧
  (∀ (k e f : Nat) (y : D), mt2 ρ H (.ptr k e f) (.d y) = match H k with | some (.one _ cells) => (match pureL cells with | some ds => (some k ∈ ρ → False) ∧ e = 0 ∧ f = 0 ∧ D.ptr ds = y | none => False) | _ => False) ∧
  (∀ (k o l i o' l' : Nat), mt2 ρ H (.sl k o l) (.sl i o' l') = (ρ[i]? = some (some k) ∧ o = o' ∧ l = l')) ∧ (∀ (i o' l' : Nat), mt2 ρ H (.d .nils) (.sl i o' l') = (ρ[i]? = some none ∧ o' = 0 ∧ l' = 0)) ∧
  (∀ (k o l i o' l' : Nat), mt2 ρ H (.ptr k o l) (.ptr i o' l') = (ρ[i]? = some (some k) ∧ o = o' ∧ l = l')) ∧ (∀ c : AV, mt2 ρ H c .any = True) ∧ (∀ (c : AV) (z : Nat) (xs : List (List D)) (e f : Nat), mt2 ρ H c (.ip z xs e f) = (c = .ip z xs e f)) ∧
  (∀ cs cs' : List AV, mt2 ρ H (.agg cs) (.agg cs') = mtL ρ H cs cs') ∧ (∀ (f g : Fn) (cs cs' : List AV), mt2 ρ H (.clo f cs) (.clo g cs') = (f = g ∧ mtL ρ H cs cs')) := by
 refine ⟨?_, ?_, ?_, ?_, ?_, ?_, ?_, ?_, ?_, ?_⟩ <;> intros <;> first | rfl | (simp [mt2, mt1]; done) | skip
 all_goals (simp only [mt2, mt1]; apply propext; constructor <;> (intro h; simp_all))

theorem mt1_rules (ρ : Ren) (H : Heap) : (∀ x y : D, mt1 ρ H (.d x) (.d y) = (x = y ∨ cleanD x = y)) ∧ (∀ (k o l : Nat) (y : D), mt1 ρ H (.sl k o l) (.d y) = match H k with | some (.vec _ _ xs) => (some k ∈ ρ → False) ∧ o + l ≤ xs.length ∧ D.sl ((xs.drop o).take l) = y | _ => False) ∧
  (∀ (k e f : Nat) (y : D), mt1 ρ H (.ptr k e f) (.d y) = match H k with | some (.one _ cells) => (match pureL cells with | some ds => (some k ∈ ρ → False) ∧ e = 0 ∧ f = 0 ∧ D.ptr ds = y | none => False) | _ => False) ∧
  (∀ (k o l i o' l' : Nat), mt1 ρ H (.sl k o l) (.sl i o' l') = (ρ[i]? = some (some k) ∧ o = o' ∧ l = l')) ∧ (∀ (i o' l' : Nat), mt1 ρ H (.d .nils) (.sl i o' l') = (ρ[i]? = some none ∧ o' = 0 ∧ l' = 0)) ∧
  (∀ (k o l i o' l' : Nat), mt1 ρ H (.ptr k o l) (.ptr i o' l') = (ρ[i]? = some (some k) ∧ o = o' ∧ l = l')) ∧ (∀ c : AV, mt1 ρ H c .any = True) ∧ (∀ (c : AV) (z : Nat) (xs : List (List D)) (e f : Nat), mt1 ρ H c (.ip z xs e f) = (c = .ip z xs e f)) := by
 refine ⟨?_, ?_, ?_, ?_, ?_, ?_, ?_, ?_⟩ <;> intros <;> first | rfl | (simp [mt1]; done) | skip
 all_goals (simp only [mt1]; apply propext; constructor <;> (intro h; simp_all))

theorem sub_rules : (∀ (np : Nat) (ρ : Ren) (st : St) (fl : List (Nat × AV)) (bl : List (Option Box)), subOk np ρ st fl bl = ((apartB ρ && (ρ.take np == (List.range np).map some)) = true ∧ mtBs ρ st.H ρ bl ∧ mtFr ρ st.H st.fr fl)) ∧
  (∀ (ρ : Ren) (H : Heap) (fr : Nat → AV), mtFr ρ H fr [] = True) ∧ (∀ (ρ : Ren) (H : Heap) (fr : Nat → AV) (i : Nat) (c : AV) (r : List (Nat × AV)), mtFr ρ H fr ((i, c) :: r) = (Vc.mt ρ H (fr i) c ∧ mtFr ρ H fr r)) ∧
  (∀ (ρ : Ren) (H : Heap), mtBs ρ H [] [] = True) ∧ (∀ (ρ : Ren) (H : Heap) (k : Nat) (r : Ren) (b : Box) (bs : List (Option Box)), mtBs ρ H (some k :: r) (some b :: bs) = ((match H k with | some b0 => mtBox ρ H b0 b | none => False) ∧ mtBs ρ H r bs)) ∧
  (∀ (ρ : Ren) (H : Heap) (r : Ren) (t s : Nat) (xs : List (List D)) (bs : List (Option Box)), mtBs ρ H (none :: r) (some (.vec t s xs) :: bs) = (xs = [] ∧ mtBs ρ H r bs)) ∧ (∀ (ρ : Ren) (H : Heap) (q : Option Nat) (r : Ren) (bs : List (Option Box)), mtBs ρ H (q :: r) (none :: bs) = mtBs ρ H r bs) ∧
  (∀ (ρ : Ren) (H : Heap) (t s : Nat) (xs : List (List D)) (t' s' : Nat) (xs' : List (List D)), mtBox ρ H (.vec t s xs) (.vec t' s' xs') = (t = t' ∧ s = s' ∧ xs = xs')) ∧ (∀ (ρ : Ren) (H : Heap) (t : Nat) (cs : List AV) (t' : Nat) (cs' : List AV), mtBox ρ H (.one t cs) (.one t' cs') = (t = t' ∧ mtL ρ H cs cs')) := by
 refine ⟨fun _ _ _ _ _ => rfl, fun _ _ _ => rfl, fun _ _ _ _ _ _ => rfl, fun _ _ => rfl, fun _ _ _ _ _ _ => rfl, fun _ _ _ _ _ _ _ => rfl, fun _ _ q _ _ => ?_, fun _ _ _ _ _ _ _ _ => rfl, fun _ _ _ _ _ _ => rfl⟩
 cases q <;> rfl

theorem ret_rules {P : Program} (E : Env P) : (∀ (rs : List ResultVar) (r : AV) (e : Exit) (st : St), retP E rs r e st = ((e = .normal ∨ e = .ret) ∧ match resA E st.H st.fr rs with | some (p, cs) => p ∧ Vc.mt [] st.H (packA cs) r | none => False)) ∧
  (∀ (rs : List ResultVar) (m : Nat) (r : AV) (bf : List (Option Box)) (e : Exit) (st : St), retG E rs m r bf e st = ((e = .normal ∨ e = .ret) ∧ match resA E st.H st.fr rs with | some (p, cs) => p ∧ ∃ ρ : Ren, (apartB ρ && (ρ.take m == (List.range m).map some)) = true ∧ mtBs ρ st.H ρ bf ∧ Vc.mt ρ st.H (packA cs) r | none => False)) ∧
  (∀ (H : Heap) (fr : Nat → AV), resA E H fr [] = some (True, [])) ∧ (∀ (H : Heap) (fr : Nat → AV) (t : Tmp) (r : List ResultVar), resA E H fr (.tmp t :: r) = match resA E H fr r with | some (p, cs) => some (needs (fr t) ∧ p, bare (fr t) :: cs) | none => none) ∧
  (∀ (H : Heap) (fr : Nat → AV) (a : Tmp) (ty : TypeId) (r : List ResultVar), resA E H fr (.cell a ty :: r) = match aLoad E.X.ty H ty (bare (fr a)), resA E H fr r with | some (q, c), some (p, cs) => some (needs (fr a) ∧ q ∧ p, c :: cs) | _, _ => none) :=
 ⟨fun _ _ _ _ => rfl, fun _ _ _ _ _ _ => rfl, fun _ _ => rfl, fun _ _ _ _ => rfl, fun _ _ _ _ _ => rfl⟩
theorem pack_rules : (∀ c : AV, packA [c] = c) ∧ (∀ (c d : AV) (cs : List AV), packA (c :: d :: cs) = .tup (c :: d :: cs)) ∧ (packA [] = .tup []) := ⟨fun _ => rfl, fun _ _ _ => rfl, rfl⟩

def w1 := And.intro @st_rules (And.intro @guard_rules (And.intro @fr_rules (And.intro @av_rules (And.intro @ev_rules (And.intro @op_rules (And.intro @op_rules2 (And.intro @mm_rules (And.intro @rs_rules (And.intro @nd_rules (And.intro @nd_slice (And.intro @ar_rules (And.intro @bin_rules @un_rules))))))))))))
def w2 := And.intro @aAlloc.eq_1 (And.intro @aBox.eq_1 (And.intro @aMake.eq_1 (And.intro @aAppend.eq_1 (And.intro @aBuildSlice.eq_1 (And.intro @aStore.eq_1 (And.intro @aLoad.eq_1 (And.intro @loadRow.eq_1 (And.intro @aIndexAddr.eq_1 (And.intro @aFieldAddr.eq_1 (And.intro @aIndex.eq_1 (And.intro @aField.eq_1 (And.intro @aPart.eq_1 (And.intro @aLen.eq_1 (And.intro @aSlice.eq_1 (And.intro @bnd_rules (And.intro @aNil.eq_1 (And.intro @aConv.eq_1 (And.intro @aExtract.eq_1 (And.intro @aBuild.eq_1 (And.intro @tiAgg.eq_1 (And.intro @rowsSrc.eq_1 (And.intro @cell_rules (And.intro @fill_rules (And.intro @str_rules @eq_rules))))))))))))))))))))))))
def w3 := And.intro @callS.eq_1 (And.intro @rd_rules (And.intro @pure_rules (And.intro @gen_rules (And.intro @heap_rules (And.intro @sc_rules (And.intro @envx_rules (And.intro @env_rules (And.intro @bool_rules (And.intro @list_rules (And.intro @map_rules (And.intro @opt_rules (And.intro @opt_bind @splice_rules))))))))))))
def w4 := And.intro @mt_rules (And.intro @mt2_rules (And.intro @mt1_rules (And.intro @sub_rules (And.intro @pack_rules @ret_rules))))
end Go.Vc
/- The Vc layer: from a row's reading of the arguments to data, and from a contract to the row. -/
set_option linter.all false
namespace Go.Vc
open Go Go.RowKit

def WT (P : Program) : Nat → TypeId → List D → Prop
 | 0, _, _ => False
 | k + 1, t, ds => match P.underlying t with
  | some .bool => ∃ b, ds = [.bool b]
  | some (.int q) => ∃ n, ds = [.int q n] ∧ (Lit.int q n).wf = true
  | some .string => ∃ s, ds = [.str s] ∧ s.length ≤ maxLen ∧ s.length ≤ reachBytes
  | some (.slice e) => ∃ xs, ds = [.sl xs] ∧ xs.length ≤ maxLen ∧ (∀ x ∈ xs, WT P k e x) ∧ xs.length * P.bytesOf e ≤ reachBytes
  | some (.struct fs) => ds.length = P.cellsOf t ∧ ∀ f ∈ fs.toList, WT P k f.type ((ds.drop f.offset).take (P.cellsOf f.type))
  | some (.array n e) => ds.length = P.cellsOf t ∧ ∀ i, i < n → WT P k e ((ds.drop (i * P.cellsOf e)).take (P.cellsOf e))
  | _ => False

def plainB (P : Program) : Nat → TypeId → Bool
 | 0, _ => false
 | k + 1, t => match P.underlying t with
  | some .bool => true
  | some (.int _) => true
  | some .string => true
  | some (.slice e) => decide (0 < P.cellsOf e) && plainB P k e
  | some (.struct fs) => P.consecB fs.toList 0 (P.cellsOf t) && fs.toList.all fun f => plainB P k f.type
  | some (.array n e) => (P.cellsOf t == n * P.cellsOf e) && plainB P k e
  | _ => false

def RDs (w : World) (O : Nat → Prop) (ds : List D) (cs : List Value) : Prop := ds.length = cs.length ∧ ∀ (j : Nat) (c : D) (u : Value), ds[j]? = some c → cs[j]? = some u → RD w O c u

theorem RDs.one {w : World} {O : Nat → Prop} {d : D} {u : Value} (h : RD w O d u) : RDs w O [d] [u] := ⟨rfl, fun j c v h1 h2 => by
 cases j with
 | zero => simp at h1 h2; subst h1 h2; exact h
 | succ j => simp at h1⟩

theorem RDs.app {w : World} {O : Nat → Prop} {d d' : List D} {u u' : List Value} (h : RDs w O d u) (h' : RDs w O d' u') : RDs w O (d ++ d') (u ++ u') := by
 refine ⟨by simp [h.1, h'.1], fun j c v h1 h2 => ?_⟩
 by_cases hj : j < d.length
 ·rw [List.getElem?_append_left hj] at h1
  rw [List.getElem?_append_left (by have := h.1; omega)] at h2
  exact h.2 j c v h1 h2
 ·rw [List.getElem?_append_right (by omega)] at h1
  rw [List.getElem?_append_right (by have := h.1; omega), ← h.1] at h2
  exact h'.2 _ c v h1 h2

section
variable {P : Program} {w : World}

theorem fields_read {k : Nat} {cs : List Value} {total : Nat} (htot : cs.length = total) : ∀ (fs : List Field) (off : Nat), P.consecB fs off total = true → off ≤ total →
  (∀ f ∈ fs, ∃ ds, RDs w (fun _ => False) ds ((cs.drop f.offset).take (P.cellsOf f.type)) ∧ ds.length = P.cellsOf f.type ∧ WT P k f.type ds) →
  ∃ ds, RDs w (fun _ => False) ds (cs.drop off) ∧ (∀ f ∈ fs, off ≤ f.offset ∧ WT P k f.type ((ds.drop (f.offset - off)).take (P.cellsOf f.type))) := by
 intro fs
 induction fs with
 | nil =>
  intro off hc _ _
  simp only [Program.consecB, beq_iff_eq] at hc
  refine ⟨[], ⟨by simp; omega, fun j c u h => by simp at h⟩, fun f hf => by cases hf⟩
 | cons f fs ih =>
  intro off hc ho h
  simp only [Program.consecB, Bool.and_eq_true, beq_iff_eq] at hc
  obtain ⟨hoff, hc⟩ := hc
  obtain ⟨d0, h0, hl0, hw0⟩ := h f (by simp)
  have hle : off + P.cellsOf f.type ≤ total := by
   have := h0.1
   rw [List.length_take, List.length_drop, hl0] at this
   omega
  obtain ⟨ds, h1, h2⟩ := ih (off + P.cellsOf f.type) hc hle (fun g hg => h g (by simp [hg]))
  refine ⟨d0 ++ ds, ?_, fun g hg => ?_⟩
  ·have := h0.app h1
   rwa [hoff, take_drop_step] at this
  ·rcases List.mem_cons.1 hg with rfl | hg
   ·refine ⟨by omega, ?_⟩
    rw [hoff, Nat.sub_self, List.drop_zero, List.take_append_of_le_length (by omega), List.take_of_length_le (by omega)]
    exact hw0
   ·obtain ⟨h3, h4⟩ := h2 g hg
    refine ⟨by omega, ?_⟩
    rw [List.drop_append, show d0.drop (g.offset - off) = [] from List.drop_eq_nil_of_le (by omega), List.nil_append, hl0, show g.offset - off - P.cellsOf f.type = g.offset - (off + P.cellsOf f.type) by omega]
    exact h4

theorem elems_read {k n e sz : Nat} {cs : List Value} (hlen : cs.length = n * sz) : ∀ (m s : Nat), s + m = n →
  (∀ i, i < n → ∃ ds, RDs w (fun _ => False) ds ((cs.drop (i * sz)).take sz) ∧ ds.length = sz ∧ WT P k e ds) →
  ∃ ds, RDs w (fun _ => False) ds (cs.drop (s * sz)) ∧ (∀ i, s ≤ i → i < n → WT P k e ((ds.drop ((i - s) * sz)).take sz)) := by
 intro m
 induction m with
 | zero =>
  intro s hs _
  refine ⟨[], ⟨by simp; rw [hlen, ← hs]; simp, fun j c u h => by simp at h⟩, fun i h1 h2 => by omega⟩
 | succ m ih =>
  intro s hs h
  obtain ⟨d0, h0, hl0, hw0⟩ := h s (by omega)
  obtain ⟨ds, h1, h2⟩ := ih (s + 1) (by omega) h
  refine ⟨d0 ++ ds, ?_, fun i hi1 hi2 => ?_⟩
  ·have := h0.app h1
   rwa [Nat.add_mul, Nat.one_mul, take_drop_step] at this
  ·rcases Nat.eq_or_lt_of_le hi1 with rfl | hlt
   ·rw [Nat.sub_self, Nat.zero_mul, List.drop_zero, List.take_append_of_le_length (by omega), List.take_of_length_le (by omega)]
    exact hw0
   ·have h3 := h2 i hlt hi2
    have e1 : (i - s) * sz = (i - (s + 1)) * sz + sz := by
     rw [show i - s = (i - (s + 1)) + 1 by omega, Nat.add_mul, Nat.one_mul]
    rw [List.drop_append, show d0.drop ((i - s) * sz) = [] from List.drop_eq_nil_of_le (by omega), List.nil_append, hl0, show (i - s) * sz - sz = (i - (s + 1)) * sz by omega]
    exact h3

theorem cells_get {a : Addr} {n : Nat} {cs : List Value} (h : w.cells? 0 a n = some cs) : cs.length = n ∧ ∀ i, i < n → w.cell? (a.add i) = cs[i]? := by
 unfold World.cells? at h
 rw [if_pos (Nat.zero_le _)] at h
 exact ⟨by simpa using mapM_some_length h, fun i hi => by have := mapM_some_get h i i (by simp [hi]); simpa using this⟩

theorem addN (b o k : Nat) : (⟨b, o, none⟩ : Addr).add k = ⟨b, o + k, none⟩ := by unfold Addr.add; split <;> simp_all

theorem cell_spot {a : Addr} {u : Value} (h : w.cell? a = some u) : a.spot = none ∧ a.block < w.heap.size := by
 unfold World.cell? at h
 split at h
 ·rename_i hb
  split at h
  ·cases h
  ·rename_i hs
   exact ⟨by simpa using hs, (Array.getElem?_eq_some_iff.1 hb).1⟩
 ·cases h

variable {H : Type} {enc : TypeId × Value → H}

theorem weights_all {P : Program} {e : TypeId} : ∀ {l : List (DataW H)} {d : DataW H}, d ∈ l → ∀ n ∈ d.weights P e, n ∈ DataW.weightsAll P e l
 | d0 :: l, d, h, n, hn => by
  simp only [DataW.weightsAll, List.mem_append]
  rcases List.mem_cons.1 h with rfl | h
  ·exact Or.inl hn
  ·exact Or.inr (weights_all h n hn)

theorem trod_read {sp : Nat → Bool} {held : Bool} : ∀ (k : Nat) (t : TypeId), plainB P k t = true → ∀ (fuel : Nat) (cs : List Value) (x : DataW H × List MemPlace), DataW.trod enc P w 0 sp held fuel t cs = some x → (∀ n ∈ x.1.weights P t, n ≤ reachBytes) →
  ∃ ds, RDs w (fun _ => False) ds cs ∧ WT P k t ds := by
 intro k
 induction k with
 | zero => intro t h; cases h
 | succ k ih =>
  intro t hp fuel cs x h
  intro hz
  unfold plainB at hp
  split at hp
  ·rename_i ht
   obtain ⟨b, rfl, _⟩ := DataW.trod_bool ht h
   exact ⟨_, .one (.bool b), by unfold WT; rw [ht]; exact ⟨b, rfl⟩⟩
  ·rename_i q ht
   obtain ⟨n, rfl, _, hw⟩ := DataW.trod_int ht h
   exact ⟨_, .one (.int q n), by unfold WT; rw [ht]; exact ⟨n, rfl, hw⟩⟩
  ·rename_i ht
   obtain ⟨s, rfl, rfl, hs⟩ := DataW.trod_string ht h
   refine ⟨[.str s.data.toList], .one ?_, by unfold WT; rw [ht]; exact ⟨_, rfl, hs, by simpa [DataW.weights] using hz⟩⟩
   have := RD.str (w := w) (O := fun _ => False) s.data.toList
   simpa using this
  ·rename_i e ht
   simp only [Bool.and_eq_true, decide_eq_true_eq] at hp
   obtain ⟨hpos, hpe⟩ := hp
   rcases DataW.trod_slice ht h with ⟨rfl, _⟩ | ⟨a, len, cap, elems, rest, n, rfl, rfl, rfl, _, hle, hcap, hel, hget, _⟩
   ·exact ⟨[.sl []], .one (.sl0 none 0), by unfold WT; rw [ht]; exact ⟨[], rfl, Nat.zero_le _, (fun x h => by cases h), by simp⟩⟩
   ·-- each element
    have each : ∀ i, i < len → ∃ (ds : List D) (us : List Value), w.cells? 0 (a.add (i * P.cellsOf e)) (P.cellsOf e) = some us ∧ RDs w (fun _ => False) ds us ∧ WT P k e ds := by
     intro i hi
     have hg := hget i hi
     cases hc : w.cells? 0 (a.add (i * P.cellsOf e)) (P.cellsOf e) with
     | none => rw [hc, List.getElem?_eq_getElem (by omega)] at hg; cases hg
     | some us =>
      rw [hc, List.getElem?_eq_getElem (by omega)] at hg
      simp only [Option.bind_some] at hg
      obtain ⟨ds, h1, h2⟩ := ih e hpe n us _ hg (fun m hm => hz m (by
       simp only [DataW.weights, ht]
       exact List.mem_cons_of_mem _ (List.mem_append.2 (.inl (weights_all (List.mem_map.2 ⟨elems[i]'(by omega), List.getElem_mem _, rfl⟩) m hm)))))
      exact ⟨ds, us, rfl, h1, h2⟩
    obtain ⟨xf, hxf⟩ : ∃ xf : Nat → List D, ∀ i, i < len → ∃ us, w.cells? 0 (a.add (i * P.cellsOf e)) (P.cellsOf e) = some us ∧ RDs w (fun _ => False) (xf i) us ∧ WT P k e (xf i) :=
     ⟨fun i => if h : i < len then (each i h).choose else [], fun i hi => by simp only [dif_pos hi]; exact (each i hi).choose_spec⟩
    refine ⟨[.sl ((List.range len).map xf)], ?_, ?_⟩
    ·refine .one ?_
     by_cases h0 : len = 0
     ·subst h0; exact .sl0 _ _
     ·obtain ⟨us0, hu0, _, _⟩ := hxf 0 (by omega)
      obtain ⟨hl0, hc0⟩ := cells_get hu0
      have hsp : (a.add (0 * P.cellsOf e)).spot = none ∧ (a.add (0 * P.cellsOf e)).block < w.heap.size := by
       have := hc0 0 hpos
       rw [List.getElem?_eq_getElem (by omega)] at this
       have h2 := cell_spot this
       unfold Addr.add at h2 ⊢
       split at h2 <;> simp_all
      have ha : ∃ b o, a = ⟨b, o, none⟩ := by
       obtain ⟨b, o, s⟩ := a
       unfold Addr.add at hsp
       cases s with
       | none => exact ⟨b, o, rfl⟩
       | some s => simp at hsp
      obtain ⟨b, o, rfl⟩ := ha
      have hblk : b < w.heap.size := by rw [addN] at hsp; exact hsp.2
      have hlen : ((List.range len).map xf).length = len := by simp
      have := RD.sl (w := w) (O := fun _ => False) ((List.range len).map xf) (P.cellsOf e) b o cap (fun i f => (w.cell? ⟨b, o + i * P.cellsOf e + f, none⟩).getD undef) (by omega) hblk (fun h => h) (fun x hx => ?_) (fun i f c hc => ?_) (fun i f c hc => ?_)
      ·rw [hlen] at this; exact this
      ·obtain ⟨i, hi, rfl⟩ := List.mem_map.1 hx
       obtain ⟨us, h1, h2, _⟩ := hxf i (by simpa using hi)
       rw [h2.1]; exact (cells_get h1).1
      all_goals
       obtain ⟨x, hx1, hx2⟩ := at2_some hc
       rw [List.getElem?_map] at hx1
       have hi : i < len := by
        rcases Nat.lt_or_ge i len with h | h
        ·exact h
        ·rw [List.getElem?_eq_none (by simpa using h)] at hx1; cases hx1
       rw [List.getElem?_range hi] at hx1
       simp only [Option.map_some, Option.some.injEq] at hx1
       subst hx1
       obtain ⟨us, h1, h2, _⟩ := hxf i hi
       obtain ⟨h3, h4⟩ := cells_get h1
       have hf : f < us.length := by have := (List.getElem?_eq_some_iff.1 hx2).1; rw [h2.1] at this; exact this
       have h5 := h4 f (by omega)
       rw [addN, addN, List.getElem?_eq_getElem hf] at h5
      ·rw [h5]; rfl
      ·rw [h5]; exact h2.2 f c _ hx2 (List.getElem?_eq_getElem hf)
    ·unfold WT; rw [ht]
     refine ⟨_, rfl, by simp; omega, fun x hx => ?_, ?_⟩
     ·obtain ⟨i, hi, rfl⟩ := List.mem_map.1 hx
      obtain ⟨us, _, _, h3⟩ := hxf i (by simpa using hi)
      exact h3
     ·have h1 := hz ((elems.length + rest.length) * P.bytesOf e) (by simp only [DataW.weights, ht, List.length_map]; exact List.mem_cons_self)
      rw [Nat.add_mul] at h1
      rw [List.length_map, List.length_range]
      rw [hel] at h1
      omega
  ·rename_i fs ht
   simp only [Bool.and_eq_true, List.all_eq_true] at hp
   obtain ⟨hcon, hall⟩ := hp
   obtain ⟨xs, n, rfl, rfl, hlen, hxl, hget⟩ := DataW.trod_struct ht h
   obtain ⟨ds, h1, h2⟩ := fields_read (k := k) (w := w) hlen fs.toList 0 hcon (Nat.zero_le _) (fun f hf => by
    obtain ⟨i, hi⟩ := List.getElem?_of_mem hf
    rw [Array.getElem?_toList] at hi
    have hg := hget i f hi
    have hil : i < xs.length := by rw [hxl]; exact (Array.getElem?_eq_some_iff.1 hi).1
    rw [List.getElem?_eq_getElem hil] at hg
    obtain ⟨ds, h3, h4⟩ := ih f.type (hall f hf) n _ _ hg (fun m hm => hz m (by
     simp only [DataW.weights, ht]
     refine DataW.weights_mem_each (j := i) (t := f.type) (d := xs[i].1) (by rw [List.getElem?_map, Array.getElem?_toList, hi]; rfl) (by rw [List.getElem?_map, List.getElem?_eq_getElem hil]; rfl) m hm))
    refine ⟨ds, h3, ?_, h4⟩
    -- the field's cells are all there
    have key : ∀ (fs : List Field) (off : Nat), P.consecB fs off (P.cellsOf t) = true → off ≤ P.cellsOf t ∧ ∀ f ∈ fs, f.offset + P.cellsOf f.type ≤ P.cellsOf t := by
     intro fs
     induction fs with
     | nil => intro off hc; simp only [Program.consecB, beq_iff_eq] at hc; exact ⟨by omega, fun f hf => by cases hf⟩
     | cons g fs ih2 =>
      intro off hc
      simp only [Program.consecB, Bool.and_eq_true, beq_iff_eq] at hc
      obtain ⟨h5, h6⟩ := ih2 _ hc.2
      refine ⟨by omega, fun f hf => ?_⟩
      rcases List.mem_cons.1 hf with rfl | hf
      ·omega
      ·exact h6 f hf
    have := (key fs.toList 0 hcon).2 f hf
    rw [h3.1, List.length_take, List.length_drop]
    omega)
   rw [List.drop_zero] at h1
   refine ⟨ds, h1, ?_⟩
   unfold WT; rw [ht]
   exact ⟨by rw [h1.1, hlen], fun f hf => by simpa using (h2 f hf).2⟩
  ·rename_i m e ht
   simp only [Bool.and_eq_true, beq_iff_eq] at hp
   obtain ⟨hsz, hpe⟩ := hp
   obtain ⟨xs, n, rfl, rfl, hlen, hxl, hget⟩ := DataW.trod_array ht h
   obtain ⟨ds, h1, h2⟩ := elems_read (P := P) (k := k) (w := w) (e := e) (n := m) (sz := P.cellsOf e) (cs := cs) (by omega) m 0 (by omega) (fun i hi => by
    have hg := hget i hi
    rw [List.getElem?_eq_getElem (by omega)] at hg
    obtain ⟨ds, h3, h4⟩ := ih e hpe n _ _ hg (fun q hq => hz q (by
     simp only [DataW.weights, ht]
     exact weights_all (List.mem_map.2 ⟨xs[i]'(by omega), List.getElem_mem _, rfl⟩) q hq))
    refine ⟨ds, h3, ?_, h4⟩
    rw [h3.1, List.length_take, List.length_drop, hlen, hsz]
    have : (i + 1) * P.cellsOf e ≤ m * P.cellsOf e := Nat.mul_le_mul_right _ hi
    rw [Nat.add_mul] at this
    omega)
   rw [Nat.zero_mul, List.drop_zero] at h1
   refine ⟨ds, h1, ?_⟩
   unfold WT; rw [ht]
   exact ⟨by rw [h1.1, hlen], fun i hi => by simpa using h2 i (Nat.zero_le _) hi⟩
  ·cases hp

def ArgOk (P : Program) (k : Nat) (t : TypeId) (c : AV) : Prop :=
 match P.underlying t with
 | some (.struct _) | some (.array _ _) => ∃ ds, c = .agg (ds.map .d) ∧ WT P k t ds
 | _ => ∃ x, c = .d x ∧ WT P k t [x]

@[reducible] def lone_ (mx : Int) : Far := { F := fun _ => False, nev := fun _ => False, sub := fun _ h => h, pin := fun _ => none, np := 0, marks := true, mx := mx }
variable {mx : Int}
def GlobsAt (mx : Int) (w : World) : Prop := ∀ p ∈ @globs (lone_ mx), GlOk w (fun _ => False) p


theorem own_lone {b : Nat} : ¬ @own (lone_ mx) (fun _ => none) b := by
 rintro (h | ⟨i, l, h, _⟩)
 ·exact h
 ·cases h

theorem arg_read {sp : Nat → Bool} {held : Bool} {k : Nat} {t : TypeId} {v : Value} {d : DataW H} {ps : List MemPlace} {base : Nat} (hp : plainB P k t = true) (hv : Value.okWide P w .any base t v) (h : DataW.Trod enc P w 0 sp held t v d ps) (hz : ∀ n ∈ d.weights P t, n ≤ reachBytes) :
  ∃ c, ArgOk P k t c ∧ @R (lone_ mx) w (fun _ => none) 0 c v := by
 obtain ⟨fuel, h⟩ := h
 obtain ⟨ds, h1, h2⟩ := trod_read k t hp fuel _ _ h hz
 have up : ∀ {c : D} {u : Value}, RD w (fun _ => False) c u → RD w (@own (lone_ mx) (fun _ => none)) c u := fun h => h.ext (Nat.le_refl _) (fun _ _ _ => rfl) (fun b _ _ h => own_lone h)
 have agg : ∀ cs : Array Value, v = .agg cs → @R (lone_ mx) w (fun _ => none) 0 (.agg (ds.map .d)) v := by
  rintro cs rfl
  have hl : ds.length = cs.toList.length := h1.1
  have e : (cs.toList.toArray : Array Value) = cs := by simp
  rw [show Value.agg cs = Value.agg cs.toList.toArray by rw [e]]
  refine @R.agg (lone_ mx) _ _ _ _ cs.toList (by simp at hl ⊢; omega) (fun u hu => ?_) (fun i c u hc hu => ?_)
  ·obtain ⟨j, hj⟩ := List.getElem?_of_mem hu
   have hj' : j < ds.length := by have := (List.getElem?_eq_some_iff.1 hj).1; omega
   exact (h1.2 j _ u (List.getElem?_eq_getElem hj') hj).one
  ·rw [List.getElem?_map] at hc
   cases hd : ds[i]? with
   | none => rw [hd] at hc; cases hc
   | some d => rw [hd] at hc; cases hc; exact @R.d (lone_ mx) _ _ _ _ _ (up (h1.2 i d u hd hu))
 unfold ArgOk
 unfold Value.okWide at hv
 split
 ·rename_i fs ht
  rw [ht] at hv
  obtain ⟨cs, rfl, _, _⟩ := hv
  exact ⟨_, ⟨ds, rfl, h2⟩, agg cs rfl⟩
 ·rename_i n e ht
  rw [ht] at hv
  obtain ⟨cs, rfl, _, _⟩ := hv
  exact ⟨_, ⟨ds, rfl, h2⟩, agg cs rfl⟩
 ·rename_i hns hna
  have hone : ∃ x, ds = [x] := by
   cases k with
   | zero => cases hp
   | succ k =>
    unfold WT at h2
    split at h2
    ·obtain ⟨b, rfl⟩ := h2; exact ⟨_, rfl⟩
    ·obtain ⟨n, rfl, _⟩ := h2; exact ⟨_, rfl⟩
    ·obtain ⟨n, rfl, _⟩ := h2; exact ⟨_, rfl⟩
    ·obtain ⟨n, rfl, _⟩ := h2; exact ⟨_, rfl⟩
    ·rename_i fs ht; exact (hns fs ht).elim
    ·rename_i n e ht; exact (hna n e ht).elim
    ·exact h2.elim
  obtain ⟨x, rfl⟩ := hone
  have hcells : v.cells = #[v] := by
   cases v with
   | agg cs =>
    exfalso
    -- an aggregate of one cell would be read at a type that is none
    cases k with
    | zero => cases hp
    | succ k =>
     unfold plainB at hp
     split at hp
     ·rename_i ht; simp [ht, Cell.okWide, Cell.ok] at hv
     ·rename_i q ht; simp [ht, Cell.okWide, Cell.ok] at hv
     ·rename_i ht; simp [ht, Cell.okWide, Cell.ok] at hv
     ·rename_i e ht; simp [ht, Cell.okWide, Cell.ok] at hv
     ·rename_i fs ht; exact hns fs ht
     ·rename_i n e ht; exact hna n e ht
     ·cases hp
   | _ => rfl
  rw [hcells] at h1
  exact ⟨_, ⟨x, rfl, h2⟩, @R.d (lone_ mx) _ _ _ _ _ (up (h1.2 0 x v rfl rfl))⟩

def LawOk (P : Program) (k : Nat) (ts : List TypeId) (g : List AV → Option (Prop × AV)) : Prop :=
 ∀ args : List AV, args.length = ts.length → (∀ (i : Nat) (t : TypeId) (c : AV), ts[i]? = some t → args[i]? = some c → ArgOk P k t c) → ∃ p, g args = some (p, .d (.bool true)) ∧ p

theorem law_calls (hgl : GlobsAt mx w) {f : FuncId} {g : List AV → Option (Prop × AV)} (hm : Meets P f (Spec.pure g)) {k : Nat} {ts : List TypeId} (hpl : ∀ t ∈ ts, plainB P k t = true) (hlaw : LawOk P k ts g) {base : Nat} {args : Array Value} {ds : List (DataW H)} {ps : List MemPlace}
  (hok : ∀ (j : Nat) t v, ts[j]? = some t → args[j]? = some v → Value.okWide P w .any base t v) (hA : DataW.TrodAll enc P w 0 (fun _ => true) true ts args.toList ds ps) (hz : ∀ (j : Nat) t d, ts[j]? = some t → ds[j]? = some d → ∀ n ∈ d.weights P t, n ≤ reachBytes) :
  Calls P f args w fun e w' => e = .returned (.bool true) ∧ Below w.heap.size w w' := by
 have key : ∀ (ts : List TypeId) (vs : List Value) (ds : List (DataW H)) (ps : List MemPlace), (∀ t ∈ ts, plainB P k t = true) → (∀ (j : Nat) t v, ts[j]? = some t → vs[j]? = some v → Value.okWide P w .any base t v) → DataW.TrodAll enc P w 0 (fun _ => true) true ts vs ds ps → (∀ (j : Nat) t d, ts[j]? = some t → ds[j]? = some d → ∀ n ∈ d.weights P t, n ≤ reachBytes) →
   vs.length = ts.length ∧ ∃ cs : List AV, cs.length = ts.length ∧ (∀ (i : Nat) (t : TypeId) (c : AV), ts[i]? = some t → cs[i]? = some c → ArgOk P k t c) ∧ (∀ (i : Nat) (c : AV) (u : Value), cs[i]? = some c → vs[i]? = some u → @R (lone_ mx) w (fun _ => none) 0 c u) := by
  intro ts
  induction ts with
  | nil =>
   intro vs ds ps _ _ h _
   obtain ⟨rfl, _, _⟩ := ChangeShapes.trodAll_nil h
   exact ⟨rfl, [], rfl, fun i t c h => by simp at h, fun i c u h => by simp at h⟩
  | cons t ts ih =>
   intro vs ds ps hp ho h hz
   obtain ⟨v, vs1, d, ds1, a, b, rfl, rfl, rfl, h1, h2⟩ := ChangeShapes.trodAll_cons h
   obtain ⟨hl, cs, e1, e2, e3⟩ := ih vs1 ds1 b (fun t ht => hp t (by simp [ht])) (fun j t v h1 h2 => ho (j + 1) t v (by simpa using h1) (by simpa using h2)) h2 (fun j t d h1 h2 => hz (j + 1) t d (by simpa using h1) (by simpa using h2))
   obtain ⟨c, c1, c2⟩ := arg_read (hp t (by simp)) (ho 0 t v rfl rfl) h1 (hz 0 t d rfl rfl)
   refine ⟨by simp [hl], c :: cs, by simp [e1], fun i t' c' hi hc => ?_, fun i c' u hi hu => ?_⟩
   ·cases i with
    | zero => simp at hi hc; subst hi hc; exact c1
    | succ i => exact e2 i t' c' (by simpa using hi) (by simpa using hc)
   ·cases i with
    | zero => simp at hi hu; subst hi hu; exact c2
    | succ i => exact e3 i c' u (by simpa using hi) (by simpa using hu)
 obtain ⟨hl, cs, e1, e2, e3⟩ := key ts args.toList ds ps hpl (fun j t v h1 h2 => hok j t v h1 (by simpa using h2)) hA hz
 obtain ⟨p, hg, hp⟩ := hlaw cs e1 e2
 have h0 : @HeapOk (lone_ mx) w (liveB (fun _ => none) (fun _ => none)) (fun _ => none) 0 w (fun _ => none) :=
  @HeapOk.mk (lone_ mx) _ _ _ _ _ _ (fun _ _ => rfl) (fun i l b h => by cases h) (fun id b h => by cases h) (fun i j l l' b h => by cases h) (fun i l h => by cases h) (fun i l b h => by cases h) (fun i l b h => by cases h) rfl rfl rfl (Nat.le_refl _) (fun _ _ _ => rfl) (fun b h => h.elim) (fun i h => absurd h (Nat.not_lt_zero i)) (fun p hp => (hgl p hp).ext (Nat.le_refl _) (fun _ _ _ => rfl) fun _ _ _ => own_lone)
 unfold Meets at hm
 have := @hm cs (fun _ => none) 0 p (.d (.bool true)) none (by simp only [Spec.pure, hg]) hp (lone_ mx) w (fun _ => none) args.toList h0 (by omega) e3
 rw [show args.toList.toArray = args by simp] at this
 refine this.mono ?_
 rintro e w' ⟨v, S', rfl, hL, hs, hR⟩
 obtain ⟨_, hsame⟩ := hs rfl
 refine ⟨by rw [@R.bool_iff (lone_ mx)] at hR; rw [hR], ?_⟩
 have hH' := @Left.heap (lone_ mx) _ _ _ _ _ _ _ _ hL
 exact ⟨@HeapOk.os (lone_ mx) _ _ _ _ _ _ hH', @HeapOk.tape (lone_ mx) _ _ _ _ _ _ hH', @HeapOk.output (lone_ mx) _ _ _ _ _ _ hH', @HeapOk.size (lone_ mx) _ _ _ _ _ _ hH', hsame⟩
end
end Go.Vc
/- The Vc layer: a law's row out of its contract. -/
set_option linter.all false
namespace Go.Vc
open Go Go.RowKit Go.ChangeShapes Go.WideShapes Go.ChangeAt

section
variable {P : Program} {H : Type} {enc : TypeId × Value → H}

theorem trodAll_stays (hl : laidOutB P = true) {W W' : World} {sp' : Nat → Bool} : ∀ (ts : List TypeId) (vs : List Value) (ds : List (DataW H)) (ps : List MemPlace), (∀ t ∈ ts, P.readableRec t = true ∧ t < P.types.size) →
  DataW.TrodAll enc P W 0 (fun _ => true) true ts vs ds ps → (∀ p ∈ ps, W.sameAt W' p) → (∀ p ∈ ps, sp' p.block = true) → DataW.TrodAll enc P W' 0 sp' true ts vs ds ps := by
 intro ts
 induction ts with
 | nil =>
  intro vs ds ps _ h _ _
  obtain ⟨rfl, rfl, rfl⟩ := trodAll_nil h
  exact rfl
 | cons t ts ih =>
  intro vs ds ps hr h hs hsp
  obtain ⟨v, vs1, d, ds1, a, b, rfl, rfl, rfl, h1, h2⟩ := trodAll_cons h
  obtain ⟨hr1, hr2⟩ := hr t (by simp)
  exact ⟨a, b, WideElems.Trod_stays hl hr1 hr2 h1 (fun p hp => hs p (List.mem_append.2 (.inl hp))) (fun p hp => hsp p (List.mem_append.2 (.inl hp))),
   ih vs1 ds1 b (fun u hu => hr u (by simp [hu])) h2 (fun p hp => hs p (List.mem_append.2 (.inr hp))) (fun p hp => hsp p (List.mem_append.2 (.inr hp))), rfl⟩

theorem trodAll_len {w : World} {b : Nat} {sp : Nat → Bool} {hd : Bool} : ∀ (ts : List TypeId) (vs : List Value) (ds : List (DataW H)) (ps : List MemPlace), DataW.TrodAll enc P w b sp hd ts vs ds ps → ds.length = ts.length := by
 intro ts
 induction ts with
 | nil => intro vs ds ps h; obtain ⟨_, rfl, _⟩ := trodAll_nil h; rfl
 | cons t ts ih =>
  intro vs ds ps h
  obtain ⟨v, vs1, d, ds1, a, b, rfl, rfl, rfl, _, h2⟩ := trodAll_cons h
  simp [ih _ _ _ h2]

def LawSpec (s : ChangeSpec) (n : Nat) : Prop := s.vars = [] ∧ ∀ (H : Type) (ds : List (DataW H)), ds.length = n → (s.fn H ds).results = [.lit (.bool true)] ∧ (s.fn H ds).args = ds ∧ (s.fn H ds).vars = []

theorem law_post {fn : Func} {s : ChangeSpec} {fresh handsOn : Bool} {W W' : World} {args : Array Value} {ds gs : List (DataW H)} {before : List MemPlace} {tb : TypeId} (hl : laidOutB P = true) (hr : ∀ t ∈ fn.params.toList, P.readableRec t = true ∧ t < P.types.size)
  (hres : fn.resultTypes = #[tb]) (htb : P.underlying tb = some .bool) (hs : LawSpec s fn.params.size) (hW : DataW.Whole enc P fn.params.toList s.vars false W args.toList ds gs before) (hB : Below W.heap.size W W') :
  s.post enc P fn false fresh handsOn false W args (.bool true) W' := by
 obtain ⟨hv, hfn⟩ := hs
 have hW' := hW
 obtain ⟨p, q, hA, hV, rfl, hz, hn⟩ := hW
 rw [hv] at hV
 obtain ⟨rfl, rfl⟩ := trodVars_none hV
 have hlen : ds.length = fn.params.size := by have := trodAll_len _ _ _ _ hA; simpa using this
 obtain ⟨e1, e2, e3⟩ := hfn H (ds ++ []) (by simpa using hlen)
 have hlt : ∀ x ∈ p, x.block < W.heap.size := fun x hx => hW'.lt x (by simpa using hx)
 refine ⟨ds, [], p ++ [], [], p, [], hW', ?_, ?_, ?_, hB.frame _, fun h => by cases h⟩
 ·rw [e1, hres]
  exact trodAll_mk1 (shut_bool htb true)
 ·rw [e2, List.append_nil]
  exact trodAll_stays hl _ _ _ _ hr hA (fun x hx => hB.same (hlt x hx)) (fun x hx => by simpa using hlt x hx)
 ·rw [e3, hv]
  exact rfl

end
end Go.Vc
