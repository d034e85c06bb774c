/- The Vc layer, part 3. -/
import Derived.Test.YtmbjnkgpcbpclaaGreatV2
import Derived.RangeFuncIn
import Derived.RangeFuncSeq
import Derived.ProofKit
import Derived.DataOpen
import Derived.OpenShut
import Derived.SizedLaws
/- The Vc layer: functions that turn boxes that they are handed, or hand back new ones. -/
set_option linter.all false
namespace Go.Vc
open Go Go.RowKit

/-! ### numbers of boxes in values -/
def KV : AV → List Nat
 | .sl id _ _ => [id]
 | .ptr id _ _ => [id]
 | .mp id => [id]
 | _ => []
def JB : List AV → List Nat
 | [] => []
 | c :: cs => KV c ++ JB cs
def JA : AV → List Nat
 | .agg cs => JB cs
 | .clo _ cs => JB cs
 | c => KV c
def Mk : List AV → List Nat
 | [] => []
 | c :: cs => JA c ++ Mk cs
def Qc : Option Bk → List Nat
 | some (.one _ cs) => JB cs
 | _ => []
def Ds : List Nat → List Nat → List Nat
 | l, [] => l
 | l, i :: r => if l.contains i then Ds l r else Ds (l ++ [i]) r
def Kf (H : Ap) : List Nat → List Nat
 | [] => []
 | i :: r => Qc (H i) ++ Kf H r
def HR (args : List AV) (H : Ap) : List Nat := Ds (Ds [] (Mk args)) (Kf H (Ds [] (Mk args)))

def C6 : List Nat → Nat → Option Nat
 | [], _ => none
 | d :: r, i => if i = d then some 0 else match C6 r i with
  | some j => some (j + 1)
  | none => none
def Dw : List Nat → Bool
 | [] => true
 | d :: r => !r.contains d && Dw r

theorem Df : ∀ {l : List Nat} {i j : Nat}, C6 l i = some j → l[j]? = some i := by
 intro l
 induction l with
 | nil => intro i j h; cases h
 | cons d r ih =>
  intro i j h
  unfold C6 at h
  split at h
  ·rename_i hi; cases h; simp [hi]
  ·split at h
   ·rename_i k hk; cases h; simpa using ih hk
   ·cases h
theorem Gb : ∀ {l : List Nat} {i : Nat}, C6 l i = none → i ∉ l := by
 intro l
 induction l with
 | nil => intro i _ h; cases h
 | cons d r ih =>
  intro i h hm
  unfold C6 at h
  split at h
  ·cases h
  ·rename_i hi
   split at h
   ·cases h
   ·rename_i hn
    rcases List.mem_cons.1 hm with rfl | hm
    ·exact hi rfl
    ·exact ih hn hm
theorem Ld : ∀ {l : List Nat} {i j : Nat}, Dw l = true → l[j]? = some i → C6 l i = some j := by
 intro l
 induction l with
 | nil => intro i j _ h; simp at h
 | cons d r ih =>
  intro i j hn h
  simp only [Dw, Bool.and_eq_true, Bool.not_eq_true'] at hn
  unfold C6
  cases j with
  | zero => simp at h; simp [h]
  | succ j =>
   have hr : r[j]? = some i := by simpa using h
   have : i ≠ d := fun e => by
    have : r.contains d = true := by rw [List.contains_iff_mem]; exact List.mem_of_getElem? (e ▸ hr)
    rw [hn.1] at this; cases this
   rw [if_neg this, ih hn.2 hr]

/-! ### the callee's numbers -/
def JD (ds : List Nat) : AV → Option AV
 | .sl id off len => match C6 ds id with
  | some j => some (.sl j off len)
  | none => none
 | .ptr id e f => match C6 ds id with
  | some j => some (.ptr j e f)
  | none => none
 | .mp id => match C6 ds id with
  | some j => some (.mp j)
  | none => none
 | .d x => some (.d x)
 | .ip sz xs e f => some (.ip sz xs e f)
 | .any => some .any
 | _ => none
def Mt (ds : List Nat) : List AV → Option (List AV)
 | [] => some []
 | c :: cs => match JD ds c, Mt ds cs with
  | some c', some cs' => some (c' :: cs')
  | _, _ => none
def JE (ds : List Nat) : AV → Option AV
 | .agg cs => match Mt ds cs with
  | some cs' => some (.agg cs')
  | none => none
 | .clo fn cs => match Mt ds cs with
  | some cs' => some (.clo fn cs')
  | none => none
 | c => JD ds c
def Si (ds : List Nat) : List AV → Option (List AV)
 | [] => some []
 | c :: cs => match JE ds c, Si ds cs with
  | some c', some cs' => some (c' :: cs')
  | _, _ => none
def FG (ds : List Nat) : Option Bk → Option Bk
 | some (.vec t s xs) => some (.vec t s xs)
 | some (.one t cs) => match Mt ds cs with
  | some cs' => some (.one t cs')
  | none => none
 | some (.ob o) => some (.ob o)
 | _ => none
def GX (ds : List Nat) (H : Ap) : List Nat → Option (List (Option Bk))
 | [] => some []
 | d :: r => match FG ds (H d), GX ds H r with
  | some b, some bs => some (some b :: bs)
  | _, _ => none

/-! ### and back -/
def J1 (ds : List Nat) (n i : Nat) : Nat := match ds[i]? with
 | some d => d
 | none => n + (i - ds.length)
def SO (ds : List Nat) (n : Nat) : AV → AV
 | .sl i off len => .sl (J1 ds n i) off len
 | .ptr i e f => .ptr (J1 ds n i) e f
 | .mp i => .mp (J1 ds n i)
 | .d x => .d x
 | .ip sz xs e f => .ip sz xs e f
 | _ => .any
def L7 (ds : List Nat) (n : Nat) : List AV → List AV
 | [] => []
 | c :: cs => SO ds n c :: L7 ds n cs
def OX (ds : List Nat) (n : Nat) : AV → AV
 | .agg cs => .agg (L7 ds n cs)
 | .clo fn cs => .clo fn (L7 ds n cs)
 | c => SO ds n c
def Ie (ds : List Nat) (n : Nat) : List AV → List AV
 | [] => []
 | c :: cs => OX ds n c :: Ie ds n cs
def Qw (ds : List Nat) (n : Nat) : AV → AV
 | .tup cs => .tup (Ie ds n cs)
 | c => OX ds n c
def DA (ds : List Nat) (n : Nat) : Option Bk → Option Bk
 | some (.vec t s xs) => some (.vec t s xs)
 | some (.one t cs) => some (.one t (L7 ds n cs))
 | some (.ob o) => some (.ob o)
 | none => none
def L6 (ds : List Nat) (n : Nat) (H : Ap) (bf : List (Option Bk)) : Ap := fun i =>
 if i < n then match C6 ds i with
  | some j => DA ds n (As bf j)
  | none => H i
 else DA ds n (As bf (ds.length + (i - n)))

def CT : List (Option Bk) → Bool
 | [] => true
 | some _ :: r => CT r
 | none :: _ => false

abbrev Dr := List AV → List (Option Bk) → Option (Prop × AV × List (Option Bk))

def Ey (g : Dr) (ds : List Nat) (args : List AV) (H : Ap) (n : Nat) : Option (Prop × AV × Option (Ap × Nat)) :=
 match Si ds args, GX ds H ds with
 | some ia, some bl => match g ia bl with
  | some (p, r, bf) => if Dw ds = true ∧ ds.length ≤ bf.length ∧ CT (bf.drop ds.length) = true then some (p, Qw ds n r, some (L6 ds n H bf, n + (bf.length - ds.length))) else none
  | none => none
 | _, _ => none

def Spec.gen (g : Dr) : Spec := ⟨HR, fun args H n => Ey g (HR args H) args H n⟩
def Spec.fresh (g : Dr) : Spec := ⟨fun _ _ => [], fun args H n => Ey g [] args H n⟩

def UT {P : Program} (E : Bo P) (rs : List ResultVar) (m : Nat) (r : AV) (bf : List (Option Bk)) : Exit → St → Prop := fun e st =>
 (e = .normal ∨ e = .ret) ∧ match Gp E st.H st.fr rs with
  | some (p, cs) => p ∧ ∃ ρ : Ren, (Eu ρ && (ρ.take m == (List.range m).map some)) = true ∧ FK ρ st.H ρ bf ∧ mt ρ st.H (Gw cs) r
  | none => False

section
variable {F : AU} {P : Program} {w w' : World} {S S2 : Lays} {n m k : Nat} {ds : List Nat} {hlt : ∀ b, @own F S b → b < w.heap.size} {H : Ap}

theorem Fk {i j : Nat} (h : C6 ds i = some j) : pick ds S j = S i := by
 unfold pick; simp only [Df h]

theorem Lb {c c' : AV} (h : JD ds c = some c') {v : Value} (hv : @R F w S n c v) : @R (A1 F w S hlt ds) w (pick ds S) ds.length c' v := by
 have mv : ∀ {d : D} {v : Value}, RD w (@own F S) d v → RD w (@own (A1 F w S hlt ds) (pick ds S)) d v := fun h => h.ext (Nat.le_refl _) (fun _ _ _ => rfl) (fun b _ hb hb' => hb (DE hb'))
 unfold JD at h
 split at h
 ·rename_i id off len
  split at h
  ·rename_i j hj
   cases h
   have hjl : j < ds.length := (List.getElem?_eq_some_iff.1 (Df hj)).1
   cases hv with
   | slDead _ _ _ _ hn hS => exact @R.slDead (A1 F w S hlt ds) _ _ _ _ _ _ _ hjl ((Fk hj).trans hS)
   | sl _ _ _ o l hn hS hc ho h0 => exact @R.sl (A1 F w S hlt ds) _ _ _ _ _ _ o l hjl ((Fk hj).trans hS) hc ho h0
  ·cases h
 ·rename_i id e f
  split at h
  ·rename_i j hj
   cases h
   have hjl : j < ds.length := (List.getElem?_eq_some_iff.1 (Df hj)).1
   cases hv with
   | ptrDead _ _ _ _ hn hS => exact @R.ptrDead (A1 F w S hlt ds) _ _ _ _ _ _ _ hjl ((Fk hj).trans hS)
   | ptr _ _ _ b l hn hS hb => exact @R.ptr (A1 F w S hlt ds) _ _ _ _ _ _ b l hjl ((Fk hj).trans hS) hb
  ·cases h
 ·rename_i id
  split at h
  ·rename_i j hj
   cases h
   have hjl : j < ds.length := (List.getElem?_eq_some_iff.1 (Df hj)).1
   cases hv with
   | mpDead _ _ hn hS => exact @R.mpDead (A1 F w S hlt ds) _ _ _ _ _ hjl ((Fk hj).trans hS)
   | mp _ l hn hS => exact @R.mp (A1 F w S hlt ds) _ _ _ _ l hjl ((Fk hj).trans hS)
  ·cases h
 ·cases h
  cases hv with | d hx => exact @R.d (A1 F w S hlt ds) _ _ _ _ _ (mv hx)
 ·cases h
  cases hv with | ip _ _ _ _ b o u hb hO hc hr => exact @R.ip (A1 F w S hlt ds) _ _ _ _ _ _ _ b o u hb (fun h => hO (DE h)) hc (fun e f c hh => mv (hr e f c hh))
 ·cases h
  exact @R.any (A1 F w S hlt ds) _ _ _ _
 ·cases h

theorem NM : ∀ {cs cs' : List AV}, Mt ds cs = some cs' → cs'.length = cs.length ∧ ∀ (i : Nat) (c' : AV), cs'[i]? = some c' → ∃ c, cs[i]? = some c ∧ JD ds c = some c' := by
 intro cs
 induction cs with
 | nil => intro cs' h; cases h; exact ⟨rfl, fun i c' h => by simp at h⟩
 | cons c cs ih =>
  intro cs' h
  unfold Mt at h
  split at h
  ·rename_i c1 cs1 h1 h2
   cases h
   obtain ⟨h3, h4⟩ := ih h2
   refine ⟨by simp [h3], fun i d hd => ?_⟩
   cases i with
   | zero => simp at hd; subst hd; exact ⟨c, rfl, h1⟩
   | succ i => simpa using h4 i d (by simpa using hd)
  ·cases h

theorem Sg {c c' : AV} (h : JE ds c = some c') {v : Value} (hv : @R F w S n c v) : @R (A1 F w S hlt ds) w (pick ds S) ds.length c' v := by
 unfold JE at h
 split at h
 ·split at h
  ·rename_i cs' hcs
   cases h
   obtain ⟨h1, h2⟩ := NM hcs
   cases hv with | agg _ us hl h1' hr =>
   exact @R.agg (A1 F w S hlt ds) _ _ _ _ us (by omega) h1' (fun i c u hc hu => by obtain ⟨c0, h3, h4⟩ := h2 i c hc; exact Lb h4 (hr i c0 u h3 hu))
  ·cases h
 ·split at h
  ·rename_i cs' hcs
   cases h
   obtain ⟨h1, h2⟩ := NM hcs
   cases hv with | clo _ _ us hl hr =>
   exact @R.clo (A1 F w S hlt ds) _ _ _ _ _ us (by omega) (fun i c u hc hu => by obtain ⟨c0, h3, h4⟩ := h2 i c hc; exact Lb h4 (hr i c0 u h3 hu))
  ·cases h
 ·exact Lb h hv

theorem Sj : ∀ {cs cs' : List AV}, Si ds cs = some cs' → cs'.length = cs.length ∧ ∀ (i : Nat) (c' : AV), cs'[i]? = some c' → ∃ c, cs[i]? = some c ∧ JE ds c = some c' := by
 intro cs
 induction cs with
 | nil => intro cs' h; cases h; exact ⟨rfl, fun i c' h => by simp at h⟩
 | cons c cs ih =>
  intro cs' h
  unfold Si at h
  split at h
  ·rename_i c1 cs1 h1 h2
   cases h
   obtain ⟨h3, h4⟩ := ih h2
   refine ⟨by simp [h3], fun i d hd => ?_⟩
   cases i with
   | zero => simp at hd; subst hd; exact ⟨c, rfl, h1⟩
   | succ i => simpa using h4 i d (by simpa using hd)
  ·cases h

theorem Lc : ∀ {l : List Nat} {bs : List (Option Bk)}, GX ds H l = some bs → bs.length = l.length ∧ ∀ (i : Nat) (b : Bk), As bs i = some b → ∃ d, l[i]? = some d ∧ FG ds (H d) = some b := by
 intro l
 induction l with
 | nil => intro bs h; cases h; exact ⟨rfl, fun i b h => by simp [As] at h⟩
 | cons d l ih =>
  intro bs h
  unfold GX at h
  split at h
  ·rename_i b1 bs1 h1 h2
   cases h
   obtain ⟨h3, h4⟩ := ih h2
   refine ⟨by simp [h3], fun i b hb => ?_⟩
   cases i with
   | zero => simp [As] at hb; subst hb; exact ⟨d, rfl, h1⟩
   | succ i => simpa using h4 i b (by simpa [As] using hb)
  ·cases h
theorem Kj : ∀ {l : List Nat} {bs : List (Option Bk)}, GX ds H l = some bs → ∀ d ∈ l, (H d).isSome = true := by
 intro l
 induction l with
 | nil => intro bs h d hd; cases hd
 | cons d l ih =>
  intro bs h e he
  unfold GX at h
  split at h
  ·rename_i b1 bs1 h1 h2
   rcases List.mem_cons.1 he with rfl | he
   ·cases hd : H e with
    | none => rw [hd] at h1; cases h1
    | some => rfl
   ·exact ih h2 e he
  ·cases h

theorem Sk {b b' : Bk} (h : FG ds (some b) = some b') {l : Lay} (hb : @Bx F w S n b l) : @Bx (A1 F w S hlt ds) w (pick ds S) ds.length b' l := by
 have mv : ∀ {d : D} {v : Value}, RD w (@own F S) d v → RD w (@own (A1 F w S hlt ds) (pick ds S)) d v := fun h => h.ext (Nat.le_refl _) (fun _ _ _ => rfl) (fun b _ hb hb' => hb (DE hb'))
 cases b with
 | vec t s xs =>
  cases h
  obtain ⟨h1, h2, h3, h4, h5, h6⟩ := hb
  refine ⟨h1, h2, h3, h4, h5, fun b hb => ?_⟩
  obtain ⟨cur, e1, e2, e3⟩ := h6 b hb
  exact ⟨cur, e1, e2, fun e f c hh => by obtain ⟨u, e4, e5⟩ := e3 e f c hh; exact ⟨u, e4, mv e5⟩⟩
 | one t cs =>
  unfold FG at h
  simp only at h
  split at h
  ·rename_i cs' hcs
   cases h
   obtain ⟨h1, h2⟩ := NM hcs
   obtain ⟨g1, g2, b, hb, cur, e1, e2, e3⟩ := hb
   refine ⟨by omega, g2, b, hb, cur, e1, by omega, fun f c hc => ?_⟩
   obtain ⟨c0, h3, h4⟩ := h2 f c hc
   obtain ⟨u, e4, e5, e6⟩ := e3 f c0 h3
   exact ⟨u, e4, e5, Lb h4 e6⟩
  ·cases h
 | ob o =>
  cases h
  exact o.same hb (fun b _ hb hb' => hb (DE hb'))

theorem SY (hn : Dw ds = true) {i j d : Nat} (hi : ds[i]? = some d) (hj : ds[j]? = some d) : i = j := by
 have := (Ld hn hi).symm.trans (Ld hn hj)
 cases this; rfl

theorem Ag.view {W0 : World} {M0 : Nat → Prop} (hH : @Ag F W0 M0 H n w S) (hn : Dw ds = true) {bl : List (Option Bk)} (hb : GX ds H ds = some bl) :
  @Ag (A1 F w S hlt ds) w (fun b => ∃ j l, pick ds S j = some l ∧ l.has b) (As bl) bl.length w (pick ds S) := by
 obtain ⟨hl, hB⟩ := Lc hb
 refine @Ag.mk (A1 F w S hlt ds) _ _ _ _ _ _ ?_ ?_ ?_ ?_ ?_ ?_ ?_ rfl rfl rfl (Nat.le_refl _) (fun _ _ _ => rfl) ?_ ?_ (fun p hp => (hH.gl p hp).ext (Nat.le_refl _) (fun _ _ _ => rfl) (fun b _ hb h => hb (DE h)))
 ·intro j hj
  unfold pick
  rw [List.getElem?_eq_none (by omega)]
 ·intro j l b h1 h2
  obtain ⟨d, _, h3⟩ := Ce h1
  exact hH.lt2 d l b h3 h2
 ·intro j b h
  obtain ⟨d, h1, h2⟩ := hB j b h
  cases hd : H d with
  | none => rw [hd] at h2; cases h2
  | some b0 =>
   rw [hd] at h2
   obtain ⟨l, h3, h4⟩ := hH.box d b0 hd
   refine ⟨l, by unfold pick; simp only [h1]; exact h3, ?_⟩
   rw [hl]
   exact Sk h2 h4
 ·intro i j l l' b hi hj h1 h2
  obtain ⟨d, e1, e2⟩ := Ce hi
  obtain ⟨d', e3, e4⟩ := Ce hj
  have := hH.inj2 d d' l l' b e2 e4 h1 h2
  subst this
  exact SY hn e1 e3
 ·intro j l hj
  obtain ⟨d, _, h3⟩ := Ce hj
  exact hH.nod d l h3
 ·intro j l b hb' hj hp
  obtain ⟨d, e1, e2⟩ := Ce hj
  obtain ⟨d', h1, h2⟩ := hB j b hb'
  rw [e1] at h1; cases h1
  cases hd : H d with
  | none => rw [hd] at h2; cases h2
  | some b0 =>
   rw [hd] at h2
   refine hH.plain d l b0 hd e2 ?_
   cases b0 with
   | ob o => cases h2; exact hp
   | _ => rfl
 ·intro j l b _ h1 h2
  exact .inr ⟨j, l, h1, h2⟩
 ·intro b h
  exact h
 ·intro j h
  exact ⟨by have : j < ds.length := h; omega, .inl rfl⟩

/-! ### behind -/
def Hc (ds : List Nat) (n : Nat) (S S2 : Lays) : Lays := fun i =>
 if i < n then match C6 ds i with
  | some j => S2 j
  | none => S i
 else S2 (ds.length + (i - n))

theorem HB (hn : Dw ds = true) (hd : ∀ d ∈ ds, d < n) (i : Nat) : Hc ds n S S2 (J1 ds n i) = S2 i := by
 unfold Hc J1
 cases hi : ds[i]? with
 | some d =>
  simp only
  rw [if_pos (hd d (List.mem_of_getElem? hi)), Ld hn hi]
 | none =>
  have : ds.length ≤ i := by
   rw [List.getElem?_eq_none_iff] at hi; exact hi
  simp only
  rw [if_neg (by omega)]
  congr 1
  omega
end
end Go.Vc
/- The Vc layer: functions that turn boxes that they are handed, or hand back new ones: their contracts. -/
set_option linter.all false
namespace Go.Vc
open Go Go.RowKit

section
variable {F : AU} {P : Program} {w w' : World} {S S2 : Lays} {n : Nat} {ds : List Nat} {hlt : ∀ b, @own F S b → b < w.heap.size} {H : Ap} {bf : List (Option Bk)} {W0 : World} {M0 M1 : Nat → Prop}

structure Handed (F : AU) (H : Ap) (n : Nat) (w : World) (S : Lays) (ds : List Nat) : Prop where
 nd : Dw ds = true
 live : ∀ d ∈ ds, ∃ l, S d = some l
 lt : ∀ d ∈ ds, d < n
 alive : ∀ d ∈ ds, (H d).isSome = true

theorem Handed.mk' (hH : @Ag F W0 M0 H n w S) (hn : Dw ds = true) (hl : ∀ d ∈ ds, (H d).isSome = true) : Handed F H n w S ds := by
 have live : ∀ d ∈ ds, ∃ l, S d = some l := fun d hd => by
  obtain ⟨b, hb⟩ := Option.isSome_iff_exists.1 (hl d hd)
  obtain ⟨l, h1, _⟩ := hH.box d b hb
  exact ⟨l, h1⟩
 refine ⟨hn, live, fun d hd => ?_, hl⟩
 obtain ⟨l, h1⟩ := live d hd
 exact hH.lt h1

theorem Mu {l : List Nat} {i j : Nat} (h : C6 l i = some j) : i ∈ l := List.mem_of_getElem? (Df h)

theorem He (hD : Handed F H n w S ds) (hH : @Ag F W0 M0 H n w S) {b : Nat} (h : @own F (Hc ds n S S2) b) : @own (A1 F w S hlt ds) S2 b := by
 rcases h with h | ⟨i, l, h1, h2⟩
 ·refine .inl ⟨.inl h, fun j l hj hb => ?_⟩
  obtain ⟨d, _, h3⟩ := Ce hj
  exact (hH.far b (AU.sub b h)).2 d l h3 hb
 ·unfold Hc at h1
  split at h1
  ·split at h1
   ·rename_i j hj; exact .inr ⟨j, l, h1, h2⟩
   ·rename_i hno
    refine .inl ⟨.inr ⟨i, l, h1, h2⟩, fun j l' hj hb => ?_⟩
    obtain ⟨d, h3, h4⟩ := Ce hj
    have := hH.inj2 d i l' l b h4 h1 hb h2
    subst this
    exact Gb hno (List.mem_of_getElem? h3)
  ·exact .inr ⟨_, l, h1, h2⟩

theorem HA (hD : Handed F H n w S ds) {m i : Nat} (hm : ds.length ≤ m) (hi : i < m) : J1 ds n i < n + (m - ds.length) := by
 unfold J1
 cases h : ds[i]? with
 | some d => have := hD.lt d (List.mem_of_getElem? h); simp only; omega
 | none =>
  have : ds.length ≤ i := by rw [List.getElem?_eq_none_iff] at h; exact h
  simp only; omega

theorem Ll (hD : Handed F H n w S ds) (hH : @Ag F W0 M0 H n w S) {m : Nat} (hm : ds.length ≤ m) {c : AV} {v : Value} (hv : @R (A1 F w S hlt ds) w' S2 m c v) : @R F w' (Hc ds n S S2) (n + (m - ds.length)) (SO ds n c) v := by
 have mv : ∀ {d : D} {v : Value}, RD w' (@own (A1 F w S hlt ds) S2) d v → RD w' (@own F (Hc ds n S S2)) d v := fun h => h.ext (Nat.le_refl _) (fun _ _ _ => rfl) (fun b _ hb hb' => hb (He hD hH hb'))
 cases hv with
 | any v => exact .any _
 | d hx => exact .d (mv hx)
 | ip sz xs e f b o u hb hO hc hr => exact .ip sz xs e f b o u hb (fun h => hO (He hD hH h)) hc (fun e f c hh => mv (hr e f c hh))
 | slDead id off len v hn hS => exact .slDead _ off len v (HA hD hm hn) ((HB hD.nd hD.lt id).trans hS)
 | sl id off len o l hn hS hc ho h0 => exact .sl _ off len o l (HA hD hm hn) ((HB hD.nd hD.lt id).trans hS) hc ho h0
 | ptrDead id e f v hn hS => exact .ptrDead _ e f v (HA hD hm hn) ((HB hD.nd hD.lt id).trans hS)
 | ptr id e f b l hn hS hb => exact .ptr _ e f b l (HA hD hm hn) ((HB hD.nd hD.lt id).trans hS) hb
 | mpDead id v hn hS => exact .mpDead _ v (HA hD hm hn) ((HB hD.nd hD.lt id).trans hS)
 | mp id l hn hS => exact .mp _ l (HA hD hm hn) ((HB hD.nd hD.lt id).trans hS)
 | agg cs us hl h1 hr => exact .any _
 | tup cs us hl hr => exact .any _
 | clo fn cs us hl hr => exact .any _
 | cond b c v hr hu => exact .any _

theorem Lm {cs : List AV} : ∀ {i : Nat} {c : AV}, (L7 ds n cs)[i]? = some c → ∃ c0, cs[i]? = some c0 ∧ c = SO ds n c0 := by
 induction cs with
 | nil => intro i c h; simp [L7] at h
 | cons c cs ih =>
  intro i d h
  cases i with
  | zero => simp [L7] at h; exact ⟨c, rfl, h.symm⟩
  | succ i => simpa using ih (by simpa [L7] using h)
theorem Fj (cs : List AV) : (L7 ds n cs).length = cs.length := by
 induction cs with
 | nil => rfl
 | cons c cs ih => simp [L7, ih]
theorem SS {cs : List AV} : ∀ {i : Nat} {c : AV}, (Ie ds n cs)[i]? = some c → ∃ c0, cs[i]? = some c0 ∧ c = OX ds n c0 := by
 induction cs with
 | nil => intro i c h; simp [Ie] at h
 | cons c cs ih =>
  intro i d h
  cases i with
  | zero => simp [Ie] at h; exact ⟨c, rfl, h.symm⟩
  | succ i => simpa using ih (by simpa [Ie] using h)
theorem M6 (cs : List AV) : (Ie ds n cs).length = cs.length := by
 induction cs with
 | nil => rfl
 | cons c cs ih => simp [Ie, ih]

theorem SP (hD : Handed F H n w S ds) (hH : @Ag F W0 M0 H n w S) {m : Nat} (hm : ds.length ≤ m) {c : AV} {v : Value} (hv : @R (A1 F w S hlt ds) w' S2 m c v) : @R F w' (Hc ds n S S2) (n + (m - ds.length)) (OX ds n c) v := by
 unfold OX
 split
 ·rename_i cs
  cases hv with | agg _ us hl h1 hr =>
  exact .agg _ us (by rw [Fj]; exact hl) h1 (fun i c u hc hu => by obtain ⟨c0, h3, rfl⟩ := Lm hc; exact Ll hD hH hm (hr i c0 u h3 hu))
 ·rename_i fn cs
  cases hv with | clo _ _ us hl hr =>
  exact .clo _ _ us (by rw [Fj]; exact hl) (fun i c u hc hu => by obtain ⟨c0, h3, rfl⟩ := Lm hc; exact Ll hD hH hm (hr i c0 u h3 hu))
 ·exact Ll hD hH hm hv

theorem SQ (hD : Handed F H n w S ds) (hH : @Ag F W0 M0 H n w S) {m : Nat} (hm : ds.length ≤ m) {c : AV} {v : Value} (hv : @R (A1 F w S hlt ds) w' S2 m c v) : @R F w' (Hc ds n S S2) (n + (m - ds.length)) (Qw ds n c) v := by
 unfold Qw
 split
 ·rename_i cs
  cases hv with | tup _ us hl hr =>
  exact .tup _ us (by rw [M6]; exact hl) (fun i c u hc hu => by obtain ⟨c0, h3, rfl⟩ := SS hc; exact SP hD hH hm (hr i c0 u h3 hu))
 ·exact SP hD hH hm hv

theorem SR (hD : Handed F H n w S ds) (hH : @Ag F W0 M0 H n w S) {m : Nat} (hm : ds.length ≤ m) {b b' : Bk} (hb' : DA ds n (some b) = some b') {l : Lay} (hb : @Bx (A1 F w S hlt ds) w' S2 m b l) : @Bx F w' (Hc ds n S S2) (n + (m - ds.length)) b' l := by
 have mv : ∀ {d : D} {v : Value}, RD w' (@own (A1 F w S hlt ds) S2) d v → RD w' (@own F (Hc ds n S S2)) d v := fun h => h.ext (Nat.le_refl _) (fun _ _ _ => rfl) (fun b _ hb hb' => hb (He hD hH hb'))
 cases b with
 | vec t s xs =>
  cases hb'
  obtain ⟨h1, h2, h3, h4, h5, h6⟩ := hb
  refine ⟨h1, h2, h3, h4, h5, fun b hb => ?_⟩
  obtain ⟨cur, e1, e2, e3⟩ := h6 b hb
  exact ⟨cur, e1, e2, fun e f c hh => by obtain ⟨u, e4, e5⟩ := e3 e f c hh; exact ⟨u, e4, mv e5⟩⟩
 | one t cs =>
  cases hb'
  obtain ⟨g1, g2, b, hb, cur, e1, e2, e3⟩ := hb
  refine ⟨by rw [Fj]; exact g1, g2, b, hb, cur, e1, by rw [Fj]; exact e2, fun f c hc => ?_⟩
  obtain ⟨c0, h3, rfl⟩ := Lm hc
  obtain ⟨u, e4, e5, e6⟩ := e3 f c0 h3
  exact ⟨u, e4, e5, Ll hD hH hm e6⟩
 | ob o =>
  cases hb'
  exact o.same hb (fun b _ hb hb' => hb (He hD hH hb'))

theorem LJ : ∀ {l : List (Option Bk)} {i : Nat}, CT l = true → i < l.length → ∃ b, l[i]? = some (some b) := by
 intro l
 induction l with
 | nil => intro i _ h; cases h
 | cons b l ih =>
  intro i h hi
  cases b with
  | none => cases h
  | some b =>
   cases i with
   | zero => exact ⟨b, rfl⟩
   | succ i => simpa using ih (i := i) h (by simpa using hi)

theorem Ag.unview (hH : @Ag F w (Fv H S) H n w S) (hD : Handed F H n w S ds) (hlen : ds.length ≤ bf.length) (hall : CT (bf.drop ds.length) = true)
  (h2 : @Ag (A1 F w S hlt ds) w (fun b => ∃ j l, pick ds S j = some l ∧ l.has b) (As bf) bf.length w' S2) :
  @Left F H n w S (L6 ds n H bf) (n + (bf.length - ds.length)) w' (Hc ds n S S2) := by
 have hM : ∀ b, (∃ j l, pick ds S j = some l ∧ l.has b) → Fv H S b := by
  rintro b ⟨j, l, h1, h3⟩
  obtain ⟨d, h4, h5⟩ := Ce h1
  exact ⟨d, l, hD.alive d (List.mem_of_getElem? h4), h5, h3⟩
 have hMo : ∀ b, (∃ j l, pick ds S j = some l ∧ l.has b) → @own F S b := by
  rintro b ⟨j, l, h1, h3⟩
  obtain ⟨d, h4, h5⟩ := Ce h1
  exact .inr ⟨d, l, h5, h3⟩
 have hpin : ∀ i j, C6 ds i = some j → S2 j = S i ∨ S2 j = none := by
  intro i j hj
  have := (@Ag.pin (A1 F w S hlt ds) _ _ _ _ _ _ h2 j (List.getElem?_eq_some_iff.1 (Df hj)).1).2
  rwa [show (A1 F w S hlt ds).pin j = S i from Fk hj] at this
 have hE : @BS F w S n w' (Hc ds n S S2) (n + (bf.length - ds.length)) := by
  refine @BS.mk F _ _ _ _ _ _ (by omega) (@Ag.size (A1 F w S hlt ds) _ _ _ _ _ _ h2) (fun i hi => ?_) (fun b hb hno h => ?_) (fun b hb hno => ?_)
  ·unfold Hc
   rw [if_pos hi]
   split
   ·rename_i j hj; exact hpin i j hj
   ·exact .inl rfl
  ·rcases He (hlt := hlt) hD hH h with h | ⟨j, l, h3, h4⟩
   ·exact hno h.1
   ·exact (@Ag.far (A1 F w S hlt ds) _ _ _ _ _ _ h2 b ⟨hb, fun j l hj hb' => hno (hMo b ⟨j, l, hj, hb'⟩)⟩).2 j l h3 h4
  ·exact @Ag.same (A1 F w S hlt ds) _ _ _ _ _ _ h2 b hb (fun h => hno (hMo b h))
 have hold : ∀ i l b, i < n → C6 ds i = none → S i = some l → l.has b → w'.heap[b]? = w.heap[b]? := by
  intro i l b hi hno hS hb
  refine @Ag.same (A1 F w S hlt ds) _ _ _ _ _ _ h2 b (hH.lt2 i l b hS hb) ?_
  rintro ⟨j, l', h1, h3⟩
  obtain ⟨d, h4, h5⟩ := Ce h1
  have := hH.inj2 d i l' l b h5 hS h3 hb
  subst this
  exact Gb hno (List.mem_of_getElem? h4)
 refine ⟨?_, hE, fun i hi hHi => ?_, fun i hi hHi => ?_⟩
 ·refine @Ag.mk F _ _ _ _ _ _ ?_ ?_ ?_ ?_ ?_ ?_ ?_ (@Ag.os (A1 F w S hlt ds) _ _ _ _ _ _ h2) (@Ag.tape (A1 F w S hlt ds) _ _ _ _ _ _ h2) (@Ag.output (A1 F w S hlt ds) _ _ _ _ _ _ h2) hE.size (fun b hb hno => ?_) ?_ ?_ (hH.glx hE)
  ·intro i hi
   unfold Hc
   rw [if_neg (by omega)]
   exact @Ag.bnd (A1 F w S hlt ds) _ _ _ _ _ _ h2 _ (by omega)
  ·intro i l b h1 h3
   unfold Hc at h1
   split at h1
   ·split at h1
    ·exact @Ag.lt2 (A1 F w S hlt ds) _ _ _ _ _ _ h2 _ l b h1 h3
    ·exact Nat.lt_of_lt_of_le (hH.lt2 i l b h1 h3) hE.size
   ·exact @Ag.lt2 (A1 F w S hlt ds) _ _ _ _ _ _ h2 _ l b h1 h3
  ·intro i b hb
   have boxed : ∀ j, DA ds n (As bf j) = some b → ∃ l, S2 j = some l ∧ @Bx F w' (Hc ds n S S2) (n + (bf.length - ds.length)) b l := by
    intro j hj
    cases hg : As bf j with
    | none => rw [hg] at hj; cases hj
    | some b0 =>
     rw [hg] at hj
     obtain ⟨l, h3, h4⟩ := @Ag.box (A1 F w S hlt ds) _ _ _ _ _ _ h2 j b0 hg
     exact ⟨l, h3, SR hD hH hlen hj h4⟩
   unfold L6 at hb
   split at hb
   ·rename_i hi
    split at hb
    ·rename_i j hj
     obtain ⟨l, h3, h4⟩ := boxed j hb
     refine ⟨l, ?_, h4⟩
     unfold Hc
     rw [if_pos hi]
     simp only [hj]
     exact h3
    ·rename_i hno
     obtain ⟨l, h3, h4⟩ := hH.box i b hb
     refine ⟨l, ?_, @Bx.ext F _ _ _ _ _ _ _ _ h4 hE (fun k hk => hold i l k hi hno h3 hk)⟩
     unfold Hc
     rw [if_pos hi]
     simp only [hno]
     exact h3
   ·rename_i hi
    obtain ⟨l, h3, h4⟩ := boxed _ hb
    refine ⟨l, ?_, h4⟩
    unfold Hc
    rw [if_neg hi]
    exact h3
  ·intro i j l l' b hi hj h1 h3
   -- an old box of the caller's, not handed over, lies in a block that is far from the callee
   have apart : ∀ {i k l l'}, C6 ds i = none → S i = some l → S2 k = some l' → l.has b → l'.has b → False := by
    intro i k l l' hno hS h2k hb hb'
    refine (@Ag.far (A1 F w S hlt ds) _ _ _ _ _ _ h2 b ⟨hH.lt2 i l b hS hb, fun j l' hj hb' => ?_⟩).2 k l' h2k hb'
    obtain ⟨d, h4, h5⟩ := Ce hj
    have := hH.inj2 d i l' l b h5 hS hb' hb
    subst this
    exact Gb hno (List.mem_of_getElem? h4)
   have same2 : ∀ {k k' : Nat}, S2 k = some l → S2 k' = some l' → k = k' := fun h4 h5 => @Ag.inj2 (A1 F w S hlt ds) _ _ _ _ _ _ h2 _ _ l l' b h4 h5 h1 h3
   unfold Hc at hi hj
   split at hi
   ·split at hi
    ·rename_i hin a ha
     split at hj
     ·split at hj
      ·rename_i hjn a' ha'
       have := same2 hi hj
       subst this
       have e1 := Df ha
       rw [Df ha'] at e1
       cases e1; rfl
      ·rename_i hno; exact (apart hno hj hi h3 h1).elim
     ·rename_i hjn
      have := same2 hi hj
      have hk := (List.getElem?_eq_some_iff.1 (Df ha)).1
      omega
    ·rename_i hin hno
     split at hj
     ·split at hj
      ·exact (apart hno hi hj h1 h3).elim
      ·exact hH.inj2 i j l l' b hi hj h1 h3
     ·exact (apart hno hi hj h1 h3).elim
   ·rename_i hin
    split at hj
    ·split at hj
     ·rename_i hjn a' ha'
      have := same2 hi hj
      have hk := (List.getElem?_eq_some_iff.1 (Df ha')).1
      omega
     ·rename_i hno; exact (apart hno hj hi h3 h1).elim
    ·have := same2 hi hj
     omega
  ·intro i l hi
   unfold Hc at hi
   split at hi
   ·split at hi
    ·exact @Ag.nod (A1 F w S hlt ds) _ _ _ _ _ _ h2 _ l hi
    ·exact hH.nod i l hi
   ·exact @Ag.nod (A1 F w S hlt ds) _ _ _ _ _ _ h2 _ l hi
  ·intro i l b hb hi hp
   have back : ∀ j, DA ds n (As bf j) = some b → S2 j = some l → l.subs = [] := by
    intro j hj hS
    cases hg : As bf j with
    | none => rw [hg] at hj; cases hj
    | some b0 =>
     rw [hg] at hj
     refine @Ag.plain (A1 F w S hlt ds) _ _ _ _ _ _ h2 j l b0 hg hS ?_
     cases b0 with
     | ob o => cases hj; exact hp
     | _ => rfl
   unfold L6 at hb
   unfold Hc at hi
   split at hb
   ·rename_i hin
    rw [if_pos hin] at hi
    split at hb
    ·rename_i j hj
     simp only [hj] at hi
     exact back j hb hi
    ·rename_i hno
     simp only [hno] at hi
     exact hH.plain i l b hb hi hp
   ·rename_i hin
    rw [if_neg hin] at hi
    exact back _ hb hi
  ·intro i l b hl hi hb
   have some_of : ∀ j, (DA ds n (As bf j)).isSome = true → (As bf j).isSome = true := by
    intro j hj
    cases hg : As bf j with
    | none => rw [hg] at hj; cases hj
    | some => rfl
   unfold L6 at hl
   unfold Hc at hi
   split at hl
   ·rename_i hin
    rw [if_pos hin] at hi
    split at hl
    ·rename_i j hj
     simp only [hj] at hi
     rcases @Ag.mut2 (A1 F w S hlt ds) _ _ _ _ _ _ h2 j l b (some_of j hl) hi hb with h | h
     ·exact .inl h
     ·exact .inr (hM b h)
    ·rename_i hno
     simp only [hno] at hi
     exact .inr ⟨i, l, hl, hi, hb⟩
   ·rename_i hin
    rw [if_neg hin] at hi
    rcases @Ag.mut2 (A1 F w S hlt ds) _ _ _ _ _ _ h2 _ l b (some_of _ hl) hi hb with h | h
    ·exact .inl h
    ·exact .inr (hM b h)
  ·exact @Ag.same (A1 F w S hlt ds) _ _ _ _ _ _ h2 b hb (fun h => hno (hM b h))
  ·intro b hb
   obtain ⟨h3, h4⟩ := hH.far b hb
   have h5 := (@Ag.far (A1 F w S hlt ds) _ _ _ _ _ _ h2 b ⟨h3, fun j l hj hb' => by obtain ⟨d, _, h6⟩ := Ce hj; exact h4 d l h6 hb'⟩).2
   refine ⟨h3, fun i l hi => ?_⟩
   unfold Hc at hi
   split at hi
   ·split at hi
    ·exact h5 _ l hi
    ·exact h4 i l hi
   ·exact h5 _ l hi
  ·intro i hp
   obtain ⟨h3, h4⟩ := hH.pin i hp
   refine ⟨by omega, ?_⟩
   unfold Hc
   rw [if_pos h3]
   split
   ·rename_i j hj
    rcases hpin i j hj with h | h
    ·rw [h]; exact h4
    ·exact .inr h
   ·exact h4
 ·unfold Hc
  rw [if_pos hi]
  split
  ·rename_i j hj
   have := hD.alive i (Mu hj)
   rw [hHi] at this; cases this
  ·rfl
 ·unfold L6 at hHi
  rw [if_neg (by omega)] at hHi
  unfold Hc
  rw [if_neg (by omega)]
  by_cases hb : ds.length + (i - n) < bf.length
  ·obtain ⟨b, hb'⟩ := LJ (i := i - n) hall (by rw [List.length_drop]; omega)
   rw [List.getElem?_drop] at hb'
   rw [EQ.2 hb'] at hHi
   cases b with
   | ob o => cases hHi
   | _ => cases hHi
  ·exact @Ag.bnd (A1 F w S hlt ds) _ _ _ _ _ _ h2 _ (by omega)
end

theorem Km {P : Program} (E : Bo P) {f : FuncId} {fn : Func} {c : Code} {sp : Spec} (hf : P.funcs[f]? = some fn) (hb : fn.body = some c) (hN : fn.ntmps = E.N) (hρ : E.ρ = none) (dsOf : List AV → Ap → List Nat) (g : Dr)
  (hsp : ∀ args H n, sp.run args H n = Ey g (dsOf args H) args H n)
  (h : ∀ ia bl p r bf, g ia bl = some (p, r, bf) → p → ia.length ≤ E.N ∧ ∀ [AU] (W0 : World) (M0 : Nat → Prop), AU.np = bl.length → AU.marks = true → VC E W0 M0 c (Gn (Ef 0 ia) bl) (UT E fn.results.toList bl.length r bf)) : A5 P f sp := by
 intro args H n p r o hrun hp F w S vs hH hl hr
 rw [hsp] at hrun
 unfold Ey at hrun
 generalize dsOf args H = ds at hrun
 split at hrun
 ·rename_i ia bl hia hbl
  split at hrun
  ·rename_i p' r' bf hg
   split at hrun
   ·rename_i hc
    obtain ⟨hnd, hlen, hall⟩ := hc
    simp only [Option.some.injEq, Prod.mk.injEq] at hrun
    obtain ⟨rfl, rfl, rfl⟩ := hrun
    have hlt : ∀ b, @own F S b → b < w.heap.size := Lo hH
    obtain ⟨hla, hvc⟩ := h ia bl p' r' bf hg hp
    obtain ⟨hbll, _⟩ := Lc hbl
    obtain ⟨hial, hiaR⟩ := Sj hia
    have hD : Handed F H n w S ds := Handed.mk' hH hnd (Kj hbl)
    have hvc := @hvc (A1 F w S hlt ds) w (fun b => ∃ j l, pick ds S j = some l ∧ l.has b) hbll.symm rfl
    have h0 := hH.view (hlt := hlt) hnd hbl
    refine callsIn_wide.1 (callsIn_of_wp_marks (n := 0) hf hb trivial ?_)
    have hsim : @KF (A1 F w S hlt ds) w (fun b => ∃ j l, pick ds S j = some l ∧ l.has b) E.N (Gn (Ef 0 ia) bl) { tmps := vs.toArray ++ Array.replicate (fn.ntmps - vs.toArray.size) undef, defers := [] } w := by
     refine ⟨pick ds S, h0, @Gk.mk (A1 F w S hlt ds) _ _ _ _ _ _ ?_ fun i => ?_, @E4.nil (A1 F w S hlt ds) _ _ _ (fun h => by cases h)⟩
     ·simp only [Array.size_append, Array.size_replicate, List.size_toArray, hN]; omega
     ·show @R (A1 F w S hlt ds) w (pick ds S) bl.length (G5 (Ef 0 ia) i) _
      rw [Kd, if_pos (by omega), Nat.sub_zero, Kc (by omega), hbll]
      cases hi : ia[i]? with
      | none => exact @R.any (A1 F w S hlt ds) _ _ _ _
      | some c =>
       have hlt' : i < ia.length := (List.getElem?_eq_some_iff.1 hi).1
       have hv : vs[i]? = some (vs[i]'(by omega)) := List.getElem?_eq_getElem _
       rw [hv]
       obtain ⟨c0, h3, h4⟩ := hiaR i c hi
       exact Sg h4 (hr i c0 _ h3 hv)
    have hvc2 := hvc _ w hsim
    rw [show Ma E.ρ = Fence.wide by rw [hρ]; rfl] at hvc2
    refine wpIn_mono hvc2 ?_
    rintro e a' w' ⟨st, ⟨he, hst⟩, S1, hH1, hF1, hM1⟩
    have go : LeavesInM Fence.wide 0 P fn a'.tmps (fun e w' => ∃ v S', e = .returned v ∧ Left H n w S (Option.getD (some (L6 ds n H bf, n + (bf.length - ds.length))) (H, n)).1 (Option.getD (some (L6 ds n H bf, n + (bf.length - ds.length))) (H, n)).2 w' S' ∧
      ((some (L6 ds n H bf, n + (bf.length - ds.length)) : Option (Ap × Nat)) = none → S' = S ∧ ∀ b, b < w.heap.size → w'.heap[b]? = w.heap[b]?) ∧ R w' S' (Option.getD (some (L6 ds n H bf, n + (bf.length - ds.length))) (H, n)).2 (Qw ds n r') v) a'.defers .returning w' := by
     refine @HN _ _ (A1 F w S hlt ds) _ _ _ _ _ _ _ _ a'.defers w' hH1 (@Gk.at_ (A1 F w S hlt ds) _ _ _ _ _ _ hF1) (@E4.apart (A1 F w S hlt ds) _ _ _ _ hM1 rfl) (@E4.at_ (A1 F w S hlt ds) _ _ _ _ hM1 rfl) (fun w' hH1 hF1 => ?_)
     split at hst
     ·rename_i q cs hres
      obtain ⟨hq, ρ, hρ1, hbs, hmt⟩ := hst
      rw [Bool.and_eq_true] at hρ1
      obtain ⟨us, e1, e2, e3, e4⟩ := @Lu P w' S1 st.n (A1 F w S hlt ds) E w _ st.H hH1 st.fr a'.tmps hF1 _ _ _ hres hq
      have hpk : @R (A1 F w S hlt ds) w' S1 st.n (Gw cs) (M9 us) := by
       match us, cs, e2, e4 with
       | [], [], _, _ => exact @R.tup (A1 F w S hlt ds) _ _ _ [] [] rfl (fun i c u h => by simp at h)
       | [v], [c], _, e4 => exact e4 0 c v rfl rfl
       | v :: u :: us, c :: d :: cs, e2, e4 => exact @R.tup (A1 F w S hlt ds) _ _ _ (c :: d :: cs) (v :: u :: us) e2.symm (fun i c' u' hc hu => e4 i c' u' hc hu)
      have hout := @OT (A1 F w S hlt ds) w' S1 st.n w _ st.H ρ bf hH1 _ _ hmt _ hpk
      have hren := @Ag.ren (A1 F w S hlt ds) w' S1 st.n w _ st.H ρ bf hH1 hρ1.1 (fun i hi => OY hρ1.2 i (by rw [hbll]; exact hi)) hbs
      have hlr := (Lh hbs).1
      rw [hlr] at hout
      exact ⟨_, FQ e1 e3, _, Hc ds n S (CV ρ bf S1), rfl, hH.unview hD hlen hall hren, fun h => (by cases h), SQ hD hH hlen hout⟩
     ·exact hst.elim
    rcases he with rfl | rfl
    ·exact go
    ·exact go
   ·cases hrun
  ·cases hrun
 ·cases hrun

theorem Bt {P : Program} (E : Bo P) {f : FuncId} {fn : Func} {c : Code} {g : Dr} (hf : P.funcs[f]? = some fn) (hb : fn.body = some c) (hN : fn.ntmps = E.N) (hρ : E.ρ = none)
  (h : ∀ ia bl p r bf, g ia bl = some (p, r, bf) → p → ia.length ≤ E.N ∧ ∀ [AU] (W0 : World) (M0 : Nat → Prop), AU.np = bl.length → AU.marks = true → VC E W0 M0 c (Gn (Ef 0 ia) bl) (UT E fn.results.toList bl.length r bf)) : A5 P f (Spec.gen g) :=
 Km E hf hb hN hρ HR g (fun _ _ _ => rfl) h
theorem E7 {P : Program} (E : Bo P) {f : FuncId} {fn : Func} {c : Code} {g : Dr} (hf : P.funcs[f]? = some fn) (hb : fn.body = some c) (hN : fn.ntmps = E.N) (hρ : E.ρ = none)
  (h : ∀ ia bl p r bf, g ia bl = some (p, r, bf) → p → ia.length ≤ E.N ∧ ∀ [AU] (W0 : World) (M0 : Nat → Prop), AU.np = bl.length → AU.marks = true → VC E W0 M0 c (Gn (Ef 0 ia) bl) (UT E fn.results.toList bl.length r bf)) : A5 P f (Spec.fresh g) :=
 Km E hf hb hN hρ (fun _ _ => []) g (fun _ _ _ => rfl) h
end Go.Vc
/- The Vc layer: a range over a function. -/
set_option linter.all false
namespace Go.Vc
open Go Go.RowKit

def Bo.inR {P : Program} (E : Bo P) (l : Nat) : Bo P := ⟨E.X, E.N, some l, E.Γ, E.ok, E.ent⟩
/-! ### what leads to boxes below a number -/
def XY (m : Nat) : AV → Bool
 | .sl id _ _ => decide (id < m)
 | .ptr id _ _ => decide (id < m)
 | .mp id => decide (id < m)
 | .d _ => true
 | .ip .. => true
 | .any => true
 | _ => false
def lt2 (m : Nat) : AV → Bool
 | .agg cs => cs.all (XY m)
 | .clo _ cs => cs.all (XY m)
 | c => XY m c
theorem R.far {G G' : AU} {w : World} {S : Lays} {n : Nat} (hO : ∀ b, b < w.heap.size → ¬ @own G S b → ¬ @own G' S b) {c : AV} {v : Value} (h : @R G w S n c v) : @R G' w S n c v := by
 induction h with
 | any v => exact @R.any G' _ _ _ v
 | d hx => exact @R.d G' _ _ _ _ _ (hx.ext (Nat.le_refl _) (fun _ _ _ => rfl) hO)
 | ip sz xs e f b o u hb hO' hc hr => exact @R.ip G' _ _ _ sz xs e f b o u hb (hO b hb hO') hc (fun e f c hh => (hr e f c hh).ext (Nat.le_refl _) (fun _ _ _ => rfl) hO)
 | slDead id off len v hn hS => exact @R.slDead G' _ _ _ id off len v hn hS
 | sl id off len o l hn hS hc ho h0 => exact @R.sl G' _ _ _ id off len o l hn hS hc ho h0
 | ptrDead id e f v hn hS => exact @R.ptrDead G' _ _ _ id e f v hn hS
 | ptr id e f b l hn hS hb => exact @R.ptr G' _ _ _ id e f b l hn hS hb
 | mpDead id v hn hS => exact @R.mpDead G' _ _ _ id v hn hS
 | mp id l hn hS => exact @R.mp G' _ _ _ id l hn hS
 | agg cs us hl h1 _ ih => exact @R.agg G' _ _ _ cs us hl h1 ih
 | tup cs us hl _ ih => exact @R.tup G' _ _ _ cs us hl ih
 | clo fn cs us hl _ ih => exact @R.clo G' _ _ _ fn cs us hl ih
 | cond b c v _ hu ih => exact @R.cond G' _ _ _ b c v ih hu

theorem Bx.far {G G' : AU} {w : World} {S : Lays} {n : Nat} (hO : ∀ b, b < w.heap.size → ¬ @own G S b → ¬ @own G' S b) {b : Bk} {l : Lay} (h : @Bx G w S n b l) : @Bx G' w S n b l := by
 cases b with
 | vec ty sz xs =>
  obtain ⟨h1, h2, h3, h4, h5, h6⟩ := h
  refine ⟨h1, h2, h3, h4, h5, fun b hb => ?_⟩
  obtain ⟨cur, e1, e2, e3⟩ := h6 b hb
  exact ⟨cur, e1, e2, fun e f c hh => by obtain ⟨u, e4, e5⟩ := e3 e f c hh; exact ⟨u, e4, e5.ext (Nat.le_refl _) (fun _ _ _ => rfl) hO⟩⟩
 | one ty cells =>
  obtain ⟨h1, h2, b, hb, cur, e1, e2, e3⟩ := h
  exact ⟨h1, h2, b, hb, cur, e1, e2, fun f c hh => by obtain ⟨u, e4, e5, e6⟩ := e3 f c hh; exact ⟨u, e4, e5, e6.far hO⟩⟩
 | ob o => exact o.same h hO

theorem Uj {G G' : AU} {w : World} {S : Lays} {n : Nat} {H : Ap} (hO : ∀ b, b < w.heap.size → ¬ @own G S b → ¬ @own G' S b) (h : ∀ (id : Nat) (b : Bk), H id = some b → ∃ l, S id = some l ∧ @Bx G w S n b l) :
  ∀ (id : Nat) (b : Bk), H id = some b → ∃ l, S id = some l ∧ @Bx G' w S n b l := fun id b hb => by
 obtain ⟨l, h1, h2⟩ := h id b hb
 exact ⟨l, h1, h2.far hO⟩

section
variable [F : AU] {P : Program} {w w' : World} {S S' : Lays} {n m : Nat} {H : Ap} {W0 : World} {M0 : Nat → Prop}

/-! ### a view of one's own memory, as it lies at some point -/
@[reducible] def BT (F : AU) (w : World) (S : Lays) (m : Nat) (hlt : ∀ b, AU.F b → b < w.heap.size) (hno : ∀ b i l, AU.F b → S i = some l → ¬ l.has b) : AU where
 F := F.F
 nev := fun b => b < w.heap.size ∧ ∀ i l, S i = some l → ¬ l.has b
 sub := fun b h => ⟨hlt b h, fun i l hi => hno b i l h hi⟩
 pin := S
 np := m
 marks := false
 mx := F.mx

theorem VW (hH : Ag W0 M0 H n w S) : ∀ b, AU.F b → b < w.heap.size := fun b h => by
 have := (hH.far b (AU.sub b h)).1
 have := hH.size
 omega
theorem VX (hH : Ag W0 M0 H n w S) : ∀ b i l, AU.F b → S i = some l → ¬ l.has b := fun b i l h hi => (hH.far b (AU.sub b h)).2 i l hi

def Sv (H : Ap) (S : Lays) (b : Nat) : Prop := ∃ i l, (H i).isSome = true ∧ S i = some l ∧ l.has b

theorem Ag.up (hH : Ag W0 M0 H n w S) (hm : m ≤ n) (hnp : AU.np ≤ m) {H' : Ap} {n' : Nat} (h : @Ag (BT F w S m (VW hH) (VX hH)) w (Sv H S) H' n' w' S') : Ag W0 M0 H' n' w' S' ∧ BS w S m w' S' n' := by
 have hp : ∀ i, i < m → i < n' ∧ (S' i = S i ∨ S' i = none) := fun i hi => @Ag.pin (BT F w S m _ _) _ _ _ _ _ _ h i hi
 have hL : ∀ b, Sv H S b → W0.heap.size ≤ b ∨ M0 b := fun b ⟨i, l, h1, h2, h3⟩ => hH.mut2 i l b h1 h2 h3
 have hsz := @Ag.size (BT F w S m _ _) _ _ _ _ _ _ h
 have hsame : ∀ b, b < w.heap.size → ¬ Sv H S b → w'.heap[b]? = w.heap[b]? := @Ag.same (BT F w S m _ _) _ _ _ _ _ _ h
 have hfar : ∀ b, b < w.heap.size → (∀ i l, S i = some l → ¬ l.has b) → ∀ i l, S' i = some l → ¬ l.has b := fun b h1 h2 => (@Ag.far (BT F w S m _ _) _ _ _ _ _ _ h b ⟨h1, h2⟩).2
 refine ⟨?_, ?_⟩
 ·refine ⟨@Ag.bnd (BT F w S m _ _) _ _ _ _ _ _ h, @Ag.lt2 (BT F w S m _ _) _ _ _ _ _ _ h, Uj (G := BT F w S m _ _) (G' := F) (fun _ _ h => h) (@Ag.box (BT F w S m _ _) _ _ _ _ _ _ h), @Ag.inj2 (BT F w S m _ _) _ _ _ _ _ _ h, @Ag.nod (BT F w S m _ _) _ _ _ _ _ _ h, @Ag.plain (BT F w S m _ _) _ _ _ _ _ _ h, fun i l b h1 h2 h3 => ?_,
   (@Ag.os (BT F w S m _ _) _ _ _ _ _ _ h).trans hH.os, (@Ag.tape (BT F w S m _ _) _ _ _ _ _ _ h).trans hH.tape, (@Ag.output (BT F w S m _ _) _ _ _ _ _ _ h).trans hH.output, Nat.le_trans hH.size hsz, fun b hb hM => ?_, fun b hb => ?_, fun i hi => ?_, @Ag.gl (BT F w S m _ _) _ _ _ _ _ _ h⟩
  ·rcases @Ag.mut2 (BT F w S m _ _) _ _ _ _ _ _ h i l b h1 h2 h3 with h4 | h4
   ·have := hH.size; left; omega
   ·exact hL b h4
  ·rw [hsame b (by have := hH.size; omega) (fun h4 => ?_)]
   ·exact hH.same b hb hM
   ·rcases hL b h4 with h5 | h5
    ·omega
    ·exact hM h5
  ·obtain ⟨h1, h2⟩ := hH.far b hb
   exact ⟨h1, hfar b (by have := hH.size; omega) h2⟩
  ·obtain ⟨h1, h2⟩ := hH.pin i hi
   obtain ⟨h3, h4⟩ := hp i (by omega)
   refine ⟨h3, ?_⟩
   rcases h4 with h4 | h4
   ·rw [h4]; exact h2
   ·exact .inr h4
 ·refine ⟨?_, hsz, fun i hi => (hp i hi).2, fun b hb hno ho => ?_, fun b hb hno => hsame b hb (fun ⟨i, l, _, h2, h3⟩ => hno (.inr ⟨i, l, h2, h3⟩))⟩
  ·rcases Nat.eq_zero_or_pos m with h0 | h0
   ·omega
   ·have := (hp (m - 1) (by omega)).1; omega
  ·rcases ho with ho | ⟨i, l, h1, h2⟩
   ·exact hno (.inl ho)
   ·exact hfar b hb (fun i l hi hb' => hno (.inr ⟨i, l, hi, hb'⟩)) i l h1 h2

end

/-! ### iterators -/
def WM [AU] (w : World) (S : Lays) (W W' : World) : Prop := W.heap.size ≤ W'.heap.size ∧ ∀ b, b < w.heap.size → ¬ own S b → W'.heap[b]? = W.heap[b]?

structure XG (P : Program) (g : FuncId) (caps : List AV) (ar : Nat) (xs : List (List AV)) : Prop where
 ent : IU P g = true
 len : ∀ x ∈ xs, x.length = ar
 run : ∀ [AU] (w : World) (S : Lays) (n : Nat) (lb : List Value), lb.length = caps.length → (∀ (i : Nat) (c : AV) (u : Value), caps[i]? = some c → lb[i]? = some u → R w S n c u) →
  ∃ encs : Nat → List Value, (∀ k, (encs k).length = ar) ∧ (∀ (k : Nat) (x : List AV), xs[k]? = some x → ∀ (i : Nat) (c : AV) (u : Value), x[i]? = some c → (encs k)[i]? = some u → R w S n c u) ∧
   ∀ (l : Nat) (J : Nat → World → Prop) (Jx : World → Prop) (W : World), (∀ k W, J k W → WM w S w W) → (∀ (k : Nat) (W : World) (d : Nat), J k W → J k { W with drawn := d }) →
    (∀ k W1, J k W1 → k < xs.length → YieldAt Fence.wide 0 P l (encs k).toArray W1 fun e W' => (e = .returned (.bool true) ∧ J (k + 1) W') ∨ (e = .returned (.bool false) ∧ Jx W')) → J 0 W →
    CallsIn Fence.wide 0 P g (#[.func (.yield l) #[] #[]] ++ lb.toArray) W fun e W' => (∃ v, e = .returned v) ∧ (J xs.length W' ∨ Jx W')

section
variable [F : AU] {P : Program} {E : Bo P} {W0 : World} {M0 : Nat → Prop}

end
end Go.Vc
/- The Vc layer: rows of typed data; the rewriting rules of the walk; steps. -/
set_option linter.all false
namespace Go.Vc
open Go Go.RowKit

/-! ### rows -/
def rows {α : Type} (f : α → List D) (l : List α) : List (List D) := l.map f
theorem AZ {α : Type} (f : α → List D) (l : List α) : (rows f l).length = l.length := List.length_map _
theorem B4 {α : Type} (f : α → List D) (l : List α) (i : Nat) : (rows f l)[i]? = (l[i]?).map f := List.getElem?_map
theorem Bg {α : Type} (f : α → List D) (l : List α) (i : Nat) : (rows f l).drop i = rows f (l.drop i) := (List.map_drop).symm
theorem AH {α : Type} (f : α → List D) (l : List α) (i : Nat) : (rows f l).take i = rows f (l.take i) := (List.map_take).symm
theorem B3 {α : Type} (f : α → List D) (l m : List α) : rows f l ++ rows f m = rows f (l ++ m) := (List.map_append).symm
theorem B5 {α : Type} (f : α → List D) : rows f [] = [] := rfl
theorem BN {α : Type} (f : α → List D) (l : List α) (i : Nat) (a : α) : (rows f l).set i (f a) = rows f (l.set i a) := (List.map_set).symm
theorem Cr {α : Type} {f : α → List D} {k : Nat} (h : ∀ a, (f a).length = k) (l : List α) : Cs k (rows f l) := by
 intro x hx
 obtain ⟨a, _, rfl⟩ := List.mem_map.1 hx
 exact h a

def eI (n : Int) : List D := [.int .i64 n]
def eB (b : Bool) : List D := [.bool b]
def eU (b : UInt8) : List D := [.int .u8 (b.toNat : Int)]
def eS (s : List UInt8) : List D := [.str s]
def eL {α : Type} (f : α → List D) (l : List α) : List D := [.sl (rows f l)]
abbrev WO (l : List Bool) : D := .sl (rows eB l)
abbrev bytes (l : List UInt8) : D := .sl (rows eU l)
theorem BB (l : List Int) : Cs 1 (rows eI l) := Cr (f := eI) (fun _ => rfl) l
theorem BO (l : List Bool) : Cs 1 (rows eB l) := Cr (f := eB) (fun _ => rfl) l
theorem B7 (l : List UInt8) : Cs 1 (rows eU l) := Cr (f := eU) (fun _ => rfl) l
theorem BQ (l : List (List UInt8)) : Cs 1 (rows eS l) := Cr (f := eS) (fun _ => rfl) l
theorem BP {α : Type} (f : α → List D) (l : List (List α)) : Cs 1 (rows (eL f) l) := Cr (f := eL f) (fun _ => rfl) l
theorem Bz (k : Nat) : Cs k [] := fun x h => by cases h
theorem Bw (k : Nat) (x : List D) (xs : List (List D)) : Cs k (x :: xs) = (x.length = k ∧ Cs k xs) := by
 apply propext; unfold Cs; simp
theorem BM (l : List UInt8) : GL (rows eU l) := by
 intro x hx
 obtain ⟨b, _, rfl⟩ := List.mem_map.1 hx
 exact ⟨b, rfl⟩
theorem Br (l : List UInt8) : HU (rows eU l) = l := by simp [HU, rows, eU, Function.comp_def]

def dI : List (List D) → List Int := List.map fun x => match x with | [.int _ n] => n | _ => 0
def dB : List (List D) → List Bool := List.map fun x => match x with | [.bool b] => b | _ => false
def dU : List (List D) → List UInt8 := HU
theorem AJ (l : List Int) : dI (rows eI l) = l := by simp [dI, rows, eI, Function.comp_def]
theorem CB (l : List Bool) : dB (rows eB l) = l := by simp [dB, rows, eB, Function.comp_def]
theorem CJ (l : List UInt8) : dU (rows eU l) = l := Br l

/-! ### the rules -/
section
variable {P : Program}

theorem AB : (∀ (f : Nat → AV) (i : Nat) (x : AV) (j : Nat), Cf f i x j = if j = i then x else f j) ∧ (∀ (f : Nat → Option Bk) (i : Nat) (x : Option Bk) (j : Nat), Cf f i x j = if j = i then x else f j) ∧
  (∀ (d : Tmp) (c : AV) (f : Nat → AV), putD (some d) c f = Cf f d c) ∧ (∀ (c : AV) (f : Nat → AV), putD none c f = f) ∧
  (∀ (j : Nat) (c : AV) (r : List (Nat × AV)) (i : Nat), G5 ((j, c) :: r) i = if i = j then c else G5 r i) ∧ (∀ (i : Nat), G5 [] i = .any) ∧
  (∀ (b : Option Bk) (r : List (Option Bk)), As (b :: r) 0 = b) ∧ (∀ (b : Option Bk) (r : List (Option Bk)) (i : Nat), As (b :: r) (i + 1) = As r i) ∧ (∀ (i : Nat), As [] i = none) ∧
  (∀ (k : Nat), Ef k [] = []) ∧ (∀ (k : Nat) (c : AV) (cs : List AV), Ef k (c :: cs) = (k, c) :: Ef (k + 1) cs) := by
 refine ⟨fun _ _ _ _ => rfl, fun _ _ _ _ => rfl, fun _ _ _ => rfl, fun _ _ => rfl, fun _ _ _ _ => rfl, fun _ => rfl, fun b r => ?_, fun b r i => ?_, fun i => rfl, fun _ => rfl, fun _ _ _ => rfl⟩
 ·simp [As]
 ·simp [As]

theorem AC : (∀ (x : D), A4 (.d x) = .d x) ∧ (∀ (i o l : Nat), A4 (.sl i o l) = .sl i o l) ∧ (∀ (i o l : Nat), A4 (.ptr i o l) = .ptr i o l) ∧ (∀ (cs : List AV), A4 (.agg cs) = .agg cs) ∧ (∀ (cs : List AV), A4 (.tup cs) = .tup cs) ∧
  (∀ (f : Fn) (cs : List AV), A4 (.clo f cs) = .clo f cs) ∧ (∀ (z : Nat) (xs : List (List D)) (e f : Nat), A4 (.ip z xs e f) = .ip z xs e f) ∧ (A4 .any = .any) ∧ (∀ (b : Bool) (v : AV), A4 (.cond b v) = v) ∧
  (∀ (x : D), Bh (.d x) = True) ∧ (∀ (i o l : Nat), Bh (.sl i o l) = True) ∧ (∀ (i o l : Nat), Bh (.ptr i o l) = True) ∧ (∀ (cs : List AV), Bh (.agg cs) = True) ∧ (∀ (cs : List AV), Bh (.tup cs) = True) ∧
  (∀ (f : Fn) (cs : List AV), Bh (.clo f cs) = True) ∧ (∀ (z : Nat) (xs : List (List D)) (e f : Nat), Bh (.ip z xs e f) = True) ∧ (Bh .any = True) ∧ (∀ (b : Bool) (v : AV), Bh (.cond b v) = (b = true)) ∧ (∀ (i : Nat), A4 (.mp i) = .mp i) ∧ (∀ (i : Nat), Bh (.mp i) = True) :=
 ⟨fun _ => rfl, fun _ _ _ => rfl, fun _ _ _ => rfl, fun _ => rfl, fun _ => rfl, fun _ _ => rfl, fun _ _ _ _ => rfl, rfl, fun _ _ => rfl, fun _ => rfl, fun _ _ _ => rfl, fun _ _ _ => rfl, fun _ => rfl, fun _ => rfl, fun _ _ => rfl, fun _ _ _ _ => rfl, rfl, fun _ _ => rfl, fun _ => rfl, fun _ => rfl⟩

variable [AU] in
theorem AD : (∀ (fr : Nat → AV) (t : Tmp), AL fr (.tmp t) = fr t) ∧ (∀ (fr : Nat → AV) (b : Bool), AL fr (.const (.bool b)) = .d (.bool b)) ∧ (∀ (fr : Nat → AV) (k : IntKind) (n : Int), AL fr (.const (.int k n)) = .d (.int k n)) ∧
  (∀ (fr : Nat → AV) (s : ByteArray), AL fr (.const (.string s)) = .d (.str s.data.toList)) ∧ (∀ (fr : Nat → AV), AL fr (.const (.slice none 0 0)) = .d .nils) ∧ (∀ (fr : Nat → AV), AL fr (.const (.pointer none)) = .d .nilp) ∧ (∀ (fr : Nat → AV), AL fr (.const .nilFunc) = .any) ∧
  (∀ (fr : Nat → AV) (f : FuncId), AL fr (.func f) = .clo (.func f) []) ∧ (∀ (fr : Nat → AV), nd fr [] = True) ∧ (∀ (fr : Nat → AV) (x : Operand) (r : List Operand), nd fr (x :: r) = (Bh (AL fr x) ∧ nd fr r)) ∧ (∀ (fr : Nat → AV), AL fr (.const (.map none)) = .any) :=
 ⟨fun _ _ => rfl, fun _ _ => rfl, fun _ _ _ => rfl, fun _ _ => rfl, fun _ => rfl, fun _ => rfl, fun _ => rfl, fun _ _ => rfl, fun _ => rfl, fun _ _ _ => rfl, fun _ => rfl⟩

variable {E : Bo P}

variable [AU] in
theorem AY (E : Bo P) : (∀ (fr : Nat → AV) (H : Ap) (n : Nat) (e : TypeId), BZ E fr H n (.alloc e) = .ofH (Hr E.X.ty H n e)) ∧ (∀ (fr : Nat → AV) (H : Ap) (n : Nat) (e : TypeId) (x : Operand), BZ E fr H n (.box e x) = .ofH (Pz H n e (A4 (AL fr x)))) ∧
  (∀ (fr : Nat → AV) (H : Ap) (n : Nat) (t : TypeId) (len : Nat) (ps : List (Nat × Operand)), BZ E fr H n (.buildSlice t len ps.toArray) = .ofH (Dk E.X.ty H n t len (ps.map fun p => (p.1, A4 (AL fr p.2))))) ∧
  (∀ (fr : Nat → AV) (H : Ap) (n : Nat) (t : TypeId) (l c : Operand), BZ E fr H n (.makeSlice t l c) = .ofH (JL E.X.ty H n t (A4 (AL fr l)) (A4 (AL fr c)))) ∧
  (∀ (fr : Nat → AV) (H : Ap) (n : Nat) (t : TypeId) (a x : Operand), BZ E fr H n (.store t a x) = match F4 E.X.ty H t (A4 (AL fr a)) (A4 (AL fr x)) with | some (p, H') => .h p .any H' n | none => .bad) ∧
  (∀ (fr : Nat → AV) (H : Ap) (n : Nat) (c a b : Operand), BZ E fr H n (.pick c a b) = .ofV (DQ (AL fr c) (AL fr a) (AL fr b))) ∧
  (∀ (fr : Nat → AV) (H : Ap) (n : Nat) (s x : Operand) (t : TypeId), BZ E fr H n (.call ⟨.builtin .append, #[s, x], #[t, t]⟩) = .ofH (DK E.X.ty H n t (A4 (AL fr s)) (A4 (AL fr x)))) ∧
  (∀ (fr : Nat → AV) (H : Ap) (n : Nat) (x : Operand), BZ E fr H n (.move x) = .v True (A4 (AL fr x))) ∧ (∀ (fr : Nat → AV) (H : Ap) (n : Nat) (x : Operand), BZ E fr H n (.assign x) = .v True (A4 (AL fr x))) ∧
  (∀ (fr : Nat → AV) (H : Ap) (n : Nat) (x : Operand), BZ E fr H n (.nilCheck x) = .ofV (KH H (A4 (AL fr x)))) ∧
  (∀ (fr : Nat → AV) (H : Ap) (n : Nat) (op : BinOp) (t r : TypeId) (x y : Operand), BZ E fr H n (.binOp op t x y r) = .ofV (DB E.X.ty op t (A4 (AL fr x)) (A4 (AL fr y)))) ∧
  (∀ (fr : Nat → AV) (H : Ap) (n : Nat) (op : UnOp) (t : TypeId) (x : Operand), BZ E fr H n (.unOp op t x) = .ofV (WE op (A4 (AL fr x)))) ∧
  (∀ (fr : Nat → AV) (H : Ap) (n : Nat) (s t : TypeId) (x : Operand), BZ E fr H n (.convert s t x) = .ofV (GN E.X.ty H s t (A4 (AL fr x)))) :=
 ⟨fun _ _ _ _ => rfl, fun _ _ _ _ _ => rfl, fun _ _ _ _ _ _ => rfl, fun _ _ _ _ _ _ => rfl, fun _ _ _ _ _ _ => rfl, fun _ _ _ _ _ _ => rfl, fun fr H n s x t => if_pos rfl, fun _ _ _ _ => rfl, fun _ _ _ _ => rfl, fun _ _ _ _ => rfl, fun _ _ _ _ _ _ _ _ => rfl, fun _ _ _ _ _ _ => rfl, fun _ _ _ _ _ _ => rfl⟩

variable [AU] in
theorem CG (E : Bo P) : (∀ (fr : Nat → AV) (H : Ap) (n : Nat) (t : TypeId) (x : Operand), BZ E fr H n (.slice t x none none none) = .ofV (Ea E.X.ty H t (A4 (AL fr x)) none none)) ∧
  (∀ (fr : Nat → AV) (H : Ap) (n : Nat) (t : TypeId) (x y : Operand), BZ E fr H n (.slice t x (some y) none none) = .ofV (Ea E.X.ty H t (A4 (AL fr x)) (some (A4 (AL fr y))) none)) ∧
  (∀ (fr : Nat → AV) (H : Ap) (n : Nat) (t : TypeId) (x y : Operand), BZ E fr H n (.slice t x none (some y) none) = .ofV (Ea E.X.ty H t (A4 (AL fr x)) none (some (A4 (AL fr y))))) ∧
  (∀ (fr : Nat → AV) (H : Ap) (n : Nat) (t : TypeId) (x y z : Operand), BZ E fr H n (.slice t x (some y) (some z) none) = .ofV (Ea E.X.ty H t (A4 (AL fr x)) (some (A4 (AL fr y))) (some (A4 (AL fr z))))) ∧
  (∀ (fr : Nat → AV) (H : Ap) (n : Nat) (s : TypeId) (x : Operand) (f : Nat), BZ E fr H n (.fieldAddr s x f) = .ofV (C9 E.X.ty H s (A4 (AL fr x)) f)) ∧ (∀ (fr : Nat → AV) (H : Ap) (n : Nat) (s : TypeId) (x : Operand) (f : Nat), BZ E fr H n (.field s x f) = .ofV (Hs E.X.ty s (A4 (AL fr x)) f)) ∧
  (∀ (fr : Nat → AV) (H : Ap) (n : Nat) (s : TypeId) (x i : Operand), BZ E fr H n (.indexAddr s x i) = .ofV (CA E.X.ty H s (A4 (AL fr x)) (A4 (AL fr i)))) ∧ (∀ (fr : Nat → AV) (H : Ap) (n : Nat) (s : TypeId) (x i : Operand), BZ E fr H n (.index s x i) = .ofV (Ht E.X.ty s (A4 (AL fr x)) (A4 (AL fr i)))) ∧
  (∀ (fr : Nat → AV) (H : Ap) (n : Nat) (t : TypeId) (x : Operand), BZ E fr H n (.load t x) = .ofV (EN E.X.ty H t (A4 (AL fr x)))) ∧ (∀ (fr : Nat → AV) (H : Ap) (n : Nat) (x : Operand) (i : Nat), BZ E fr H n (.extract x i) = .ofV (EM (A4 (AL fr x)) i)) ∧
  (∀ (fr : Nat → AV) (H : Ap) (n : Nat) (t : TypeId) (ps : List (Nat × Operand)), BZ E fr H n (.build t ps.toArray) = .ofV (Et E.X.ty H t (ps.map fun p => (p.1, A4 (AL fr p.2))))) ∧
  (∀ (fr : Nat → AV) (H : Ap) (n : Nat) (f : Fn) (cs : List Operand), BZ E fr H n (.makeFunc f #[] cs.toArray) = .v True (.clo f (cs.map fun x => A4 (AL fr x)))) ∧
  (∀ (fr : Nat → AV) (H : Ap) (n : Nat) (t : TypeId) (x : Operand), BZ E fr H n (.call ⟨.builtin .len, #[x], #[t]⟩) = .ofV (KG E.X.ty H t (A4 (AL fr x)))) :=
 ⟨fun _ _ _ _ _ => rfl, fun _ _ _ _ _ _ => rfl, fun _ _ _ _ _ _ => rfl, fun _ _ _ _ _ _ _ => rfl, fun _ _ _ _ _ _ => rfl, fun _ _ _ _ _ _ => rfl, fun _ _ _ _ _ _ => rfl, fun _ _ _ _ _ _ => rfl, fun _ _ _ _ _ => rfl, fun _ _ _ _ _ => rfl, fun _ _ _ _ _ => rfl, fun _ _ _ _ _ => rfl, fun _ _ _ _ _ => rfl⟩

variable [AU] in
theorem Ah (E : Bo P) {f : FuncId} {sp : Spec} (h : E.Γ f = some sp) (fr : Nat → AV) (H : Ap) (n : Nat) (args : List Operand) (ts : Array TypeId) :
  BZ E fr H n (.call ⟨.value (.func f), args.toArray, ts⟩) = CM sp H n (args.map fun x => A4 (AL fr x)) := by
 have : BZ E fr H n (.call ⟨.value (.func f), args.toArray, ts⟩) = match E.Γ f with | some sp => CM sp H n ((args.map fun x => A4 (AL fr x)) ++ []) | none => .bad := rfl
 rw [this, h, List.append_nil]

variable [AU] in
theorem LN (E : Bo P) (fr : Nat → AV) (H : Ap) (n : Nat) (t : Tmp) (args : List Operand) (ts : Array TypeId) :
  BZ E fr H n (.call ⟨.value (.tmp t), args.toArray, ts⟩) = match A4 (fr t) with
   | .clo (.func f) cap => (match E.Γ f with | some sp => CM sp H n ((args.map fun x => A4 (AL fr x)) ++ cap) | none => .bad)
   | _ => .bad := rfl

variable [AU] in
theorem SA (E : Bo P) : (∀ (fr : Nat → AV) (H : Ap) (n : Nat) (x y : Operand) (ts : Array TypeId), BZ E fr H n (.call ⟨.builtin .max, #[x, y], ts⟩) = .ofV (match A4 (AL fr x), A4 (AL fr y) with | .d (.int k a), .d (.int _ b) => some (True, .d (.int k (max a b))) | _, _ => none)) ∧
  (∀ (fr : Nat → AV) (H : Ap) (n : Nat) (x y : Operand) (ts : Array TypeId), BZ E fr H n (.call ⟨.builtin .min, #[x, y], ts⟩) = .ofV (match A4 (AL fr x), A4 (AL fr y) with | .d (.int k a), .d (.int _ b) => some (True, .d (.int k (min a b))) | _, _ => none)) :=
 ⟨fun _ _ _ _ _ _ => rfl, fun _ _ _ _ _ _ => rfl⟩

theorem Ba : (∀ (p : Prop) (c : AV), RS.ofV (some (p, c)) = .v p c) ∧ (∀ (p : Prop) (c : AV) (H : Ap) (n : Nat), RS.ofH (some (p, c, H, n)) = .h p c H n) :=
 ⟨fun _ _ => rfl, fun _ _ _ _ => rfl⟩

/-! ### what is asked of operands -/
variable [AU] in
theorem DU : (∀ (fr : Nat → AV) (x : Operand), Co fr (.move x) = nd fr [x]) ∧ (∀ (fr : Nat → AV) (x : Operand), Co fr (.assign x) = nd fr [x]) ∧ (∀ (fr : Nat → AV) (e : TypeId), Co fr (.alloc e) = True) ∧ (∀ (fr : Nat → AV) (e : TypeId) (x : Operand), Co fr (.box e x) = nd fr [x]) ∧
  (∀ (fr : Nat → AV) (c a b : Operand), Co fr (.pick c a b) = True) ∧ (∀ (fr : Nat → AV) (t : TypeId) (a x : Operand), Co fr (.store t a x) = nd fr [a, x]) ∧ (∀ (fr : Nat → AV) (t : TypeId) (x : Operand), Co fr (.load t x) = nd fr [x]) ∧
  (∀ (fr : Nat → AV) (x : Operand), Co fr (.nilCheck x) = nd fr [x]) ∧ (∀ (fr : Nat → AV) (op : BinOp) (t r : TypeId) (x y : Operand), Co fr (.binOp op t x y r) = nd fr [x, y]) ∧ (∀ (fr : Nat → AV) (op : UnOp) (t : TypeId) (x : Operand), Co fr (.unOp op t x) = nd fr [x]) ∧
  (∀ (fr : Nat → AV) (s t : TypeId) (x : Operand), Co fr (.convert s t x) = nd fr [x]) ∧ (∀ (fr : Nat → AV) (s : TypeId) (x : Operand) (f : Nat), Co fr (.fieldAddr s x f) = nd fr [x]) ∧ (∀ (fr : Nat → AV) (s : TypeId) (x : Operand) (f : Nat), Co fr (.field s x f) = nd fr [x]) ∧
  (∀ (fr : Nat → AV) (s : TypeId) (x i : Operand), Co fr (.indexAddr s x i) = nd fr [x, i]) ∧ (∀ (fr : Nat → AV) (s : TypeId) (x i : Operand), Co fr (.index s x i) = nd fr [x, i]) ∧ (∀ (fr : Nat → AV) (x : Operand) (i : Nat), Co fr (.extract x i) = nd fr [x]) ∧
  (∀ (fr : Nat → AV) (t : TypeId) (l c : Operand), Co fr (.makeSlice t l c) = nd fr [l, c]) ∧ (∀ (fr : Nat → AV) (t : TypeId) (ps : List (Nat × Operand)), Co fr (.build t ps.toArray) = nd fr (ps.map (·.2))) ∧
  (∀ (fr : Nat → AV) (t : TypeId) (k : Nat) (ps : List (Nat × Operand)), Co fr (.buildSlice t k ps.toArray) = nd fr (ps.map (·.2))) ∧ (∀ (fr : Nat → AV) (b : Builtin) (args : List Operand) (ts : Array TypeId), Co fr (.call ⟨.builtin b, args.toArray, ts⟩) = nd fr args) ∧
  (∀ (fr : Nat → AV) (f : Operand) (args : List Operand) (ts : Array TypeId), Co fr (.call ⟨.value f, args.toArray, ts⟩) = nd fr (f :: args)) ∧ (∀ (fr : Nat → AV) (f : Fn) (cs : List Operand), Co fr (.makeFunc f #[] cs.toArray) = nd fr cs) := by
 refine ⟨?_, ?_, ?_, ?_, ?_, ?_, ?_, ?_, ?_, ?_, ?_, ?_, ?_, ?_, ?_, ?_, ?_, ?_, ?_, ?_, ?_, ?_⟩ <;> intros <;> simp [Co, Op.operands, Call.operands, nd]

variable [AU] in
theorem DV (fr : Nat → AV) (t : TypeId) (x : Operand) : (Co fr (.slice t x none none none) = nd fr [x]) ∧ (∀ y, Co fr (.slice t x (some y) none none) = nd fr [x, y]) ∧ (∀ y, Co fr (.slice t x none (some y) none) = nd fr [x, y]) ∧ (∀ y z, Co fr (.slice t x (some y) (some z) none) = nd fr [x, y, z]) := by
 refine ⟨?_, ?_, ?_, ?_⟩ <;> intros <;> simp [Co, Op.operands, nd]

theorem JU (ty : TypeId → Option TI) (t : TypeId) : (∀ (k : IntKind) (a b : Int), DB ty .add t (.d (.int k a)) (.d (.int k b)) = some (ar k (a + b))) ∧ (∀ (k : IntKind) (a b : Int), DB ty .sub t (.d (.int k a)) (.d (.int k b)) = some (ar k (a - b))) ∧ (∀ (k : IntKind) (a b : Int), DB ty .mul t (.d (.int k a)) (.d (.int k b)) = some (ar k (a * b))) ∧
  (∀ (k : IntKind) (a b : Int), DB ty .quo t (.d (.int k a)) (.d (.int k b)) = some (b ≠ 0 ∧ (ar k (a.tdiv b)).1, (ar k (a.tdiv b)).2)) ∧ (∀ (k : IntKind) (a b : Int), DB ty .rem t (.d (.int k a)) (.d (.int k b)) = some (b ≠ 0, .d (.int k (a.tmod b)))) ∧
  (∀ (k : IntKind) (a b : Int), DB ty .eql t (.d (.int k a)) (.d (.int k b)) = some (True, .d (.bool (decide (a = b))))) ∧ (∀ (k : IntKind) (a b : Int), DB ty .neq t (.d (.int k a)) (.d (.int k b)) = some (True, .d (.bool (!decide (a = b))))) ∧
  (∀ (k : IntKind) (a b : Int), DB ty .lss t (.d (.int k a)) (.d (.int k b)) = some (True, .d (.bool (decide (a < b))))) ∧ (∀ (k : IntKind) (a b : Int), DB ty .leq t (.d (.int k a)) (.d (.int k b)) = some (True, .d (.bool (decide (a ≤ b))))) ∧
  (∀ (k : IntKind) (a b : Int), DB ty .gtr t (.d (.int k a)) (.d (.int k b)) = some (True, .d (.bool (decide (b < a))))) ∧ (∀ (k : IntKind) (a b : Int), DB ty .geq t (.d (.int k a)) (.d (.int k b)) = some (True, .d (.bool (decide (b ≤ a))))) ∧
  (∀ (op : BinOp) (a b : List UInt8), DB ty op t (.d (.str a)) (.d (.str b)) = IB op a b) ∧ (∀ (op : BinOp) (cs ds : List AV), DB ty op t (.agg cs) (.agg ds) = match op with | .eql => G3 ty t false cs ds | .neq => G3 ty t true cs ds | _ => none) ∧
  (∀ (op : BinOp), DB ty op t (.d .nilp) (.d .nilp) = TS ty op t true) ∧ (∀ (op : BinOp) (cs : List D), DB ty op t (.d .nilp) (.d (.ptr cs)) = TS ty op t false) ∧ (∀ (op : BinOp) (cs : List D), DB ty op t (.d (.ptr cs)) (.d .nilp) = TS ty op t false) ∧
  (∀ (b : Bool), TS ty .eql t b = match ty t with | some ⟨.ptr _, _, _, _⟩ => some (True, .d (.bool b)) | _ => none) ∧ (∀ (b : Bool), TS ty .neq t b = match ty t with | some ⟨.ptr _, _, _, _⟩ => some (True, .d (.bool (!b))) | _ => none) := by
 refine ⟨?_, ?_, ?_, ?_, ?_, ?_, ?_, ?_, ?_, ?_, ?_, ?_, ?_, ?_, ?_, ?_, ?_, ?_⟩ <;> intros <;> first | rfl | (simp [DB, Rn]; done)

theorem GP : (∀ (n : Int), ar .i64 n = (BJ n, .d (.int .i64 n))) ∧ (∀ (n : Int), ar .u8 n = (True, .d (.int .u8 (IntKind.u8.wrap n)))) ∧ (∀ (n : Int), ar .u64 n = (True, .d (.int .u64 (IntKind.u64.wrap n)))) := ⟨fun _ => rfl, fun _ => rfl, fun _ => rfl⟩

theorem PC (ty : TypeId → Option TI) (t : TypeId) : (∀ (k k' : IntKind) (a b : Int), DB ty .shl t (.d (.int k a)) (.d (.int k' b)) = some (0 ≤ b, .d (.int k (k.wrap (a * 2 ^ (min b.toNat k.bits)))))) ∧ (∀ (k k' : IntKind) (a b : Int), DB ty .shr t (.d (.int k a)) (.d (.int k' b)) = some (0 ≤ b, .d (.int k (a.fdiv (2 ^ (min b.toNat k.bits)))))) ∧
  (∀ (k : IntKind) (a b : Int), DB ty .and t (.d (.int k a)) (.d (.int k b)) = some (True, .d (.int k (Fu .and k a b)))) ∧ (∀ (k : IntKind) (a b : Int), DB ty .or t (.d (.int k a)) (.d (.int k b)) = some (True, .d (.int k (Fu .or k a b)))) ∧ (∀ (k : IntKind) (a b : Int), DB ty .xor t (.d (.int k a)) (.d (.int k b)) = some (True, .d (.int k (Fu .xor k a b)))) := by
 refine ⟨?_, ?_, ?_, ?_, ?_⟩ <;> intros <;> simp [DB, Rn, KJ]

theorem Jy : (∀ (b : Bool), WE .not (.d (.bool b)) = some (True, .d (.bool !b))) ∧ (∀ (k : IntKind) (n : Int), WE .neg (.d (.int k n)) = some (ar k (0 - n))) ∧
  (∀ (x y z : Bool), DQ (.d (.bool x)) (.d (.bool y)) (.d (.bool z)) = some (True, .d (.bool (bif x then y else z)))) ∧ (∀ (x g y z : Bool), DQ (.d (.bool x)) (.cond g (.d (.bool y))) (.d (.bool z)) = some (x = true → g = true, .d (.bool (bif x then y else z)))) ∧
  (∀ (x y g z : Bool), DQ (.d (.bool x)) (.d (.bool y)) (.cond g (.d (.bool z))) = some (x = false → g = true, .d (.bool (bif x then y else z)))) ∧
  (∀ (f x y z : Bool), DQ (.cond f (.d (.bool x))) (.d (.bool y)) (.d (.bool z)) = some (f = true, .d (.bool (bif x then y else z)))) ∧ (∀ (f x g y z : Bool), DQ (.cond f (.d (.bool x))) (.cond g (.d (.bool y))) (.d (.bool z)) = some (f = true ∧ (x = true → g = true), .d (.bool (bif x then y else z)))) ∧
  (∀ (f x y g z : Bool), DQ (.cond f (.d (.bool x))) (.d (.bool y)) (.cond g (.d (.bool z))) = some (f = true ∧ (x = false → g = true), .d (.bool (bif x then y else z)))) ∧
  (∀ b : Bool, DQ (.d (.bool false)) (.cond false .any) (.d (.bool b)) = some (True ∧ True, .d (.bool b))) ∧ (∀ b : Bool, DQ (.d (.bool true)) (.d (.bool b)) (.cond false .any) = some (True ∧ True, .d (.bool b))) := by
 refine ⟨fun _ => rfl, fun _ _ => rfl, ?_, ?_, ?_, ?_, ?_, ?_, fun _ => rfl, fun _ => rfl⟩ <;> intros <;> simp_all [DQ, A4, Bh]
end

theorem Ej (x y : Bool) : (bif x then y else false) = (x && y) := by cases x <;> rfl
theorem Fa (x y : Bool) : (bif x then true else y) = (x || y) := by cases x <;> rfl

/-! ### steps -/
section
variable [AU] {P : Program} {E : Bo P} {W0 : World} {M0 : Nat → Prop}

theorem Aa {x y : Code} {st : St} {K : Exit → St → Prop} (h : ∀ N : St → Prop, (∀ st, VC E W0 M0 y st K → N st) → VC E W0 M0 x st (HX N K)) : VC E W0 M0 (.seq x y) st K :=
 TL (h _ fun _ h => h)
theorem QW {c : Operand} {x y : Code} {st : St} {K : Exit → St → Prop} {b : Bool} (hb : AL st.fr c = .d (.bool b)) (h1 : b = true → VC E W0 M0 x st K) (h2 : b = false → VC E W0 M0 y st K) : VC E W0 M0 (.cond c x y) st K :=
 Vj (by unfold R8; rw [hb]; exact ⟨h1, h2⟩)
/-! one operation at a time -/
section
variable {ops : Array Oper} {K : St → Prop} {o : Op} {d : Option Tmp} {t : TypeId} {p : String} {af : Array Edge} {r : List Oper} {fr : Nat → AV} {H H' : Ap} {n n' : Nat} {q : Prop} {c : AV} {b : Bool} {gd : Nat × Bool}
end

theorem A9 {σ : Type} (inv : σ → Prop) (fl : σ → List (Nat × AV)) (bl : σ → List (Option Bk)) (μ : σ → Nat) {np : Nat} (hnp : AU.np = np) (s0 : σ) {body : Code} {st : St} {K : Exit → St → Prop} (h0 : inv s0) (ρ : Ren) (hs : Ju np ρ st (fl s0) (bl s0))
  (round : ∀ s, inv s → ∀ N : St → Prop, (∀ st', (∃ s', inv s' ∧ μ s' < μ s ∧ ∃ ρ : Ren, Ju np ρ st' (fl s') (bl s')) → N st') → VC E W0 M0 body (Gn (fl s) (bl s)) (HX N K)) : VC E W0 M0 (.loop body) st K :=
 Vl inv (fun s => Gn (fl s) (bl s)) μ s0 h0 (Oq hnp ρ hs) (fun s hi => (round s hi _ fun _ h => h).mono fun e st h => by
  cases e with
  | normal => obtain ⟨s', h1, h2, ρ', h3⟩ := h; exact ⟨s', h1, h2, Oq hnp ρ' h3⟩
  | _ => exact h)

theorem WA {np : Nat} (hnp : AU.np = np) (fl : List (Nat × AV)) (bl : List (Option Bk)) (ρ : Ren) {c : Code} {st : St} {K : Exit → St → Prop} (h : Ju np ρ st fl bl) (hc : VC E W0 M0 c (Gn fl bl) K) : VC E W0 M0 c st K := VC.mk hnp ρ h hc
end
end Go.Vc
/- The Vc layer: the walk's rewriting rules under one name. -/
set_option linter.all false
namespace Go.Vc
open Go Go.RowKit

theorem AK {α : Type} : (∀ (cs : List α), Az cs 0 [] = cs) ∧ (∀ (c v : α) (cs vs : List α), Az (c :: cs) 0 (v :: vs) = v :: Az cs 0 vs) ∧ (∀ (c : α) (cs vs : List α) (n : Nat), Az (c :: cs) (n + 1) vs = c :: Az cs n vs) := by
 refine ⟨fun cs => by simp [Az], fun c v cs vs => by simp [Az], fun c cs vs n => ?_⟩
 simp [Az, Nat.add_right_comm]

theorem Ai {α : Type} : (∀ (l : List α), l.take 0 = []) ∧ (∀ (l : List α), l.drop 0 = l) ∧ (∀ (a : α) (l : List α) (n : Nat), (a :: l).take (n + 1) = a :: l.take n) ∧ (∀ (a : α) (l : List α) (n : Nat), (a :: l).drop (n + 1) = l.drop n) ∧
  (∀ (n : Nat), ([] : List α).take n = []) ∧ (∀ (n : Nat), ([] : List α).drop n = []) ∧ (∀ (a : α) (l : List α), (a :: l)[0]? = some a) ∧ (∀ (a : α) (l : List α) (n : Nat), (a :: l)[n + 1]? = l[n]?) ∧ (∀ (n : Nat), ([] : List α)[n]? = none) ∧
  (∀ (a : α) (l : List α), (a :: l).length = l.length + 1) ∧ (([] : List α).length = 0) ∧ (∀ (l : List α), [] ++ l = l) ∧ (∀ (l : List α), l ++ [] = l) ∧ (∀ (a : α) (l m : List α), (a :: l) ++ m = a :: (l ++ m)) ∧
  (∀ (a b : α) (l : List α), (a :: l).set 0 b = b :: l) ∧ (∀ (a b : α) (l : List α) (n : Nat), (a :: l).set (n + 1) b = a :: l.set n b) := by
 refine ⟨fun _ => rfl, fun _ => rfl, fun _ _ _ => rfl, fun _ _ _ => rfl, fun n => List.take_nil, fun n => List.drop_nil, fun _ _ => rfl, fun _ _ _ => rfl, fun _ => rfl, fun _ _ => rfl, rfl, fun _ => rfl, fun l => List.append_nil l, fun _ _ _ => rfl, fun _ _ _ => rfl, fun _ _ _ _ => rfl⟩

theorem Bu {α β : Type} : (∀ (f : α → β) (a : α), Option.map f (some a) = some (f a)) ∧ (∀ (f : α → β), Option.map f none = none) := ⟨fun _ _ => rfl, fun _ => rfl⟩
theorem Hb {α β : Type} : (∀ (f : α → Option β) (a : α), Option.bind (some a) f = f a) := fun _ _ => rfl
theorem A6 {α β : Type} : (∀ (f : α → β), List.map f [] = []) ∧ (∀ (f : α → β) (a : α) (l : List α), List.map f (a :: l) = f a :: List.map f l) := ⟨fun _ => rfl, fun _ _ _ => rfl⟩

theorem Tz : (∀ (fl : List (Nat × AV)) (bl : List (Option Bk)), Gn fl bl = ⟨G5 fl, As bl, bl.length⟩) := fun _ _ => rfl
theorem GQ : (∀ (p : Prop) [Decidable p], (decide p = true) = p) ∧ (∀ (p : Prop) [Decidable p], (decide p = false) ↔ ¬p) ∧ (∀ b : Bool, ((!b) = true) = (b = false)) ∧ (∀ b : Bool, ((!b) = false) = (b = true)) ∧ (∀ a b : Bool, ((a && b) = true) = (a = true ∧ b = true)) ∧ (∀ a b : Bool, ((a || b) = true) = (a = true ∨ b = true)) ∧ (∀ a b : Bool, ((!a) = b) ↔ a = !b) ∧ ((!true) = false) ∧ ((!false) = true) ∧ (∀ a b : Bool, ((a && b) = false) ↔ (a = true → b = false)) ∧ (∀ a b : Bool, ((a || b) = false) ↔ (a = false ∧ b = false)) ∧ (∀ b : Bool, (!!b) = b) := by
 refine ⟨fun _ _ => by simp, fun _ _ => by simp, ?_, ?_, ?_, ?_, ?_, ?_, ?_, ?_, ?_, ?_⟩ <;> simp

theorem Ev : (∀ b : Bool, (bif true then b else false) = b) ∧ (∀ b : Bool, (bif false then b else false) = false) ∧ ((!true) = false) ∧ ((!false) = true) ∧ (∀ b : Bool, (true && b) = b) ∧ (∀ b : Bool, (false && b) = false) ∧ (∀ b : Bool, (true || b) = true) ∧ (∀ b : Bool, (false || b) = b) ∧ (∀ b : Bool, (b && true) = b) ∧ (∀ b : Bool, (b || false) = b) := by
 refine ⟨?_, ?_, ?_, ?_, ?_, ?_, ?_, ?_, ?_, ?_⟩ <;> simp

theorem Bv {P : Program} (E : Bo P) : (∀ N : Nat, (E.at_ N).X = E.X) ∧ (∀ N : Nat, (E.at_ N).N = N) ∧ (∀ N : Nat, (E.at_ N).Γ = E.Γ) ∧ (∀ l : Nat, (E.inR l).X = E.X) ∧ (∀ l : Nat, (E.inR l).N = E.N) ∧ (∀ l : Nat, (E.inR l).Γ = E.Γ) :=
 ⟨fun _ => rfl, fun _ => rfl, fun _ => rfl, fun _ => rfl, fun _ => rfl, fun _ => rfl⟩
theorem NA {P : Program} (X : K5 P) : (Bo.empty X).X = X := rfl

theorem E5 : (∀ (ops : Array Oper) (fr : Nat → AV), AP ops fr none = some none) ∧ (∀ (ops : Array Oper) (fr : Nat → AV) (g : Nat) (want : Bool), AP ops fr (some (g, want)) = match (ops[g]?).bind (·.dst) with
  | some d => (match HL (fr d) want with | some b => some (some b) | none => none)
  | none => none) ∧ (∀ (l : List Oper) (i : Nat), (l.toArray)[i]? = l[i]?) ∧ (∀ (x : Bool), HL (.d (.bool x)) true = some x) ∧ (∀ (x : Bool), HL (.d (.bool x)) false = some !x) ∧ (∀ (g x : Bool), HL (.cond g (.d (.bool x))) true = some (g && x)) ∧ (∀ (g x : Bool), HL (.cond g (.d (.bool x))) false = some (g && !x)) ∧ (∀ (x : Bool), HL (.cond false .any) x = some false) :=
 ⟨fun _ _ => rfl, fun _ _ _ _ => rfl, fun l i => by simp, fun _ => rfl, fun _ => rfl, fun _ _ => rfl, fun _ _ => rfl, fun _ => rfl⟩

theorem Af : (∀ (N : St → Prop) (K : Exit → St → Prop), HX N K .normal = N) ∧ (∀ (N : St → Prop) (K : Exit → St → Prop), HX N K .ret = K .ret) ∧ (∀ (N : St → Prop) (K : Exit → St → Prop) (i : Nat), HX N K (.exit i) = K (.exit i)) ∧
  (∀ (i : Nat) (K : Exit → St → Prop), Hu i K .normal = K .normal) ∧ (∀ (i : Nat) (K : Exit → St → Prop), Hu i K .ret = K .ret) ∧ (∀ (i j : Nat) (K : Exit → St → Prop), Hu i K (.exit j) = if j = i then K .normal else K (.exit j)) := by
 refine ⟨fun _ _ => rfl, fun _ _ => rfl, fun _ _ _ => rfl, fun _ _ => rfl, fun _ _ => rfl, fun i j K => ?_⟩
 funext st
 simp only [Hu]
 split <;> rfl


theorem Bc : (∀ (cs : List AV), Bf (.agg cs) = cs) ∧ (∀ (x : D), Bf (.d x) = [.d x]) ∧ (∀ (i o l : Nat), Bf (.sl i o l) = [.sl i o l]) ∧ (∀ (i o l : Nat), Bf (.ptr i o l) = [.ptr i o l]) ∧
  (∀ (H : Ap) (cs : List AV), Di H (.agg cs) = some cs) ∧ (∀ (H : Ap) (x : D), Di H (.d x) = some [.d x]) ∧ (∀ (H : Ap) (z : Nat) (xs : List (List D)) (e f : Nat), Di H (.ip z xs e f) = some [.ip z xs e f]) ∧ (∀ (H : Ap) (f : Fn) (cs : List AV), Di H (.clo f cs) = some [.clo f cs]) ∧
  (∀ (H : Ap) (i o l : Nat), Di H (.sl i o l) = match H i with | some _ => some [.sl i o l] | none => none) ∧ (∀ (H : Ap) (i o l : Nat), Di H (.ptr i o l) = match H i with | some _ => some [.ptr i o l] | none => none) ∧
  (∀ (H : Ap), fz H [] = some (True, [], H)) ∧ (∀ (H : Ap) (c : AV) (cs : List AV), fz H (c :: cs) = match Vx H c with | some (p, d, H1) => (match fz H1 cs with | some (q, ds, H2) => some (p ∧ q, d :: ds, H2) | none => none) | none => none) ∧
  (∀ (H : Ap) (x : D), Vx H (.d x) = some (True, AR x, H)) ∧ (∀ (H : Ap) (id off len : Nat), Vx H (.sl id off len) = match H id with | some (.vec _ _ xs) => some (off + len ≤ xs.length, .sl ((xs.drop off).take len), Cf H id none) | _ => none) ∧
  (∀ (H : Ap) (id : Nat), Vx H (.ptr id 0 0) = match H id with | some (.one _ cells) => (match Cg cells with | some ds => some (True, .ptr ds, Cf H id none) | none => none) | _ => none) ∧
  (Cg [] = some []) ∧ (∀ (x : D) (cs : List AV), Cg (.d x :: cs) = match Cg cs with | some ds => some (AR x :: ds) | none => none) ∧
  (AR .nils = .sl []) ∧ (∀ b, AR (.bool b) = .bool b) ∧ (∀ k n, AR (.int k n) = .int k n) ∧ (∀ s, AR (.str s) = .str s) ∧ (∀ xs, AR (.sl xs) = .sl xs) ∧ (AR .nilp = .nilp) ∧ (∀ cs, AR (.ptr cs) = .ptr cs) := by
 refine ⟨fun _ => rfl, fun _ => rfl, fun _ _ _ => rfl, fun _ _ _ => rfl, fun _ _ => rfl, fun _ _ => rfl, fun _ _ _ _ _ => rfl, fun _ _ _ => rfl, fun _ _ _ _ => rfl, fun _ _ _ _ => rfl, fun _ => rfl, fun _ _ _ => rfl, fun _ _ => rfl, fun _ _ _ _ => rfl, fun _ _ => rfl, rfl, fun _ _ => rfl, rfl, fun _ => rfl, fun _ _ => rfl, fun _ => rfl, fun _ => rfl, rfl, fun _ => rfl⟩

theorem Bd : (∀ (H : Ap) (pl : Nat → Option (Nat × Nat)) (cs : List AV), Eg H pl cs [] = some cs) ∧ (∀ (H : Ap) (pl : Nat → Option (Nat × Nat)) (cs : List AV) (i : Nat) (v : AV) (rest : List (Nat × AV)), Eg H pl cs ((i, v) :: rest) = match pl i, Di H v with
   | some (off, sz), some vs => if vs.length = sz ∧ off + sz ≤ cs.length then Eg H pl (Az cs off vs) rest else none
   | _, _ => none) ∧
  (∀ (sz : Nat) (H : Ap) (k : Nat), FC sz H k [] = some (True, [], H)) ∧ (∀ (sz : Nat) (H : Ap) (k i : Nat) (v : AV) (r : List (Nat × AV)), FC sz H k ((i, v) :: r) = if i = k then match fz H (Bf v) with
   | some (p, ds, H1) => if ds.length = sz then (match FC sz H1 (k + 1) r with
    | some (q, rows, H2) => some (p ∧ q, ds :: rows, H2)
    | none => none) else none
   | none => none else none) := ⟨fun _ _ _ => rfl, fun _ _ _ _ _ _ => rfl, fun _ _ _ => rfl, fun _ _ _ _ _ _ => rfl⟩

theorem Bq : (∀ (len : Nat) (k : Nat → Nat → AV), IH none none len k = some (True, k 0 len)) ∧ (∀ (q : IntKind) (l : Int) (len : Nat) (k : Nat → Nat → AV), IH (some (.d (.int q l))) none len k = some (0 ≤ l ∧ l ≤ len, k l.toNat len)) ∧
  (∀ (q : IntKind) (h : Int) (len : Nat) (k : Nat → Nat → AV), IH none (some (.d (.int q h))) len k = some (0 ≤ h ∧ h ≤ len, k 0 h.toNat)) ∧ (∀ (q q' : IntKind) (l h : Int) (len : Nat) (k : Nat → Nat → AV), IH (some (.d (.int q l))) (some (.d (.int q' h))) len k = some (0 ≤ l ∧ l ≤ h ∧ h ≤ len, k l.toNat h.toNat)) :=
 ⟨fun _ _ => rfl, fun _ _ _ _ => rfl, fun _ _ _ _ => rfl, fun _ _ _ _ _ _ => rfl⟩

theorem K1 : (∀ a b : List UInt8, IB .add a b = some (a.length + b.length ≤ 9223372036854775807, .d (.str (a ++ b)))) ∧ (∀ a b : List UInt8, IB .eql a b = some (True, .d (.bool (decide (a = b))))) ∧ (∀ a b : List UInt8, IB .neq a b = some (True, .d (.bool (!decide (a = b))))) ∧
  (∀ a b : List UInt8, IB .lss a b = some (True, .d (.bool (Op.bytesLess a b)))) ∧ (∀ a b : List UInt8, IB .leq a b = some (True, .d (.bool (Op.bytesLess a b || decide (a = b))))) ∧
  (∀ a b : List UInt8, IB .gtr a b = some (True, .d (.bool !(Op.bytesLess a b || decide (a = b))))) ∧ (∀ a b : List UInt8, IB .geq a b = some (True, .d (.bool !(Op.bytesLess a b)))) :=
 ⟨fun _ _ => rfl, fun _ _ => rfl, fun _ _ => rfl, fun _ _ => rfl, fun _ _ => rfl, fun _ _ => rfl, fun _ _ => rfl⟩

theorem LY : (∀ (ty : TypeId → Option TI) (t : TypeId) (neg : Bool) (cs ds : List AV), G3 ty t neg cs ds = match ty t with
   | some ⟨.struct _ (k :: ks), _, _, _⟩ => (Gr (k :: ks) cs ds).map fun b => (True, .d (.bool (if neg then !b else b)))
   | _ => none) ∧ (Gr [] [] [] = some true) ∧ (∀ (k : BK) (ks : List BK) (x y : D) (xs ys : List AV), Gr (k :: ks) (.d x :: xs) (.d y :: ys) = match Vv k x y, Gr ks xs ys with | some b, some c => some (b && c) | _, _ => none) ∧
  (∀ a b, Vv .b (.bool a) (.bool b) = some (a == b)) ∧ (∀ k a b, Vv (.i k) (.int k a) (.int k b) = some (decide (a = b))) ∧ (∀ a b, Vv .s (.str a) (.str b) = some (decide (a = b))) := by
 refine ⟨fun _ _ _ _ _ => rfl, rfl, fun _ _ _ _ _ _ => rfl, fun _ _ => rfl, fun k a b => by simp [Vv], fun _ _ => rfl⟩

/-! ### calls -/
theorem Ch : (∀ (H : Ap) (D : List Nat) (x : Vc.D), EV H D (.d x) = some (True, .d (AR x), [])) ∧ (∀ (H : Ap) (D : List Nat) (id off len : Nat), EV H D (.sl id off len) = if id ∈ D then some (True, .sl id off len, []) else match H id with
   | some (.vec _ _ xs) => some (off + len ≤ xs.length, .d (.sl ((xs.drop off).take len)), [id])
   | _ => none) ∧ (∀ (H : Ap) (D : List Nat) (id e f : Nat), EV H D (.ptr id e f) = if id ∈ D then some (True, .ptr id e f, []) else match H id with | some (.one _ cells) => (match Cg cells with | some ds => some (e = 0 ∧ f = 0, .d (.ptr ds), [id]) | none => none) | _ => none) ∧ (∀ (H : Ap) (D : List Nat) (z : Nat) (xs : List (List Vc.D)) (e f : Nat), EV H D (.ip z xs e f) = some (True, .ip z xs e f, [])) ∧
  (∀ (H : Ap) (D : List Nat) (cs : List AV), EV H D (.agg cs) = match EA H D cs with | some (p, cs', B) => some (p, .agg cs', B) | none => none) ∧ (∀ (H : Ap) (D : List Nat) (f : Fn) (cs : List AV), EV H D (.clo f cs) = match EA H D cs with | some (p, cs', B) => some (p, .clo f cs', B) | none => none) ∧
  (∀ (H : Ap) (D : List Nat) (x : Vc.D), Ei H D (.d x) = some (True, .d (AR x), [])) ∧ (∀ (H : Ap) (D : List Nat) (id off len : Nat), Ei H D (.sl id off len) = if id ∈ D then some (True, .sl id off len, []) else match H id with
   | some (.vec _ _ xs) => some (off + len ≤ xs.length, .d (.sl ((xs.drop off).take len)), [id])
   | _ => none) ∧ (∀ (H : Ap) (D : List Nat) (id e f : Nat), Ei H D (.ptr id e f) = if id ∈ D then some (True, .ptr id e f, []) else match H id with | some (.one _ cells) => (match Cg cells with | some ds => some (e = 0 ∧ f = 0, .d (.ptr ds), [id]) | none => none) | _ => none) ∧ (∀ (H : Ap) (D : List Nat) (z : Nat) (xs : List (List Vc.D)) (e f : Nat), Ei H D (.ip z xs e f) = some (True, .ip z xs e f, [])) ∧
  (∀ (H : Ap) (D : List Nat), EA H D [] = some (True, [], [])) ∧ (∀ (H : Ap) (D : List Nat) (c : AV) (cs : List AV), EA H D (c :: cs) = match Ei H D c with | some (p, c', B) => (match EA H D cs with | some (q, cs', B') => some (p ∧ q, c' :: cs', B ++ B') | none => none) | none => none) ∧
  (∀ (H : Ap) (D : List Nat), CQ H D [] = some (True, [], [])) ∧ (∀ (H : Ap) (D : List Nat) (c : AV) (cs : List AV), CQ H D (c :: cs) = match EV H D c with | some (p, c', B) => (match CQ H D cs with | some (q, cs', B') => some (p ∧ q, c' :: cs', B ++ B') | none => none) | none => none) ∧ (∀ (H : Ap) (D : List Nat) (id : Nat), EV H D (.mp id) = if id ∈ D then some (True, .mp id, []) else none) ∧ (∀ (H : Ap) (D : List Nat) (id : Nat), Ei H D (.mp id) = if id ∈ D then some (True, .mp id, []) else none) := by
 refine ⟨fun _ _ _ => rfl, fun _ _ _ _ _ => rfl, fun _ _ _ _ _ => rfl, fun _ _ _ _ _ _ => rfl, fun _ _ _ => rfl, fun _ _ _ _ => rfl, fun _ _ _ => rfl, fun _ _ _ _ _ => rfl, fun _ _ _ _ _ => rfl, fun _ _ _ _ _ _ => rfl, fun _ _ => rfl, fun _ _ _ _ => rfl, fun _ _ => rfl, fun _ _ _ _ => rfl, fun _ _ _ => rfl, fun _ _ _ => rfl⟩

theorem BA (g : List AV → Option (Prop × AV)) : (∀ args H, (Spec.pure g).dom args H = []) ∧ (∀ args H n, (Spec.pure g).run args H n = match g args with | some (p, r) => some (p, r, none) | none => none) := ⟨fun _ _ => rfl, fun _ _ _ => rfl⟩
theorem FZ (g : Dr) : (∀ args H, (Spec.gen g).dom args H = HR args H) ∧ (∀ args H n, (Spec.gen g).run args H n = Ey g (HR args H) args H n) ∧ (∀ args H, (Spec.fresh g).dom args H = []) ∧ (∀ args H n, (Spec.fresh g).run args H n = Ey g [] args H n) := ⟨fun _ _ => rfl, fun _ _ _ => rfl, fun _ _ => rfl, fun _ _ _ => rfl⟩

theorem Ax : (∀ (D : List Nat) (f : Ap) (i : Nat), BE D f i = if i ∈ D then f i else none) ∧ (∀ (D : List Nat) (n : Nat) (f g : Ap) (i : Nat), Dm D n f g i = if i ∈ D ∨ n ≤ i then g i else f i) ∧ (∀ (B : List Nat) (f : Ap) (i : Nat), Bj B f i = if i ∈ B then none else f i) ∧
  (∀ (f : Ap), Bj [] f = f) ∧ (∀ (n : Nat) (H : Ap) (bf : List (Option Bk)) (ds : List Nat) (i : Nat), L6 ds n H bf i = if i < n then (match C6 ds i with | some j => DA ds n (As bf j) | none => H i) else DA ds n (As bf (ds.length + (i - n)))) := by
 refine ⟨fun _ _ _ => rfl, fun _ _ _ _ _ => rfl, fun _ _ _ => rfl, fun f => ?_, fun _ _ _ _ _ => rfl⟩
 funext i; simp [Bj]

theorem Ci : (∀ b, QA (.d (.bool b)) = true) ∧ (∀ k n, QA (.d (.int k n)) = true) ∧ (∀ s, QA (.d (.str s)) = true) ∧ (QA (.d .nils) = true) ∧ (QA (.d .nilp) = true) ∧ (∀ xs, QA (.d (.sl xs)) = false) ∧ (∀ xs, QA (.d (.ptr xs)) = false) ∧ (∀ cs, QA (.agg cs) = cs.all Q9) ∧ (∀ vs, QA (.tup vs) = vs.all Rf) ∧
  (∀ b, Rf (.d (.bool b)) = true) ∧ (∀ k n, Rf (.d (.int k n)) = true) ∧ (∀ s, Rf (.d (.str s)) = true) ∧ (Rf (.d .nils) = true) ∧ (Rf (.d .nilp) = true) ∧ (∀ xs, Rf (.d (.sl xs)) = false) ∧ (∀ xs, Rf (.d (.ptr xs)) = false) ∧ (∀ cs, Rf (.agg cs) = cs.all Q9) ∧
  (∀ b, Q9 (.d (.bool b)) = true) ∧ (∀ k n, Q9 (.d (.int k n)) = true) ∧ (∀ s, Q9 (.d (.str s)) = true) ∧ (Q9 (.d .nils) = true) ∧ (Q9 (.d .nilp) = true) ∧ (∀ xs, Q9 (.d (.sl xs)) = false) ∧ (∀ xs, Q9 (.d (.ptr xs)) = false) ∧
  (∀ {α : Type} (p : α → Bool), [].all p = true) ∧ (∀ {α : Type} (p : α → Bool) (a : α) (l : List α), (a :: l).all p = (p a && l.all p)) := by
 refine ⟨?_, ?_, ?_, ?_, ?_, ?_, ?_, ?_, ?_, ?_, ?_, ?_, ?_, ?_, ?_, ?_, ?_, ?_, ?_, ?_, ?_, ?_, ?_, ?_, ?_, ?_⟩ <;> intros <;> rfl


/-! ### a state seen as another -/
theorem SE (ρ : Ren) (H : Ap) : (∀ x y : D, Vc.mt ρ H (.d x) (.d y) = (x = y ∨ AR x = y)) ∧ (∀ (k o l : Nat) (y : D), Vc.mt ρ H (.sl k o l) (.d y) = match H k with | some (.vec _ _ xs) => (some k ∈ ρ → False) ∧ o + l ≤ xs.length ∧ D.sl ((xs.drop o).take l) = y | _ => False) ∧
  (∀ (k e f : Nat) (y : D), Vc.mt ρ H (.ptr k e f) (.d y) = match H k with | some (.one _ cells) => (match Cg cells with | some ds => (some k ∈ ρ → False) ∧ e = 0 ∧ f = 0 ∧ D.ptr ds = y | none => False) | _ => False) ∧
  (∀ (k o l i o' l' : Nat), Vc.mt ρ H (.sl k o l) (.sl i o' l') = (ρ[i]? = some (some k) ∧ o = o' ∧ l = l')) ∧ (∀ (i o' l' : Nat), Vc.mt ρ H (.d .nils) (.sl i o' l') = (ρ[i]? = some none ∧ o' = 0 ∧ l' = 0)) ∧
  (∀ (k o l i o' l' : Nat), Vc.mt ρ H (.ptr k o l) (.ptr i o' l') = (ρ[i]? = some (some k) ∧ o = o' ∧ l = l')) ∧ (∀ c : AV, Vc.mt ρ H c .any = True) ∧ (∀ (c : AV) (z : Nat) (xs : List (List D)) (e f : Nat), Vc.mt ρ H c (.ip z xs e f) = (c = .ip z xs e f)) ∧
  (∀ cs cs' : List AV, Vc.mt ρ H (.agg cs) (.agg cs') = Qo ρ H cs cs') ∧ (∀ (f g : Fn) (cs cs' : List AV), Vc.mt ρ H (.clo f cs) (.clo g cs') = (f = g ∧ Qo ρ H cs cs')) ∧ (∀ cs cs' : List AV, Vc.mt ρ H (.tup cs) (.tup cs') = NU ρ H cs cs') ∧
  (Qo ρ H [] [] = True) ∧ (∀ (c c' : AV) (cs cs' : List AV), Qo ρ H (c :: cs) (c' :: cs') = (Kp ρ H c c' ∧ Qo ρ H cs cs')) ∧ (NU ρ H [] [] = True) ∧ (∀ (c c' : AV) (cs cs' : List AV), NU ρ H (c :: cs) (c' :: cs') = (Kq ρ H c c' ∧ NU ρ H cs cs')) := by
 refine ⟨?_, ?_, ?_, ?_, ?_, ?_, ?_, ?_, ?_, ?_, ?_, ?_, ?_, ?_, ?_⟩ <;> intros <;> first | rfl | (simp [Vc.mt, Kq, Kp]; done) | (simp [Vc.mt, Kq, Kp, and_comm, eq_comm]; done) | skip
 all_goals (simp only [Vc.mt, Kq, Kp]; apply propext; constructor <;> (intro h; simp_all))

theorem Qn (ρ : Ren) (H : Ap) : (∀ x y : D, Kq ρ H (.d x) (.d y) = (x = y ∨ AR x = y)) ∧ (∀ (k o l : Nat) (y : D), Kq ρ H (.sl k o l) (.d y) = match H k with | some (.vec _ _ xs) => (some k ∈ ρ → False) ∧ o + l ≤ xs.length ∧ D.sl ((xs.drop o).take l) = y | _ => False) ∧
  (∀ (k e f : Nat) (y : D), Kq ρ H (.ptr k e f) (.d y) = match H k with | some (.one _ cells) => (match Cg cells with | some ds => (some k ∈ ρ → False) ∧ e = 0 ∧ f = 0 ∧ D.ptr ds = y | none => False) | _ => False) ∧
  (∀ (k o l i o' l' : Nat), Kq ρ H (.sl k o l) (.sl i o' l') = (ρ[i]? = some (some k) ∧ o = o' ∧ l = l')) ∧ (∀ (i o' l' : Nat), Kq ρ H (.d .nils) (.sl i o' l') = (ρ[i]? = some none ∧ o' = 0 ∧ l' = 0)) ∧
  (∀ (k o l i o' l' : Nat), Kq ρ H (.ptr k o l) (.ptr i o' l') = (ρ[i]? = some (some k) ∧ o = o' ∧ l = l')) ∧ (∀ c : AV, Kq ρ H c .any = True) ∧ (∀ (c : AV) (z : Nat) (xs : List (List D)) (e f : Nat), Kq ρ H c (.ip z xs e f) = (c = .ip z xs e f)) ∧
  (∀ cs cs' : List AV, Kq ρ H (.agg cs) (.agg cs') = Qo ρ H cs cs') ∧ (∀ (f g : Fn) (cs cs' : List AV), Kq ρ H (.clo f cs) (.clo g cs') = (f = g ∧ Qo ρ H cs cs')) := by
 refine ⟨?_, ?_, ?_, ?_, ?_, ?_, ?_, ?_, ?_, ?_⟩ <;> intros <;> first | rfl | (simp [Kq, Kp]; done) | skip
 all_goals (simp only [Kq, Kp]; apply propext; constructor <;> (intro h; simp_all))

theorem Qm (ρ : Ren) (H : Ap) : (∀ x y : D, Kp ρ H (.d x) (.d y) = (x = y ∨ AR x = y)) ∧ (∀ (k o l : Nat) (y : D), Kp ρ H (.sl k o l) (.d y) = match H k with | some (.vec _ _ xs) => (some k ∈ ρ → False) ∧ o + l ≤ xs.length ∧ D.sl ((xs.drop o).take l) = y | _ => False) ∧
  (∀ (k e f : Nat) (y : D), Kp ρ H (.ptr k e f) (.d y) = match H k with | some (.one _ cells) => (match Cg cells with | some ds => (some k ∈ ρ → False) ∧ e = 0 ∧ f = 0 ∧ D.ptr ds = y | none => False) | _ => False) ∧
  (∀ (k o l i o' l' : Nat), Kp ρ H (.sl k o l) (.sl i o' l') = (ρ[i]? = some (some k) ∧ o = o' ∧ l = l')) ∧ (∀ (i o' l' : Nat), Kp ρ H (.d .nils) (.sl i o' l') = (ρ[i]? = some none ∧ o' = 0 ∧ l' = 0)) ∧
  (∀ (k o l i o' l' : Nat), Kp ρ H (.ptr k o l) (.ptr i o' l') = (ρ[i]? = some (some k) ∧ o = o' ∧ l = l')) ∧ (∀ c : AV, Kp ρ H c .any = True) ∧ (∀ (c : AV) (z : Nat) (xs : List (List D)) (e f : Nat), Kp ρ H c (.ip z xs e f) = (c = .ip z xs e f)) := by
 refine ⟨?_, ?_, ?_, ?_, ?_, ?_, ?_, ?_⟩ <;> intros <;> first | rfl | (simp [Kp]; done) | skip
 all_goals (simp only [Kp]; apply propext; constructor <;> (intro h; simp_all))

theorem QL : (∀ (np : Nat) (ρ : Ren) (st : St) (fl : List (Nat × AV)) (bl : List (Option Bk)), Ju np ρ st fl bl = ((Eu ρ && (ρ.take np == (List.range np).map some)) = true ∧ FK ρ st.H ρ bl ∧ NT ρ st.H st.fr fl)) ∧
  (∀ (ρ : Ren) (H : Ap) (fr : Nat → AV), NT ρ H fr [] = True) ∧ (∀ (ρ : Ren) (H : Ap) (fr : Nat → AV) (i : Nat) (c : AV) (r : List (Nat × AV)), NT ρ H fr ((i, c) :: r) = (Vc.mt ρ H (fr i) c ∧ NT ρ H fr r)) ∧
  (∀ (ρ : Ren) (H : Ap), FK ρ H [] [] = True) ∧ (∀ (ρ : Ren) (H : Ap) (k : Nat) (r : Ren) (b : Bk) (bs : List (Option Bk)), FK ρ H (some k :: r) (some b :: bs) = ((match H k with | some b0 => Kr ρ H b0 b | none => False) ∧ FK ρ H r bs)) ∧
  (∀ (ρ : Ren) (H : Ap) (r : Ren) (t s : Nat) (xs : List (List D)) (bs : List (Option Bk)), FK ρ H (none :: r) (some (.vec t s xs) :: bs) = (xs = [] ∧ FK ρ H r bs)) ∧ (∀ (ρ : Ren) (H : Ap) (q : Option Nat) (r : Ren) (bs : List (Option Bk)), FK ρ H (q :: r) (none :: bs) = FK ρ H r bs) ∧
  (∀ (ρ : Ren) (H : Ap) (t s : Nat) (xs : List (List D)) (t' s' : Nat) (xs' : List (List D)), Kr ρ H (.vec t s xs) (.vec t' s' xs') = (t = t' ∧ s = s' ∧ xs = xs')) ∧ (∀ (ρ : Ren) (H : Ap) (t : Nat) (cs : List AV) (t' : Nat) (cs' : List AV), Kr ρ H (.one t cs) (.one t' cs') = (t = t' ∧ Qo ρ H cs cs')) := by
 refine ⟨fun _ _ _ _ _ => rfl, fun _ _ _ => rfl, fun _ _ _ _ _ _ => rfl, fun _ _ => rfl, fun _ _ _ _ _ _ => rfl, fun _ _ _ _ _ _ _ => rfl, fun _ _ q _ _ => ?_, fun _ _ _ _ _ _ _ _ => rfl, fun _ _ _ _ _ _ => rfl⟩
 cases q <;> rfl

theorem Q5 {P : Program} (E : Bo P) : (∀ (rs : List ResultVar) (r : AV) (e : Exit) (st : St), Tk E rs r e st = ((e = .normal ∨ e = .ret) ∧ match Gp E st.H st.fr rs with | some (p, cs) => p ∧ Vc.mt [] st.H (Gw cs) r | none => False)) ∧
  (∀ (rs : List ResultVar) (m : Nat) (r : AV) (bf : List (Option Bk)) (e : Exit) (st : St), UT E rs m r bf e st = ((e = .normal ∨ e = .ret) ∧ match Gp E st.H st.fr rs with | some (p, cs) => p ∧ ∃ ρ : Ren, (Eu ρ && (ρ.take m == (List.range m).map some)) = true ∧ FK ρ st.H ρ bf ∧ Vc.mt ρ st.H (Gw cs) r | none => False)) ∧
  (∀ (H : Ap) (fr : Nat → AV), Gp E H fr [] = some (True, [])) ∧ (∀ (H : Ap) (fr : Nat → AV) (t : Tmp) (r : List ResultVar), Gp E H fr (.tmp t :: r) = match Gp E H fr r with | some (p, cs) => some (Bh (fr t) ∧ p, A4 (fr t) :: cs) | none => none) ∧
  (∀ (H : Ap) (fr : Nat → AV) (a : Tmp) (ty : TypeId) (r : List ResultVar), Gp E H fr (.cell a ty :: r) = match EN E.X.ty H ty (A4 (fr a)), Gp E H fr r with | some (q, c), some (p, cs) => some (Bh (fr a) ∧ q ∧ p, c :: cs) | _, _ => none) :=
 ⟨fun _ _ _ _ => rfl, fun _ _ _ _ _ _ => rfl, fun _ _ => rfl, fun _ _ _ _ => rfl, fun _ _ _ _ _ => rfl⟩
theorem Ob : (∀ c : AV, Gw [c] = c) ∧ (∀ (c d : AV) (cs : List AV), Gw (c :: d :: cs) = .tup (c :: d :: cs)) ∧ (Gw [] = .tup []) := ⟨fun _ => rfl, fun _ _ _ => rfl, rfl⟩

def w1 := And.intro @Tz (And.intro @E5 (And.intro @AB (And.intro @AC (And.intro @AD (And.intro @AY (And.intro @CG (And.intro @SA (And.intro @Ba (And.intro @DU (And.intro @DV (And.intro @GP (And.intro @JU @Jy))))))))))))
def w2 := And.intro @Hr.eq_1 (And.intro @Pz.eq_1 (And.intro @JL.eq_1 (And.intro @DK.eq_1 (And.intro @Dk.eq_1 (And.intro @F4.eq_1 (And.intro @EN.eq_1 (And.intro @E6.eq_1 (And.intro @CA.eq_1 (And.intro @C9.eq_1 (And.intro @Ht.eq_1 (And.intro @Hs.eq_1 (And.intro @JN.eq_1 (And.intro @KG.eq_1 (And.intro @Ea.eq_1 (And.intro @Bq (And.intro @KH.eq_1 (And.intro @GN.eq_1 (And.intro @EM.eq_1 (And.intro @Et.eq_1 (And.intro @Cw.eq_1 (And.intro @BX.eq_1 (And.intro @Bc (And.intro @Bd (And.intro @K1 @LY))))))))))))))))))))))))
def w3 := And.intro @CM.eq_1 (And.intro @Ch (And.intro @BA (And.intro @FZ (And.intro @Ax (And.intro @Ci (And.intro @NA (And.intro @Bv (And.intro @Ev (And.intro @Ai (And.intro @A6 (And.intro @Bu (And.intro @Hb @AK))))))))))))
def w4 := And.intro @SE (And.intro @Qn (And.intro @Qm (And.intro @QL (And.intro @Ob @Q5))))
end Go.Vc
/- The Vc layer: from a row's reading of the arguments to data, and from a contract to the row. -/
set_option linter.all false
namespace Go.Vc
open Go Go.RowKit

def WT (P : Program) : Nat → TypeId → List D → Prop
 | 0, _, _ => False
 | k + 1, t, ds => match P.underlying t with
  | some .bool => ∃ b, ds = [.bool b]
  | some (.int q) => ∃ n, ds = [.int q n] ∧ (Lit.int q n).wf = true
  | some .string => ∃ s, ds = [.str s] ∧ s.length ≤ maxLen ∧ s.length ≤ reachBytes
  | some (.slice e) => ∃ xs, ds = [.sl xs] ∧ xs.length ≤ maxLen ∧ (∀ x ∈ xs, WT P k e x) ∧ xs.length * P.bytesOf e ≤ reachBytes
  | some (.struct fs) => ds.length = P.cellsOf t ∧ ∀ f ∈ fs.toList, WT P k f.type ((ds.drop f.offset).take (P.cellsOf f.type))
  | some (.array n e) => ds.length = P.cellsOf t ∧ ∀ i, i < n → WT P k e ((ds.drop (i * P.cellsOf e)).take (P.cellsOf e))
  | _ => False

def EF (P : Program) : Nat → TypeId → Bool
 | 0, _ => false
 | k + 1, t => match P.underlying t with
  | some .bool => true
  | some (.int _) => true
  | some .string => true
  | some (.slice e) => decide (0 < P.cellsOf e) && EF P k e
  | some (.struct fs) => P.consecB fs.toList 0 (P.cellsOf t) && fs.toList.all fun f => EF P k f.type
  | some (.array n e) => (P.cellsOf t == n * P.cellsOf e) && EF P k e
  | _ => false

def Pw (w : World) (O : Nat → Prop) (ds : List D) (cs : List Value) : Prop := ds.length = cs.length ∧ ∀ (j : Nat) (c : D) (u : Value), ds[j]? = some c → cs[j]? = some u → RD w O c u

theorem Pw.one {w : World} {O : Nat → Prop} {d : D} {u : Value} (h : RD w O d u) : Pw w O [d] [u] := ⟨rfl, fun j c v h1 h2 => by
 cases j with
 | zero => simp at h1 h2; subst h1 h2; exact h
 | succ j => simp at h1⟩

theorem Pw.app {w : World} {O : Nat → Prop} {d d' : List D} {u u' : List Value} (h : Pw w O d u) (h' : Pw w O d' u') : Pw w O (d ++ d') (u ++ u') := by
 refine ⟨by simp [h.1, h'.1], fun j c v h1 h2 => ?_⟩
 by_cases hj : j < d.length
 ·rw [List.getElem?_append_left hj] at h1
  rw [List.getElem?_append_left (by have := h.1; omega)] at h2
  exact h.2 j c v h1 h2
 ·rw [List.getElem?_append_right (by omega)] at h1
  rw [List.getElem?_append_right (by have := h.1; omega), ← h.1] at h2
  exact h'.2 _ c v h1 h2

section
variable {P : Program} {w : World}

theorem Mb {k : Nat} {cs : List Value} {total : Nat} (htot : cs.length = total) : ∀ (fs : List Field) (off : Nat), P.consecB fs off total = true → off ≤ total →
  (∀ f ∈ fs, ∃ ds, Pw w (fun _ => False) ds ((cs.drop f.offset).take (P.cellsOf f.type)) ∧ ds.length = P.cellsOf f.type ∧ WT P k f.type ds) →
  ∃ ds, Pw w (fun _ => False) ds (cs.drop off) ∧ (∀ f ∈ fs, off ≤ f.offset ∧ WT P k f.type ((ds.drop (f.offset - off)).take (P.cellsOf f.type))) := by
 intro fs
 induction fs with
 | nil =>
  intro off hc _ _
  simp only [Program.consecB, beq_iff_eq] at hc
  refine ⟨[], ⟨by simp; omega, fun j c u h => by simp at h⟩, fun f hf => by cases hf⟩
 | cons f fs ih =>
  intro off hc ho h
  simp only [Program.consecB, Bool.and_eq_true, beq_iff_eq] at hc
  obtain ⟨hoff, hc⟩ := hc
  obtain ⟨d0, h0, hl0, hw0⟩ := h f (by simp)
  have hle : off + P.cellsOf f.type ≤ total := by
   have := h0.1
   rw [List.length_take, List.length_drop, hl0] at this
   omega
  obtain ⟨ds, h1, h2⟩ := ih (off + P.cellsOf f.type) hc hle (fun g hg => h g (by simp [hg]))
  refine ⟨d0 ++ ds, ?_, fun g hg => ?_⟩
  ·have := h0.app h1
   rwa [hoff, take_drop_step] at this
  ·rcases List.mem_cons.1 hg with rfl | hg
   ·refine ⟨by omega, ?_⟩
    rw [hoff, Nat.sub_self, List.drop_zero, List.take_append_of_le_length (by omega), List.take_of_length_le (by omega)]
    exact hw0
   ·obtain ⟨h3, h4⟩ := h2 g hg
    refine ⟨by omega, ?_⟩
    rw [List.drop_append, show d0.drop (g.offset - off) = [] from List.drop_eq_nil_of_le (by omega), List.nil_append, hl0, show g.offset - off - P.cellsOf f.type = g.offset - (off + P.cellsOf f.type) by omega]
    exact h4

theorem N0 {k n e sz : Nat} {cs : List Value} (hlen : cs.length = n * sz) : ∀ (m s : Nat), s + m = n →
  (∀ i, i < n → ∃ ds, Pw w (fun _ => False) ds ((cs.drop (i * sz)).take sz) ∧ ds.length = sz ∧ WT P k e ds) →
  ∃ ds, Pw w (fun _ => False) ds (cs.drop (s * sz)) ∧ (∀ i, s ≤ i → i < n → WT P k e ((ds.drop ((i - s) * sz)).take sz)) := by
 intro m
 induction m with
 | zero =>
  intro s hs _
  refine ⟨[], ⟨by simp; rw [hlen, ← hs]; simp, fun j c u h => by simp at h⟩, fun i h1 h2 => by omega⟩
 | succ m ih =>
  intro s hs h
  obtain ⟨d0, h0, hl0, hw0⟩ := h s (by omega)
  obtain ⟨ds, h1, h2⟩ := ih (s + 1) (by omega) h
  refine ⟨d0 ++ ds, ?_, fun i hi1 hi2 => ?_⟩
  ·have := h0.app h1
   rwa [Nat.add_mul, Nat.one_mul, take_drop_step] at this
  ·rcases Nat.eq_or_lt_of_le hi1 with rfl | hlt
   ·rw [Nat.sub_self, Nat.zero_mul, List.drop_zero, List.take_append_of_le_length (by omega), List.take_of_length_le (by omega)]
    exact hw0
   ·have h3 := h2 i hlt hi2
    have e1 : (i - s) * sz = (i - (s + 1)) * sz + sz := by
     rw [show i - s = (i - (s + 1)) + 1 by omega, Nat.add_mul, Nat.one_mul]
    rw [List.drop_append, show d0.drop ((i - s) * sz) = [] from List.drop_eq_nil_of_le (by omega), List.nil_append, hl0, show (i - s) * sz - sz = (i - (s + 1)) * sz by omega]
    exact h3

theorem Hz {a : Addr} {n : Nat} {cs : List Value} (h : w.cells? 0 a n = some cs) : cs.length = n ∧ ∀ i, i < n → w.cell? (a.add i) = cs[i]? := by
 unfold World.cells? at h
 rw [if_pos (Nat.zero_le _)] at h
 exact ⟨by simpa using mapM_some_length h, fun i hi => by have := mapM_some_get h i i (by simp [hi]); simpa using this⟩

theorem VF (b o k : Nat) : (⟨b, o, none⟩ : Addr).add k = ⟨b, o + k, none⟩ := by unfold Addr.add; split <;> simp_all

theorem JX {a : Addr} {u : Value} (h : w.cell? a = some u) : a.spot = none ∧ a.block < w.heap.size := by
 unfold World.cell? at h
 split at h
 ·rename_i hb
  split at h
  ·cases h
  ·rename_i hs
   exact ⟨by simpa using hs, (Array.getElem?_eq_some_iff.1 hb).1⟩
 ·cases h

variable {H : Type} {enc : TypeId × Value → H}

theorem FW {P : Program} {e : TypeId} : ∀ {l : List (DataW H)} {d : DataW H}, d ∈ l → ∀ n ∈ d.weights P e, n ∈ DataW.weightsAll P e l
 | d0 :: l, d, h, n, hn => by
  simp only [DataW.weightsAll, List.mem_append]
  rcases List.mem_cons.1 h with rfl | h
  ·exact Or.inl hn
  ·exact Or.inr (FW h n hn)

theorem QO {sp : Nat → Bool} {held : Bool} : ∀ (k : Nat) (t : TypeId), EF P k t = true → ∀ (fuel : Nat) (cs : List Value) (x : DataW H × List MemPlace), DataW.trod enc P w 0 sp held fuel t cs = some x → (∀ n ∈ x.1.weights P t, n ≤ reachBytes) →
  ∃ ds, Pw w (fun _ => False) ds cs ∧ WT P k t ds := by
 intro k
 induction k with
 | zero => intro t h; cases h
 | succ k ih =>
  intro t hp fuel cs x h
  intro hz
  unfold EF at hp
  split at hp
  ·rename_i ht
   obtain ⟨b, rfl, _⟩ := DataW.trod_bool ht h
   exact ⟨_, .one (.bool b), by unfold WT; rw [ht]; exact ⟨b, rfl⟩⟩
  ·rename_i q ht
   obtain ⟨n, rfl, _, hw⟩ := DataW.trod_int ht h
   exact ⟨_, .one (.int q n), by unfold WT; rw [ht]; exact ⟨n, rfl, hw⟩⟩
  ·rename_i ht
   obtain ⟨s, rfl, rfl, hs⟩ := DataW.trod_string ht h
   refine ⟨[.str s.data.toList], .one ?_, by unfold WT; rw [ht]; exact ⟨_, rfl, hs, by simpa [DataW.weights] using hz⟩⟩
   have := RD.str (w := w) (O := fun _ => False) s.data.toList
   simpa using this
  ·rename_i e ht
   simp only [Bool.and_eq_true, decide_eq_true_eq] at hp
   obtain ⟨hpos, hpe⟩ := hp
   rcases DataW.trod_slice ht h with ⟨rfl, _⟩ | ⟨a, len, cap, elems, rest, n, rfl, rfl, rfl, _, hle, hcap, hel, hget, _⟩
   ·exact ⟨[.sl []], .one (.sl0 none 0), by unfold WT; rw [ht]; exact ⟨[], rfl, Nat.zero_le _, (fun x h => by cases h), by simp⟩⟩
   ·-- each element
    have each : ∀ i, i < len → ∃ (ds : List D) (us : List Value), w.cells? 0 (a.add (i * P.cellsOf e)) (P.cellsOf e) = some us ∧ Pw w (fun _ => False) ds us ∧ WT P k e ds := by
     intro i hi
     have hg := hget i hi
     cases hc : w.cells? 0 (a.add (i * P.cellsOf e)) (P.cellsOf e) with
     | none => rw [hc, List.getElem?_eq_getElem (by omega)] at hg; cases hg
     | some us =>
      rw [hc, List.getElem?_eq_getElem (by omega)] at hg
      simp only [Option.bind_some] at hg
      obtain ⟨ds, h1, h2⟩ := ih e hpe n us _ hg (fun m hm => hz m (by
       simp only [DataW.weights, ht]
       exact List.mem_cons_of_mem _ (List.mem_append.2 (.inl (FW (List.mem_map.2 ⟨elems[i]'(by omega), List.getElem_mem _, rfl⟩) m hm)))))
      exact ⟨ds, us, rfl, h1, h2⟩
    obtain ⟨xf, hxf⟩ : ∃ xf : Nat → List D, ∀ i, i < len → ∃ us, w.cells? 0 (a.add (i * P.cellsOf e)) (P.cellsOf e) = some us ∧ Pw w (fun _ => False) (xf i) us ∧ WT P k e (xf i) :=
     ⟨fun i => if h : i < len then (each i h).choose else [], fun i hi => by simp only [dif_pos hi]; exact (each i hi).choose_spec⟩
    refine ⟨[.sl ((List.range len).map xf)], ?_, ?_⟩
    ·refine .one ?_
     by_cases h0 : len = 0
     ·subst h0; exact .sl0 _ _
     ·obtain ⟨us0, hu0, _, _⟩ := hxf 0 (by omega)
      obtain ⟨hl0, hc0⟩ := Hz hu0
      have hsp : (a.add (0 * P.cellsOf e)).spot = none ∧ (a.add (0 * P.cellsOf e)).block < w.heap.size := by
       have := hc0 0 hpos
       rw [List.getElem?_eq_getElem (by omega)] at this
       have h2 := JX this
       unfold Addr.add at h2 ⊢
       split at h2 <;> simp_all
      have ha : ∃ b o, a = ⟨b, o, none⟩ := by
       obtain ⟨b, o, s⟩ := a
       unfold Addr.add at hsp
       cases s with
       | none => exact ⟨b, o, rfl⟩
       | some s => simp at hsp
      obtain ⟨b, o, rfl⟩ := ha
      have hblk : b < w.heap.size := by rw [VF] at hsp; exact hsp.2
      have hlen : ((List.range len).map xf).length = len := by simp
      have := RD.sl (w := w) (O := fun _ => False) ((List.range len).map xf) (P.cellsOf e) b o cap (fun i f => (w.cell? ⟨b, o + i * P.cellsOf e + f, none⟩).getD undef) (by omega) hblk (fun h => h) (fun x hx => ?_) (fun i f c hc => ?_) (fun i f c hc => ?_)
      ·rw [hlen] at this; exact this
      ·obtain ⟨i, hi, rfl⟩ := List.mem_map.1 hx
       obtain ⟨us, h1, h2, _⟩ := hxf i (by simpa using hi)
       rw [h2.1]; exact (Hz h1).1
      all_goals
       obtain ⟨x, hx1, hx2⟩ := Bi hc
       rw [List.getElem?_map] at hx1
       have hi : i < len := by
        rcases Nat.lt_or_ge i len with h | h
        ·exact h
        ·rw [List.getElem?_eq_none (by simpa using h)] at hx1; cases hx1
       rw [List.getElem?_range hi] at hx1
       simp only [Option.map_some, Option.some.injEq] at hx1
       subst hx1
       obtain ⟨us, h1, h2, _⟩ := hxf i hi
       obtain ⟨h3, h4⟩ := Hz h1
       have hf : f < us.length := by have := (List.getElem?_eq_some_iff.1 hx2).1; rw [h2.1] at this; exact this
       have h5 := h4 f (by omega)
       rw [VF, VF, List.getElem?_eq_getElem hf] at h5
      ·rw [h5]; rfl
      ·rw [h5]; exact h2.2 f c _ hx2 (List.getElem?_eq_getElem hf)
    ·unfold WT; rw [ht]
     refine ⟨_, rfl, by simp; omega, fun x hx => ?_, ?_⟩
     ·obtain ⟨i, hi, rfl⟩ := List.mem_map.1 hx
      obtain ⟨us, _, _, h3⟩ := hxf i (by simpa using hi)
      exact h3
     ·have h1 := hz ((elems.length + rest.length) * P.bytesOf e) (by simp only [DataW.weights, ht, List.length_map]; exact List.mem_cons_self)
      rw [Nat.add_mul] at h1
      rw [List.length_map, List.length_range]
      rw [hel] at h1
      omega
  ·rename_i fs ht
   simp only [Bool.and_eq_true, List.all_eq_true] at hp
   obtain ⟨hcon, hall⟩ := hp
   obtain ⟨xs, n, rfl, rfl, hlen, hxl, hget⟩ := DataW.trod_struct ht h
   obtain ⟨ds, h1, h2⟩ := Mb (k := k) (w := w) hlen fs.toList 0 hcon (Nat.zero_le _) (fun f hf => by
    obtain ⟨i, hi⟩ := List.getElem?_of_mem hf
    rw [Array.getElem?_toList] at hi
    have hg := hget i f hi
    have hil : i < xs.length := by rw [hxl]; exact (Array.getElem?_eq_some_iff.1 hi).1
    rw [List.getElem?_eq_getElem hil] at hg
    obtain ⟨ds, h3, h4⟩ := ih f.type (hall f hf) n _ _ hg (fun m hm => hz m (by
     simp only [DataW.weights, ht]
     refine DataW.weights_mem_each (j := i) (t := f.type) (d := xs[i].1) (by rw [List.getElem?_map, Array.getElem?_toList, hi]; rfl) (by rw [List.getElem?_map, List.getElem?_eq_getElem hil]; rfl) m hm))
    refine ⟨ds, h3, ?_, h4⟩
    -- the field's cells are all there
    have key : ∀ (fs : List Field) (off : Nat), P.consecB fs off (P.cellsOf t) = true → off ≤ P.cellsOf t ∧ ∀ f ∈ fs, f.offset + P.cellsOf f.type ≤ P.cellsOf t := by
     intro fs
     induction fs with
     | nil => intro off hc; simp only [Program.consecB, beq_iff_eq] at hc; exact ⟨by omega, fun f hf => by cases hf⟩
     | cons g fs ih2 =>
      intro off hc
      simp only [Program.consecB, Bool.and_eq_true, beq_iff_eq] at hc
      obtain ⟨h5, h6⟩ := ih2 _ hc.2
      refine ⟨by omega, fun f hf => ?_⟩
      rcases List.mem_cons.1 hf with rfl | hf
      ·omega
      ·exact h6 f hf
    have := (key fs.toList 0 hcon).2 f hf
    rw [h3.1, List.length_take, List.length_drop]
    omega)
   rw [List.drop_zero] at h1
   refine ⟨ds, h1, ?_⟩
   unfold WT; rw [ht]
   exact ⟨by rw [h1.1, hlen], fun f hf => by simpa using (h2 f hf).2⟩
  ·rename_i m e ht
   simp only [Bool.and_eq_true, beq_iff_eq] at hp
   obtain ⟨hsz, hpe⟩ := hp
   obtain ⟨xs, n, rfl, rfl, hlen, hxl, hget⟩ := DataW.trod_array ht h
   obtain ⟨ds, h1, h2⟩ := N0 (P := P) (k := k) (w := w) (e := e) (n := m) (sz := P.cellsOf e) (cs := cs) (by omega) m 0 (by omega) (fun i hi => by
    have hg := hget i hi
    rw [List.getElem?_eq_getElem (by omega)] at hg
    obtain ⟨ds, h3, h4⟩ := ih e hpe n _ _ hg (fun q hq => hz q (by
     simp only [DataW.weights, ht]
     exact FW (List.mem_map.2 ⟨xs[i]'(by omega), List.getElem_mem _, rfl⟩) q hq))
    refine ⟨ds, h3, ?_, h4⟩
    rw [h3.1, List.length_take, List.length_drop, hlen, hsz]
    have : (i + 1) * P.cellsOf e ≤ m * P.cellsOf e := Nat.mul_le_mul_right _ hi
    rw [Nat.add_mul] at this
    omega)
   rw [Nat.zero_mul, List.drop_zero] at h1
   refine ⟨ds, h1, ?_⟩
   unfold WT; rw [ht]
   exact ⟨by rw [h1.1, hlen], fun i hi => by simpa using h2 i (Nat.zero_le _) hi⟩
  ·cases hp

def EK (P : Program) (k : Nat) (t : TypeId) (c : AV) : Prop :=
 match P.underlying t with
 | some (.struct _) | some (.array _ _) => ∃ ds, c = .agg (ds.map .d) ∧ WT P k t ds
 | _ => ∃ x, c = .d x ∧ WT P k t [x]

@[reducible] def D9 (mx : Int) : AU := { F := fun _ => False, nev := fun _ => False, sub := fun _ h => h, pin := fun _ => none, np := 0, marks := true, mx := mx }
variable {mx : Int}
def KE (mx : Int) (w : World) : Prop := ∀ p ∈ @FE (D9 mx), KD w (fun _ => False) p


theorem M8 {b : Nat} : ¬ @own (D9 mx) (fun _ => none) b := by
 rintro (h | ⟨i, l, h, _⟩)
 ·exact h
 ·cases h

theorem Rv {sp : Nat → Bool} {held : Bool} {k : Nat} {t : TypeId} {v : Value} {d : DataW H} {ps : List MemPlace} {base : Nat} (hp : EF P k t = true) (hv : Value.okWide P w .any base t v) (h : DataW.Trod enc P w 0 sp held t v d ps) (hz : ∀ n ∈ d.weights P t, n ≤ reachBytes) :
  ∃ c, EK P k t c ∧ @R (D9 mx) w (fun _ => none) 0 c v := by
 obtain ⟨fuel, h⟩ := h
 obtain ⟨ds, h1, h2⟩ := QO k t hp fuel _ _ h hz
 have up : ∀ {c : D} {u : Value}, RD w (fun _ => False) c u → RD w (@own (D9 mx) (fun _ => none)) c u := fun h => h.ext (Nat.le_refl _) (fun _ _ _ => rfl) (fun b _ _ h => M8 h)
 have agg : ∀ cs : Array Value, v = .agg cs → @R (D9 mx) w (fun _ => none) 0 (.agg (ds.map .d)) v := by
  rintro cs rfl
  have hl : ds.length = cs.toList.length := h1.1
  have e : (cs.toList.toArray : Array Value) = cs := by simp
  rw [show Value.agg cs = Value.agg cs.toList.toArray by rw [e]]
  refine @R.agg (D9 mx) _ _ _ _ cs.toList (by simp at hl ⊢; omega) (fun u hu => ?_) (fun i c u hc hu => ?_)
  ·obtain ⟨j, hj⟩ := List.getElem?_of_mem hu
   have hj' : j < ds.length := by have := (List.getElem?_eq_some_iff.1 hj).1; omega
   exact (h1.2 j _ u (List.getElem?_eq_getElem hj') hj).one
  ·rw [List.getElem?_map] at hc
   cases hd : ds[i]? with
   | none => rw [hd] at hc; cases hc
   | some d => rw [hd] at hc; cases hc; exact @R.d (D9 mx) _ _ _ _ _ (up (h1.2 i d u hd hu))
 unfold EK
 unfold Value.okWide at hv
 split
 ·rename_i fs ht
  rw [ht] at hv
  obtain ⟨cs, rfl, _, _⟩ := hv
  exact ⟨_, ⟨ds, rfl, h2⟩, agg cs rfl⟩
 ·rename_i n e ht
  rw [ht] at hv
  obtain ⟨cs, rfl, _, _⟩ := hv
  exact ⟨_, ⟨ds, rfl, h2⟩, agg cs rfl⟩
 ·rename_i hns hna
  have hone : ∃ x, ds = [x] := by
   cases k with
   | zero => cases hp
   | succ k =>
    unfold WT at h2
    split at h2
    ·obtain ⟨b, rfl⟩ := h2; exact ⟨_, rfl⟩
    ·obtain ⟨n, rfl, _⟩ := h2; exact ⟨_, rfl⟩
    ·obtain ⟨n, rfl, _⟩ := h2; exact ⟨_, rfl⟩
    ·obtain ⟨n, rfl, _⟩ := h2; exact ⟨_, rfl⟩
    ·rename_i fs ht; exact (hns fs ht).elim
    ·rename_i n e ht; exact (hna n e ht).elim
    ·exact h2.elim
  obtain ⟨x, rfl⟩ := hone
  have hcells : v.cells = #[v] := by
   cases v with
   | agg cs =>
    exfalso
    -- an aggregate of one cell would be read at a type that is none
    cases k with
    | zero => cases hp
    | succ k =>
     unfold EF at hp
     split at hp
     ·rename_i ht; simp [ht, Cell.okWide, Cell.ok] at hv
     ·rename_i q ht; simp [ht, Cell.okWide, Cell.ok] at hv
     ·rename_i ht; simp [ht, Cell.okWide, Cell.ok] at hv
     ·rename_i e ht; simp [ht, Cell.okWide, Cell.ok] at hv
     ·rename_i fs ht; exact hns fs ht
     ·rename_i n e ht; exact hna n e ht
     ·cases hp
   | _ => rfl
  rw [hcells] at h1
  exact ⟨_, ⟨x, rfl, h2⟩, @R.d (D9 mx) _ _ _ _ _ (up (h1.2 0 x v rfl rfl))⟩

def O8 (P : Program) (k : Nat) (ts : List TypeId) (g : List AV → Option (Prop × AV)) : Prop :=
 ∀ args : List AV, args.length = ts.length → (∀ (i : Nat) (t : TypeId) (c : AV), ts[i]? = some t → args[i]? = some c → EK P k t c) → ∃ p, g args = some (p, .d (.bool true)) ∧ p

theorem Qh (hgl : KE mx w) {f : FuncId} {g : List AV → Option (Prop × AV)} (hm : A5 P f (Spec.pure g)) {k : Nat} {ts : List TypeId} (hpl : ∀ t ∈ ts, EF P k t = true) (hlaw : O8 P k ts g) {base : Nat} {args : Array Value} {ds : List (DataW H)} {ps : List MemPlace}
  (hok : ∀ (j : Nat) t v, ts[j]? = some t → args[j]? = some v → Value.okWide P w .any base t v) (hA : DataW.TrodAll enc P w 0 (fun _ => true) true ts args.toList ds ps) (hz : ∀ (j : Nat) t d, ts[j]? = some t → ds[j]? = some d → ∀ n ∈ d.weights P t, n ≤ reachBytes) :
  Calls P f args w fun e w' => e = .returned (.bool true) ∧ Below w.heap.size w w' := by
 have key : ∀ (ts : List TypeId) (vs : List Value) (ds : List (DataW H)) (ps : List MemPlace), (∀ t ∈ ts, EF P k t = true) → (∀ (j : Nat) t v, ts[j]? = some t → vs[j]? = some v → Value.okWide P w .any base t v) → DataW.TrodAll enc P w 0 (fun _ => true) true ts vs ds ps → (∀ (j : Nat) t d, ts[j]? = some t → ds[j]? = some d → ∀ n ∈ d.weights P t, n ≤ reachBytes) →
   vs.length = ts.length ∧ ∃ cs : List AV, cs.length = ts.length ∧ (∀ (i : Nat) (t : TypeId) (c : AV), ts[i]? = some t → cs[i]? = some c → EK P k t c) ∧ (∀ (i : Nat) (c : AV) (u : Value), cs[i]? = some c → vs[i]? = some u → @R (D9 mx) w (fun _ => none) 0 c u) := by
  intro ts
  induction ts with
  | nil =>
   intro vs ds ps _ _ h _
   obtain ⟨rfl, _, _⟩ := ChangeShapes.trodAll_nil h
   exact ⟨rfl, [], rfl, fun i t c h => by simp at h, fun i c u h => by simp at h⟩
  | cons t ts ih =>
   intro vs ds ps hp ho h hz
   obtain ⟨v, vs1, d, ds1, a, b, rfl, rfl, rfl, h1, h2⟩ := ChangeShapes.trodAll_cons h
   obtain ⟨hl, cs, e1, e2, e3⟩ := ih vs1 ds1 b (fun t ht => hp t (by simp [ht])) (fun j t v h1 h2 => ho (j + 1) t v (by simpa using h1) (by simpa using h2)) h2 (fun j t d h1 h2 => hz (j + 1) t d (by simpa using h1) (by simpa using h2))
   obtain ⟨c, c1, c2⟩ := Rv (hp t (by simp)) (ho 0 t v rfl rfl) h1 (hz 0 t d rfl rfl)
   refine ⟨by simp [hl], c :: cs, by simp [e1], fun i t' c' hi hc => ?_, fun i c' u hi hu => ?_⟩
   ·cases i with
    | zero => simp at hi hc; subst hi hc; exact c1
    | succ i => exact e2 i t' c' (by simpa using hi) (by simpa using hc)
   ·cases i with
    | zero => simp at hi hu; subst hi hu; exact c2
    | succ i => exact e3 i c' u (by simpa using hi) (by simpa using hu)
 obtain ⟨hl, cs, e1, e2, e3⟩ := key ts args.toList ds ps hpl (fun j t v h1 h2 => hok j t v h1 (by simpa using h2)) hA hz
 obtain ⟨p, hg, hp⟩ := hlaw cs e1 e2
 have h0 : @Ag (D9 mx) w (Fv (fun _ => none) (fun _ => none)) (fun _ => none) 0 w (fun _ => none) :=
  @Ag.mk (D9 mx) _ _ _ _ _ _ (fun _ _ => rfl) (fun i l b h => by cases h) (fun id b h => by cases h) (fun i j l l' b h => by cases h) (fun i l h => by cases h) (fun i l b h => by cases h) (fun i l b h => by cases h) rfl rfl rfl (Nat.le_refl _) (fun _ _ _ => rfl) (fun b h => h.elim) (fun i h => absurd h (Nat.not_lt_zero i)) (fun p hp => (hgl p hp).ext (Nat.le_refl _) (fun _ _ _ => rfl) fun _ _ _ => M8)
 unfold A5 at hm
 have := @hm cs (fun _ => none) 0 p (.d (.bool true)) none (by simp only [Spec.pure, hg]) hp (D9 mx) w (fun _ => none) args.toList h0 (by omega) e3
 rw [show args.toList.toArray = args by simp] at this
 refine this.mono ?_
 rintro e w' ⟨v, S', rfl, hL, hs, hR⟩
 obtain ⟨_, hsame⟩ := hs rfl
 refine ⟨by rw [@R.bool_iff (D9 mx)] at hR; rw [hR], ?_⟩
 have hH' := @Left.heap (D9 mx) _ _ _ _ _ _ _ _ hL
 exact ⟨@Ag.os (D9 mx) _ _ _ _ _ _ hH', @Ag.tape (D9 mx) _ _ _ _ _ _ hH', @Ag.output (D9 mx) _ _ _ _ _ _ hH', @Ag.size (D9 mx) _ _ _ _ _ _ hH', hsame⟩
end
end Go.Vc
/- The Vc layer: a law's row out of its contract. -/
set_option linter.all false
namespace Go.Vc
open Go Go.RowKit Go.ChangeShapes Go.WideShapes Go.ChangeAt

section
variable {P : Program} {H : Type} {enc : TypeId × Value → H}

theorem JG (hl : laidOutB P = true) {W W' : World} {sp' : Nat → Bool} : ∀ (ts : List TypeId) (vs : List Value) (ds : List (DataW H)) (ps : List MemPlace), (∀ t ∈ ts, P.readableRec t = true ∧ t < P.types.size) →
  DataW.TrodAll enc P W 0 (fun _ => true) true ts vs ds ps → (∀ p ∈ ps, W.sameAt W' p) → (∀ p ∈ ps, sp' p.block = true) → DataW.TrodAll enc P W' 0 sp' true ts vs ds ps := by
 intro ts
 induction ts with
 | nil =>
  intro vs ds ps _ h _ _
  obtain ⟨rfl, rfl, rfl⟩ := trodAll_nil h
  exact rfl
 | cons t ts ih =>
  intro vs ds ps hr h hs hsp
  obtain ⟨v, vs1, d, ds1, a, b, rfl, rfl, rfl, h1, h2⟩ := trodAll_cons h
  obtain ⟨hr1, hr2⟩ := hr t (by simp)
  exact ⟨a, b, WideElems.Trod_stays hl hr1 hr2 h1 (fun p hp => hs p (List.mem_append.2 (.inl hp))) (fun p hp => hsp p (List.mem_append.2 (.inl hp))),
   ih vs1 ds1 b (fun u hu => hr u (by simp [hu])) h2 (fun p hp => hs p (List.mem_append.2 (.inr hp))) (fun p hp => hsp p (List.mem_append.2 (.inr hp))), rfl⟩

theorem MR {w : World} {b : Nat} {sp : Nat → Bool} {hd : Bool} : ∀ (ts : List TypeId) (vs : List Value) (ds : List (DataW H)) (ps : List MemPlace), DataW.TrodAll enc P w b sp hd ts vs ds ps → ds.length = ts.length := by
 intro ts
 induction ts with
 | nil => intro vs ds ps h; obtain ⟨_, rfl, _⟩ := trodAll_nil h; rfl
 | cons t ts ih =>
  intro vs ds ps h
  obtain ⟨v, vs1, d, ds1, a, b, rfl, rfl, rfl, _, h2⟩ := trodAll_cons h
  simp [ih _ _ _ h2]

def O9 (s : ChangeSpec) (n : Nat) : Prop := s.vars = [] ∧ ∀ (H : Type) (ds : List (DataW H)), ds.length = n → (s.fn H ds).results = [.lit (.bool true)] ∧ (s.fn H ds).args = ds ∧ (s.fn H ds).vars = []

theorem Sr {fn : Func} {s : ChangeSpec} {fresh handsOn : Bool} {W W' : World} {args : Array Value} {ds gs : List (DataW H)} {before : List MemPlace} {tb : TypeId} (hl : laidOutB P = true) (hr : ∀ t ∈ fn.params.toList, P.readableRec t = true ∧ t < P.types.size)
  (hres : fn.resultTypes = #[tb]) (htb : P.underlying tb = some .bool) (hs : O9 s fn.params.size) (hW : DataW.Whole enc P fn.params.toList s.vars false W args.toList ds gs before) (hB : Below W.heap.size W W') :
  s.post enc P fn false fresh handsOn false W args (.bool true) W' := by
 obtain ⟨hv, hfn⟩ := hs
 have hW' := hW
 obtain ⟨p, q, hA, hV, rfl, hz, hn⟩ := hW
 rw [hv] at hV
 obtain ⟨rfl, rfl⟩ := trodVars_none hV
 have hlen : ds.length = fn.params.size := by have := MR _ _ _ _ hA; simpa using this
 obtain ⟨e1, e2, e3⟩ := hfn H (ds ++ []) (by simpa using hlen)
 have hlt : ∀ x ∈ p, x.block < W.heap.size := fun x hx => hW'.lt x (by simpa using hx)
 refine ⟨ds, [], p ++ [], [], p, [], hW', ?_, ?_, ?_, hB.frame _, fun h => by cases h⟩
 ·rw [e1, hres]
  exact trodAll_mk1 (shut_bool htb true)
 ·rw [e2, List.append_nil]
  exact JG hl _ _ _ _ hr hA (fun x hx => hB.same (hlt x hx)) (fun x hx => by simpa using hlt x hx)
 ·rw [e3, hv]
  exact rfl

end
end Go.Vc
