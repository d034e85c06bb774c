/- The Vc layer, part 3. -/
import Derived.Test.YtmbjnkgpcbpclaaGreatV2
import Derived.RangeFuncIn
import Derived.RangeFuncSeq
import Derived.ProofKit
import Derived.DataOpen
import Derived.OpenShut
import Derived.SizedLaws
/- The Vc layer: functions that turn boxes that they are handed, or hand back new ones. -/
set_option linter.all false
namespace Go.Vc
open Go Go.RowKit
/-! ### numbers of boxes in values -/
def M6 : AV → List Nat
 | .sl id _ _ => [id]
 | .ptr id _ _ => [id]
 | .mp id => [id]
 | _ => []
def KY : List AV → List Nat
 | [] => []
 | c :: cs => M6 c ++ KY cs
def KX : AV → List Nat
 | .agg cs => KY cs
 | .clo _ cs => KY cs
 | c => M6 c
def Og : List AV → List Nat
 | [] => []
 | c :: cs => KX c ++ Og cs
def SK : Option B7 → List Nat
 | some (.one _ cs) => KY cs
 | _ => []
def Eg : List Nat → List Nat → List Nat
 | l, [] => l
 | l, i :: r => if l.contains i then Eg l r else Eg (l ++ [i]) r
def L0 (H : Av) : List Nat → List Nat
 | [] => []
 | i :: r => SK (H i) ++ L0 H r
def Jh (args : List AV) (H : Av) : List Nat := Eg (Eg [] (Og args)) (L0 H (Eg [] (Og args)))
def Dk : List Nat → Nat → Option Nat
 | [], _ => none
 | d :: r, i => if i = d then some 0 else match Dk r i with
  | some j => some (j + 1)
  | none => none
def Ei : List Nat → Bool
 | [] => true
 | d :: r => !r.contains d && Ei r
theorem DS : ∀ {l : List Nat} {i j : Nat}, Dk l i = some j → l[j]? = some i := by
 intro l
 induction l with
 | nil => intro i j h; cases h
 | cons d r ih =>
  intro i j h
  unfold Dk at h
  split at h
  ·rename_i hi; cases h; simp [hi]
  ·split at h
   ·rename_i k hk; cases h; simpa using ih hk
   ·cases h
theorem GT : ∀ {l : List Nat} {i : Nat}, Dk l i = none → i ∉ l := by
 intro l
 induction l with
 | nil => intro i _ h; cases h
 | cons d r ih =>
  intro i h hm
  unfold Dk at h
  split at h
  ·cases h
  ·rename_i hi
   split at h
   ·cases h
   ·rename_i hn
    rcases List.mem_cons.1 hm with rfl | hm
    ·exact hi rfl
    ·exact ih hn hm
theorem MD : ∀ {l : List Nat} {i j : Nat}, Ei l = true → l[j]? = some i → Dk l i = some j := by
 intro l
 induction l with
 | nil => intro i j _ h; simp at h
 | cons d r ih =>
  intro i j hn h
  simp only [Ei, Bool.and_eq_true, Bool.not_eq_true'] at hn
  unfold Dk
  cases j with
  | zero => simp at h; simp [h]
  | succ j =>
   have hr : r[j]? = some i := by simpa using h
   have : i ≠ d := fun e => by
    have : r.contains d = true := by rw [List.contains_iff_mem]; exact List.mem_of_getElem? (e ▸ hr)
    rw [hn.1] at this; cases this
   rw [if_neg this, ih hn.2 hr]
/-! ### the callee's numbers -/
def HW (ds : List Nat) : AV → Option AV
 | .sl id off len => match Dk ds id with
  | some j => some (.sl j off len)
  | none => none
 | .ptr id e f => match Dk ds id with
  | some j => some (.ptr j e f)
  | none => none
 | .mp id => match Dk ds id with
  | some j => some (.mp j)
  | none => none
 | .d x => some (.d x)
 | .ip sz xs e f => some (.ip sz xs e f)
 | .any => some .any
 | _ => none
def Oq (ds : List Nat) : List AV → Option (List AV)
 | [] => some []
 | c :: cs => match HW ds c, Oq ds cs with
  | some c', some cs' => some (c' :: cs')
  | _, _ => none
def HX (ds : List Nat) : AV → Option AV
 | .agg cs => match Oq ds cs with
  | some cs' => some (.agg cs')
  | none => none
 | .clo fn cs => match Oq ds cs with
  | some cs' => some (.clo fn cs')
  | none => none
 | c => HW ds c
def UG (ds : List Nat) : List AV → Option (List AV)
 | [] => some []
 | c :: cs => match HX ds c, UG ds cs with
  | some c', some cs' => some (c' :: cs')
  | _, _ => none
def GB (ds : List Nat) : Option B7 → Option B7
 | some (.vec t s xs) => some (.vec t s xs)
 | some (.one t cs) => match Oq ds cs with
  | some cs' => some (.one t cs')
  | none => none
 | some (.ob o) => some (.ob o)
 | _ => none
def HY (ds : List Nat) (H : Av) : List Nat → Option (List (Option B7))
 | [] => some []
 | d :: r => match GB ds (H d), HY ds H r with
  | some b, some bs => some (some b :: bs)
  | _, _ => none
/-! ### and back -/
def KM (ds : List Nat) (n i : Nat) : Nat := match ds[i]? with
 | some d => d
 | none => n + (i - ds.length)
def Vw (ds : List Nat) (n : Nat) : AV → AV
 | .sl i off len => .sl (KM ds n i) off len
 | .ptr i e f => .ptr (KM ds n i) e f
 | .mp i => .mp (KM ds n i)
 | .d x => .d x
 | .ip sz xs e f => .ip sz xs e f
 | _ => .any
def Nm (ds : List Nat) (n : Nat) : List AV → List AV
 | [] => []
 | c :: cs => Vw ds n c :: Nm ds n cs
def Ru (ds : List Nat) (n : Nat) : AV → AV
 | .agg cs => .agg (Nm ds n cs)
 | .clo fn cs => .clo fn (Nm ds n cs)
 | c => Vw ds n c
def Jv (ds : List Nat) (n : Nat) : List AV → List AV
 | [] => []
 | c :: cs => Ru ds n c :: Jv ds n cs
def Ti (ds : List Nat) (n : Nat) : AV → AV
 | .tup cs => .tup (Jv ds n cs)
 | c => Ru ds n c
def Ex (ds : List Nat) (n : Nat) : Option B7 → Option B7
 | some (.vec t s xs) => some (.vec t s xs)
 | some (.one t cs) => some (.one t (Nm ds n cs))
 | some (.ob o) => some (.ob o)
 | none => none
def Nl (ds : List Nat) (n : Nat) (H : Av) (bf : List (Option B7)) : Av := fun i =>
 if i < n then match Dk ds i with
  | some j => Ex ds n (Ax bf j)
  | none => H i
 else Ex ds n (Ax bf (ds.length + (i - n)))
def DD : List (Option B7) → Bool
 | [] => true
 | some _ :: r => DD r
 | none :: _ => false
abbrev DP := List AV → List (Option B7) → Option (Prop × AV × List (Option B7))
def Ft (g : DP) (ds : List Nat) (args : List AV) (H : Av) (n : Nat) : Option (Prop × AV × Option (Av × Nat)) :=
 match UG ds args, HY ds H ds with
 | some ia, some bl => match g ia bl with
  | some (p, r, bf) => if Ei ds = true ∧ ds.length ≤ bf.length ∧ DD (bf.drop ds.length) = true then some (p, Ti ds n r, some (Nl ds n H bf, n + (bf.length - ds.length))) else none
  | none => none
 | _, _ => none
def Spec.gen (g : DP) : Spec := ⟨Jh, fun args H n => Ft g (Jh args H) args H n⟩
def Spec.fresh (g : DP) : Spec := ⟨fun _ _ => [], fun args H n => Ft g [] args H n⟩
def X1 {P : Program} (E : Bq P) (rs : List ResultVar) (m : Nat) (r : AV) (bf : List (Option B7)) : Exit → St → Prop := fun e st =>
 (e = .normal ∨ e = .ret) ∧ match Hf E st.H st.fr rs with
  | some (p, cs) => p ∧ ∃ ρ : Ren, (Fp ρ && (ρ.take m == (List.range m).map some)) = true ∧ GD ρ st.H ρ bf ∧ mt ρ st.H (Hm cs) r
  | none => False
section
variable {F : Bl} {P : Program} {w w' : World} {S S2 : Lays} {n m k : Nat} {ds : List Nat} {hlt : ∀ b, @own F S b → b < w.heap.size} {H : Av}
theorem Ge {i j : Nat} (h : Dk ds i = some j) : pick ds S j = S i := by
 unfold pick; simp only [DS h]
theorem MB {c c' : AV} (h : HW ds c = some c') {v : Value} (hv : @R F w S n c v) : @R (A9 F w S hlt ds) w (pick ds S) ds.length c' v := by
 have mv : ∀ {d : D} {v : Value}, RD w (@own F S) d v → RD w (@own (A9 F w S hlt ds) (pick ds S)) d v := fun h => h.ext (Nat.le_refl _) (fun _ _ _ => rfl) (fun b _ hb hb' => hb (E0 hb'))
 unfold HW at h
 split at h
 ·rename_i id off len
  split at h
  ·rename_i j hj
   cases h
   have hjl : j < ds.length := (List.getElem?_eq_some_iff.1 (DS hj)).1
   cases hv with
   | slDead _ _ _ _ hn hS => exact @R.slDead (A9 F w S hlt ds) _ _ _ _ _ _ _ hjl ((Ge hj).trans hS)
   | sl _ _ _ o l hn hS hc ho h0 => exact @R.sl (A9 F w S hlt ds) _ _ _ _ _ _ o l hjl ((Ge hj).trans hS) hc ho h0
  ·cases h
 ·rename_i id e f
  split at h
  ·rename_i j hj
   cases h
   have hjl : j < ds.length := (List.getElem?_eq_some_iff.1 (DS hj)).1
   cases hv with
   | ptrDead _ _ _ _ hn hS => exact @R.ptrDead (A9 F w S hlt ds) _ _ _ _ _ _ _ hjl ((Ge hj).trans hS)
   | ptr _ _ _ b l hn hS hb => exact @R.ptr (A9 F w S hlt ds) _ _ _ _ _ _ b l hjl ((Ge hj).trans hS) hb
  ·cases h
 ·rename_i id
  split at h
  ·rename_i j hj
   cases h
   have hjl : j < ds.length := (List.getElem?_eq_some_iff.1 (DS hj)).1
   cases hv with
   | mpDead _ _ hn hS => exact @R.mpDead (A9 F w S hlt ds) _ _ _ _ _ hjl ((Ge hj).trans hS)
   | mp _ l hn hS => exact @R.mp (A9 F w S hlt ds) _ _ _ _ l hjl ((Ge hj).trans hS)
  ·cases h
 ·cases h
  cases hv with | d hx => exact @R.d (A9 F w S hlt ds) _ _ _ _ _ (mv hx)
 ·cases h
  cases hv with | ip _ _ _ _ b o u hb hO hc hr => exact @R.ip (A9 F w S hlt ds) _ _ _ _ _ _ _ b o u hb (fun h => hO (E0 h)) hc (fun e f c hh => mv (hr e f c hh))
 ·cases h
  exact @R.any (A9 F w S hlt ds) _ _ _ _
 ·cases h
theorem PW : ∀ {cs cs' : List AV}, Oq ds cs = some cs' → cs'.length = cs.length ∧ ∀ (i : Nat) (c' : AV), cs'[i]? = some c' → ∃ c, cs[i]? = some c ∧ HW ds c = some c' := by
 intro cs
 induction cs with
 | nil => intro cs' h; cases h; exact ⟨rfl, fun i c' h => by simp at h⟩
 | cons c cs ih =>
  intro cs' h
  unfold Oq at h
  split at h
  ·rename_i c1 cs1 h1 h2
   cases h
   obtain ⟨h3, h4⟩ := ih h2
   refine ⟨by simp [h3], fun i d hd => ?_⟩
   cases i with
   | zero => simp at hd; subst hd; exact ⟨c, rfl, h1⟩
   | succ i => simpa using h4 i d (by simpa using hd)
  ·cases h
theorem UF {c c' : AV} (h : HX ds c = some c') {v : Value} (hv : @R F w S n c v) : @R (A9 F w S hlt ds) w (pick ds S) ds.length c' v := by
 unfold HX at h
 split at h
 ·split at h
  ·rename_i cs' hcs
   cases h
   obtain ⟨h1, h2⟩ := PW hcs
   cases hv with | agg _ us hl h1' hr =>
   exact @R.agg (A9 F w S hlt ds) _ _ _ _ us (by omega) h1' (fun i c u hc hu => by obtain ⟨c0, h3, h4⟩ := h2 i c hc; exact MB h4 (hr i c0 u h3 hu))
  ·cases h
 ·split at h
  ·rename_i cs' hcs
   cases h
   obtain ⟨h1, h2⟩ := PW hcs
   cases hv with | clo _ _ us hl hr =>
   exact @R.clo (A9 F w S hlt ds) _ _ _ _ _ us (by omega) (fun i c u hc hu => by obtain ⟨c0, h3, h4⟩ := h2 i c hc; exact MB h4 (hr i c0 u h3 hu))
  ·cases h
 ·exact MB h hv
theorem UH : ∀ {cs cs' : List AV}, UG ds cs = some cs' → cs'.length = cs.length ∧ ∀ (i : Nat) (c' : AV), cs'[i]? = some c' → ∃ c, cs[i]? = some c ∧ HX ds c = some c' := by
 intro cs
 induction cs with
 | nil => intro cs' h; cases h; exact ⟨rfl, fun i c' h => by simp at h⟩
 | cons c cs ih =>
  intro cs' h
  unfold UG at h
  split at h
  ·rename_i c1 cs1 h1 h2
   cases h
   obtain ⟨h3, h4⟩ := ih h2
   refine ⟨by simp [h3], fun i d hd => ?_⟩
   cases i with
   | zero => simp at hd; subst hd; exact ⟨c, rfl, h1⟩
   | succ i => simpa using h4 i d (by simpa using hd)
  ·cases h
theorem MC : ∀ {l : List Nat} {bs : List (Option B7)}, HY ds H l = some bs → bs.length = l.length ∧ ∀ (i : Nat) (b : B7), Ax bs i = some b → ∃ d, l[i]? = some d ∧ GB ds (H d) = some b := by
 intro l
 induction l with
 | nil => intro bs h; cases h; exact ⟨rfl, fun i b h => by simp [Ax] at h⟩
 | cons d l ih =>
  intro bs h
  unfold HY at h
  split at h
  ·rename_i b1 bs1 h1 h2
   cases h
   obtain ⟨h3, h4⟩ := ih h2
   refine ⟨by simp [h3], fun i b hb => ?_⟩
   cases i with
   | zero => simp [Ax] at hb; subst hb; exact ⟨d, rfl, h1⟩
   | succ i => simpa using h4 i b (by simpa [Ax] using hb)
  ·cases h
theorem L3 : ∀ {l : List Nat} {bs : List (Option B7)}, HY ds H l = some bs → ∀ d ∈ l, (H d).isSome = true := by
 intro l
 induction l with
 | nil => intro bs h d hd; cases hd
 | cons d l ih =>
  intro bs h e he
  unfold HY at h
  split at h
  ·rename_i b1 bs1 h1 h2
   rcases List.mem_cons.1 he with rfl | he
   ·cases hd : H e with
    | none => rw [hd] at h1; cases h1
    | some => rfl
   ·exact ih h2 e he
  ·cases h
theorem UI {b b' : B7} (h : GB ds (some b) = some b') {l : Lay} (hb : @BQ F w S n b l) : @BQ (A9 F w S hlt ds) w (pick ds S) ds.length b' l := by
 have mv : ∀ {d : D} {v : Value}, RD w (@own F S) d v → RD w (@own (A9 F w S hlt ds) (pick ds S)) d v := fun h => h.ext (Nat.le_refl _) (fun _ _ _ => rfl) (fun b _ hb hb' => hb (E0 hb'))
 cases b with
 | vec t s xs =>
  cases h
  obtain ⟨h1, h2, h3, h4, h5, h6⟩ := hb
  refine ⟨h1, h2, h3, h4, h5, fun b hb => ?_⟩
  obtain ⟨cur, e1, e2, e3⟩ := h6 b hb
  exact ⟨cur, e1, e2, fun e f c hh => by obtain ⟨u, e4, e5⟩ := e3 e f c hh; exact ⟨u, e4, mv e5⟩⟩
 | one t cs =>
  unfold GB at h
  simp only at h
  split at h
  ·rename_i cs' hcs
   cases h
   obtain ⟨h1, h2⟩ := PW hcs
   obtain ⟨g1, g2, b, hb, cur, e1, e2, e3⟩ := hb
   refine ⟨by omega, g2, b, hb, cur, e1, by omega, fun f c hc => ?_⟩
   obtain ⟨c0, h3, h4⟩ := h2 f c hc
   obtain ⟨u, e4, e5, e6⟩ := e3 f c0 h3
   exact ⟨u, e4, e5, MB h4 e6⟩
  ·cases h
 | ob o =>
  cases h
  exact o.same hb (fun b _ hb hb' => hb (E0 hb'))
theorem V5 (hn : Ei ds = true) {i j d : Nat} (hi : ds[i]? = some d) (hj : ds[j]? = some d) : i = j := by
 have := (MD hn hi).symm.trans (MD hn hj)
 cases this; rfl
theorem Ai.view {W0 : World} {M0 : Nat → Prop} (hH : @Ai F W0 M0 H n w S) (hn : Ei ds = true) {bl : List (Option B7)} (hb : HY ds H ds = some bl) :
  @Ai (A9 F w S hlt ds) w (fun b => ∃ j l, pick ds S j = some l ∧ l.has b) (Ax bl) bl.length w (pick ds S) := by
 obtain ⟨hl, hB⟩ := MC hb
 refine @Ai.mk (A9 F w S hlt ds) _ _ _ _ _ _ ?_ ?_ ?_ ?_ ?_ ?_ ?_ rfl rfl rfl (Nat.le_refl _) (fun _ _ _ => rfl) ?_ ?_ (fun p hp => (hH.gl p hp).ext (Nat.le_refl _) (fun _ _ _ => rfl) (fun b _ hb h => hb (E0 h)))
 ·intro j hj
  unfold pick
  rw [List.getElem?_eq_none (by omega)]
 ·intro j l b h1 h2
  obtain ⟨d, _, h3⟩ := CH h1
  exact hH.lt2 d l b h3 h2
 ·intro j b h
  obtain ⟨d, h1, h2⟩ := hB j b h
  cases hd : H d with
  | none => rw [hd] at h2; cases h2
  | some b0 =>
   rw [hd] at h2
   obtain ⟨l, h3, h4⟩ := hH.box d b0 hd
   refine ⟨l, by unfold pick; simp only [h1]; exact h3, ?_⟩
   rw [hl]
   exact UI h2 h4
 ·intro i j l l' b hi hj h1 h2
  obtain ⟨d, e1, e2⟩ := CH hi
  obtain ⟨d', e3, e4⟩ := CH hj
  have := hH.inj2 d d' l l' b e2 e4 h1 h2
  subst this
  exact V5 hn e1 e3
 ·intro j l hj
  obtain ⟨d, _, h3⟩ := CH hj
  exact hH.nod d l h3
 ·intro j l b hb' hj hp
  obtain ⟨d, e1, e2⟩ := CH hj
  obtain ⟨d', h1, h2⟩ := hB j b hb'
  rw [e1] at h1; cases h1
  cases hd : H d with
  | none => rw [hd] at h2; cases h2
  | some b0 =>
   rw [hd] at h2
   refine hH.plain d l b0 hd e2 ?_
   cases b0 with
   | ob o => cases h2; exact hp
   | _ => rfl
 ·intro j l b _ h1 h2
  exact .inr ⟨j, l, h1, h2⟩
 ·intro b h
  exact h
 ·intro j h
  exact ⟨by have : j < ds.length := h; omega, .inl rfl⟩
/-! ### behind -/
def Ih (ds : List Nat) (n : Nat) (S S2 : Lays) : Lays := fun i =>
 if i < n then match Dk ds i with
  | some j => S2 j
  | none => S i
 else S2 (ds.length + (i - n))
theorem IQ (hn : Ei ds = true) (hd : ∀ d ∈ ds, d < n) (i : Nat) : Ih ds n S S2 (KM ds n i) = S2 i := by
 unfold Ih KM
 cases hi : ds[i]? with
 | some d =>
  simp only
  rw [if_pos (hd d (List.mem_of_getElem? hi)), MD hn hi]
 | none =>
  have : ds.length ≤ i := by
   rw [List.getElem?_eq_none_iff] at hi; exact hi
  simp only
  rw [if_neg (by omega)]
  congr 1
  omega
end
end Go.Vc
/- The Vc layer: functions that turn boxes that they are handed, or hand back new ones: their contracts. -/
set_option linter.all false
namespace Go.Vc
open Go Go.RowKit
section
variable {F : Bl} {P : Program} {w w' : World} {S S2 : Lays} {n : Nat} {ds : List Nat} {hlt : ∀ b, @own F S b → b < w.heap.size} {H : Av} {bf : List (Option B7)} {W0 : World} {M0 M1 : Nat → Prop}
structure Handed (F : Bl) (H : Av) (n : Nat) (w : World) (S : Lays) (ds : List Nat) : Prop where
 nd : Ei ds = true
 live : ∀ d ∈ ds, ∃ l, S d = some l
 lt : ∀ d ∈ ds, d < n
 alive : ∀ d ∈ ds, (H d).isSome = true
theorem Handed.mk' (hH : @Ai F W0 M0 H n w S) (hn : Ei ds = true) (hl : ∀ d ∈ ds, (H d).isSome = true) : Handed F H n w S ds := by
 have live : ∀ d ∈ ds, ∃ l, S d = some l := fun d hd => by
  obtain ⟨b, hb⟩ := Option.isSome_iff_exists.1 (hl d hd)
  obtain ⟨l, h1, _⟩ := hH.box d b hb
  exact ⟨l, h1⟩
 refine ⟨hn, live, fun d hd => ?_, hl⟩
 obtain ⟨l, h1⟩ := live d hd
 exact hH.lt h1
theorem Ot {l : List Nat} {i j : Nat} (h : Dk l i = some j) : i ∈ l := List.mem_of_getElem? (DS h)
theorem Ij (hD : Handed F H n w S ds) (hH : @Ai F W0 M0 H n w S) {b : Nat} (h : @own F (Ih ds n S S2) b) : @own (A9 F w S hlt ds) S2 b := by
 rcases h with h | ⟨i, l, h1, h2⟩
 ·refine .inl ⟨.inl h, fun j l hj hb => ?_⟩
  obtain ⟨d, _, h3⟩ := CH hj
  exact (hH.far b (Bl.sub b h)).2 d l h3 hb
 ·unfold Ih at h1
  split at h1
  ·split at h1
   ·rename_i j hj; exact .inr ⟨j, l, h1, h2⟩
   ·rename_i hno
    refine .inl ⟨.inr ⟨i, l, h1, h2⟩, fun j l' hj hb => ?_⟩
    obtain ⟨d, h3, h4⟩ := CH hj
    have := hH.inj2 d i l' l b h4 h1 hb h2
    subst this
    exact GT hno (List.mem_of_getElem? h3)
  ·exact .inr ⟨_, l, h1, h2⟩
theorem IP (hD : Handed F H n w S ds) {m i : Nat} (hm : ds.length ≤ m) (hi : i < m) : KM ds n i < n + (m - ds.length) := by
 unfold KM
 cases h : ds[i]? with
 | some d => have := hD.lt d (List.mem_of_getElem? h); simp only; omega
 | none =>
  have : ds.length ≤ i := by rw [List.getElem?_eq_none_iff] at h; exact h
  simp only; omega
theorem ML (hD : Handed F H n w S ds) (hH : @Ai F W0 M0 H n w S) {m : Nat} (hm : ds.length ≤ m) {c : AV} {v : Value} (hv : @R (A9 F w S hlt ds) w' S2 m c v) : @R F w' (Ih ds n S S2) (n + (m - ds.length)) (Vw ds n c) v := by
 have mv : ∀ {d : D} {v : Value}, RD w' (@own (A9 F w S hlt ds) S2) d v → RD w' (@own F (Ih ds n S S2)) d v := fun h => h.ext (Nat.le_refl _) (fun _ _ _ => rfl) (fun b _ hb hb' => hb (Ij hD hH hb'))
 cases hv with
 | any v => exact .any _
 | d hx => exact .d (mv hx)
 | ip sz xs e f b o u hb hO hc hr => exact .ip sz xs e f b o u hb (fun h => hO (Ij hD hH h)) hc (fun e f c hh => mv (hr e f c hh))
 | slDead id off len v hn hS => exact .slDead _ off len v (IP hD hm hn) ((IQ hD.nd hD.lt id).trans hS)
 | sl id off len o l hn hS hc ho h0 => exact .sl _ off len o l (IP hD hm hn) ((IQ hD.nd hD.lt id).trans hS) hc ho h0
 | ptrDead id e f v hn hS => exact .ptrDead _ e f v (IP hD hm hn) ((IQ hD.nd hD.lt id).trans hS)
 | ptr id e f b l hn hS hb => exact .ptr _ e f b l (IP hD hm hn) ((IQ hD.nd hD.lt id).trans hS) hb
 | mpDead id v hn hS => exact .mpDead _ v (IP hD hm hn) ((IQ hD.nd hD.lt id).trans hS)
 | mp id l hn hS => exact .mp _ l (IP hD hm hn) ((IQ hD.nd hD.lt id).trans hS)
 | agg cs us hl h1 hr => exact .any _
 | tup cs us hl hr => exact .any _
 | clo fn cs us hl hr => exact .any _
 | cond b c v hr hu => exact .any _
theorem MM {cs : List AV} : ∀ {i : Nat} {c : AV}, (Nm ds n cs)[i]? = some c → ∃ c0, cs[i]? = some c0 ∧ c = Vw ds n c0 := by
 induction cs with
 | nil => intro i c h; simp [Nm] at h
 | cons c cs ih =>
  intro i d h
  cases i with
  | zero => simp [Nm] at h; exact ⟨c, rfl, h.symm⟩
  | succ i => simpa using ih (by simpa [Nm] using h)
theorem Gd (cs : List AV) : (Nm ds n cs).length = cs.length := by
 induction cs with
 | nil => rfl
 | cons c cs ih => simp [Nm, ih]
theorem V0 {cs : List AV} : ∀ {i : Nat} {c : AV}, (Jv ds n cs)[i]? = some c → ∃ c0, cs[i]? = some c0 ∧ c = Ru ds n c0 := by
 induction cs with
 | nil => intro i c h; simp [Jv] at h
 | cons c cs ih =>
  intro i d h
  cases i with
  | zero => simp [Jv] at h; exact ⟨c, rfl, h.symm⟩
  | succ i => simpa using ih (by simpa [Jv] using h)
theorem O9 (cs : List AV) : (Jv ds n cs).length = cs.length := by
 induction cs with
 | nil => rfl
 | cons c cs ih => simp [Jv, ih]
theorem Vx (hD : Handed F H n w S ds) (hH : @Ai F W0 M0 H n w S) {m : Nat} (hm : ds.length ≤ m) {c : AV} {v : Value} (hv : @R (A9 F w S hlt ds) w' S2 m c v) : @R F w' (Ih ds n S S2) (n + (m - ds.length)) (Ru ds n c) v := by
 unfold Ru
 split
 ·rename_i cs
  cases hv with | agg _ us hl h1 hr =>
  exact .agg _ us (by rw [Gd]; exact hl) h1 (fun i c u hc hu => by obtain ⟨c0, h3, rfl⟩ := MM hc; exact ML hD hH hm (hr i c0 u h3 hu))
 ·rename_i fn cs
  cases hv with | clo _ _ us hl hr =>
  exact .clo _ _ us (by rw [Gd]; exact hl) (fun i c u hc hu => by obtain ⟨c0, h3, rfl⟩ := MM hc; exact ML hD hH hm (hr i c0 u h3 hu))
 ·exact ML hD hH hm hv
theorem Vy (hD : Handed F H n w S ds) (hH : @Ai F W0 M0 H n w S) {m : Nat} (hm : ds.length ≤ m) {c : AV} {v : Value} (hv : @R (A9 F w S hlt ds) w' S2 m c v) : @R F w' (Ih ds n S S2) (n + (m - ds.length)) (Ti ds n c) v := by
 unfold Ti
 split
 ·rename_i cs
  cases hv with | tup _ us hl hr =>
  exact .tup _ us (by rw [O9]; exact hl) (fun i c u hc hu => by obtain ⟨c0, h3, rfl⟩ := V0 hc; exact Vx hD hH hm (hr i c0 u h3 hu))
 ·exact Vx hD hH hm hv
theorem Vz (hD : Handed F H n w S ds) (hH : @Ai F W0 M0 H n w S) {m : Nat} (hm : ds.length ≤ m) {b b' : B7} (hb' : Ex ds n (some b) = some b') {l : Lay} (hb : @BQ (A9 F w S hlt ds) w' S2 m b l) : @BQ F w' (Ih ds n S S2) (n + (m - ds.length)) b' l := by
 have mv : ∀ {d : D} {v : Value}, RD w' (@own (A9 F w S hlt ds) S2) d v → RD w' (@own F (Ih ds n S S2)) d v := fun h => h.ext (Nat.le_refl _) (fun _ _ _ => rfl) (fun b _ hb hb' => hb (Ij hD hH hb'))
 cases b with
 | vec t s xs =>
  cases hb'
  obtain ⟨h1, h2, h3, h4, h5, h6⟩ := hb
  refine ⟨h1, h2, h3, h4, h5, fun b hb => ?_⟩
  obtain ⟨cur, e1, e2, e3⟩ := h6 b hb
  exact ⟨cur, e1, e2, fun e f c hh => by obtain ⟨u, e4, e5⟩ := e3 e f c hh; exact ⟨u, e4, mv e5⟩⟩
 | one t cs =>
  cases hb'
  obtain ⟨g1, g2, b, hb, cur, e1, e2, e3⟩ := hb
  refine ⟨by rw [Gd]; exact g1, g2, b, hb, cur, e1, by rw [Gd]; exact e2, fun f c hc => ?_⟩
  obtain ⟨c0, h3, rfl⟩ := MM hc
  obtain ⟨u, e4, e5, e6⟩ := e3 f c0 h3
  exact ⟨u, e4, e5, ML hD hH hm e6⟩
 | ob o =>
  cases hb'
  exact o.same hb (fun b _ hb hb' => hb (Ij hD hH hb'))
theorem Nz : ∀ {l : List (Option B7)} {i : Nat}, DD l = true → i < l.length → ∃ b, l[i]? = some (some b) := by
 intro l
 induction l with
 | nil => intro i _ h; cases h
 | cons b l ih =>
  intro i h hi
  cases b with
  | none => cases h
  | some b =>
   cases i with
   | zero => exact ⟨b, rfl⟩
   | succ i => simpa using ih (i := i) h (by simpa using hi)
theorem Ai.unview (hH : @Ai F w (Gq H S) H n w S) (hD : Handed F H n w S ds) (hlen : ds.length ≤ bf.length) (hall : DD (bf.drop ds.length) = true)
  (h2 : @Ai (A9 F w S hlt ds) w (fun b => ∃ j l, pick ds S j = some l ∧ l.has b) (Ax bf) bf.length w' S2) :
  @Left F H n w S (Nl ds n H bf) (n + (bf.length - ds.length)) w' (Ih ds n S S2) := by
 have hM : ∀ b, (∃ j l, pick ds S j = some l ∧ l.has b) → Gq H S b := by
  rintro b ⟨j, l, h1, h3⟩
  obtain ⟨d, h4, h5⟩ := CH h1
  exact ⟨d, l, hD.alive d (List.mem_of_getElem? h4), h5, h3⟩
 have hMo : ∀ b, (∃ j l, pick ds S j = some l ∧ l.has b) → @own F S b := by
  rintro b ⟨j, l, h1, h3⟩
  obtain ⟨d, h4, h5⟩ := CH h1
  exact .inr ⟨d, l, h5, h3⟩
 have hpin : ∀ i j, Dk ds i = some j → S2 j = S i ∨ S2 j = none := by
  intro i j hj
  have := (@Ai.pin (A9 F w S hlt ds) _ _ _ _ _ _ h2 j (List.getElem?_eq_some_iff.1 (DS hj)).1).2
  rwa [show (A9 F w S hlt ds).pin j = S i from Ge hj] at this
 have hE : @Cu F w S n w' (Ih ds n S S2) (n + (bf.length - ds.length)) := by
  refine @Cu.mk F _ _ _ _ _ _ (by omega) (@Ai.size (A9 F w S hlt ds) _ _ _ _ _ _ h2) (fun i hi => ?_) (fun b hb hno h => ?_) (fun b hb hno => ?_)
  ·unfold Ih
   rw [if_pos hi]
   split
   ·rename_i j hj; exact hpin i j hj
   ·exact .inl rfl
  ·rcases Ij (hlt := hlt) hD hH h with h | ⟨j, l, h3, h4⟩
   ·exact hno h.1
   ·exact (@Ai.far (A9 F w S hlt ds) _ _ _ _ _ _ h2 b ⟨hb, fun j l hj hb' => hno (hMo b ⟨j, l, hj, hb'⟩)⟩).2 j l h3 h4
  ·exact @Ai.same (A9 F w S hlt ds) _ _ _ _ _ _ h2 b hb (fun h => hno (hMo b h))
 have hold : ∀ i l b, i < n → Dk ds i = none → S i = some l → l.has b → w'.heap[b]? = w.heap[b]? := by
  intro i l b hi hno hS hb
  refine @Ai.same (A9 F w S hlt ds) _ _ _ _ _ _ h2 b (hH.lt2 i l b hS hb) ?_
  rintro ⟨j, l', h1, h3⟩
  obtain ⟨d, h4, h5⟩ := CH h1
  have := hH.inj2 d i l' l b h5 hS h3 hb
  subst this
  exact GT hno (List.mem_of_getElem? h4)
 refine ⟨?_, hE, fun i hi hHi => ?_, fun i hi hHi => ?_⟩
 ·refine @Ai.mk F _ _ _ _ _ _ ?_ ?_ ?_ ?_ ?_ ?_ ?_ (@Ai.os (A9 F w S hlt ds) _ _ _ _ _ _ h2) (@Ai.tape (A9 F w S hlt ds) _ _ _ _ _ _ h2) (@Ai.output (A9 F w S hlt ds) _ _ _ _ _ _ h2) hE.size (fun b hb hno => ?_) ?_ ?_ (hH.glx hE)
  ·intro i hi
   unfold Ih
   rw [if_neg (by omega)]
   exact @Ai.bnd (A9 F w S hlt ds) _ _ _ _ _ _ h2 _ (by omega)
  ·intro i l b h1 h3
   unfold Ih at h1
   split at h1
   ·split at h1
    ·exact @Ai.lt2 (A9 F w S hlt ds) _ _ _ _ _ _ h2 _ l b h1 h3
    ·exact Nat.lt_of_lt_of_le (hH.lt2 i l b h1 h3) hE.size
   ·exact @Ai.lt2 (A9 F w S hlt ds) _ _ _ _ _ _ h2 _ l b h1 h3
  ·intro i b hb
   have boxed : ∀ j, Ex ds n (Ax bf j) = some b → ∃ l, S2 j = some l ∧ @BQ F w' (Ih ds n S S2) (n + (bf.length - ds.length)) b l := by
    intro j hj
    cases hg : Ax bf j with
    | none => rw [hg] at hj; cases hj
    | some b0 =>
     rw [hg] at hj
     obtain ⟨l, h3, h4⟩ := @Ai.box (A9 F w S hlt ds) _ _ _ _ _ _ h2 j b0 hg
     exact ⟨l, h3, Vz hD hH hlen hj h4⟩
   unfold Nl at hb
   split at hb
   ·rename_i hi
    split at hb
    ·rename_i j hj
     obtain ⟨l, h3, h4⟩ := boxed j hb
     refine ⟨l, ?_, h4⟩
     unfold Ih
     rw [if_pos hi]
     simp only [hj]
     exact h3
    ·rename_i hno
     obtain ⟨l, h3, h4⟩ := hH.box i b hb
     refine ⟨l, ?_, @BQ.ext F _ _ _ _ _ _ _ _ h4 hE (fun k hk => hold i l k hi hno h3 hk)⟩
     unfold Ih
     rw [if_pos hi]
     simp only [hno]
     exact h3
   ·rename_i hi
    obtain ⟨l, h3, h4⟩ := boxed _ hb
    refine ⟨l, ?_, h4⟩
    unfold Ih
    rw [if_neg hi]
    exact h3
  ·intro i j l l' b hi hj h1 h3
   -- an old box of the caller's, not handed over, lies in a block that is far from the callee
   have apart : ∀ {i k l l'}, Dk ds i = none → S i = some l → S2 k = some l' → l.has b → l'.has b → False := by
    intro i k l l' hno hS h2k hb hb'
    refine (@Ai.far (A9 F w S hlt ds) _ _ _ _ _ _ h2 b ⟨hH.lt2 i l b hS hb, fun j l' hj hb' => ?_⟩).2 k l' h2k hb'
    obtain ⟨d, h4, h5⟩ := CH hj
    have := hH.inj2 d i l' l b h5 hS hb' hb
    subst this
    exact GT hno (List.mem_of_getElem? h4)
   have same2 : ∀ {k k' : Nat}, S2 k = some l → S2 k' = some l' → k = k' := fun h4 h5 => @Ai.inj2 (A9 F w S hlt ds) _ _ _ _ _ _ h2 _ _ l l' b h4 h5 h1 h3
   unfold Ih at hi hj
   split at hi
   ·split at hi
    ·rename_i hin a ha
     split at hj
     ·split at hj
      ·rename_i hjn a' ha'
       have := same2 hi hj
       subst this
       have e1 := DS ha
       rw [DS ha'] at e1
       cases e1; rfl
      ·rename_i hno; exact (apart hno hj hi h3 h1).elim
     ·rename_i hjn
      have := same2 hi hj
      have hk := (List.getElem?_eq_some_iff.1 (DS ha)).1
      omega
    ·rename_i hin hno
     split at hj
     ·split at hj
      ·exact (apart hno hi hj h1 h3).elim
      ·exact hH.inj2 i j l l' b hi hj h1 h3
     ·exact (apart hno hi hj h1 h3).elim
   ·rename_i hin
    split at hj
    ·split at hj
     ·rename_i hjn a' ha'
      have := same2 hi hj
      have hk := (List.getElem?_eq_some_iff.1 (DS ha')).1
      omega
     ·rename_i hno; exact (apart hno hj hi h3 h1).elim
    ·have := same2 hi hj
     omega
  ·intro i l hi
   unfold Ih at hi
   split at hi
   ·split at hi
    ·exact @Ai.nod (A9 F w S hlt ds) _ _ _ _ _ _ h2 _ l hi
    ·exact hH.nod i l hi
   ·exact @Ai.nod (A9 F w S hlt ds) _ _ _ _ _ _ h2 _ l hi
  ·intro i l b hb hi hp
   have back : ∀ j, Ex ds n (Ax bf j) = some b → S2 j = some l → l.subs = [] := by
    intro j hj hS
    cases hg : Ax bf j with
    | none => rw [hg] at hj; cases hj
    | some b0 =>
     rw [hg] at hj
     refine @Ai.plain (A9 F w S hlt ds) _ _ _ _ _ _ h2 j l b0 hg hS ?_
     cases b0 with
     | ob o => cases hj; exact hp
     | _ => rfl
   unfold Nl at hb
   unfold Ih at hi
   split at hb
   ·rename_i hin
    rw [if_pos hin] at hi
    split at hb
    ·rename_i j hj
     simp only [hj] at hi
     exact back j hb hi
    ·rename_i hno
     simp only [hno] at hi
     exact hH.plain i l b hb hi hp
   ·rename_i hin
    rw [if_neg hin] at hi
    exact back _ hb hi
  ·intro i l b hl hi hb
   have some_of : ∀ j, (Ex ds n (Ax bf j)).isSome = true → (Ax bf j).isSome = true := by
    intro j hj
    cases hg : Ax bf j with
    | none => rw [hg] at hj; cases hj
    | some => rfl
   unfold Nl at hl
   unfold Ih at hi
   split at hl
   ·rename_i hin
    rw [if_pos hin] at hi
    split at hl
    ·rename_i j hj
     simp only [hj] at hi
     rcases @Ai.mut2 (A9 F w S hlt ds) _ _ _ _ _ _ h2 j l b (some_of j hl) hi hb with h | h
     ·exact .inl h
     ·exact .inr (hM b h)
    ·rename_i hno
     simp only [hno] at hi
     exact .inr ⟨i, l, hl, hi, hb⟩
   ·rename_i hin
    rw [if_neg hin] at hi
    rcases @Ai.mut2 (A9 F w S hlt ds) _ _ _ _ _ _ h2 _ l b (some_of _ hl) hi hb with h | h
    ·exact .inl h
    ·exact .inr (hM b h)
  ·exact @Ai.same (A9 F w S hlt ds) _ _ _ _ _ _ h2 b hb (fun h => hno (hM b h))
  ·intro b hb
   obtain ⟨h3, h4⟩ := hH.far b hb
   have h5 := (@Ai.far (A9 F w S hlt ds) _ _ _ _ _ _ h2 b ⟨h3, fun j l hj hb' => by obtain ⟨d, _, h6⟩ := CH hj; exact h4 d l h6 hb'⟩).2
   refine ⟨h3, fun i l hi => ?_⟩
   unfold Ih at hi
   split at hi
   ·split at hi
    ·exact h5 _ l hi
    ·exact h4 i l hi
   ·exact h5 _ l hi
  ·intro i hp
   obtain ⟨h3, h4⟩ := hH.pin i hp
   refine ⟨by omega, ?_⟩
   unfold Ih
   rw [if_pos h3]
   split
   ·rename_i j hj
    rcases hpin i j hj with h | h
    ·rw [h]; exact h4
    ·exact .inr h
   ·exact h4
 ·unfold Ih
  rw [if_pos hi]
  split
  ·rename_i j hj
   have := hD.alive i (Ot hj)
   rw [hHi] at this; cases this
  ·rfl
 ·unfold Nl at hHi
  rw [if_neg (by omega)] at hHi
  unfold Ih
  rw [if_neg (by omega)]
  by_cases hb : ds.length + (i - n) < bf.length
  ·obtain ⟨b, hb'⟩ := Nz (i := i - n) hall (by rw [List.length_drop]; omega)
   rw [List.getElem?_drop] at hb'
   rw [FN.2 hb'] at hHi
   cases b with
   | ob o => cases hHi
   | _ => cases hHi
  ·exact @Ai.bnd (A9 F w S hlt ds) _ _ _ _ _ _ h2 _ (by omega)
end
theorem L6 {P : Program} (E : Bq P) {f : FuncId} {fn : Func} {c : Code} {sp : Spec} (hf : P.funcs[f]? = some fn) (hb : fn.body = some c) (hN : fn.ntmps = E.N) (hρ : E.ρ = none) (dsOf : List AV → Av → List Nat) (g : DP)
  (hsp : ∀ args H n, sp.run args H n = Ft g (dsOf args H) args H n)
  (h : ∀ ia bl p r bf, g ia bl = some (p, r, bf) → p → ia.length ≤ E.N ∧ ∀ [Bl] (W0 : World) (M0 : Nat → Prop), Bl.np = bl.length → Bl.marks = true → VC E W0 M0 c (Hd (ET 0 ia) bl) (X1 E fn.results.toList bl.length r bf)) : A5 P f sp := by
 intro args H n p r o hrun hp F w S vs hH hl hr
 rw [hsp] at hrun
 unfold Ft at hrun
 generalize dsOf args H = ds at hrun
 split at hrun
 ·rename_i ia bl hia hbl
  split at hrun
  ·rename_i p' r' bf hg
   split at hrun
   ·rename_i hc
    obtain ⟨hnd, hlen, hall⟩ := hc
    simp only [Option.some.injEq, Prod.mk.injEq] at hrun
    obtain ⟨rfl, rfl, rfl⟩ := hrun
    have hlt : ∀ b, @own F S b → b < w.heap.size := MO hH
    obtain ⟨hla, hvc⟩ := h ia bl p' r' bf hg hp
    obtain ⟨hbll, _⟩ := MC hbl
    obtain ⟨hial, hiaR⟩ := UH hia
    have hD : Handed F H n w S ds := Handed.mk' hH hnd (L3 hbl)
    have hvc := @hvc (A9 F w S hlt ds) w (fun b => ∃ j l, pick ds S j = some l ∧ l.has b) hbll.symm rfl
    have h0 := hH.view (hlt := hlt) hnd hbl
    refine callsIn_wide.1 (callsIn_of_wp_marks (n := 0) hf hb trivial ?_)
    have hsim : @Mh (A9 F w S hlt ds) w (fun b => ∃ j l, pick ds S j = some l ∧ l.has b) E.N (Hd (ET 0 ia) bl) { tmps := vs.toArray ++ Array.replicate (fn.ntmps - vs.toArray.size) undef, defers := [] } w := by
     refine ⟨pick ds S, h0, @Hb.mk (A9 F w S hlt ds) _ _ _ _ _ _ ?_ fun i => ?_, @F4.nil (A9 F w S hlt ds) _ _ _ (fun h => by cases h)⟩
     ·simp only [Array.size_append, Array.size_replicate, List.size_toArray, hN]; omega
     ·show @R (A9 F w S hlt ds) w (pick ds S) bl.length (H4 (ET 0 ia) i) _
      rw [Lz, if_pos (by omega), Nat.sub_zero, Ly (by omega), hbll]
      cases hi : ia[i]? with
      | none => exact @R.any (A9 F w S hlt ds) _ _ _ _
      | some c =>
       have hlt' : i < ia.length := (List.getElem?_eq_some_iff.1 hi).1
       have hv : vs[i]? = some (vs[i]'(by omega)) := List.getElem?_eq_getElem _
       rw [hv]
       obtain ⟨c0, h3, h4⟩ := hiaR i c hi
       exact UF h4 (hr i c0 _ h3 hv)
    have hvc2 := hvc _ w hsim
    rw [show NV E.ρ = Fence.wide by rw [hρ]; rfl] at hvc2
    refine wpIn_mono hvc2 ?_
    rintro e a' w' ⟨st, ⟨he, hst⟩, S1, hH1, hF1, hM1⟩
    have go : LeavesInM Fence.wide 0 P fn a'.tmps (fun e w' => ∃ v S', e = .returned v ∧ Left H n w S (Option.getD (some (Nl ds n H bf, n + (bf.length - ds.length))) (H, n)).1 (Option.getD (some (Nl ds n H bf, n + (bf.length - ds.length))) (H, n)).2 w' S' ∧
      ((some (Nl ds n H bf, n + (bf.length - ds.length)) : Option (Av × Nat)) = none → S' = S ∧ ∀ b, b < w.heap.size → w'.heap[b]? = w.heap[b]?) ∧ R w' S' (Option.getD (some (Nl ds n H bf, n + (bf.length - ds.length))) (H, n)).2 (Ti ds n r') v) a'.defers .returning w' := by
     refine @Je _ _ (A9 F w S hlt ds) _ _ _ _ _ _ _ _ a'.defers w' hH1 (@Hb.at_ (A9 F w S hlt ds) _ _ _ _ _ _ hF1) (@F4.apart (A9 F w S hlt ds) _ _ _ _ hM1 rfl) (@F4.at_ (A9 F w S hlt ds) _ _ _ _ hM1 rfl) (fun w' hH1 hF1 => ?_)
     split at hst
     ·rename_i q cs hres
      obtain ⟨hq, ρ, hρ1, hbs, hmt⟩ := hst
      rw [Bool.and_eq_true] at hρ1
      obtain ⟨us, e1, e2, e3, e4⟩ := @MV P w' S1 st.n (A9 F w S hlt ds) E w _ st.H hH1 st.fr a'.tmps hF1 _ _ _ hres hq
      have hpk : @R (A9 F w S hlt ds) w' S1 st.n (Hm cs) (OD us) := by
       match us, cs, e2, e4 with
       | [], [], _, _ => exact @R.tup (A9 F w S hlt ds) _ _ _ [] [] rfl (fun i c u h => by simp at h)
       | [v], [c], _, e4 => exact e4 0 c v rfl rfl
       | v :: u :: us, c :: d :: cs, e2, e4 => exact @R.tup (A9 F w S hlt ds) _ _ _ (c :: d :: cs) (v :: u :: us) e2.symm (fun i c' u' hc hu => e4 i c' u' hc hu)
      have hout := @Rp (A9 F w S hlt ds) w' S1 st.n w _ st.H ρ bf hH1 _ _ hmt _ hpk
      have hren := @Ai.ren (A9 F w S hlt ds) w' S1 st.n w _ st.H ρ bf hH1 hρ1.1 (fun i hi => Rv hρ1.2 i (by rw [hbll]; exact hi)) hbs
      have hlr := (MH hbs).1
      rw [hlr] at hout
      exact ⟨_, GJ e1 e3, _, Ih ds n S (DH ρ bf S1), rfl, hH.unview hD hlen hall hren, fun h => (by cases h), Vy hD hH hlen hout⟩
     ·exact hst.elim
    rcases he with rfl | rfl
    ·exact go
    ·exact go
   ·cases hrun
  ·cases hrun
 ·cases hrun
theorem Bm {P : Program} (E : Bq P) {f : FuncId} {fn : Func} {c : Code} {g : DP} (hf : P.funcs[f]? = some fn) (hb : fn.body = some c) (hN : fn.ntmps = E.N) (hρ : E.ρ = none)
  (h : ∀ ia bl p r bf, g ia bl = some (p, r, bf) → p → ia.length ≤ E.N ∧ ∀ [Bl] (W0 : World) (M0 : Nat → Prop), Bl.np = bl.length → Bl.marks = true → VC E W0 M0 c (Hd (ET 0 ia) bl) (X1 E fn.results.toList bl.length r bf)) : A5 P f (Spec.gen g) :=
 L6 E hf hb hN hρ Jh g (fun _ _ _ => rfl) h
theorem F8 {P : Program} (E : Bq P) {f : FuncId} {fn : Func} {c : Code} {g : DP} (hf : P.funcs[f]? = some fn) (hb : fn.body = some c) (hN : fn.ntmps = E.N) (hρ : E.ρ = none)
  (h : ∀ ia bl p r bf, g ia bl = some (p, r, bf) → p → ia.length ≤ E.N ∧ ∀ [Bl] (W0 : World) (M0 : Nat → Prop), Bl.np = bl.length → Bl.marks = true → VC E W0 M0 c (Hd (ET 0 ia) bl) (X1 E fn.results.toList bl.length r bf)) : A5 P f (Spec.fresh g) :=
 L6 E hf hb hN hρ (fun _ _ => []) g (fun _ _ _ => rfl) h
end Go.Vc
/- The Vc layer: a range over a function. -/
set_option linter.all false
namespace Go.Vc
open Go Go.RowKit
def Bq.inR {P : Program} (E : Bq P) (l : Nat) : Bq P := ⟨E.X, E.N, some l, E.Γ, E.ok, E.ent⟩
/-! ### what leads to boxes below a number -/
def lt1 (m : Nat) : AV → Bool
 | .sl id _ _ => decide (id < m)
 | .ptr id _ _ => decide (id < m)
 | .mp id => decide (id < m)
 | .d _ => true
 | .ip .. => true
 | .any => true
 | _ => false
def lt2 (m : Nat) : AV → Bool
 | .agg cs => cs.all (lt1 m)
 | .clo _ cs => cs.all (lt1 m)
 | c => lt1 m c
theorem R.far {G G' : Bl} {w : World} {S : Lays} {n : Nat} (hO : ∀ b, b < w.heap.size → ¬ @own G S b → ¬ @own G' S b) {c : AV} {v : Value} (h : @R G w S n c v) : @R G' w S n c v := by
 induction h with
 | any v => exact @R.any G' _ _ _ v
 | d hx => exact @R.d G' _ _ _ _ _ (hx.ext (Nat.le_refl _) (fun _ _ _ => rfl) hO)
 | ip sz xs e f b o u hb hO' hc hr => exact @R.ip G' _ _ _ sz xs e f b o u hb (hO b hb hO') hc (fun e f c hh => (hr e f c hh).ext (Nat.le_refl _) (fun _ _ _ => rfl) hO)
 | slDead id off len v hn hS => exact @R.slDead G' _ _ _ id off len v hn hS
 | sl id off len o l hn hS hc ho h0 => exact @R.sl G' _ _ _ id off len o l hn hS hc ho h0
 | ptrDead id e f v hn hS => exact @R.ptrDead G' _ _ _ id e f v hn hS
 | ptr id e f b l hn hS hb => exact @R.ptr G' _ _ _ id e f b l hn hS hb
 | mpDead id v hn hS => exact @R.mpDead G' _ _ _ id v hn hS
 | mp id l hn hS => exact @R.mp G' _ _ _ id l hn hS
 | agg cs us hl h1 _ ih => exact @R.agg G' _ _ _ cs us hl h1 ih
 | tup cs us hl _ ih => exact @R.tup G' _ _ _ cs us hl ih
 | clo fn cs us hl _ ih => exact @R.clo G' _ _ _ fn cs us hl ih
 | cond b c v _ hu ih => exact @R.cond G' _ _ _ b c v ih hu
theorem BQ.far {G G' : Bl} {w : World} {S : Lays} {n : Nat} (hO : ∀ b, b < w.heap.size → ¬ @own G S b → ¬ @own G' S b) {b : B7} {l : Lay} (h : @BQ G w S n b l) : @BQ G' w S n b l := by
 cases b with
 | vec ty sz xs =>
  obtain ⟨h1, h2, h3, h4, h5, h6⟩ := h
  refine ⟨h1, h2, h3, h4, h5, fun b hb => ?_⟩
  obtain ⟨cur, e1, e2, e3⟩ := h6 b hb
  exact ⟨cur, e1, e2, fun e f c hh => by obtain ⟨u, e4, e5⟩ := e3 e f c hh; exact ⟨u, e4, e5.ext (Nat.le_refl _) (fun _ _ _ => rfl) hO⟩⟩
 | one ty cells =>
  obtain ⟨h1, h2, b, hb, cur, e1, e2, e3⟩ := h
  exact ⟨h1, h2, b, hb, cur, e1, e2, fun f c hh => by obtain ⟨u, e4, e5, e6⟩ := e3 f c hh; exact ⟨u, e4, e5, e6.far hO⟩⟩
 | ob o => exact o.same h hO
theorem WG {G G' : Bl} {w : World} {S : Lays} {n : Nat} {H : Av} (hO : ∀ b, b < w.heap.size → ¬ @own G S b → ¬ @own G' S b) (h : ∀ (id : Nat) (b : B7), H id = some b → ∃ l, S id = some l ∧ @BQ G w S n b l) :
  ∀ (id : Nat) (b : B7), H id = some b → ∃ l, S id = some l ∧ @BQ G' w S n b l := fun id b hb => by
 obtain ⟨l, h1, h2⟩ := h id b hb
 exact ⟨l, h1, h2.far hO⟩
section
variable [F : Bl] {P : Program} {w w' : World} {S S' : Lays} {n m : Nat} {H : Av} {W0 : World} {M0 : Nat → Prop}
/-! ### a view of one's own memory, as it lies at some point -/
@[reducible] def Cy (F : Bl) (w : World) (S : Lays) (m : Nat) (hlt : ∀ b, Bl.F b → b < w.heap.size) (hno : ∀ b i l, Bl.F b → S i = some l → ¬ l.has b) : Bl where
 F := F.F
 nev := fun b => b < w.heap.size ∧ ∀ i l, S i = some l → ¬ l.has b
 sub := fun b h => ⟨hlt b h, fun i l hi => hno b i l h hi⟩
 pin := S
 np := m
 marks := false
 mx := F.mx
theorem Yy (hH : Ai W0 M0 H n w S) : ∀ b, Bl.F b → b < w.heap.size := fun b h => by
 have := (hH.far b (Bl.sub b h)).1
 have := hH.size
 omega
theorem Yz (hH : Ai W0 M0 H n w S) : ∀ b i l, Bl.F b → S i = some l → ¬ l.has b := fun b i l h hi => (hH.far b (Bl.sub b h)).2 i l hi
def UT (H : Av) (S : Lays) (b : Nat) : Prop := ∃ i l, (H i).isSome = true ∧ S i = some l ∧ l.has b
theorem Ai.up (hH : Ai W0 M0 H n w S) (hm : m ≤ n) (hnp : Bl.np ≤ m) {H' : Av} {n' : Nat} (h : @Ai (Cy F w S m (Yy hH) (Yz hH)) w (UT H S) H' n' w' S') : Ai W0 M0 H' n' w' S' ∧ Cu w S m w' S' n' := by
 have hp : ∀ i, i < m → i < n' ∧ (S' i = S i ∨ S' i = none) := fun i hi => @Ai.pin (Cy F w S m _ _) _ _ _ _ _ _ h i hi
 have hL : ∀ b, UT H S b → W0.heap.size ≤ b ∨ M0 b := fun b ⟨i, l, h1, h2, h3⟩ => hH.mut2 i l b h1 h2 h3
 have hsz := @Ai.size (Cy F w S m _ _) _ _ _ _ _ _ h
 have hsame : ∀ b, b < w.heap.size → ¬ UT H S b → w'.heap[b]? = w.heap[b]? := @Ai.same (Cy F w S m _ _) _ _ _ _ _ _ h
 have hfar : ∀ b, b < w.heap.size → (∀ i l, S i = some l → ¬ l.has b) → ∀ i l, S' i = some l → ¬ l.has b := fun b h1 h2 => (@Ai.far (Cy F w S m _ _) _ _ _ _ _ _ h b ⟨h1, h2⟩).2
 refine ⟨?_, ?_⟩
 ·refine ⟨@Ai.bnd (Cy F w S m _ _) _ _ _ _ _ _ h, @Ai.lt2 (Cy F w S m _ _) _ _ _ _ _ _ h, WG (G := Cy F w S m _ _) (G' := F) (fun _ _ h => h) (@Ai.box (Cy F w S m _ _) _ _ _ _ _ _ h), @Ai.inj2 (Cy F w S m _ _) _ _ _ _ _ _ h, @Ai.nod (Cy F w S m _ _) _ _ _ _ _ _ h, @Ai.plain (Cy F w S m _ _) _ _ _ _ _ _ h, fun i l b h1 h2 h3 => ?_,
   (@Ai.os (Cy F w S m _ _) _ _ _ _ _ _ h).trans hH.os, (@Ai.tape (Cy F w S m _ _) _ _ _ _ _ _ h).trans hH.tape, (@Ai.output (Cy F w S m _ _) _ _ _ _ _ _ h).trans hH.output, Nat.le_trans hH.size hsz, fun b hb hM => ?_, fun b hb => ?_, fun i hi => ?_, @Ai.gl (Cy F w S m _ _) _ _ _ _ _ _ h⟩
  ·rcases @Ai.mut2 (Cy F w S m _ _) _ _ _ _ _ _ h i l b h1 h2 h3 with h4 | h4
   ·have := hH.size; left; omega
   ·exact hL b h4
  ·rw [hsame b (by have := hH.size; omega) (fun h4 => ?_)]
   ·exact hH.same b hb hM
   ·rcases hL b h4 with h5 | h5
    ·omega
    ·exact hM h5
  ·obtain ⟨h1, h2⟩ := hH.far b hb
   exact ⟨h1, hfar b (by have := hH.size; omega) h2⟩
  ·obtain ⟨h1, h2⟩ := hH.pin i hi
   obtain ⟨h3, h4⟩ := hp i (by omega)
   refine ⟨h3, ?_⟩
   rcases h4 with h4 | h4
   ·rw [h4]; exact h2
   ·exact .inr h4
 ·refine ⟨?_, hsz, fun i hi => (hp i hi).2, fun b hb hno ho => ?_, fun b hb hno => hsame b hb (fun ⟨i, l, _, h2, h3⟩ => hno (.inr ⟨i, l, h2, h3⟩))⟩
  ·rcases Nat.eq_zero_or_pos m with h0 | h0
   ·omega
   ·have := (hp (m - 1) (by omega)).1; omega
  ·rcases ho with ho | ⟨i, l, h1, h2⟩
   ·exact hno (.inl ho)
   ·exact hfar b hb (fun i l hi hb' => hno (.inr ⟨i, l, hi, hb'⟩)) i l h1 h2
end
/-! ### iterators -/
def Zj [Bl] (w : World) (S : Lays) (W W' : World) : Prop := W.heap.size ≤ W'.heap.size ∧ ∀ b, b < w.heap.size → ¬ own S b → W'.heap[b]? = W.heap[b]?
structure ZZ (P : Program) (g : FuncId) (caps : List AV) (ar : Nat) (xs : List (List AV)) : Prop where
 ent : Kg P g = true
 len : ∀ x ∈ xs, x.length = ar
 run : ∀ [Bl] (w : World) (S : Lays) (n : Nat) (lb : List Value), lb.length = caps.length → (∀ (i : Nat) (c : AV) (u : Value), caps[i]? = some c → lb[i]? = some u → R w S n c u) →
  ∃ encs : Nat → List Value, (∀ k, (encs k).length = ar) ∧ (∀ (k : Nat) (x : List AV), xs[k]? = some x → ∀ (i : Nat) (c : AV) (u : Value), x[i]? = some c → (encs k)[i]? = some u → R w S n c u) ∧
   ∀ (l : Nat) (J : Nat → World → Prop) (Jx : World → Prop) (W : World), (∀ k W, J k W → Zj w S w W) → (∀ (k : Nat) (W : World) (d : Nat), J k W → J k { W with drawn := d }) →
    (∀ k W1, J k W1 → k < xs.length → YieldAt Fence.wide 0 P l (encs k).toArray W1 fun e W' => (e = .returned (.bool true) ∧ J (k + 1) W') ∨ (e = .returned (.bool false) ∧ Jx W')) → J 0 W →
    CallsIn Fence.wide 0 P g (#[.func (.yield l) #[] #[]] ++ lb.toArray) W fun e W' => (∃ v, e = .returned v) ∧ (J xs.length W' ∨ Jx W')
section
variable [F : Bl] {P : Program} {E : Bq P} {W0 : World} {M0 : Nat → Prop}
end
end Go.Vc
/- The Vc layer: rows of typed data; the rewriting rules of the walk; steps. -/
set_option linter.all false
namespace Go.Vc
open Go Go.RowKit
/-! ### rows -/
def rows {α : Type} (f : α → List D) (l : List α) : List (List D) := l.map f
theorem Bd {α : Type} (f : α → List D) (l : List α) : (rows f l).length = l.length := List.length_map _
theorem BT {α : Type} (f : α → List D) (l : List α) (i : Nat) : (rows f l)[i]? = (l[i]?).map f := List.getElem?_map
theorem Bv {α : Type} (f : α → List D) (l : List α) (i : Nat) : (rows f l).drop i = rows f (l.drop i) := (List.map_drop).symm
theorem AY {α : Type} (f : α → List D) (l : List α) (i : Nat) : (rows f l).take i = rows f (l.take i) := (List.map_take).symm
theorem BS {α : Type} (f : α → List D) (l m : List α) : rows f l ++ rows f m = rows f (l ++ m) := (List.map_append).symm
theorem BU {α : Type} (f : α → List D) : rows f [] = [] := rfl
theorem Cn {α : Type} (f : α → List D) (l : List α) (i : Nat) (a : α) : (rows f l).set i (f a) = rows f (l.set i a) := (List.map_set).symm
theorem CU {α : Type} {f : α → List D} {k : Nat} (h : ∀ a, (f a).length = k) (l : List α) : CW k (rows f l) := by
 intro x hx
 obtain ⟨a, _, rfl⟩ := List.mem_map.1 hx
 exact h a
def eI (n : Int) : List D := [.int .i64 n]
def eB (b : Bool) : List D := [.bool b]
def eU (b : UInt8) : List D := [.int .u8 (b.toNat : Int)]
def eS (s : List UInt8) : List D := [.str s]
def eL {α : Type} (f : α → List D) (l : List α) : List D := [.sl (rows f l)]
abbrev Zl (l : List Bool) : D := .sl (rows eB l)
abbrev bytes (l : List UInt8) : D := .sl (rows eU l)
theorem BO (l : List Int) : CW 1 (rows eI l) := CU (f := eI) (fun _ => rfl) l
theorem Cr (l : List Bool) : CW 1 (rows eB l) := CU (f := eB) (fun _ => rfl) l
theorem BV (l : List UInt8) : CW 1 (rows eU l) := CU (f := eU) (fun _ => rfl) l
theorem Ct (l : List (List UInt8)) : CW 1 (rows eS l) := CU (f := eS) (fun _ => rfl) l
theorem Cs {α : Type} (f : α → List D) (l : List (List α)) : CW 1 (rows (eL f) l) := CU (f := eL f) (fun _ => rfl) l
theorem BR (k : Nat) : CW k [] := fun x h => by cases h
theorem BP (k : Nat) (x : List D) (xs : List (List D)) : CW k (x :: xs) = (x.length = k ∧ CW k xs) := by
 apply propext; unfold CW; simp
theorem Cl (l : List UInt8) : HH (rows eU l) := by
 intro x hx
 obtain ⟨b, _, rfl⟩ := List.mem_map.1 hx
 exact ⟨b, rfl⟩
theorem BG (l : List UInt8) : Jm (rows eU l) = l := by simp [Jm, rows, eU, Function.comp_def]
def dI : List (List D) → List Int := List.map fun x => match x with | [.int _ n] => n | _ => 0
def dB : List (List D) → List Bool := List.map fun x => match x with | [.bool b] => b | _ => false
def dU : List (List D) → List UInt8 := Jm
theorem AE (l : List Int) : dI (rows eI l) = l := by simp [dI, rows, eI, Function.comp_def]
theorem Dd (l : List Bool) : dB (rows eB l) = l := by simp [dB, rows, eB, Function.comp_def]
theorem D0 (l : List UInt8) : dU (rows eU l) = l := BG l
/-! ### the rules -/
section
variable {P : Program}
theorem AP : (∀ (f : Nat → AV) (i : Nat) (x : AV) (j : Nat), CI f i x j = if j = i then x else f j) ∧ (∀ (f : Nat → Option B7) (i : Nat) (x : Option B7) (j : Nat), CI f i x j = if j = i then x else f j) ∧
  (∀ (d : Tmp) (c : AV) (f : Nat → AV), putD (some d) c f = CI f d c) ∧ (∀ (c : AV) (f : Nat → AV), putD none c f = f) ∧
  (∀ (j : Nat) (c : AV) (r : List (Nat × AV)) (i : Nat), H4 ((j, c) :: r) i = if i = j then c else H4 r i) ∧ (∀ (i : Nat), H4 [] i = .any) ∧
  (∀ (b : Option B7) (r : List (Option B7)), Ax (b :: r) 0 = b) ∧ (∀ (b : Option B7) (r : List (Option B7)) (i : Nat), Ax (b :: r) (i + 1) = Ax r i) ∧ (∀ (i : Nat), Ax [] i = none) ∧
  (∀ (k : Nat), ET k [] = []) ∧ (∀ (k : Nat) (c : AV) (cs : List AV), ET k (c :: cs) = (k, c) :: ET (k + 1) cs) := by
 refine ⟨fun _ _ _ _ => rfl, fun _ _ _ _ => rfl, fun _ _ _ => rfl, fun _ _ => rfl, fun _ _ _ _ => rfl, fun _ => rfl, fun b r => ?_, fun b r i => ?_, fun i => rfl, fun _ => rfl, fun _ _ _ => rfl⟩
 ·simp [Ax]
 ·simp [Ax]
theorem AW : (∀ (x : D), AD (.d x) = .d x) ∧ (∀ (i o l : Nat), AD (.sl i o l) = .sl i o l) ∧ (∀ (i o l : Nat), AD (.ptr i o l) = .ptr i o l) ∧ (∀ (cs : List AV), AD (.agg cs) = .agg cs) ∧ (∀ (cs : List AV), AD (.tup cs) = .tup cs) ∧
  (∀ (f : Fn) (cs : List AV), AD (.clo f cs) = .clo f cs) ∧ (∀ (z : Nat) (xs : List (List D)) (e f : Nat), AD (.ip z xs e f) = .ip z xs e f) ∧ (AD .any = .any) ∧ (∀ (b : Bool) (v : AV), AD (.cond b v) = v) ∧
  (∀ (x : D), Bw (.d x) = True) ∧ (∀ (i o l : Nat), Bw (.sl i o l) = True) ∧ (∀ (i o l : Nat), Bw (.ptr i o l) = True) ∧ (∀ (cs : List AV), Bw (.agg cs) = True) ∧ (∀ (cs : List AV), Bw (.tup cs) = True) ∧
  (∀ (f : Fn) (cs : List AV), Bw (.clo f cs) = True) ∧ (∀ (z : Nat) (xs : List (List D)) (e f : Nat), Bw (.ip z xs e f) = True) ∧ (Bw .any = True) ∧ (∀ (b : Bool) (v : AV), Bw (.cond b v) = (b = true)) ∧ (∀ (i : Nat), AD (.mp i) = .mp i) ∧ (∀ (i : Nat), Bw (.mp i) = True) :=
 ⟨fun _ => rfl, fun _ _ _ => rfl, fun _ _ _ => rfl, fun _ => rfl, fun _ => rfl, fun _ _ => rfl, fun _ _ _ _ => rfl, rfl, fun _ _ => rfl, fun _ => rfl, fun _ _ _ => rfl, fun _ _ _ => rfl, fun _ => rfl, fun _ => rfl, fun _ _ => rfl, fun _ _ _ _ => rfl, rfl, fun _ _ => rfl, fun _ => rfl, fun _ => rfl⟩
variable [Bl] in
theorem AX : (∀ (fr : Nat → AV) (t : Tmp), Bc fr (.tmp t) = fr t) ∧ (∀ (fr : Nat → AV) (b : Bool), Bc fr (.const (.bool b)) = .d (.bool b)) ∧ (∀ (fr : Nat → AV) (k : IntKind) (n : Int), Bc fr (.const (.int k n)) = .d (.int k n)) ∧
  (∀ (fr : Nat → AV) (s : ByteArray), Bc fr (.const (.string s)) = .d (.str s.data.toList)) ∧ (∀ (fr : Nat → AV), Bc fr (.const (.slice none 0 0)) = .d .nils) ∧ (∀ (fr : Nat → AV), Bc fr (.const (.pointer none)) = .d .nilp) ∧ (∀ (fr : Nat → AV), Bc fr (.const .nilFunc) = .any) ∧
  (∀ (fr : Nat → AV) (f : FuncId), Bc fr (.func f) = .clo (.func f) []) ∧ (∀ (fr : Nat → AV), nd fr [] = True) ∧ (∀ (fr : Nat → AV) (x : Operand) (r : List Operand), nd fr (x :: r) = (Bw (Bc fr x) ∧ nd fr r)) ∧ (∀ (fr : Nat → AV), Bc fr (.const (.map none)) = .any) :=
 ⟨fun _ _ => rfl, fun _ _ => rfl, fun _ _ _ => rfl, fun _ _ => rfl, fun _ => rfl, fun _ => rfl, fun _ => rfl, fun _ _ => rfl, fun _ => rfl, fun _ _ _ => rfl, fun _ => rfl⟩
variable {E : Bq P}
variable [Bl] in
theorem Bo (E : Bq P) : (∀ (fr : Nat → AV) (H : Av) (n : Nat) (e : TypeId), C0 E fr H n (.alloc e) = .ofH (I3 E.X.ty H n e)) ∧ (∀ (fr : Nat → AV) (H : Av) (n : Nat) (e : TypeId) (x : Operand), C0 E fr H n (.box e x) = .ofH (RX H n e (AD (Bc fr x)))) ∧
  (∀ (fr : Nat → AV) (H : Av) (n : Nat) (t : TypeId) (len : Nat) (ps : List (Nat × Operand)), C0 E fr H n (.buildSlice t len ps.toArray) = .ofH (Eb E.X.ty H n t len (ps.map fun p => (p.1, AD (Bc fr p.2))))) ∧
  (∀ (fr : Nat → AV) (H : Av) (n : Nat) (t : TypeId) (l c : Operand), C0 E fr H n (.makeSlice t l c) = .ofH (Lk E.X.ty H n t (AD (Bc fr l)) (AD (Bc fr c)))) ∧
  (∀ (fr : Nat → AV) (H : Av) (n : Nat) (t : TypeId) (a x : Operand), C0 E fr H n (.store t a x) = match G0 E.X.ty H t (AD (Bc fr a)) (AD (Bc fr x)) with | some (p, H') => .h p .any H' n | none => .bad) ∧
  (∀ (fr : Nat → AV) (H : Av) (n : Nat) (c a b : Operand), C0 E fr H n (.pick c a b) = .ofV (EC (Bc fr c) (Bc fr a) (Bc fr b))) ∧
  (∀ (fr : Nat → AV) (H : Av) (n : Nat) (s x : Operand) (t : TypeId), C0 E fr H n (.call ⟨.builtin .append, #[s, x], #[t, t]⟩) = .ofH (E3 E.X.ty H n t (AD (Bc fr s)) (AD (Bc fr x)))) ∧
  (∀ (fr : Nat → AV) (H : Av) (n : Nat) (x : Operand), C0 E fr H n (.move x) = .v True (AD (Bc fr x))) ∧ (∀ (fr : Nat → AV) (H : Av) (n : Nat) (x : Operand), C0 E fr H n (.assign x) = .v True (AD (Bc fr x))) ∧
  (∀ (fr : Nat → AV) (H : Av) (n : Nat) (x : Operand), C0 E fr H n (.nilCheck x) = .ofV (Mj H (AD (Bc fr x)))) ∧
  (∀ (fr : Nat → AV) (H : Av) (n : Nat) (op : BinOp) (t r : TypeId) (x y : Operand), C0 E fr H n (.binOp op t x y r) = .ofV (Ey E.X.ty op t (AD (Bc fr x)) (AD (Bc fr y)))) ∧
  (∀ (fr : Nat → AV) (H : Av) (n : Nat) (op : UnOp) (t : TypeId) (x : Operand), C0 E fr H n (.unOp op t x) = .ofV (Zc op (AD (Bc fr x)))) ∧
  (∀ (fr : Nat → AV) (H : Av) (n : Nat) (s t : TypeId) (x : Operand), C0 E fr H n (.convert s t x) = .ofV (HJ E.X.ty H s t (AD (Bc fr x)))) :=
 ⟨fun _ _ _ _ => rfl, fun _ _ _ _ _ => rfl, fun _ _ _ _ _ _ => rfl, fun _ _ _ _ _ _ => rfl, fun _ _ _ _ _ _ => rfl, fun _ _ _ _ _ _ => rfl, fun fr H n s x t => if_pos rfl, fun _ _ _ _ => rfl, fun _ _ _ _ => rfl, fun _ _ _ _ => rfl, fun _ _ _ _ _ _ _ _ => rfl, fun _ _ _ _ _ _ => rfl, fun _ _ _ _ _ _ => rfl⟩
variable [Bl] in
theorem Dv (E : Bq P) : (∀ (fr : Nat → AV) (H : Av) (n : Nat) (t : TypeId) (x : Operand), C0 E fr H n (.slice t x none none none) = .ofV (EO E.X.ty H t (AD (Bc fr x)) none none)) ∧
  (∀ (fr : Nat → AV) (H : Av) (n : Nat) (t : TypeId) (x y : Operand), C0 E fr H n (.slice t x (some y) none none) = .ofV (EO E.X.ty H t (AD (Bc fr x)) (some (AD (Bc fr y))) none)) ∧
  (∀ (fr : Nat → AV) (H : Av) (n : Nat) (t : TypeId) (x y : Operand), C0 E fr H n (.slice t x none (some y) none) = .ofV (EO E.X.ty H t (AD (Bc fr x)) none (some (AD (Bc fr y))))) ∧
  (∀ (fr : Nat → AV) (H : Av) (n : Nat) (t : TypeId) (x y z : Operand), C0 E fr H n (.slice t x (some y) (some z) none) = .ofV (EO E.X.ty H t (AD (Bc fr x)) (some (AD (Bc fr y))) (some (AD (Bc fr z))))) ∧
  (∀ (fr : Nat → AV) (H : Av) (n : Nat) (s : TypeId) (x : Operand) (f : Nat), C0 E fr H n (.fieldAddr s x f) = .ofV (Dn E.X.ty H s (AD (Bc fr x)) f)) ∧ (∀ (fr : Nat → AV) (H : Av) (n : Nat) (s : TypeId) (x : Operand) (f : Nat), C0 E fr H n (.field s x f) = .ofV (I4 E.X.ty s (AD (Bc fr x)) f)) ∧
  (∀ (fr : Nat → AV) (H : Av) (n : Nat) (s : TypeId) (x i : Operand), C0 E fr H n (.indexAddr s x i) = .ofV (Dp E.X.ty H s (AD (Bc fr x)) (AD (Bc fr i)))) ∧ (∀ (fr : Nat → AV) (H : Av) (n : Nat) (s : TypeId) (x i : Operand), C0 E fr H n (.index s x i) = .ofV (I5 E.X.ty s (AD (Bc fr x)) (AD (Bc fr i)))) ∧
  (∀ (fr : Nat → AV) (H : Av) (n : Nat) (t : TypeId) (x : Operand), C0 E fr H n (.load t x) = .ofV (FJ E.X.ty H t (AD (Bc fr x)))) ∧ (∀ (fr : Nat → AV) (H : Av) (n : Nat) (x : Operand) (i : Nat), C0 E fr H n (.extract x i) = .ofV (FI (AD (Bc fr x)) i)) ∧
  (∀ (fr : Nat → AV) (H : Av) (n : Nat) (t : TypeId) (ps : List (Nat × Operand)), C0 E fr H n (.build t ps.toArray) = .ofV (Fm E.X.ty H t (ps.map fun p => (p.1, AD (Bc fr p.2))))) ∧
  (∀ (fr : Nat → AV) (H : Av) (n : Nat) (f : Fn) (cs : List Operand), C0 E fr H n (.makeFunc f #[] cs.toArray) = .v True (.clo f (cs.map fun x => AD (Bc fr x)))) ∧
  (∀ (fr : Nat → AV) (H : Av) (n : Nat) (t : TypeId) (x : Operand), C0 E fr H n (.call ⟨.builtin .len, #[x], #[t]⟩) = .ofV (Mi E.X.ty H t (AD (Bc fr x)))) :=
 ⟨fun _ _ _ _ _ => rfl, fun _ _ _ _ _ _ => rfl, fun _ _ _ _ _ _ => rfl, fun _ _ _ _ _ _ _ => rfl, fun _ _ _ _ _ _ => rfl, fun _ _ _ _ _ _ => rfl, fun _ _ _ _ _ _ => rfl, fun _ _ _ _ _ _ => rfl, fun _ _ _ _ _ => rfl, fun _ _ _ _ _ => rfl, fun _ _ _ _ _ => rfl, fun _ _ _ _ _ => rfl, fun _ _ _ _ _ => rfl⟩
variable [Bl] in
theorem Ag (E : Bq P) {f : FuncId} {sp : Spec} (h : E.Γ f = some sp) (fr : Nat → AV) (H : Av) (n : Nat) (args : List Operand) (ts : Array TypeId) :
  C0 E fr H n (.call ⟨.value (.func f), args.toArray, ts⟩) = D5 sp H n (args.map fun x => AD (Bc fr x)) := by
 have : C0 E fr H n (.call ⟨.value (.func f), args.toArray, ts⟩) = match E.Γ f with | some sp => D5 sp H n ((args.map fun x => AD (Bc fr x)) ++ []) | none => .bad := rfl
 rw [this, h, List.append_nil]
variable [Bl] in
theorem NF (E : Bq P) (fr : Nat → AV) (H : Av) (n : Nat) (t : Tmp) (args : List Operand) (ts : Array TypeId) :
  C0 E fr H n (.call ⟨.value (.tmp t), args.toArray, ts⟩) = match AD (fr t) with
   | .clo (.func f) cap => (match E.Γ f with | some sp => D5 sp H n ((args.map fun x => AD (Bc fr x)) ++ cap) | none => .bad)
   | _ => .bad := rfl
variable [Bl] in
theorem Vh (E : Bq P) : (∀ (fr : Nat → AV) (H : Av) (n : Nat) (x y : Operand) (ts : Array TypeId), C0 E fr H n (.call ⟨.builtin .max, #[x, y], ts⟩) = .ofV (match AD (Bc fr x), AD (Bc fr y) with | .d (.int k a), .d (.int _ b) => some (True, .d (.int k (max a b))) | _, _ => none)) ∧
  (∀ (fr : Nat → AV) (H : Av) (n : Nat) (x y : Operand) (ts : Array TypeId), C0 E fr H n (.call ⟨.builtin .min, #[x, y], ts⟩) = .ofV (match AD (Bc fr x), AD (Bc fr y) with | .d (.int k a), .d (.int _ b) => some (True, .d (.int k (min a b))) | _, _ => none)) :=
 ⟨fun _ _ _ _ _ _ => rfl, fun _ _ _ _ _ _ => rfl⟩
theorem Bp : (∀ (p : Prop) (c : AV), RS.ofV (some (p, c)) = .v p c) ∧ (∀ (p : Prop) (c : AV) (H : Av) (n : Nat), RS.ofH (some (p, c, H, n)) = .h p c H n) :=
 ⟨fun _ _ => rfl, fun _ _ _ _ => rfl⟩
/-! ### what is asked of operands -/
variable [Bl] in
theorem EG : (∀ (fr : Nat → AV) (x : Operand), CN fr (.move x) = nd fr [x]) ∧ (∀ (fr : Nat → AV) (x : Operand), CN fr (.assign x) = nd fr [x]) ∧ (∀ (fr : Nat → AV) (e : TypeId), CN fr (.alloc e) = True) ∧ (∀ (fr : Nat → AV) (e : TypeId) (x : Operand), CN fr (.box e x) = nd fr [x]) ∧
  (∀ (fr : Nat → AV) (c a b : Operand), CN fr (.pick c a b) = True) ∧ (∀ (fr : Nat → AV) (t : TypeId) (a x : Operand), CN fr (.store t a x) = nd fr [a, x]) ∧ (∀ (fr : Nat → AV) (t : TypeId) (x : Operand), CN fr (.load t x) = nd fr [x]) ∧
  (∀ (fr : Nat → AV) (x : Operand), CN fr (.nilCheck x) = nd fr [x]) ∧ (∀ (fr : Nat → AV) (op : BinOp) (t r : TypeId) (x y : Operand), CN fr (.binOp op t x y r) = nd fr [x, y]) ∧ (∀ (fr : Nat → AV) (op : UnOp) (t : TypeId) (x : Operand), CN fr (.unOp op t x) = nd fr [x]) ∧
  (∀ (fr : Nat → AV) (s t : TypeId) (x : Operand), CN fr (.convert s t x) = nd fr [x]) ∧ (∀ (fr : Nat → AV) (s : TypeId) (x : Operand) (f : Nat), CN fr (.fieldAddr s x f) = nd fr [x]) ∧ (∀ (fr : Nat → AV) (s : TypeId) (x : Operand) (f : Nat), CN fr (.field s x f) = nd fr [x]) ∧
  (∀ (fr : Nat → AV) (s : TypeId) (x i : Operand), CN fr (.indexAddr s x i) = nd fr [x, i]) ∧ (∀ (fr : Nat → AV) (s : TypeId) (x i : Operand), CN fr (.index s x i) = nd fr [x, i]) ∧ (∀ (fr : Nat → AV) (x : Operand) (i : Nat), CN fr (.extract x i) = nd fr [x]) ∧
  (∀ (fr : Nat → AV) (t : TypeId) (l c : Operand), CN fr (.makeSlice t l c) = nd fr [l, c]) ∧ (∀ (fr : Nat → AV) (t : TypeId) (ps : List (Nat × Operand)), CN fr (.build t ps.toArray) = nd fr (ps.map (·.2))) ∧
  (∀ (fr : Nat → AV) (t : TypeId) (k : Nat) (ps : List (Nat × Operand)), CN fr (.buildSlice t k ps.toArray) = nd fr (ps.map (·.2))) ∧ (∀ (fr : Nat → AV) (b : Builtin) (args : List Operand) (ts : Array TypeId), CN fr (.call ⟨.builtin b, args.toArray, ts⟩) = nd fr args) ∧
  (∀ (fr : Nat → AV) (f : Operand) (args : List Operand) (ts : Array TypeId), CN fr (.call ⟨.value f, args.toArray, ts⟩) = nd fr (f :: args)) ∧ (∀ (fr : Nat → AV) (f : Fn) (cs : List Operand), CN fr (.makeFunc f #[] cs.toArray) = nd fr cs) := by
 refine ⟨?_, ?_, ?_, ?_, ?_, ?_, ?_, ?_, ?_, ?_, ?_, ?_, ?_, ?_, ?_, ?_, ?_, ?_, ?_, ?_, ?_, ?_⟩ <;> intros <;> simp [CN, Op.operands, Call.operands, nd]
variable [Bl] in
theorem EH (fr : Nat → AV) (t : TypeId) (x : Operand) : (CN fr (.slice t x none none none) = nd fr [x]) ∧ (∀ y, CN fr (.slice t x (some y) none none) = nd fr [x, y]) ∧ (∀ y, CN fr (.slice t x none (some y) none) = nd fr [x, y]) ∧ (∀ y z, CN fr (.slice t x (some y) (some z) none) = nd fr [x, y, z]) := by
 refine ⟨?_, ?_, ?_, ?_⟩ <;> intros <;> simp [CN, Op.operands, nd]
theorem Ls (ty : TypeId → Option TI) (t : TypeId) : (∀ (k : IntKind) (a b : Int), Ey ty .add t (.d (.int k a)) (.d (.int k b)) = some (ar k (a + b))) ∧ (∀ (k : IntKind) (a b : Int), Ey ty .sub t (.d (.int k a)) (.d (.int k b)) = some (ar k (a - b))) ∧ (∀ (k : IntKind) (a b : Int), Ey ty .mul t (.d (.int k a)) (.d (.int k b)) = some (ar k (a * b))) ∧
  (∀ (k : IntKind) (a b : Int), Ey ty .quo t (.d (.int k a)) (.d (.int k b)) = some (b ≠ 0 ∧ (ar k (a.tdiv b)).1, (ar k (a.tdiv b)).2)) ∧ (∀ (k : IntKind) (a b : Int), Ey ty .rem t (.d (.int k a)) (.d (.int k b)) = some (b ≠ 0, .d (.int k (a.tmod b)))) ∧
  (∀ (k : IntKind) (a b : Int), Ey ty .eql t (.d (.int k a)) (.d (.int k b)) = some (True, .d (.bool (decide (a = b))))) ∧ (∀ (k : IntKind) (a b : Int), Ey ty .neq t (.d (.int k a)) (.d (.int k b)) = some (True, .d (.bool (!decide (a = b))))) ∧
  (∀ (k : IntKind) (a b : Int), Ey ty .lss t (.d (.int k a)) (.d (.int k b)) = some (True, .d (.bool (decide (a < b))))) ∧ (∀ (k : IntKind) (a b : Int), Ey ty .leq t (.d (.int k a)) (.d (.int k b)) = some (True, .d (.bool (decide (a ≤ b))))) ∧
  (∀ (k : IntKind) (a b : Int), Ey ty .gtr t (.d (.int k a)) (.d (.int k b)) = some (True, .d (.bool (decide (b < a))))) ∧ (∀ (k : IntKind) (a b : Int), Ey ty .geq t (.d (.int k a)) (.d (.int k b)) = some (True, .d (.bool (decide (b ≤ a))))) ∧
  (∀ (op : BinOp) (a b : List UInt8), Ey ty op t (.d (.str a)) (.d (.str b)) = JV op a b) ∧ (∀ (op : BinOp) (cs ds : List AV), Ey ty op t (.agg cs) (.agg ds) = match op with | .eql => Hy ty t false cs ds | .neq => Hy ty t true cs ds | _ => none) ∧
  (∀ (op : BinOp), Ey ty op t (.d .nilp) (.d .nilp) = Wz ty op t true) ∧ (∀ (op : BinOp) (cs : List D), Ey ty op t (.d .nilp) (.d (.ptr cs)) = Wz ty op t false) ∧ (∀ (op : BinOp) (cs : List D), Ey ty op t (.d (.ptr cs)) (.d .nilp) = Wz ty op t false) ∧
  (∀ (b : Bool), Wz ty .eql t b = match ty t with | some ⟨.ptr _, _, _, _⟩ => some (True, .d (.bool b)) | _ => none) ∧ (∀ (b : Bool), Wz ty .neq t b = match ty t with | some ⟨.ptr _, _, _, _⟩ => some (True, .d (.bool (!b))) | _ => none) := by
 refine ⟨?_, ?_, ?_, ?_, ?_, ?_, ?_, ?_, ?_, ?_, ?_, ?_, ?_, ?_, ?_, ?_, ?_, ?_⟩ <;> intros <;> first | rfl | (simp [Ey, TY]; done)
theorem HN : (∀ (n : Int), ar .i64 n = (D1 n, .d (.int .i64 n))) ∧ (∀ (n : Int), ar .u8 n = (True, .d (.int .u8 (IntKind.u8.wrap n)))) ∧ (∀ (n : Int), ar .u64 n = (True, .d (.int .u64 (IntKind.u64.wrap n)))) := ⟨fun _ => rfl, fun _ => rfl, fun _ => rfl⟩
theorem So (ty : TypeId → Option TI) (t : TypeId) : (∀ (k k' : IntKind) (a b : Int), Ey ty .shl t (.d (.int k a)) (.d (.int k' b)) = some (0 ≤ b, .d (.int k (k.wrap (a * 2 ^ (min b.toNat k.bits)))))) ∧ (∀ (k k' : IntKind) (a b : Int), Ey ty .shr t (.d (.int k a)) (.d (.int k' b)) = some (0 ≤ b, .d (.int k (a.fdiv (2 ^ (min b.toNat k.bits)))))) ∧
  (∀ (k : IntKind) (a b : Int), Ey ty .and t (.d (.int k a)) (.d (.int k b)) = some (True, .d (.int k (Gp .and k a b)))) ∧ (∀ (k : IntKind) (a b : Int), Ey ty .or t (.d (.int k a)) (.d (.int k b)) = some (True, .d (.int k (Gp .or k a b)))) ∧ (∀ (k : IntKind) (a b : Int), Ey ty .xor t (.d (.int k a)) (.d (.int k b)) = some (True, .d (.int k (Gp .xor k a b)))) := by
 refine ⟨?_, ?_, ?_, ?_, ?_⟩ <;> intros <;> simp [Ey, TY, Ml]
theorem KI : (∀ (b : Bool), Zc .not (.d (.bool b)) = some (True, .d (.bool !b))) ∧ (∀ (k : IntKind) (n : Int), Zc .neg (.d (.int k n)) = some (ar k (0 - n))) ∧
  (∀ (x y z : Bool), EC (.d (.bool x)) (.d (.bool y)) (.d (.bool z)) = some (True, .d (.bool (bif x then y else z)))) ∧ (∀ (x g y z : Bool), EC (.d (.bool x)) (.cond g (.d (.bool y))) (.d (.bool z)) = some (x = true → g = true, .d (.bool (bif x then y else z)))) ∧
  (∀ (x y g z : Bool), EC (.d (.bool x)) (.d (.bool y)) (.cond g (.d (.bool z))) = some (x = false → g = true, .d (.bool (bif x then y else z)))) ∧
  (∀ (f x y z : Bool), EC (.cond f (.d (.bool x))) (.d (.bool y)) (.d (.bool z)) = some (f = true, .d (.bool (bif x then y else z)))) ∧ (∀ (f x g y z : Bool), EC (.cond f (.d (.bool x))) (.cond g (.d (.bool y))) (.d (.bool z)) = some (f = true ∧ (x = true → g = true), .d (.bool (bif x then y else z)))) ∧
  (∀ (f x y g z : Bool), EC (.cond f (.d (.bool x))) (.d (.bool y)) (.cond g (.d (.bool z))) = some (f = true ∧ (x = false → g = true), .d (.bool (bif x then y else z)))) ∧
  (∀ b : Bool, EC (.d (.bool false)) (.cond false .any) (.d (.bool b)) = some (True ∧ True, .d (.bool b))) ∧ (∀ b : Bool, EC (.d (.bool true)) (.d (.bool b)) (.cond false .any) = some (True ∧ True, .d (.bool b))) := by
 refine ⟨fun _ => rfl, fun _ _ => rfl, ?_, ?_, ?_, ?_, ?_, ?_, fun _ => rfl, fun _ => rfl⟩ <;> intros <;> simp_all [EC, AD, Bw]
end
theorem Ca (x y : Bool) : (bif x then y else false) = (x && y) := by cases x <;> rfl
theorem CC (x y : Bool) : (bif x then true else y) = (x || y) := by cases x <;> rfl
/-! ### steps -/
section
variable [Bl] {P : Program} {E : Bq P} {W0 : World} {M0 : Nat → Prop}
theorem Aa {x y : Code} {st : St} {K : Exit → St → Prop} (h : ∀ N : St → Prop, (∀ st, VC E W0 M0 y st K → N st) → VC E W0 M0 x st (Jp N K)) : VC E W0 M0 (.seq x y) st K :=
 Wt (h _ fun _ h => h)
theorem TG {c : Operand} {x y : Code} {st : St} {K : Exit → St → Prop} {b : Bool} (hb : Bc st.fr c = .d (.bool b)) (h1 : b = true → VC E W0 M0 x st K) (h2 : b = false → VC E W0 M0 y st K) : VC E W0 M0 (.cond c x y) st K :=
 XD (by unfold Uq; rw [hb]; exact ⟨h1, h2⟩)
/-! one operation at a time -/
section
variable {ops : Array Oper} {K : St → Prop} {o : Op} {d : Option Tmp} {t : TypeId} {p : String} {af : Array Edge} {r : List Oper} {fr : Nat → AV} {H H' : Av} {n n' : Nat} {q : Prop} {c : AV} {b : Bool} {gd : Nat × Bool}
end
theorem A3 {σ : Type} (inv : σ → Prop) (fl : σ → List (Nat × AV)) (bl : σ → List (Option B7)) (μ : σ → Nat) {np : Nat} (hnp : Bl.np = np) (s0 : σ) {body : Code} {st : St} {K : Exit → St → Prop} (h0 : inv s0) (ρ : Ren) (hs : KF np ρ st (fl s0) (bl s0))
  (round : ∀ s, inv s → ∀ N : St → Prop, (∀ st', (∃ s', inv s' ∧ μ s' < μ s ∧ ∃ ρ : Ren, KF np ρ st' (fl s') (bl s')) → N st') → VC E W0 M0 body (Hd (fl s) (bl s)) (Jp N K)) : VC E W0 M0 (.loop body) st K :=
 XF inv (fun s => Hd (fl s) (bl s)) μ s0 h0 (Q2 hnp ρ hs) (fun s hi => (round s hi _ fun _ h => h).mono fun e st h => by
  cases e with
  | normal => obtain ⟨s', h1, h2, ρ', h3⟩ := h; exact ⟨s', h1, h2, Q2 hnp ρ' h3⟩
  | _ => exact h)
theorem YY {np : Nat} (hnp : Bl.np = np) (fl : List (Nat × AV)) (bl : List (Option B7)) (ρ : Ren) {c : Code} {st : St} {K : Exit → St → Prop} (h : KF np ρ st fl bl) (hc : VC E W0 M0 c (Hd fl bl) K) : VC E W0 M0 c st K := VC.mk hnp ρ h hc
end
end Go.Vc
/- The Vc layer: the walk's rewriting rules under one name. -/
set_option linter.all false
namespace Go.Vc
open Go Go.RowKit
theorem AZ {α : Type} : (∀ (cs : List α), A6 cs 0 [] = cs) ∧ (∀ (c v : α) (cs vs : List α), A6 (c :: cs) 0 (v :: vs) = v :: A6 cs 0 vs) ∧ (∀ (c : α) (cs vs : List α) (n : Nat), A6 (c :: cs) (n + 1) vs = c :: A6 cs n vs) := by
 refine ⟨fun cs => by simp [A6], fun c v cs vs => by simp [A6], fun c cs vs n => ?_⟩
 simp [A6, Nat.add_right_comm]
theorem Af {α : Type} : (∀ (l : List α), l.take 0 = []) ∧ (∀ (l : List α), l.drop 0 = l) ∧ (∀ (a : α) (l : List α) (n : Nat), (a :: l).take (n + 1) = a :: l.take n) ∧ (∀ (a : α) (l : List α) (n : Nat), (a :: l).drop (n + 1) = l.drop n) ∧
  (∀ (n : Nat), ([] : List α).take n = []) ∧ (∀ (n : Nat), ([] : List α).drop n = []) ∧ (∀ (a : α) (l : List α), (a :: l)[0]? = some a) ∧ (∀ (a : α) (l : List α) (n : Nat), (a :: l)[n + 1]? = l[n]?) ∧ (∀ (n : Nat), ([] : List α)[n]? = none) ∧
  (∀ (a : α) (l : List α), (a :: l).length = l.length + 1) ∧ (([] : List α).length = 0) ∧ (∀ (l : List α), [] ++ l = l) ∧ (∀ (l : List α), l ++ [] = l) ∧ (∀ (a : α) (l m : List α), (a :: l) ++ m = a :: (l ++ m)) ∧
  (∀ (a b : α) (l : List α), (a :: l).set 0 b = b :: l) ∧ (∀ (a b : α) (l : List α) (n : Nat), (a :: l).set (n + 1) b = a :: l.set n b) := by
 refine ⟨fun _ => rfl, fun _ => rfl, fun _ _ _ => rfl, fun _ _ _ => rfl, fun n => List.take_nil, fun n => List.drop_nil, fun _ _ => rfl, fun _ _ _ => rfl, fun _ => rfl, fun _ _ => rfl, rfl, fun _ => rfl, fun l => List.append_nil l, fun _ _ _ => rfl, fun _ _ _ => rfl, fun _ _ _ _ => rfl⟩
theorem BJ {α β : Type} : (∀ (f : α → β) (a : α), Option.map f (some a) = some (f a)) ∧ (∀ (f : α → β), Option.map f none = none) := ⟨fun _ _ => rfl, fun _ => rfl⟩
theorem Ig {α β : Type} : (∀ (f : α → Option β) (a : α), Option.bind (some a) f = f a) := fun _ _ => rfl
theorem AF {α β : Type} : (∀ (f : α → β), List.map f [] = []) ∧ (∀ (f : α → β) (a : α) (l : List α), List.map f (a :: l) = f a :: List.map f l) := ⟨fun _ => rfl, fun _ _ _ => rfl⟩
theorem VX : (∀ (fl : List (Nat × AV)) (bl : List (Option B7)), Hd fl bl = ⟨H4 fl, Ax bl, bl.length⟩) := fun _ _ => rfl
theorem C5 : (∀ (p : Prop) [Decidable p], (decide p = true) = p) ∧ (∀ (p : Prop) [Decidable p], (decide p = false) ↔ ¬p) ∧ (∀ b : Bool, ((!b) = true) = (b = false)) ∧ (∀ b : Bool, ((!b) = false) = (b = true)) ∧ (∀ a b : Bool, ((a && b) = true) = (a = true ∧ b = true)) ∧ (∀ a b : Bool, ((a || b) = true) = (a = true ∨ b = true)) ∧ (∀ a b : Bool, ((!a) = b) ↔ a = !b) ∧ ((!true) = false) ∧ ((!false) = true) ∧ (∀ a b : Bool, ((a && b) = false) ↔ (a = true → b = false)) ∧ (∀ a b : Bool, ((a || b) = false) ↔ (a = false ∧ b = false)) ∧ (∀ b : Bool, (!!b) = b) := by
 refine ⟨fun _ _ => by simp, fun _ _ => by simp, ?_, ?_, ?_, ?_, ?_, ?_, ?_, ?_, ?_, ?_⟩ <;> simp
theorem Fq : (∀ b : Bool, (bif true then b else false) = b) ∧ (∀ b : Bool, (bif false then b else false) = false) ∧ ((!true) = false) ∧ ((!false) = true) ∧ (∀ b : Bool, (true && b) = b) ∧ (∀ b : Bool, (false && b) = false) ∧ (∀ b : Bool, (true || b) = true) ∧ (∀ b : Bool, (false || b) = b) ∧ (∀ b : Bool, (b && true) = b) ∧ (∀ b : Bool, (b || false) = b) := by
 refine ⟨?_, ?_, ?_, ?_, ?_, ?_, ?_, ?_, ?_, ?_⟩ <;> simp
theorem BI {P : Program} (E : Bq P) : (∀ N : Nat, (E.at_ N).X = E.X) ∧ (∀ N : Nat, (E.at_ N).N = N) ∧ (∀ N : Nat, (E.at_ N).Γ = E.Γ) ∧ (∀ l : Nat, (E.inR l).X = E.X) ∧ (∀ l : Nat, (E.inR l).N = E.N) ∧ (∀ l : Nat, (E.inR l).Γ = E.Γ) :=
 ⟨fun _ => rfl, fun _ => rfl, fun _ => rfl, fun _ => rfl, fun _ => rfl, fun _ => rfl⟩
theorem PE {P : Program} (X : LR P) : (Bq.empty X).X = X := rfl
theorem F5 : (∀ (ops : Array Oper) (fr : Nat → AV), Bg ops fr none = some none) ∧ (∀ (ops : Array Oper) (fr : Nat → AV) (g : Nat) (want : Bool), Bg ops fr (some (g, want)) = match (ops[g]?).bind (·.dst) with
  | some d => (match Jb (fr d) want with | some b => some (some b) | none => none)
  | none => none) ∧ (∀ (l : List Oper) (i : Nat), (l.toArray)[i]? = l[i]?) ∧ (∀ (x : Bool), Jb (.d (.bool x)) true = some x) ∧ (∀ (x : Bool), Jb (.d (.bool x)) false = some !x) ∧ (∀ (g x : Bool), Jb (.cond g (.d (.bool x))) true = some (g && x)) ∧ (∀ (g x : Bool), Jb (.cond g (.d (.bool x))) false = some (g && !x)) ∧ (∀ (x : Bool), Jb (.cond false .any) x = some false) :=
 ⟨fun _ _ => rfl, fun _ _ _ _ => rfl, fun l i => by simp, fun _ => rfl, fun _ => rfl, fun _ _ => rfl, fun _ _ => rfl, fun _ => rfl⟩
theorem Ae : (∀ (N : St → Prop) (K : Exit → St → Prop), Jp N K .normal = N) ∧ (∀ (N : St → Prop) (K : Exit → St → Prop), Jp N K .ret = K .ret) ∧ (∀ (N : St → Prop) (K : Exit → St → Prop) (i : Nat), Jp N K (.exit i) = K (.exit i)) ∧
  (∀ (i : Nat) (K : Exit → St → Prop), I7 i K .normal = K .normal) ∧ (∀ (i : Nat) (K : Exit → St → Prop), I7 i K .ret = K .ret) ∧ (∀ (i j : Nat) (K : Exit → St → Prop), I7 i K (.exit j) = if j = i then K .normal else K (.exit j)) := by
 refine ⟨fun _ _ => rfl, fun _ _ => rfl, fun _ _ _ => rfl, fun _ _ => rfl, fun _ _ => rfl, fun i j K => ?_⟩
 funext st
 simp only [I7]
 split <;> rfl
theorem Br : (∀ (cs : List AV), Bu (.agg cs) = cs) ∧ (∀ (x : D), Bu (.d x) = [.d x]) ∧ (∀ (i o l : Nat), Bu (.sl i o l) = [.sl i o l]) ∧ (∀ (i o l : Nat), Bu (.ptr i o l) = [.ptr i o l]) ∧
  (∀ (H : Av) (cs : List AV), DY H (.agg cs) = some cs) ∧ (∀ (H : Av) (x : D), DY H (.d x) = some [.d x]) ∧ (∀ (H : Av) (z : Nat) (xs : List (List D)) (e f : Nat), DY H (.ip z xs e f) = some [.ip z xs e f]) ∧ (∀ (H : Av) (f : Fn) (cs : List AV), DY H (.clo f cs) = some [.clo f cs]) ∧
  (∀ (H : Av) (i o l : Nat), DY H (.sl i o l) = match H i with | some _ => some [.sl i o l] | none => none) ∧ (∀ (H : Av) (i o l : Nat), DY H (.ptr i o l) = match H i with | some _ => some [.ptr i o l] | none => none) ∧
  (∀ (H : Av), fz H [] = some (True, [], H)) ∧ (∀ (H : Av) (c : AV) (cs : List AV), fz H (c :: cs) = match XR H c with | some (p, d, H1) => (match fz H1 cs with | some (q, ds, H2) => some (p ∧ q, d :: ds, H2) | none => none) | none => none) ∧
  (∀ (H : Av) (x : D), XR H (.d x) = some (True, Bi x, H)) ∧ (∀ (H : Av) (id off len : Nat), XR H (.sl id off len) = match H id with | some (.vec _ _ xs) => some (off + len ≤ xs.length, .sl ((xs.drop off).take len), CI H id none) | _ => none) ∧
  (∀ (H : Av) (id : Nat), XR H (.ptr id 0 0) = match H id with | some (.one _ cells) => (match CK cells with | some ds => some (True, .ptr ds, CI H id none) | none => none) | _ => none) ∧
  (CK [] = some []) ∧ (∀ (x : D) (cs : List AV), CK (.d x :: cs) = match CK cs with | some ds => some (Bi x :: ds) | none => none) ∧
  (Bi .nils = .sl []) ∧ (∀ b, Bi (.bool b) = .bool b) ∧ (∀ k n, Bi (.int k n) = .int k n) ∧ (∀ s, Bi (.str s) = .str s) ∧ (∀ xs, Bi (.sl xs) = .sl xs) ∧ (Bi .nilp = .nilp) ∧ (∀ cs, Bi (.ptr cs) = .ptr cs) := by
 refine ⟨fun _ => rfl, fun _ => rfl, fun _ _ _ => rfl, fun _ _ _ => rfl, fun _ _ => rfl, fun _ _ => rfl, fun _ _ _ _ _ => rfl, fun _ _ _ => rfl, fun _ _ _ _ => rfl, fun _ _ _ _ => rfl, fun _ => rfl, fun _ _ _ => rfl, fun _ _ => rfl, fun _ _ _ _ => rfl, fun _ _ => rfl, rfl, fun _ _ => rfl, rfl, fun _ => rfl, fun _ _ => rfl, fun _ => rfl, fun _ => rfl, rfl, fun _ => rfl⟩
theorem Bt : (∀ (H : Av) (pl : Nat → Option (Nat × Nat)) (cs : List AV), EU H pl cs [] = some cs) ∧ (∀ (H : Av) (pl : Nat → Option (Nat × Nat)) (cs : List AV) (i : Nat) (v : AV) (rest : List (Nat × AV)), EU H pl cs ((i, v) :: rest) = match pl i, DY H v with
   | some (off, sz), some vs => if vs.length = sz ∧ off + sz ≤ cs.length then EU H pl (A6 cs off vs) rest else none
   | _, _ => none) ∧
  (∀ (sz : Nat) (H : Av) (k : Nat), G8 sz H k [] = some (True, [], H)) ∧ (∀ (sz : Nat) (H : Av) (k i : Nat) (v : AV) (r : List (Nat × AV)), G8 sz H k ((i, v) :: r) = if i = k then match fz H (Bu v) with
   | some (p, ds, H1) => if ds.length = sz then (match G8 sz H1 (k + 1) r with
    | some (q, rows, H2) => some (p ∧ q, ds :: rows, H2)
    | none => none) else none
   | none => none else none) := ⟨fun _ _ _ => rfl, fun _ _ _ _ _ _ => rfl, fun _ _ _ => rfl, fun _ _ _ _ _ _ => rfl⟩
theorem BF : (∀ (len : Nat) (k : Nat → Nat → AV), JY none none len k = some (True, k 0 len)) ∧ (∀ (q : IntKind) (l : Int) (len : Nat) (k : Nat → Nat → AV), JY (some (.d (.int q l))) none len k = some (0 ≤ l ∧ l ≤ len, k l.toNat len)) ∧
  (∀ (q : IntKind) (h : Int) (len : Nat) (k : Nat → Nat → AV), JY none (some (.d (.int q h))) len k = some (0 ≤ h ∧ h ≤ len, k 0 h.toNat)) ∧ (∀ (q q' : IntKind) (l h : Int) (len : Nat) (k : Nat → Nat → AV), JY (some (.d (.int q l))) (some (.d (.int q' h))) len k = some (0 ≤ l ∧ l ≤ h ∧ h ≤ len, k l.toNat h.toNat)) :=
 ⟨fun _ _ => rfl, fun _ _ _ _ => rfl, fun _ _ _ _ => rfl, fun _ _ _ _ _ _ => rfl⟩
theorem LN : (∀ a b : List UInt8, JV .add a b = some (a.length + b.length ≤ 9223372036854775807, .d (.str (a ++ b)))) ∧ (∀ a b : List UInt8, JV .eql a b = some (True, .d (.bool (decide (a = b))))) ∧ (∀ a b : List UInt8, JV .neq a b = some (True, .d (.bool (!decide (a = b))))) ∧
  (∀ a b : List UInt8, JV .lss a b = some (True, .d (.bool (Op.bytesLess a b)))) ∧ (∀ a b : List UInt8, JV .leq a b = some (True, .d (.bool (Op.bytesLess a b || decide (a = b))))) ∧
  (∀ a b : List UInt8, JV .gtr a b = some (True, .d (.bool !(Op.bytesLess a b || decide (a = b))))) ∧ (∀ a b : List UInt8, JV .geq a b = some (True, .d (.bool !(Op.bytesLess a b)))) :=
 ⟨fun _ _ => rfl, fun _ _ => rfl, fun _ _ => rfl, fun _ _ => rfl, fun _ _ => rfl, fun _ _ => rfl, fun _ _ => rfl⟩
theorem NS : (∀ (ty : TypeId → Option TI) (t : TypeId) (neg : Bool) (cs ds : List AV), Hy ty t neg cs ds = match ty t with
   | some ⟨.struct _ (k :: ks), _, _, _⟩ => (Hi (k :: ks) cs ds).map fun b => (True, .d (.bool (if neg then !b else b)))
   | _ => none) ∧ (Hi [] [] [] = some true) ∧ (∀ (k : BK) (ks : List BK) (x y : D) (xs ys : List AV), Hi (k :: ks) (.d x :: xs) (.d y :: ys) = match XP k x y, Hi ks xs ys with | some b, some c => some (b && c) | _, _ => none) ∧
  (∀ a b, XP .b (.bool a) (.bool b) = some (a == b)) ∧ (∀ k a b, XP (.i k) (.int k a) (.int k b) = some (decide (a = b))) ∧ (∀ a b, XP .s (.str a) (.str b) = some (decide (a = b))) := by
 refine ⟨fun _ _ _ _ _ => rfl, rfl, fun _ _ _ _ _ _ => rfl, fun _ _ => rfl, fun k a b => by simp [XP], fun _ _ => rfl⟩
/-! ### calls -/
theorem CL : (∀ (H : Av) (D : List Nat) (x : Vc.D), FQ H D (.d x) = some (True, .d (Bi x), [])) ∧ (∀ (H : Av) (D : List Nat) (id off len : Nat), FQ H D (.sl id off len) = if id ∈ D then some (True, .sl id off len, []) else match H id with
   | some (.vec _ _ xs) => some (off + len ≤ xs.length, .d (.sl ((xs.drop off).take len)), [id])
   | _ => none) ∧ (∀ (H : Av) (D : List Nat) (id e f : Nat), FQ H D (.ptr id e f) = if id ∈ D then some (True, .ptr id e f, []) else match H id with | some (.one _ cells) => (match CK cells with | some ds => some (e = 0 ∧ f = 0, .d (.ptr ds), [id]) | none => none) | _ => none) ∧ (∀ (H : Av) (D : List Nat) (z : Nat) (xs : List (List Vc.D)) (e f : Nat), FQ H D (.ip z xs e f) = some (True, .ip z xs e f, [])) ∧
  (∀ (H : Av) (D : List Nat) (cs : List AV), FQ H D (.agg cs) = match FA H D cs with | some (p, cs', B) => some (p, .agg cs', B) | none => none) ∧ (∀ (H : Av) (D : List Nat) (f : Fn) (cs : List AV), FQ H D (.clo f cs) = match FA H D cs with | some (p, cs', B) => some (p, .clo f cs', B) | none => none) ∧
  (∀ (H : Av) (D : List Nat) (x : Vc.D), EV H D (.d x) = some (True, .d (Bi x), [])) ∧ (∀ (H : Av) (D : List Nat) (id off len : Nat), EV H D (.sl id off len) = if id ∈ D then some (True, .sl id off len, []) else match H id with
   | some (.vec _ _ xs) => some (off + len ≤ xs.length, .d (.sl ((xs.drop off).take len)), [id])
   | _ => none) ∧ (∀ (H : Av) (D : List Nat) (id e f : Nat), EV H D (.ptr id e f) = if id ∈ D then some (True, .ptr id e f, []) else match H id with | some (.one _ cells) => (match CK cells with | some ds => some (e = 0 ∧ f = 0, .d (.ptr ds), [id]) | none => none) | _ => none) ∧ (∀ (H : Av) (D : List Nat) (z : Nat) (xs : List (List Vc.D)) (e f : Nat), EV H D (.ip z xs e f) = some (True, .ip z xs e f, [])) ∧
  (∀ (H : Av) (D : List Nat), FA H D [] = some (True, [], [])) ∧ (∀ (H : Av) (D : List Nat) (c : AV) (cs : List AV), FA H D (c :: cs) = match EV H D c with | some (p, c', B) => (match FA H D cs with | some (q, cs', B') => some (p ∧ q, c' :: cs', B ++ B') | none => none) | none => none) ∧
  (∀ (H : Av) (D : List Nat), D9 H D [] = some (True, [], [])) ∧ (∀ (H : Av) (D : List Nat) (c : AV) (cs : List AV), D9 H D (c :: cs) = match FQ H D c with | some (p, c', B) => (match D9 H D cs with | some (q, cs', B') => some (p ∧ q, c' :: cs', B ++ B') | none => none) | none => none) ∧ (∀ (H : Av) (D : List Nat) (id : Nat), FQ H D (.mp id) = if id ∈ D then some (True, .mp id, []) else none) ∧ (∀ (H : Av) (D : List Nat) (id : Nat), EV H D (.mp id) = if id ∈ D then some (True, .mp id, []) else none) := by
 refine ⟨fun _ _ _ => rfl, fun _ _ _ _ _ => rfl, fun _ _ _ _ _ => rfl, fun _ _ _ _ _ _ => rfl, fun _ _ _ => rfl, fun _ _ _ _ => rfl, fun _ _ _ => rfl, fun _ _ _ _ _ => rfl, fun _ _ _ _ _ => rfl, fun _ _ _ _ _ _ => rfl, fun _ _ => rfl, fun _ _ _ _ => rfl, fun _ _ => rfl, fun _ _ _ _ => rfl, fun _ _ _ => rfl, fun _ _ _ => rfl⟩
theorem BX (g : List AV → Option (Prop × AV)) : (∀ args H, (Spec.pure g).dom args H = []) ∧ (∀ args H n, (Spec.pure g).run args H n = match g args with | some (p, r) => some (p, r, none) | none => none) := ⟨fun _ _ => rfl, fun _ _ _ => rfl⟩
theorem GR (g : DP) : (∀ args H, (Spec.gen g).dom args H = Jh args H) ∧ (∀ args H n, (Spec.gen g).run args H n = Ft g (Jh args H) args H n) ∧ (∀ args H, (Spec.fresh g).dom args H = []) ∧ (∀ args H n, (Spec.fresh g).run args H n = Ft g [] args H n) := ⟨fun _ _ => rfl, fun _ _ _ => rfl, fun _ _ => rfl, fun _ _ _ => rfl⟩
theorem A2 : (∀ (D : List Nat) (f : Av) (i : Nat), Cb D f i = if i ∈ D then f i else none) ∧ (∀ (D : List Nat) (n : Nat) (f g : Av) (i : Nat), Ed D n f g i = if i ∈ D ∨ n ≤ i then g i else f i) ∧ (∀ (B : List Nat) (f : Av) (i : Nat), B6 B f i = if i ∈ B then none else f i) ∧
  (∀ (f : Av), B6 [] f = f) ∧ (∀ (n : Nat) (H : Av) (bf : List (Option B7)) (ds : List Nat) (i : Nat), Nl ds n H bf i = if i < n then (match Dk ds i with | some j => Ex ds n (Ax bf j) | none => H i) else Ex ds n (Ax bf (ds.length + (i - n)))) := by
 refine ⟨fun _ _ _ => rfl, fun _ _ _ _ _ => rfl, fun _ _ _ => rfl, fun f => ?_, fun _ _ _ _ _ => rfl⟩
 funext i; simp [B6]
theorem CM : (∀ b, Tx (.d (.bool b)) = true) ∧ (∀ k n, Tx (.d (.int k n)) = true) ∧ (∀ s, Tx (.d (.str s)) = true) ∧ (Tx (.d .nils) = true) ∧ (Tx (.d .nilp) = true) ∧ (∀ xs, Tx (.d (.sl xs)) = false) ∧ (∀ xs, Tx (.d (.ptr xs)) = false) ∧ (∀ cs, Tx (.agg cs) = cs.all Tw) ∧ (∀ vs, Tx (.tup vs) = vs.all TO) ∧
  (∀ b, TO (.d (.bool b)) = true) ∧ (∀ k n, TO (.d (.int k n)) = true) ∧ (∀ s, TO (.d (.str s)) = true) ∧ (TO (.d .nils) = true) ∧ (TO (.d .nilp) = true) ∧ (∀ xs, TO (.d (.sl xs)) = false) ∧ (∀ xs, TO (.d (.ptr xs)) = false) ∧ (∀ cs, TO (.agg cs) = cs.all Tw) ∧
  (∀ b, Tw (.d (.bool b)) = true) ∧ (∀ k n, Tw (.d (.int k n)) = true) ∧ (∀ s, Tw (.d (.str s)) = true) ∧ (Tw (.d .nils) = true) ∧ (Tw (.d .nilp) = true) ∧ (∀ xs, Tw (.d (.sl xs)) = false) ∧ (∀ xs, Tw (.d (.ptr xs)) = false) ∧
  (∀ {α : Type} (p : α → Bool), [].all p = true) ∧ (∀ {α : Type} (p : α → Bool) (a : α) (l : List α), (a :: l).all p = (p a && l.all p)) := by
 refine ⟨?_, ?_, ?_, ?_, ?_, ?_, ?_, ?_, ?_, ?_, ?_, ?_, ?_, ?_, ?_, ?_, ?_, ?_, ?_, ?_, ?_, ?_, ?_, ?_, ?_, ?_⟩ <;> intros <;> rfl
/-! ### a state seen as another -/
theorem Vk (ρ : Ren) (H : Av) : (∀ x y : D, Vc.mt ρ H (.d x) (.d y) = (x = y ∨ Bi x = y)) ∧ (∀ (k o l : Nat) (y : D), Vc.mt ρ H (.sl k o l) (.d y) = match H k with | some (.vec _ _ xs) => (some k ∈ ρ → False) ∧ o + l ≤ xs.length ∧ D.sl ((xs.drop o).take l) = y | _ => False) ∧
  (∀ (k e f : Nat) (y : D), Vc.mt ρ H (.ptr k e f) (.d y) = match H k with | some (.one _ cells) => (match CK cells with | some ds => (some k ∈ ρ → False) ∧ e = 0 ∧ f = 0 ∧ D.ptr ds = y | none => False) | _ => False) ∧
  (∀ (k o l i o' l' : Nat), Vc.mt ρ H (.sl k o l) (.sl i o' l') = (ρ[i]? = some (some k) ∧ o = o' ∧ l = l')) ∧ (∀ (i o' l' : Nat), Vc.mt ρ H (.d .nils) (.sl i o' l') = (ρ[i]? = some none ∧ o' = 0 ∧ l' = 0)) ∧
  (∀ (k o l i o' l' : Nat), Vc.mt ρ H (.ptr k o l) (.ptr i o' l') = (ρ[i]? = some (some k) ∧ o = o' ∧ l = l')) ∧ (∀ c : AV, Vc.mt ρ H c .any = True) ∧ (∀ (c : AV) (z : Nat) (xs : List (List D)) (e f : Nat), Vc.mt ρ H c (.ip z xs e f) = (c = .ip z xs e f)) ∧
  (∀ cs cs' : List AV, Vc.mt ρ H (.agg cs) (.agg cs') = Ta ρ H cs cs') ∧ (∀ (f g : Fn) (cs cs' : List AV), Vc.mt ρ H (.clo f cs) (.clo g cs') = (f = g ∧ Ta ρ H cs cs')) ∧ (∀ cs cs' : List AV, Vc.mt ρ H (.tup cs) (.tup cs') = Qf ρ H cs cs') ∧
  (Ta ρ H [] [] = True) ∧ (∀ (c c' : AV) (cs cs' : List AV), Ta ρ H (c :: cs) (c' :: cs') = (L7 ρ H c c' ∧ Ta ρ H cs cs')) ∧ (Qf ρ H [] [] = True) ∧ (∀ (c c' : AV) (cs cs' : List AV), Qf ρ H (c :: cs) (c' :: cs') = (L8 ρ H c c' ∧ Qf ρ H cs cs')) := by
 refine ⟨?_, ?_, ?_, ?_, ?_, ?_, ?_, ?_, ?_, ?_, ?_, ?_, ?_, ?_, ?_⟩ <;> intros <;> first | rfl | (simp [Vc.mt, L8, L7]; done) | (simp [Vc.mt, L8, L7, and_comm, eq_comm]; done) | skip
 all_goals (simp only [Vc.mt, L8, L7]; apply propext; constructor <;> (intro h; simp_all))
theorem SZ (ρ : Ren) (H : Av) : (∀ x y : D, L8 ρ H (.d x) (.d y) = (x = y ∨ Bi x = y)) ∧ (∀ (k o l : Nat) (y : D), L8 ρ H (.sl k o l) (.d y) = match H k with | some (.vec _ _ xs) => (some k ∈ ρ → False) ∧ o + l ≤ xs.length ∧ D.sl ((xs.drop o).take l) = y | _ => False) ∧
  (∀ (k e f : Nat) (y : D), L8 ρ H (.ptr k e f) (.d y) = match H k with | some (.one _ cells) => (match CK cells with | some ds => (some k ∈ ρ → False) ∧ e = 0 ∧ f = 0 ∧ D.ptr ds = y | none => False) | _ => False) ∧
  (∀ (k o l i o' l' : Nat), L8 ρ H (.sl k o l) (.sl i o' l') = (ρ[i]? = some (some k) ∧ o = o' ∧ l = l')) ∧ (∀ (i o' l' : Nat), L8 ρ H (.d .nils) (.sl i o' l') = (ρ[i]? = some none ∧ o' = 0 ∧ l' = 0)) ∧
  (∀ (k o l i o' l' : Nat), L8 ρ H (.ptr k o l) (.ptr i o' l') = (ρ[i]? = some (some k) ∧ o = o' ∧ l = l')) ∧ (∀ c : AV, L8 ρ H c .any = True) ∧ (∀ (c : AV) (z : Nat) (xs : List (List D)) (e f : Nat), L8 ρ H c (.ip z xs e f) = (c = .ip z xs e f)) ∧
  (∀ cs cs' : List AV, L8 ρ H (.agg cs) (.agg cs') = Ta ρ H cs cs') ∧ (∀ (f g : Fn) (cs cs' : List AV), L8 ρ H (.clo f cs) (.clo g cs') = (f = g ∧ Ta ρ H cs cs')) := by
 refine ⟨?_, ?_, ?_, ?_, ?_, ?_, ?_, ?_, ?_, ?_⟩ <;> intros <;> first | rfl | (simp [L8, L7]; done) | skip
 all_goals (simp only [L8, L7]; apply propext; constructor <;> (intro h; simp_all))
theorem SY (ρ : Ren) (H : Av) : (∀ x y : D, L7 ρ H (.d x) (.d y) = (x = y ∨ Bi x = y)) ∧ (∀ (k o l : Nat) (y : D), L7 ρ H (.sl k o l) (.d y) = match H k with | some (.vec _ _ xs) => (some k ∈ ρ → False) ∧ o + l ≤ xs.length ∧ D.sl ((xs.drop o).take l) = y | _ => False) ∧
  (∀ (k e f : Nat) (y : D), L7 ρ H (.ptr k e f) (.d y) = match H k with | some (.one _ cells) => (match CK cells with | some ds => (some k ∈ ρ → False) ∧ e = 0 ∧ f = 0 ∧ D.ptr ds = y | none => False) | _ => False) ∧
  (∀ (k o l i o' l' : Nat), L7 ρ H (.sl k o l) (.sl i o' l') = (ρ[i]? = some (some k) ∧ o = o' ∧ l = l')) ∧ (∀ (i o' l' : Nat), L7 ρ H (.d .nils) (.sl i o' l') = (ρ[i]? = some none ∧ o' = 0 ∧ l' = 0)) ∧
  (∀ (k o l i o' l' : Nat), L7 ρ H (.ptr k o l) (.ptr i o' l') = (ρ[i]? = some (some k) ∧ o = o' ∧ l = l')) ∧ (∀ c : AV, L7 ρ H c .any = True) ∧ (∀ (c : AV) (z : Nat) (xs : List (List D)) (e f : Nat), L7 ρ H c (.ip z xs e f) = (c = .ip z xs e f)) := by
 refine ⟨?_, ?_, ?_, ?_, ?_, ?_, ?_, ?_⟩ <;> intros <;> first | rfl | (simp [L7]; done) | skip
 all_goals (simp only [L7]; apply propext; constructor <;> (intro h; simp_all))
theorem T5 : (∀ (np : Nat) (ρ : Ren) (st : St) (fl : List (Nat × AV)) (bl : List (Option B7)), KF np ρ st fl bl = ((Fp ρ && (ρ.take np == (List.range np).map some)) = true ∧ GD ρ st.H ρ bl ∧ Qe ρ st.H st.fr fl)) ∧
  (∀ (ρ : Ren) (H : Av) (fr : Nat → AV), Qe ρ H fr [] = True) ∧ (∀ (ρ : Ren) (H : Av) (fr : Nat → AV) (i : Nat) (c : AV) (r : List (Nat × AV)), Qe ρ H fr ((i, c) :: r) = (Vc.mt ρ H (fr i) c ∧ Qe ρ H fr r)) ∧
  (∀ (ρ : Ren) (H : Av), GD ρ H [] [] = True) ∧ (∀ (ρ : Ren) (H : Av) (k : Nat) (r : Ren) (b : B7) (bs : List (Option B7)), GD ρ H (some k :: r) (some b :: bs) = ((match H k with | some b0 => L9 ρ H b0 b | none => False) ∧ GD ρ H r bs)) ∧
  (∀ (ρ : Ren) (H : Av) (r : Ren) (t s : Nat) (xs : List (List D)) (bs : List (Option B7)), GD ρ H (none :: r) (some (.vec t s xs) :: bs) = (xs = [] ∧ GD ρ H r bs)) ∧ (∀ (ρ : Ren) (H : Av) (q : Option Nat) (r : Ren) (bs : List (Option B7)), GD ρ H (q :: r) (none :: bs) = GD ρ H r bs) ∧
  (∀ (ρ : Ren) (H : Av) (t s : Nat) (xs : List (List D)) (t' s' : Nat) (xs' : List (List D)), L9 ρ H (.vec t s xs) (.vec t' s' xs') = (t = t' ∧ s = s' ∧ xs = xs')) ∧ (∀ (ρ : Ren) (H : Av) (t : Nat) (cs : List AV) (t' : Nat) (cs' : List AV), L9 ρ H (.one t cs) (.one t' cs') = (t = t' ∧ Ta ρ H cs cs')) := by
 refine ⟨fun _ _ _ _ _ => rfl, fun _ _ _ => rfl, fun _ _ _ _ _ _ => rfl, fun _ _ => rfl, fun _ _ _ _ _ _ => rfl, fun _ _ _ _ _ _ _ => rfl, fun _ _ q _ _ => ?_, fun _ _ _ _ _ _ _ _ => rfl, fun _ _ _ _ _ _ => rfl⟩
 cases q <;> rfl
theorem Tr {P : Program} (E : Bq P) : (∀ (rs : List ResultVar) (r : AV) (e : Exit) (st : St), VJ E rs r e st = ((e = .normal ∨ e = .ret) ∧ match Hf E st.H st.fr rs with | some (p, cs) => p ∧ Vc.mt [] st.H (Hm cs) r | none => False)) ∧
  (∀ (rs : List ResultVar) (m : Nat) (r : AV) (bf : List (Option B7)) (e : Exit) (st : St), X1 E rs m r bf e st = ((e = .normal ∨ e = .ret) ∧ match Hf E st.H st.fr rs with | some (p, cs) => p ∧ ∃ ρ : Ren, (Fp ρ && (ρ.take m == (List.range m).map some)) = true ∧ GD ρ st.H ρ bf ∧ Vc.mt ρ st.H (Hm cs) r | none => False)) ∧
  (∀ (H : Av) (fr : Nat → AV), Hf E H fr [] = some (True, [])) ∧ (∀ (H : Av) (fr : Nat → AV) (t : Tmp) (r : List ResultVar), Hf E H fr (.tmp t :: r) = match Hf E H fr r with | some (p, cs) => some (Bw (fr t) ∧ p, AD (fr t) :: cs) | none => none) ∧
  (∀ (H : Av) (fr : Nat → AV) (a : Tmp) (ty : TypeId) (r : List ResultVar), Hf E H fr (.cell a ty :: r) = match FJ E.X.ty H ty (AD (fr a)), Hf E H fr r with | some (q, c), some (p, cs) => some (Bw (fr a) ∧ q ∧ p, c :: cs) | _, _ => none) :=
 ⟨fun _ _ _ _ => rfl, fun _ _ _ _ _ _ => rfl, fun _ _ => rfl, fun _ _ _ _ => rfl, fun _ _ _ _ _ => rfl⟩
theorem Qm : (∀ c : AV, Hm [c] = c) ∧ (∀ (c d : AV) (cs : List AV), Hm (c :: d :: cs) = .tup (c :: d :: cs)) ∧ (Hm [] = .tup []) := ⟨fun _ => rfl, fun _ _ _ => rfl, rfl⟩
def w1 := And.intro @VX (And.intro @F5 (And.intro @AP (And.intro @AW (And.intro @AX (And.intro @Bo (And.intro @Dv (And.intro @Vh (And.intro @Bp (And.intro @EG (And.intro @EH (And.intro @HN (And.intro @Ls @KI))))))))))))
def w2 := And.intro @I3.eq_1 (And.intro @RX.eq_1 (And.intro @Lk.eq_1 (And.intro @E3.eq_1 (And.intro @Eb.eq_1 (And.intro @G0.eq_1 (And.intro @FJ.eq_1 (And.intro @F7.eq_1 (And.intro @Dp.eq_1 (And.intro @Dn.eq_1 (And.intro @I5.eq_1 (And.intro @I4.eq_1 (And.intro @Lm.eq_1 (And.intro @Mi.eq_1 (And.intro @EO.eq_1 (And.intro @BF (And.intro @Mj.eq_1 (And.intro @HJ.eq_1 (And.intro @FI.eq_1 (And.intro @Fm.eq_1 (And.intro @CZ.eq_1 (And.intro @C7.eq_1 (And.intro @Br (And.intro @Bt (And.intro @LN @NS))))))))))))))))))))))))
def w3 := And.intro @D5.eq_1 (And.intro @CL (And.intro @BX (And.intro @GR (And.intro @A2 (And.intro @CM (And.intro @PE (And.intro @BI (And.intro @Fq (And.intro @Af (And.intro @AF (And.intro @BJ (And.intro @Ig @AZ))))))))))))
def w4 := And.intro @Vk (And.intro @SZ (And.intro @SY (And.intro @T5 (And.intro @Qm @Tr))))
end Go.Vc
/- The Vc layer: from a row's reading of the arguments to data, and from a contract to the row. -/
set_option linter.all false
namespace Go.Vc
open Go Go.RowKit
def WT (P : Program) : Nat → TypeId → List D → Prop
 | 0, _, _ => False
 | k + 1, t, ds => match P.underlying t with
  | some .bool => ∃ b, ds = [.bool b]
  | some (.int q) => ∃ n, ds = [.int q n] ∧ (Lit.int q n).wf = true
  | some .string => ∃ s, ds = [.str s] ∧ s.length ≤ maxLen ∧ s.length ≤ reachBytes
  | some (.slice e) => ∃ xs, ds = [.sl xs] ∧ xs.length ≤ maxLen ∧ (∀ x ∈ xs, WT P k e x) ∧ xs.length * P.bytesOf e ≤ reachBytes
  | some (.struct fs) => ds.length = P.cellsOf t ∧ ∀ f ∈ fs.toList, WT P k f.type ((ds.drop f.offset).take (P.cellsOf f.type))
  | some (.array n e) => ds.length = P.cellsOf t ∧ ∀ i, i < n → WT P k e ((ds.drop (i * P.cellsOf e)).take (P.cellsOf e))
  | _ => False
def FD (P : Program) : Nat → TypeId → Bool
 | 0, _ => false
 | k + 1, t => match P.underlying t with
  | some .bool => true
  | some (.int _) => true
  | some .string => true
  | some (.slice e) => decide (0 < P.cellsOf e) && FD P k e
  | some (.struct fs) => P.consecB fs.toList 0 (P.cellsOf t) && fs.toList.all fun f => FD P k f.type
  | some (.array n e) => (P.cellsOf t == n * P.cellsOf e) && FD P k e
  | _ => false
def RT (w : World) (O : Nat → Prop) (ds : List D) (cs : List Value) : Prop := ds.length = cs.length ∧ ∀ (j : Nat) (c : D) (u : Value), ds[j]? = some c → cs[j]? = some u → RD w O c u
theorem RT.one {w : World} {O : Nat → Prop} {d : D} {u : Value} (h : RD w O d u) : RT w O [d] [u] := ⟨rfl, fun j c v h1 h2 => by
 cases j with
 | zero => simp at h1 h2; subst h1 h2; exact h
 | succ j => simp at h1⟩
theorem RT.app {w : World} {O : Nat → Prop} {d d' : List D} {u u' : List Value} (h : RT w O d u) (h' : RT w O d' u') : RT w O (d ++ d') (u ++ u') := by
 refine ⟨by simp [h.1, h'.1], fun j c v h1 h2 => ?_⟩
 by_cases hj : j < d.length
 ·rw [List.getElem?_append_left hj] at h1
  rw [List.getElem?_append_left (by have := h.1; omega)] at h2
  exact h.2 j c v h1 h2
 ·rw [List.getElem?_append_right (by omega)] at h1
  rw [List.getElem?_append_right (by have := h.1; omega), ← h.1] at h2
  exact h'.2 _ c v h1 h2
section
variable {P : Program} {w : World}
theorem NW {k : Nat} {cs : List Value} {total : Nat} (htot : cs.length = total) : ∀ (fs : List Field) (off : Nat), P.consecB fs off total = true → off ≤ total →
  (∀ f ∈ fs, ∃ ds, RT w (fun _ => False) ds ((cs.drop f.offset).take (P.cellsOf f.type)) ∧ ds.length = P.cellsOf f.type ∧ WT P k f.type ds) →
  ∃ ds, RT w (fun _ => False) ds (cs.drop off) ∧ (∀ f ∈ fs, off ≤ f.offset ∧ WT P k f.type ((ds.drop (f.offset - off)).take (P.cellsOf f.type))) := by
 intro fs
 induction fs with
 | nil =>
  intro off hc _ _
  simp only [Program.consecB, beq_iff_eq] at hc
  refine ⟨[], ⟨by simp; omega, fun j c u h => by simp at h⟩, fun f hf => by cases hf⟩
 | cons f fs ih =>
  intro off hc ho h
  simp only [Program.consecB, Bool.and_eq_true, beq_iff_eq] at hc
  obtain ⟨hoff, hc⟩ := hc
  obtain ⟨d0, h0, hl0, hw0⟩ := h f (by simp)
  have hle : off + P.cellsOf f.type ≤ total := by
   have := h0.1
   rw [List.length_take, List.length_drop, hl0] at this
   omega
  obtain ⟨ds, h1, h2⟩ := ih (off + P.cellsOf f.type) hc hle (fun g hg => h g (by simp [hg]))
  refine ⟨d0 ++ ds, ?_, fun g hg => ?_⟩
  ·have := h0.app h1
   rwa [hoff, take_drop_step] at this
  ·rcases List.mem_cons.1 hg with rfl | hg
   ·refine ⟨by omega, ?_⟩
    rw [hoff, Nat.sub_self, List.drop_zero, List.take_append_of_le_length (by omega), List.take_of_length_le (by omega)]
    exact hw0
   ·obtain ⟨h3, h4⟩ := h2 g hg
    refine ⟨by omega, ?_⟩
    rw [List.drop_append, show d0.drop (g.offset - off) = [] from List.drop_eq_nil_of_le (by omega), List.nil_append, hl0, show g.offset - off - P.cellsOf f.type = g.offset - (off + P.cellsOf f.type) by omega]
    exact h4
theorem PD {k n e sz : Nat} {cs : List Value} (hlen : cs.length = n * sz) : ∀ (m s : Nat), s + m = n →
  (∀ i, i < n → ∃ ds, RT w (fun _ => False) ds ((cs.drop (i * sz)).take sz) ∧ ds.length = sz ∧ WT P k e ds) →
  ∃ ds, RT w (fun _ => False) ds (cs.drop (s * sz)) ∧ (∀ i, s ≤ i → i < n → WT P k e ((ds.drop ((i - s) * sz)).take sz)) := by
 intro m
 induction m with
 | zero =>
  intro s hs _
  refine ⟨[], ⟨by simp; rw [hlen, ← hs]; simp, fun j c u h => by simp at h⟩, fun i h1 h2 => by omega⟩
 | succ m ih =>
  intro s hs h
  obtain ⟨d0, h0, hl0, hw0⟩ := h s (by omega)
  obtain ⟨ds, h1, h2⟩ := ih (s + 1) (by omega) h
  refine ⟨d0 ++ ds, ?_, fun i hi1 hi2 => ?_⟩
  ·have := h0.app h1
   rwa [Nat.add_mul, Nat.one_mul, take_drop_step] at this
  ·rcases Nat.eq_or_lt_of_le hi1 with rfl | hlt
   ·rw [Nat.sub_self, Nat.zero_mul, List.drop_zero, List.take_append_of_le_length (by omega), List.take_of_length_le (by omega)]
    exact hw0
   ·have h3 := h2 i hlt hi2
    have e1 : (i - s) * sz = (i - (s + 1)) * sz + sz := by
     rw [show i - s = (i - (s + 1)) + 1 by omega, Nat.add_mul, Nat.one_mul]
    rw [List.drop_append, show d0.drop ((i - s) * sz) = [] from List.drop_eq_nil_of_le (by omega), List.nil_append, hl0, show (i - s) * sz - sz = (i - (s + 1)) * sz by omega]
    exact h3
theorem IC {a : Addr} {n : Nat} {cs : List Value} (h : w.cells? 0 a n = some cs) : cs.length = n ∧ ∀ i, i < n → w.cell? (a.add i) = cs[i]? := by
 unfold World.cells? at h
 rw [if_pos (Nat.zero_le _)] at h
 exact ⟨by simpa using mapM_some_length h, fun i hi => by have := mapM_some_get h i i (by simp [hi]); simpa using this⟩
theorem Yh (b o k : Nat) : (⟨b, o, none⟩ : Addr).add k = ⟨b, o + k, none⟩ := by unfold Addr.add; split <;> simp_all
theorem Lv {a : Addr} {u : Value} (h : w.cell? a = some u) : a.spot = none ∧ a.block < w.heap.size := by
 unfold World.cell? at h
 split at h
 ·rename_i hb
  split at h
  ·cases h
  ·rename_i hs
   exact ⟨by simpa using hs, (Array.getElem?_eq_some_iff.1 hb).1⟩
 ·cases h
variable {H : Type} {enc : TypeId × Value → H}
theorem GN {P : Program} {e : TypeId} : ∀ {l : List (DataW H)} {d : DataW H}, d ∈ l → ∀ n ∈ d.weights P e, n ∈ DataW.weightsAll P e l
 | d0 :: l, d, h, n, hn => by
  simp only [DataW.weightsAll, List.mem_append]
  rcases List.mem_cons.1 h with rfl | h
  ·exact Or.inl hn
  ·exact Or.inr (GN h n hn)
theorem T8 {sp : Nat → Bool} {held : Bool} : ∀ (k : Nat) (t : TypeId), FD P k t = true → ∀ (fuel : Nat) (cs : List Value) (x : DataW H × List MemPlace), DataW.trod enc P w 0 sp held fuel t cs = some x → (∀ n ∈ x.1.weights P t, n ≤ reachBytes) →
  ∃ ds, RT w (fun _ => False) ds cs ∧ WT P k t ds := by
 intro k
 induction k with
 | zero => intro t h; cases h
 | succ k ih =>
  intro t hp fuel cs x h
  intro hz
  unfold FD at hp
  split at hp
  ·rename_i ht
   obtain ⟨b, rfl, _⟩ := DataW.trod_bool ht h
   exact ⟨_, .one (.bool b), by unfold WT; rw [ht]; exact ⟨b, rfl⟩⟩
  ·rename_i q ht
   obtain ⟨n, rfl, _, hw⟩ := DataW.trod_int ht h
   exact ⟨_, .one (.int q n), by unfold WT; rw [ht]; exact ⟨n, rfl, hw⟩⟩
  ·rename_i ht
   obtain ⟨s, rfl, rfl, hs⟩ := DataW.trod_string ht h
   refine ⟨[.str s.data.toList], .one ?_, by unfold WT; rw [ht]; exact ⟨_, rfl, hs, by simpa [DataW.weights] using hz⟩⟩
   have := RD.str (w := w) (O := fun _ => False) s.data.toList
   simpa using this
  ·rename_i e ht
   simp only [Bool.and_eq_true, decide_eq_true_eq] at hp
   obtain ⟨hpos, hpe⟩ := hp
   rcases DataW.trod_slice ht h with ⟨rfl, _⟩ | ⟨a, len, cap, elems, rest, n, rfl, rfl, rfl, _, hle, hcap, hel, hget, _⟩
   ·exact ⟨[.sl []], .one (.sl0 none 0), by unfold WT; rw [ht]; exact ⟨[], rfl, Nat.zero_le _, (fun x h => by cases h), by simp⟩⟩
   ·-- each element
    have each : ∀ i, i < len → ∃ (ds : List D) (us : List Value), w.cells? 0 (a.add (i * P.cellsOf e)) (P.cellsOf e) = some us ∧ RT w (fun _ => False) ds us ∧ WT P k e ds := by
     intro i hi
     have hg := hget i hi
     cases hc : w.cells? 0 (a.add (i * P.cellsOf e)) (P.cellsOf e) with
     | none => rw [hc, List.getElem?_eq_getElem (by omega)] at hg; cases hg
     | some us =>
      rw [hc, List.getElem?_eq_getElem (by omega)] at hg
      simp only [Option.bind_some] at hg
      obtain ⟨ds, h1, h2⟩ := ih e hpe n us _ hg (fun m hm => hz m (by
       simp only [DataW.weights, ht]
       exact List.mem_cons_of_mem _ (List.mem_append.2 (.inl (GN (List.mem_map.2 ⟨elems[i]'(by omega), List.getElem_mem _, rfl⟩) m hm)))))
      exact ⟨ds, us, rfl, h1, h2⟩
    obtain ⟨xf, hxf⟩ : ∃ xf : Nat → List D, ∀ i, i < len → ∃ us, w.cells? 0 (a.add (i * P.cellsOf e)) (P.cellsOf e) = some us ∧ RT w (fun _ => False) (xf i) us ∧ WT P k e (xf i) :=
     ⟨fun i => if h : i < len then (each i h).choose else [], fun i hi => by simp only [dif_pos hi]; exact (each i hi).choose_spec⟩
    refine ⟨[.sl ((List.range len).map xf)], ?_, ?_⟩
    ·refine .one ?_
     by_cases h0 : len = 0
     ·subst h0; exact .sl0 _ _
     ·obtain ⟨us0, hu0, _, _⟩ := hxf 0 (by omega)
      obtain ⟨hl0, hc0⟩ := IC hu0
      have hsp : (a.add (0 * P.cellsOf e)).spot = none ∧ (a.add (0 * P.cellsOf e)).block < w.heap.size := by
       have := hc0 0 hpos
       rw [List.getElem?_eq_getElem (by omega)] at this
       have h2 := Lv this
       unfold Addr.add at h2 ⊢
       split at h2 <;> simp_all
      have ha : ∃ b o, a = ⟨b, o, none⟩ := by
       obtain ⟨b, o, s⟩ := a
       unfold Addr.add at hsp
       cases s with
       | none => exact ⟨b, o, rfl⟩
       | some s => simp at hsp
      obtain ⟨b, o, rfl⟩ := ha
      have hblk : b < w.heap.size := by rw [Yh] at hsp; exact hsp.2
      have hlen : ((List.range len).map xf).length = len := by simp
      have := RD.sl (w := w) (O := fun _ => False) ((List.range len).map xf) (P.cellsOf e) b o cap (fun i f => (w.cell? ⟨b, o + i * P.cellsOf e + f, none⟩).getD undef) (by omega) hblk (fun h => h) (fun x hx => ?_) (fun i f c hc => ?_) (fun i f c hc => ?_)
      ·rw [hlen] at this; exact this
      ·obtain ⟨i, hi, rfl⟩ := List.mem_map.1 hx
       obtain ⟨us, h1, h2, _⟩ := hxf i (by simpa using hi)
       rw [h2.1]; exact (IC h1).1
      all_goals
       obtain ⟨x, hx1, hx2⟩ := B4 hc
       rw [List.getElem?_map] at hx1
       have hi : i < len := by
        rcases Nat.lt_or_ge i len with h | h
        ·exact h
        ·rw [List.getElem?_eq_none (by simpa using h)] at hx1; cases hx1
       rw [List.getElem?_range hi] at hx1
       simp only [Option.map_some, Option.some.injEq] at hx1
       subst hx1
       obtain ⟨us, h1, h2, _⟩ := hxf i hi
       obtain ⟨h3, h4⟩ := IC h1
       have hf : f < us.length := by have := (List.getElem?_eq_some_iff.1 hx2).1; rw [h2.1] at this; exact this
       have h5 := h4 f (by omega)
       rw [Yh, Yh, List.getElem?_eq_getElem hf] at h5
      ·rw [h5]; rfl
      ·rw [h5]; exact h2.2 f c _ hx2 (List.getElem?_eq_getElem hf)
    ·unfold WT; rw [ht]
     refine ⟨_, rfl, by simp; omega, fun x hx => ?_, ?_⟩
     ·obtain ⟨i, hi, rfl⟩ := List.mem_map.1 hx
      obtain ⟨us, _, _, h3⟩ := hxf i (by simpa using hi)
      exact h3
     ·have h1 := hz ((elems.length + rest.length) * P.bytesOf e) (by simp only [DataW.weights, ht, List.length_map]; exact List.mem_cons_self)
      rw [Nat.add_mul] at h1
      rw [List.length_map, List.length_range]
      rw [hel] at h1
      omega
  ·rename_i fs ht
   simp only [Bool.and_eq_true, List.all_eq_true] at hp
   obtain ⟨hcon, hall⟩ := hp
   obtain ⟨xs, n, rfl, rfl, hlen, hxl, hget⟩ := DataW.trod_struct ht h
   obtain ⟨ds, h1, h2⟩ := NW (k := k) (w := w) hlen fs.toList 0 hcon (Nat.zero_le _) (fun f hf => by
    obtain ⟨i, hi⟩ := List.getElem?_of_mem hf
    rw [Array.getElem?_toList] at hi
    have hg := hget i f hi
    have hil : i < xs.length := by rw [hxl]; exact (Array.getElem?_eq_some_iff.1 hi).1
    rw [List.getElem?_eq_getElem hil] at hg
    obtain ⟨ds, h3, h4⟩ := ih f.type (hall f hf) n _ _ hg (fun m hm => hz m (by
     simp only [DataW.weights, ht]
     refine DataW.weights_mem_each (j := i) (t := f.type) (d := xs[i].1) (by rw [List.getElem?_map, Array.getElem?_toList, hi]; rfl) (by rw [List.getElem?_map, List.getElem?_eq_getElem hil]; rfl) m hm))
    refine ⟨ds, h3, ?_, h4⟩
    -- the field's cells are all there
    have key : ∀ (fs : List Field) (off : Nat), P.consecB fs off (P.cellsOf t) = true → off ≤ P.cellsOf t ∧ ∀ f ∈ fs, f.offset + P.cellsOf f.type ≤ P.cellsOf t := by
     intro fs
     induction fs with
     | nil => intro off hc; simp only [Program.consecB, beq_iff_eq] at hc; exact ⟨by omega, fun f hf => by cases hf⟩
     | cons g fs ih2 =>
      intro off hc
      simp only [Program.consecB, Bool.and_eq_true, beq_iff_eq] at hc
      obtain ⟨h5, h6⟩ := ih2 _ hc.2
      refine ⟨by omega, fun f hf => ?_⟩
      rcases List.mem_cons.1 hf with rfl | hf
      ·omega
      ·exact h6 f hf
    have := (key fs.toList 0 hcon).2 f hf
    rw [h3.1, List.length_take, List.length_drop]
    omega)
   rw [List.drop_zero] at h1
   refine ⟨ds, h1, ?_⟩
   unfold WT; rw [ht]
   exact ⟨by rw [h1.1, hlen], fun f hf => by simpa using (h2 f hf).2⟩
  ·rename_i m e ht
   simp only [Bool.and_eq_true, beq_iff_eq] at hp
   obtain ⟨hsz, hpe⟩ := hp
   obtain ⟨xs, n, rfl, rfl, hlen, hxl, hget⟩ := DataW.trod_array ht h
   obtain ⟨ds, h1, h2⟩ := PD (P := P) (k := k) (w := w) (e := e) (n := m) (sz := P.cellsOf e) (cs := cs) (by omega) m 0 (by omega) (fun i hi => by
    have hg := hget i hi
    rw [List.getElem?_eq_getElem (by omega)] at hg
    obtain ⟨ds, h3, h4⟩ := ih e hpe n _ _ hg (fun q hq => hz q (by
     simp only [DataW.weights, ht]
     exact GN (List.mem_map.2 ⟨xs[i]'(by omega), List.getElem_mem _, rfl⟩) q hq))
    refine ⟨ds, h3, ?_, h4⟩
    rw [h3.1, List.length_take, List.length_drop, hlen, hsz]
    have : (i + 1) * P.cellsOf e ≤ m * P.cellsOf e := Nat.mul_le_mul_right _ hi
    rw [Nat.add_mul] at this
    omega)
   rw [Nat.zero_mul, List.drop_zero] at h1
   refine ⟨ds, h1, ?_⟩
   unfold WT; rw [ht]
   exact ⟨by rw [h1.1, hlen], fun i hi => by simpa using h2 i (Nat.zero_le _) hi⟩
  ·cases hp
def Fk (P : Program) (k : Nat) (t : TypeId) (c : AV) : Prop :=
 match P.underlying t with
 | some (.struct _) | some (.array _ _) => ∃ ds, c = .agg (ds.map .d) ∧ WT P k t ds
 | _ => ∃ x, c = .d x ∧ WT P k t [x]
@[reducible] def Ew (mx : Int) : Bl := { F := fun _ => False, nev := fun _ => False, sub := fun _ h => h, pin := fun _ => none, np := 0, marks := true, mx := mx }
variable {mx : Int}
def Mg (mx : Int) (w : World) : Prop := ∀ p ∈ @GA (Ew mx), Mf w (fun _ => False) p
theorem OC {b : Nat} : ¬ @own (Ew mx) (fun _ => none) b := by
 rintro (h | ⟨i, l, h, _⟩)
 ·exact h
 ·cases h
theorem Ud {sp : Nat → Bool} {held : Bool} {k : Nat} {t : TypeId} {v : Value} {d : DataW H} {ps : List MemPlace} {base : Nat} (hp : FD P k t = true) (hv : Value.okWide P w .any base t v) (h : DataW.Trod enc P w 0 sp held t v d ps) (hz : ∀ n ∈ d.weights P t, n ≤ reachBytes) :
  ∃ c, Fk P k t c ∧ @R (Ew mx) w (fun _ => none) 0 c v := by
 obtain ⟨fuel, h⟩ := h
 obtain ⟨ds, h1, h2⟩ := T8 k t hp fuel _ _ h hz
 have up : ∀ {c : D} {u : Value}, RD w (fun _ => False) c u → RD w (@own (Ew mx) (fun _ => none)) c u := fun h => h.ext (Nat.le_refl _) (fun _ _ _ => rfl) (fun b _ _ h => OC h)
 have agg : ∀ cs : Array Value, v = .agg cs → @R (Ew mx) w (fun _ => none) 0 (.agg (ds.map .d)) v := by
  rintro cs rfl
  have hl : ds.length = cs.toList.length := h1.1
  have e : (cs.toList.toArray : Array Value) = cs := by simp
  rw [show Value.agg cs = Value.agg cs.toList.toArray by rw [e]]
  refine @R.agg (Ew mx) _ _ _ _ cs.toList (by simp at hl ⊢; omega) (fun u hu => ?_) (fun i c u hc hu => ?_)
  ·obtain ⟨j, hj⟩ := List.getElem?_of_mem hu
   have hj' : j < ds.length := by have := (List.getElem?_eq_some_iff.1 hj).1; omega
   exact (h1.2 j _ u (List.getElem?_eq_getElem hj') hj).one
  ·rw [List.getElem?_map] at hc
   cases hd : ds[i]? with
   | none => rw [hd] at hc; cases hc
   | some d => rw [hd] at hc; cases hc; exact @R.d (Ew mx) _ _ _ _ _ (up (h1.2 i d u hd hu))
 unfold Fk
 unfold Value.okWide at hv
 split
 ·rename_i fs ht
  rw [ht] at hv
  obtain ⟨cs, rfl, _, _⟩ := hv
  exact ⟨_, ⟨ds, rfl, h2⟩, agg cs rfl⟩
 ·rename_i n e ht
  rw [ht] at hv
  obtain ⟨cs, rfl, _, _⟩ := hv
  exact ⟨_, ⟨ds, rfl, h2⟩, agg cs rfl⟩
 ·rename_i hns hna
  have hone : ∃ x, ds = [x] := by
   cases k with
   | zero => cases hp
   | succ k =>
    unfold WT at h2
    split at h2
    ·obtain ⟨b, rfl⟩ := h2; exact ⟨_, rfl⟩
    ·obtain ⟨n, rfl, _⟩ := h2; exact ⟨_, rfl⟩
    ·obtain ⟨n, rfl, _⟩ := h2; exact ⟨_, rfl⟩
    ·obtain ⟨n, rfl, _⟩ := h2; exact ⟨_, rfl⟩
    ·rename_i fs ht; exact (hns fs ht).elim
    ·rename_i n e ht; exact (hna n e ht).elim
    ·exact h2.elim
  obtain ⟨x, rfl⟩ := hone
  have hcells : v.cells = #[v] := by
   cases v with
   | agg cs =>
    exfalso
    -- an aggregate of one cell would be read at a type that is none
    cases k with
    | zero => cases hp
    | succ k =>
     unfold FD at hp
     split at hp
     ·rename_i ht; simp [ht, Cell.okWide, Cell.ok] at hv
     ·rename_i q ht; simp [ht, Cell.okWide, Cell.ok] at hv
     ·rename_i ht; simp [ht, Cell.okWide, Cell.ok] at hv
     ·rename_i e ht; simp [ht, Cell.okWide, Cell.ok] at hv
     ·rename_i fs ht; exact hns fs ht
     ·rename_i n e ht; exact hna n e ht
     ·cases hp
   | _ => rfl
  rw [hcells] at h1
  exact ⟨_, ⟨x, rfl, h2⟩, @R.d (Ew mx) _ _ _ _ _ (up (h1.2 0 x v rfl rfl))⟩
def QR (P : Program) (k : Nat) (ts : List TypeId) (g : List AV → Option (Prop × AV)) : Prop :=
 ∀ args : List AV, args.length = ts.length → (∀ (i : Nat) (t : TypeId) (c : AV), ts[i]? = some t → args[i]? = some c → Fk P k t c) → ∃ p, g args = some (p, .d (.bool true)) ∧ p
theorem SS (hgl : Mg mx w) {f : FuncId} {g : List AV → Option (Prop × AV)} (hm : A5 P f (Spec.pure g)) {k : Nat} {ts : List TypeId} (hpl : ∀ t ∈ ts, FD P k t = true) (hlaw : QR P k ts g) {base : Nat} {args : Array Value} {ds : List (DataW H)} {ps : List MemPlace}
  (hok : ∀ (j : Nat) t v, ts[j]? = some t → args[j]? = some v → Value.okWide P w .any base t v) (hA : DataW.TrodAll enc P w 0 (fun _ => true) true ts args.toList ds ps) (hz : ∀ (j : Nat) t d, ts[j]? = some t → ds[j]? = some d → ∀ n ∈ d.weights P t, n ≤ reachBytes) :
  Calls P f args w fun e w' => e = .returned (.bool true) ∧ Below w.heap.size w w' := by
 have key : ∀ (ts : List TypeId) (vs : List Value) (ds : List (DataW H)) (ps : List MemPlace), (∀ t ∈ ts, FD P k t = true) → (∀ (j : Nat) t v, ts[j]? = some t → vs[j]? = some v → Value.okWide P w .any base t v) → DataW.TrodAll enc P w 0 (fun _ => true) true ts vs ds ps → (∀ (j : Nat) t d, ts[j]? = some t → ds[j]? = some d → ∀ n ∈ d.weights P t, n ≤ reachBytes) →
   vs.length = ts.length ∧ ∃ cs : List AV, cs.length = ts.length ∧ (∀ (i : Nat) (t : TypeId) (c : AV), ts[i]? = some t → cs[i]? = some c → Fk P k t c) ∧ (∀ (i : Nat) (c : AV) (u : Value), cs[i]? = some c → vs[i]? = some u → @R (Ew mx) w (fun _ => none) 0 c u) := by
  intro ts
  induction ts with
  | nil =>
   intro vs ds ps _ _ h _
   obtain ⟨rfl, _, _⟩ := ChangeShapes.trodAll_nil h
   exact ⟨rfl, [], rfl, fun i t c h => by simp at h, fun i c u h => by simp at h⟩
  | cons t ts ih =>
   intro vs ds ps hp ho h hz
   obtain ⟨v, vs1, d, ds1, a, b, rfl, rfl, rfl, h1, h2⟩ := ChangeShapes.trodAll_cons h
   obtain ⟨hl, cs, e1, e2, e3⟩ := ih vs1 ds1 b (fun t ht => hp t (by simp [ht])) (fun j t v h1 h2 => ho (j + 1) t v (by simpa using h1) (by simpa using h2)) h2 (fun j t d h1 h2 => hz (j + 1) t d (by simpa using h1) (by simpa using h2))
   obtain ⟨c, c1, c2⟩ := Ud (hp t (by simp)) (ho 0 t v rfl rfl) h1 (hz 0 t d rfl rfl)
   refine ⟨by simp [hl], c :: cs, by simp [e1], fun i t' c' hi hc => ?_, fun i c' u hi hu => ?_⟩
   ·cases i with
    | zero => simp at hi hc; subst hi hc; exact c1
    | succ i => exact e2 i t' c' (by simpa using hi) (by simpa using hc)
   ·cases i with
    | zero => simp at hi hu; subst hi hu; exact c2
    | succ i => exact e3 i c' u (by simpa using hi) (by simpa using hu)
 obtain ⟨hl, cs, e1, e2, e3⟩ := key ts args.toList ds ps hpl (fun j t v h1 h2 => hok j t v h1 (by simpa using h2)) hA hz
 obtain ⟨p, hg, hp⟩ := hlaw cs e1 e2
 have h0 : @Ai (Ew mx) w (Gq (fun _ => none) (fun _ => none)) (fun _ => none) 0 w (fun _ => none) :=
  @Ai.mk (Ew mx) _ _ _ _ _ _ (fun _ _ => rfl) (fun i l b h => by cases h) (fun id b h => by cases h) (fun i j l l' b h => by cases h) (fun i l h => by cases h) (fun i l b h => by cases h) (fun i l b h => by cases h) rfl rfl rfl (Nat.le_refl _) (fun _ _ _ => rfl) (fun b h => h.elim) (fun i h => absurd h (Nat.not_lt_zero i)) (fun p hp => (hgl p hp).ext (Nat.le_refl _) (fun _ _ _ => rfl) fun _ _ _ => OC)
 unfold A5 at hm
 have := @hm cs (fun _ => none) 0 p (.d (.bool true)) none (by simp only [Spec.pure, hg]) hp (Ew mx) w (fun _ => none) args.toList h0 (by omega) e3
 rw [show args.toList.toArray = args by simp] at this
 refine this.mono ?_
 rintro e w' ⟨v, S', rfl, hL, hs, hR⟩
 obtain ⟨_, hsame⟩ := hs rfl
 refine ⟨by rw [@R.bool_iff (Ew mx)] at hR; rw [hR], ?_⟩
 have hH' := @Left.heap (Ew mx) _ _ _ _ _ _ _ _ hL
 exact ⟨@Ai.os (Ew mx) _ _ _ _ _ _ hH', @Ai.tape (Ew mx) _ _ _ _ _ _ hH', @Ai.output (Ew mx) _ _ _ _ _ _ hH', @Ai.size (Ew mx) _ _ _ _ _ _ hH', hsame⟩
end
end Go.Vc
/- The Vc layer: a law's row out of its contract. -/
set_option linter.all false
namespace Go.Vc
open Go Go.RowKit Go.ChangeShapes Go.WideShapes Go.ChangeAt
section
variable {P : Program} {H : Type} {enc : TypeId × Value → H}
theorem Le (hl : laidOutB P = true) {W W' : World} {sp' : Nat → Bool} : ∀ (ts : List TypeId) (vs : List Value) (ds : List (DataW H)) (ps : List MemPlace), (∀ t ∈ ts, P.readableRec t = true ∧ t < P.types.size) →
  DataW.TrodAll enc P W 0 (fun _ => true) true ts vs ds ps → (∀ p ∈ ps, W.sameAt W' p) → (∀ p ∈ ps, sp' p.block = true) → DataW.TrodAll enc P W' 0 sp' true ts vs ds ps := by
 intro ts
 induction ts with
 | nil =>
  intro vs ds ps _ h _ _
  obtain ⟨rfl, rfl, rfl⟩ := trodAll_nil h
  exact rfl
 | cons t ts ih =>
  intro vs ds ps hr h hs hsp
  obtain ⟨v, vs1, d, ds1, a, b, rfl, rfl, rfl, h1, h2⟩ := trodAll_cons h
  obtain ⟨hr1, hr2⟩ := hr t (by simp)
  exact ⟨a, b, WideElems.Trod_stays hl hr1 hr2 h1 (fun p hp => hs p (List.mem_append.2 (.inl hp))) (fun p hp => hsp p (List.mem_append.2 (.inl hp))),
   ih vs1 ds1 b (fun u hu => hr u (by simp [hu])) h2 (fun p hp => hs p (List.mem_append.2 (.inr hp))) (fun p hp => hsp p (List.mem_append.2 (.inr hp))), rfl⟩
theorem Pc {w : World} {b : Nat} {sp : Nat → Bool} {hd : Bool} : ∀ (ts : List TypeId) (vs : List Value) (ds : List (DataW H)) (ps : List MemPlace), DataW.TrodAll enc P w b sp hd ts vs ds ps → ds.length = ts.length := by
 intro ts
 induction ts with
 | nil => intro vs ds ps h; obtain ⟨_, rfl, _⟩ := trodAll_nil h; rfl
 | cons t ts ih =>
  intro vs ds ps h
  obtain ⟨v, vs1, d, ds1, a, b, rfl, rfl, rfl, _, h2⟩ := trodAll_cons h
  simp [ih _ _ _ h2]
def QS (s : ChangeSpec) (n : Nat) : Prop := s.vars = [] ∧ ∀ (H : Type) (ds : List (DataW H)), ds.length = n → (s.fn H ds).results = [.lit (.bool true)] ∧ (s.fn H ds).args = ds ∧ (s.fn H ds).vars = []
theorem UP {fn : Func} {s : ChangeSpec} {fresh handsOn : Bool} {W W' : World} {args : Array Value} {ds gs : List (DataW H)} {before : List MemPlace} {tb : TypeId} (hl : laidOutB P = true) (hr : ∀ t ∈ fn.params.toList, P.readableRec t = true ∧ t < P.types.size)
  (hres : fn.resultTypes = #[tb]) (htb : P.underlying tb = some .bool) (hs : QS s fn.params.size) (hW : DataW.Whole enc P fn.params.toList s.vars false W args.toList ds gs before) (hB : Below W.heap.size W W') :
  s.post enc P fn false fresh handsOn false W args (.bool true) W' := by
 obtain ⟨hv, hfn⟩ := hs
 have hW' := hW
 obtain ⟨p, q, hA, hV, rfl, hz, hn⟩ := hW
 rw [hv] at hV
 obtain ⟨rfl, rfl⟩ := trodVars_none hV
 have hlen : ds.length = fn.params.size := by have := Pc _ _ _ _ hA; simpa using this
 obtain ⟨e1, e2, e3⟩ := hfn H (ds ++ []) (by simpa using hlen)
 have hlt : ∀ x ∈ p, x.block < W.heap.size := fun x hx => hW'.lt x (by simpa using hx)
 refine ⟨ds, [], p ++ [], [], p, [], hW', ?_, ?_, ?_, hB.frame _, fun h => by cases h⟩
 ·rw [e1, hres]
  exact trodAll_mk1 (shut_bool htb true)
 ·rw [e2, List.append_nil]
  exact Le hl _ _ _ _ hr hA (fun x hx => hB.same (hlt x hx)) (fun x hx => by simpa using hlt x hx)
 ·rw [e3, hv]
  exact rfl
end
