/- Walks, printed by wip/gen/walk.py. -/
import Derived.Test.YtmbjnkgpcbpclaaGreatT8
import Derived.Test.YtmbjnkgpcbpclaaGreatV5
set_option linter.all false
set_option maxRecDepth 100000
set_option maxHeartbeats 4000000
namespace Go.Proofs.YtmbjnkgpcbpclaaGreat
open Go Go.Vc Go.RowKit
def CN (f g : Nat → Int) : Nat → Int × Int
  | 0 => (0, 0)
  | n + 1 => if (CN f g n).1 ≠ 0 then CN f g n else if f n ≠ 0 then (f n, g n) else (0, 0)
theorem C8 {f g : Nat → Int} : ∀ {n : Nat}, (∀ j, j < n → f j = 0) → CN f g n = (0, 0)
  | 0, _ => rfl
  | n + 1, h => by
    have ih := C8 (g := g) (n := n) fun j hj => h j (by omega)
    unfold CN; rw [ih, h n (by omega)]; rfl
theorem C5 {f g : Nat → Int} {i : Nat} (hi : f i ≠ 0) (h : ∀ j, j < i → f j = 0) : ∀ {n : Nat}, i < n → CN f g n = (f i, g i) := by
  intro n
  induction n with
  | zero => intro h; omega
  | succ n ih =>
    intro hn
    unfold CN
    rcases Nat.lt_or_ge i n with hlt | hge
    · rw [ih hlt, if_pos hi]
    · obtain rfl : i = n := by omega
      rw [C8 h]
      simp [hi]
theorem FI {f : Nat → Int} {i : Nat} (h : ∀ j, j < i → f j = 0) (hi : f i = 0) : ∀ j, j < i + 1 → f j = 0 := fun j hj => by
  rcases Nat.lt_or_ge j i with h' | h'
  · exact h j h'
  · obtain rfl : j = i := by omega
    exact hi
theorem Mz {Q : Nat → Prop} {i : Nat} (h : ∀ j, j < i → 0 < j → Q j) (hi : 0 < i → Q i) : ∀ j, j < i + 1 → 0 < j → Q j := fun j hj h0 => by
  rcases Nat.lt_or_ge j i with h' | h'
  · exact h j h' h0
  · obtain rfl : j = i := by omega
    exact hi h0
def tf (l : List Int) (i : Nat) : Int := if l.getD i 0 < 0 ∨ 20 ≤ l.getD i 0 then 3 else if 0 < i ∧ l.getD i 0 ≤ l.getD (i - 1) 0 then 5 else 0
def tg (i : Nat) : Int := -2 - (i : Int)
def J2 (l : List Int) : Int × Int := if 20 < l.length then (2, -1) else CN (tf l) tg l.length
def GR : List AV → Option (Prop × AV)
  | [.d (.sl xs)] => some (xs = rows eI (dI xs) ∧ (dI xs).length ≤ 9223372036854775807, .agg [.d (.int .i64 (J2 (dI xs)).1), .d (.int .i64 (J2 (dI xs)).2)])
  | _ => none
def E3 (l : List Int) : Bool := (List.range l.length).all fun i => i == 0 || decide (l.getD (i - 1) 0 < l.getD i 0)
theorem OM {l : List Int} {i : Nat} (h0 : 0 < i) (hi : i < l.length) (h : ¬ l.getD (i - 1) 0 < l.getD i 0) : E3 l = false := by
  unfold E3
  rw [Bool.eq_false_iff]; intro ha
  have := List.all_eq_true.1 ha i (List.mem_range.2 hi)
  simp only [Bool.or_eq_true, beq_iff_eq, decide_eq_true_eq] at this
  rcases this with h | h'
  · omega
  · exact h h'
theorem IX {l : List Int} (h : ∀ j, j < l.length → 0 < j → l.getD (j - 1) 0 < l.getD j 0) : E3 l = true := by
  unfold E3
  rw [List.all_eq_true]
  intro i hi
  simp only [Bool.or_eq_true, beq_iff_eq, decide_eq_true_eq]
  rcases Nat.eq_zero_or_pos i with h0 | h0
  · exact .inl h0
  · exact .inr (h i (List.mem_range.1 hi) h0)
def ES : List AV → Option (Prop × AV)
  | [.d (.sl xs)] => some (xs = rows eI (dI xs) ∧ (dI xs).length ≤ 9223372036854775807, .d (.bool (E3 (dI xs))))
  | _ => none
theorem BG {α : Type} {l : List α} {i : Nat} {x d : α} (h : l[i]? = some x) : l.getD i d = x := by rw [List.getD_eq_getElem?_getD, h]; rfl

theorem NH : A5 Tryz.prog 70 (Spec.pure ES) := by
 refine A7 (I3.at_ 24) Tryz.func70 rfl rfl rfl ?_
 intro args p r hg hp
 unfold ES at hg
 split at hg
 rename_i xs
 simp only [Option.some.injEq, Prod.mk.injEq] at hg
 obtain ⟨rfl, rfl⟩ := hg
 obtain ⟨he, hl⟩ := hp
 generalize dI xs = l at *
 subst he
 have hT : (I3).X = T := rfl
 have hx0 := And.intro @Cu (And.intro @Ct @Tryz.results70)
 have hx := hx0
 refine ⟨by rfl, ?_⟩
 intro F W0 hnp hmk
 refine Aa fun N1 h1 => ?_
 refine Ad ?_
 try refine Ac ?_
 refine Ae ?_
 refine Ab ?_
 refine h1 _ ?_; clear h1
 refine Aa fun N2 h2 => ?_
 refine Aa fun N3 h3 => ?_
 refine Ad ?_
 try refine Ac ?_
 refine Ae ?_
 refine Bm ?_
 refine Ae ?_
 refine Ab ?_
 refine h3 _ ?_; clear h3
 refine Aw ?_
 refine A9 (σ := Nat) (fun s => (fun i => i ≤ l.length ∧ ∀ j, j < i → 0 < j → l.getD (j - 1) 0 < l.getD j 0) s)
  (fun s => (fun i => [(0, .d (.sl (rows eI l))), (4, .d (.sl (rows eI l))), (5, .d (.int .i64 (l.length : Nat))), (6, .d (.int .i64 (i : Nat)))]) s)
  (fun s => (fun i => []) s) (fun s => (fun i => l.length - i) s) hnp 0 ?_ [] ?_ ?_
 dsimp only
 exact ⟨by omega, fun j hj => by omega⟩
 dsimp only
 refine ⟨by rfl, ?_, ?_⟩
 refine Aj ?_
 exact At
 refine Aj ?_
 exact At
 rintro i hinv N4 h4
 dsimp only at hinv ⊢
 obtain ⟨i1, i2⟩ := hinv
 refine Aa fun N5 h5 => ?_
 refine Ad ?_
 try refine Ac ?_
 refine Am ?_
 refine Ab ?_
 refine h5 _ ?_; clear h5
 refine Aa fun N6 h6 => ?_
 refine Al (fun hb7 => ?_) (fun hb7 => ?_)
 obtain ⟨x, hxe⟩ := Cb (l := l) (i := i) (by omega)
 have hxd : l.getD i 0 = x := BG hxe
 refine An ?_
 try simp only [Af]
 refine h6 _ ?_; clear h6
 refine Aa fun N8 h8 => ?_
 refine Aw ?_
 refine Aa fun N9 h9 => ?_
 refine Ad ?_
 try refine Ac ?_
 iterate 2 refine Ae ?_
 refine Ab ?_
 refine h9 _ ?_; clear h9
 refine Aa fun N10 h10 => ?_
 rcases Nat.eq_zero_or_pos i with hi0 | hi0
 have hye := hxe
 have hgt : decide ((0 : Int) < (i : Int)) = false := decide_eq_false (by omega)
 have hpm := hxe
 have hx := And.intro @hxe (And.intro @hye (And.intro @hgt (And.intro @hpm (And.intro @eI.eq_1 hx0))))
 refine Ad ?_
 try refine Ac ?_
 refine Ae ?_
 refine Am ?_
 refine Ae ?_
 iterate 2 refine Dp ?_
 refine Cn ?_
 refine Cm ?_
 iterate 2 refine Dp ?_
 refine CU ?_
 refine Cn ?_
 refine Cm ?_
 refine CU ?_
 refine AQ ?_
 refine Ab ?_
 have hx := hx0
 refine h10 _ ?_; clear h10
 refine Al (fun hb11 => ?_) (fun hb11 => ?_)
 ·first | omega | exact absurd trivial hb11 | contradiction | (simp_all; done)
 refine An ?_
 try simp only [Af]
 refine h8 _ ?_; clear h8
 refine Ad ?_
 try refine Ac ?_
 refine Am ?_
 refine Ae ?_
 refine Ab ?_
 refine h4 _ ⟨i + 1, ?_, ?_, [], ?_⟩
 dsimp only
 exact ⟨by omega, Mz i2 (fun h0 => by first | omega | (rw [hxd, hyd]; omega))⟩
 dsimp only
 omega
 dsimp only
 refine ⟨by rfl, ?_, ?_⟩
 refine Aj ?_
 exact At
 refine Aj ?_
 exact At
 obtain ⟨y, hye⟩ := Cb (l := l) (i := i - 1) (by omega)
 have hpm : ((i : Int) - 1).toNat = i - 1 := by omega
 have hgt : decide ((0 : Int) < (i : Int)) = true := decide_eq_true (by omega)
 have hyd : l.getD (i - 1) 0 = y := BG hye
 have hx := And.intro @hxe (And.intro @hye (And.intro @hgt (And.intro @hpm (And.intro @eI.eq_1 hx0))))
 refine Ad ?_
 try refine Ac ?_
 refine Ae ?_
 refine Am ?_
 refine Ae ?_
 iterate 2 refine Dp ?_
 refine Cn ?_
 refine Cm ?_
 iterate 2 refine Dp ?_
 refine CU ?_
 refine Cn ?_
 refine Cm ?_
 refine CU ?_
 refine AQ ?_
 refine Ab ?_
 have hx := hx0
 refine h10 _ ?_; clear h10
 refine Al (fun hb12 => ?_) (fun hb12 => ?_)
 refine Aa fun N13 h13 => ?_
 refine Ad ?_
 try refine Ac ?_
 refine Ae ?_
 refine Ab ?_
 refine h13 _ ?_; clear h13
 refine Ao ?_
 try simp only [Af]
 first | (have hr : E3 l = true := IX (fun j hj h0 => i2 j (by omega) h0); rw [hr]) | (have hr : E3 l = false := OM hi0 (by omega) (by rw [hxd, hyd]; omega); rw [hr])
 refine A3 ?_
 exact At
 refine An ?_
 try simp only [Af]
 refine h8 _ ?_; clear h8
 refine Ad ?_
 try refine Ac ?_
 refine Am ?_
 refine Ae ?_
 refine Ab ?_
 refine h4 _ ⟨i + 1, ?_, ?_, [], ?_⟩
 dsimp only
 exact ⟨by omega, Mz i2 (fun h0 => by first | omega | (rw [hxd, hyd]; omega))⟩
 dsimp only
 omega
 dsimp only
 refine ⟨by rfl, ?_, ?_⟩
 refine Aj ?_
 exact At
 refine Aj ?_
 exact At
 refine Be ?_
 simp only [Af, Nat.reduceEqDiff, reduceIte, eq_self]
 refine h2 _ ?_; clear h2
 refine Aa fun N14 h14 => ?_
 refine Ad ?_
 try refine Ac ?_
 refine Ae ?_
 refine Ab ?_
 refine h14 _ ?_; clear h14
 refine Ao ?_
 try simp only [Af]
 first | (have hr : E3 l = true := IX (fun j hj h0 => i2 j (by omega) h0); rw [hr]) | (have hr : E3 l = false := OM hi0 (by omega) (by rw [hxd, hyd]; omega); rw [hr])
 refine A3 ?_
 exact At
 cases hg

def Nb : Bo Tryz.prog := I3.add 70 (Spec.pure ES) NH (by kernel_rfl)

theorem KP : A5 Tryz.prog 69 (Spec.pure GR) := by
 refine A7 (Nb.at_ 41) Tryz.func69 rfl rfl rfl ?_
 intro args p r hg hp
 unfold GR at hg
 split at hg
 rename_i xs
 simp only [Option.some.injEq, Prod.mk.injEq] at hg
 obtain ⟨rfl, rfl⟩ := hg
 obtain ⟨he, hl⟩ := hp
 generalize dI xs = l at *
 subst he
 have hT : (Nb).X = T := rfl
 have hx0 := And.intro @Cu (And.intro @Ct @Tryz.results69)
 have hx := hx0
 refine ⟨by rfl, ?_⟩
 intro F W0 hnp hmk
 refine Aa fun N1 h1 => ?_
 refine Ad ?_
 try refine Ac ?_
 refine B8 ?_
 refine Ab ?_
 refine h1 _ ?_; clear h1
 refine Aa fun N2 h2 => ?_
 refine Aa fun N3 h3 => ?_
 refine Ad ?_
 try refine Ac ?_
 refine Ae ?_
 refine Bm ?_
 refine Am ?_
 refine Ab ?_
 refine h3 _ ?_; clear h3
 refine Al (fun hb4 => ?_) (fun hb4 => ?_)
 refine Aa fun N5 h5 => ?_
 refine Ad ?_
 try refine Ac ?_
 refine BC ?_
 refine A8 ?_
 refine Ab ?_
 refine h5 _ ?_; clear h5
 refine Ao ?_
 try simp only [Af]
 have hr : J2 l = (2, -1) := by unfold J2; rw [if_pos (by have := hb4; omega)]
 rw [hr]
 refine A3 ?_
 exact At
 refine An ?_
 try simp only [Af]
 refine h2 _ ?_; clear h2
 refine Aa fun N6 h6 => ?_
 refine Aa fun N7 h7 => ?_
 refine Ad ?_
 try refine Ac ?_
 refine Ae ?_
 refine Bm ?_
 refine Ae ?_
 refine Ab ?_
 refine h7 _ ?_; clear h7
 refine Aw ?_
 refine A9 (σ := Nat) (fun s => (fun i => i ≤ l.length ∧ ∀ j, j < i → tf l j = 0) s)
  (fun s => (fun i => [(0, .d (.sl (rows eI l))), (2, .ptr 0 0 0), (9, .d (.sl (rows eI l))), (10, .d (.int .i64 (l.length : Nat))), (11, .d (.int .i64 (i : Nat)))]) s)
  (fun s => (fun i => [some (.one 29 [.d (.int .i64 0), .d (.int .i64 0)])]) s) (fun s => (fun i => l.length - i) s) hnp 0 ?_ [some 0] ?_ ?_
 dsimp only
 exact ⟨by omega, fun j hj => by omega⟩
 dsimp only
 refine ⟨by rfl, ?_, ?_⟩
 refine Aj ?_
 exact At
 refine Aj ?_
 exact At
 rintro i hinv N8 h8
 dsimp only at hinv ⊢
 obtain ⟨i1, i2⟩ := hinv
 refine Aa fun N9 h9 => ?_
 refine Ad ?_
 try refine Ac ?_
 refine Am ?_
 refine Ab ?_
 refine h9 _ ?_; clear h9
 refine Aa fun N10 h10 => ?_
 refine Al (fun hb11 => ?_) (fun hb11 => ?_)
 obtain ⟨x, hxe⟩ := Cb (l := l) (i := i) (by omega)
 have hxd : l.getD i 0 = x := BG hxe
 refine An ?_
 try simp only [Af]
 refine h10 _ ?_; clear h10
 refine Aa fun N12 h12 => ?_
 refine Aw ?_
 refine Aa fun N13 h13 => ?_
 have hx := And.intro @hxe (And.intro @eI.eq_1 hx0)
 refine Ad ?_
 try refine Ac ?_
 refine Ae ?_
 refine Au ?_
 refine Ar ?_
 iterate 2 refine Ae ?_
 refine Ab ?_
 have hx := hx0
 refine h13 _ ?_; clear h13
 refine Aa fun N14 h14 => ?_
 refine Aa fun N15 h15 => ?_
 refine Ad ?_
 try refine Ac ?_
 refine Ae ?_
 refine Am ?_
 refine Ae ?_
 refine Dp ?_
 refine CU ?_
 refine AQ ?_
 refine Ab ?_
 refine h15 _ ?_; clear h15
 refine Al (fun hb16 => ?_) (fun hb16 => ?_)
 refine Aa fun N17 h17 => ?_
 refine Ad ?_
 try refine Ac ?_
 refine Ae ?_
 refine Am ?_
 refine BC ?_
 refine A8 ?_
 refine Ab ?_
 refine h17 _ ?_; clear h17
 refine Ao ?_
 try simp only [Af]
 have hf : tf l i = 3 := by unfold tf; rw [hxd, if_pos (by have := hb16; simpa [or_comm] using this)]
 have hr : J2 l = (3, -2 - (i : Int)) := by unfold J2; rw [if_neg (by have := hb4; omega), C5 (i := i) (by rw [hf]; decide) i2 (by omega), hf]; rfl
 rw [hr]
 refine A3 ?_
 exact At
 have hgood : ¬ (x < 0 ∨ 20 ≤ x) := by have := hb16; simpa [not_or] using this
 refine An ?_
 try simp only [Af]
 refine h14 _ ?_; clear h14
 refine Aa fun N18 h18 => ?_
 rcases Nat.eq_zero_or_pos i with hi0 | hi0
 have hye := hxe
 have hgt : decide ((0 : Int) < (i : Int)) = false := decide_eq_false (by omega)
 have hpm := hxe
 have hx := And.intro @hxe (And.intro @hye (And.intro @hgt (And.intro @hpm (And.intro @eI.eq_1 hx0))))
 refine Ad ?_
 try refine Ac ?_
 refine Ae ?_
 refine Am ?_
 refine Ae ?_
 iterate 3 refine Dp ?_
 refine CU ?_
 refine Cn ?_
 refine Cm ?_
 refine CU ?_
 refine AQ ?_
 refine Ab ?_
 have hx := hx0
 refine h18 _ ?_; clear h18
 refine Al (fun hb19 => ?_) (fun hb19 => ?_)
 ·first | omega | exact absurd trivial hb19 | contradiction | (simp_all; done)
 refine An ?_
 try simp only [Af]
 refine h12 _ ?_; clear h12
 refine Ad ?_
 try refine Ac ?_
 refine Am ?_
 refine Ae ?_
 refine Ab ?_
 refine h8 _ ⟨i + 1, ?_, ?_, [some 0], ?_⟩
 dsimp only
 exact ⟨by omega, FI i2 (by unfold tf; rw [hxd, if_neg hgood]; first | rfl | (rw [if_neg (by omega)]; done) | (rw [hyd, if_neg (by have := hb19; simpa using this)]; done))⟩
 dsimp only
 omega
 dsimp only
 refine ⟨by rfl, ?_, ?_⟩
 refine Aj ?_
 exact At
 refine Aj ?_
 exact At
 obtain ⟨y, hye⟩ := Cb (l := l) (i := i - 1) (by omega)
 have hpm : ((i : Int) - 1).toNat = i - 1 := by omega
 have hgt : decide ((0 : Int) < (i : Int)) = true := decide_eq_true (by omega)
 have hyd : l.getD (i - 1) 0 = y := BG hye
 have hx := And.intro @hxe (And.intro @hye (And.intro @hgt (And.intro @hpm (And.intro @eI.eq_1 hx0))))
 refine Ad ?_
 try refine Ac ?_
 refine Ae ?_
 refine Am ?_
 refine Ae ?_
 iterate 3 refine Dp ?_
 refine CU ?_
 refine Cn ?_
 refine Cm ?_
 refine CU ?_
 refine AQ ?_
 refine Ab ?_
 have hx := hx0
 refine h18 _ ?_; clear h18
 refine Al (fun hb20 => ?_) (fun hb20 => ?_)
 refine Aa fun N21 h21 => ?_
 refine Ad ?_
 try refine Ac ?_
 refine Ae ?_
 refine Am ?_
 refine BC ?_
 refine A8 ?_
 refine Ab ?_
 refine h21 _ ?_; clear h21
 refine Ao ?_
 try simp only [Af]
 have hf : tf l i = 5 := by unfold tf; rw [hxd, hyd, if_neg hgood, if_pos ⟨by omega, by have := hb20; simpa using this⟩]
 have hr : J2 l = (5, -2 - (i : Int)) := by unfold J2; rw [if_neg (by have := hb4; omega), C5 (i := i) (by rw [hf]; decide) i2 (by omega), hf]; rfl
 rw [hr]
 refine A3 ?_
 exact At
 refine An ?_
 try simp only [Af]
 refine h12 _ ?_; clear h12
 refine Ad ?_
 try refine Ac ?_
 refine Am ?_
 refine Ae ?_
 refine Ab ?_
 refine h8 _ ⟨i + 1, ?_, ?_, [some 0], ?_⟩
 dsimp only
 exact ⟨by omega, FI i2 (by unfold tf; rw [hxd, if_neg hgood]; first | rfl | (rw [if_neg (by omega)]; done) | (rw [hyd, if_neg (by have := hb20; simpa using this)]; done))⟩
 dsimp only
 omega
 dsimp only
 refine ⟨by rfl, ?_, ?_⟩
 refine Aj ?_
 exact At
 refine Aj ?_
 exact At
 refine Be ?_
 simp only [Af, Nat.reduceEqDiff, reduceIte, eq_self]
 refine h6 _ ?_; clear h6
 refine Aa fun N22 h22 => ?_
 refine Ad ?_
 try refine Ac ?_
 refine BC ?_
 refine A8 ?_
 refine Ab ?_
 refine h22 _ ?_; clear h22
 refine Ao ?_
 try simp only [Af]
 have hr : J2 l = (0, 0) := by unfold J2; rw [if_neg (by have := hb4; omega), C8 (fun j hj => i2 j (by omega))]
 rw [hr]
 refine A3 ?_
 exact At
 cases hg

def GH : Bo Tryz.prog := Nb.add 69 (Spec.pure GR) KP (by kernel_rfl)
end Go.Proofs.YtmbjnkgpcbpclaaGreat
