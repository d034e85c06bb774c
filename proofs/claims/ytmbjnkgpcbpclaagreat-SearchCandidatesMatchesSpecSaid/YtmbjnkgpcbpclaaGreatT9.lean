/- Walks, printed by wip/gen/walk.py. -/
import Derived.Test.YtmbjnkgpcbpclaaGreatT8
import Derived.Test.YtmbjnkgpcbpclaaGreatV5
set_option linter.all false
set_option maxRecDepth 100000
set_option maxHeartbeats 4000000
namespace Go.Proofs.YtmbjnkgpcbpclaaGreat
open Go Go.Vc Go.RowKit
def BW (f g : Nat → Int) : Nat → Int × Int
  | 0 => (0, 0)
  | n + 1 => if (BW f g n).1 ≠ 0 then BW f g n else if f n ≠ 0 then (f n, g n) else (0, 0)
theorem Cc {f g : Nat → Int} : ∀ {n : Nat}, (∀ j, j < n → f j = 0) → BW f g n = (0, 0)
  | 0, _ => rfl
  | n + 1, h => by
    have ih := Cc (g := g) (n := n) fun j hj => h j (by omega)
    unfold BW; rw [ih, h n (by omega)]; rfl
theorem Bh {f g : Nat → Int} {i : Nat} (hi : f i ≠ 0) (h : ∀ j, j < i → f j = 0) : ∀ {n : Nat}, i < n → BW f g n = (f i, g i) := by
  intro n
  induction n with
  | zero => intro h; omega
  | succ n ih =>
    intro hn
    unfold BW
    rcases Nat.lt_or_ge i n with hlt | hge
    · rw [ih hlt, if_pos hi]
    · obtain rfl : i = n := by omega
      rw [Cc h]
      simp [hi]
theorem De {f : Nat → Int} {i : Nat} (h : ∀ j, j < i → f j = 0) (hi : f i = 0) : ∀ j, j < i + 1 → f j = 0 := fun j hj => by
  rcases Nat.lt_or_ge j i with h' | h'
  · exact h j h'
  · obtain rfl : j = i := by omega
    exact hi
theorem Jz {Q : Nat → Prop} {i : Nat} (h : ∀ j, j < i → 0 < j → Q j) (hi : 0 < i → Q i) : ∀ j, j < i + 1 → 0 < j → Q j := fun j hj h0 => by
  rcases Nat.lt_or_ge j i with h' | h'
  · exact h j h' h0
  · obtain rfl : j = i := by omega
    exact hi h0
def tf (l : List Int) (i : Nat) : Int := if l.getD i 0 < 0 ∨ 20 ≤ l.getD i 0 then 3 else if 0 < i ∧ l.getD i 0 ≤ l.getD (i - 1) 0 then 5 else 0
def tg (i : Nat) : Int := -2 - (i : Int)
def HA (l : List Int) : Int × Int := if 20 < l.length then (2, -1) else BW (tf l) tg l.length
def Hi : List AV → Option (Prop × AV)
  | [.d (.sl xs)] => some (xs = rows eI (dI xs) ∧ (dI xs).length ≤ 9223372036854775807, .agg [.d (.int .i64 (HA (dI xs)).1), .d (.int .i64 (HA (dI xs)).2)])
  | _ => none
def Dv (l : List Int) : Bool := (List.range l.length).all fun i => i == 0 || decide (l.getD (i - 1) 0 < l.getD i 0)
theorem L0 {l : List Int} {i : Nat} (h0 : 0 < i) (hi : i < l.length) (h : ¬ l.getD (i - 1) 0 < l.getD i 0) : Dv l = false := by
  unfold Dv
  rw [Bool.eq_false_iff]; intro ha
  have := List.all_eq_true.1 ha i (List.mem_range.2 hi)
  simp only [Bool.or_eq_true, beq_iff_eq, decide_eq_true_eq] at this
  rcases this with h | h'
  · omega
  · exact h h'
theorem Ho {l : List Int} (h : ∀ j, j < l.length → 0 < j → l.getD (j - 1) 0 < l.getD j 0) : Dv l = true := by
  unfold Dv
  rw [List.all_eq_true]
  intro i hi
  simp only [Bool.or_eq_true, beq_iff_eq, decide_eq_true_eq]
  rcases Nat.eq_zero_or_pos i with h0 | h0
  · exact .inl h0
  · exact .inr (h i (List.mem_range.1 hi) h0)
def CM : List AV → Option (Prop × AV)
  | [.d (.sl xs)] => some (xs = rows eI (dI xs) ∧ (dI xs).length ≤ 9223372036854775807, .d (.bool (Dv (dI xs))))
  | _ => none
theorem B5 {α : Type} {l : List α} {i : Nat} {x d : α} (h : l[i]? = some x) : l.getD i d = x := by rw [List.getD_eq_getElem?_getD, h]; rfl

theorem O2 : A1 Tryz.prog 70 (Spec.pure CM) := by
 refine Az (IR.at_ 24) Tryz.func70 rfl rfl rfl ?_
 intro args p r hg hp
 unfold CM at hg
 split at hg
 rename_i xs
 simp only [Option.some.injEq, Prod.mk.injEq] at hg
 obtain ⟨rfl, rfl⟩ := hg
 obtain ⟨he, hl⟩ := hp
 generalize dI xs = l at *
 subst he
 have hT : (IR).X = T := rfl
 have hx0 := And.intro @Ci (And.intro @Ch @Tryz.results70)
 have hx := hx0
 refine ⟨by rfl, ?_⟩
 intro F W0 hnp hmk
 refine Aa fun N1 h1 => ?_
 refine Ad ?_
 try refine Ac ?_
 refine Ae ?_
 refine Ab ?_
 refine h1 _ ?_; clear h1
 refine Aa fun N2 h2 => ?_
 refine Aa fun N3 h3 => ?_
 refine Ad ?_
 try refine Ac ?_
 refine Ae ?_
 refine AZ ?_
 refine Ae ?_
 refine Ab ?_
 refine h3 _ ?_; clear h3
 refine Au ?_
 refine A0 (σ := Nat) (fun s => (fun i => i ≤ l.length ∧ ∀ j, j < i → 0 < j → l.getD (j - 1) 0 < l.getD j 0) s)
  (fun s => (fun i => [(0, .d (.sl (rows eI l))), (4, .d (.sl (rows eI l))), (5, .d (.int .i64 (l.length : Nat))), (6, .d (.int .i64 (i : Nat)))]) s)
  (fun s => (fun i => []) s) (fun s => (fun i => l.length - i) s) hnp 0 ?_ [] ?_ ?_
 dsimp only
 exact ⟨by omega, fun j hj => by omega⟩
 dsimp only
 refine ⟨by rfl, ?_, ?_⟩
 refine Aj ?_
 exact As
 refine Aj ?_
 exact As
 rintro i hinv N4 h4
 dsimp only at hinv ⊢
 obtain ⟨i1, i2⟩ := hinv
 refine Aa fun N5 h5 => ?_
 refine Ad ?_
 try refine Ac ?_
 refine Al ?_
 refine Ab ?_
 refine h5 _ ?_; clear h5
 refine Aa fun N6 h6 => ?_
 refine Ai (fun hb7 => ?_) (fun hb7 => ?_)
 obtain ⟨x, hxe⟩ := BG (l := l) (i := i) (by omega)
 have hxd : l.getD i 0 = x := B5 hxe
 refine Am ?_
 try simp only [Af]
 refine h6 _ ?_; clear h6
 refine Aa fun N8 h8 => ?_
 refine Au ?_
 refine Aa fun N9 h9 => ?_
 refine Ad ?_
 try refine Ac ?_
 iterate 2 refine Ae ?_
 refine Ab ?_
 refine h9 _ ?_; clear h9
 refine Aa fun N10 h10 => ?_
 rcases Nat.eq_zero_or_pos i with hi0 | hi0
 have hye := hxe
 have hgt : decide ((0 : Int) < (i : Int)) = false := decide_eq_false (by omega)
 have hpm := hxe
 have hx := And.intro @hxe (And.intro @hye (And.intro @hgt (And.intro @hpm (And.intro @eI.eq_1 hx0))))
 refine Ad ?_
 try refine Ac ?_
 refine Ae ?_
 refine Al ?_
 refine Ae ?_
 iterate 2 refine BI ?_
 refine AK ?_
 refine AJ ?_
 iterate 2 refine BI ?_
 refine B7 ?_
 refine AK ?_
 refine AJ ?_
 refine B7 ?_
 refine A7 ?_
 refine Ab ?_
 have hx := hx0
 refine h10 _ ?_; clear h10
 refine Ai (fun hb11 => ?_) (fun hb11 => ?_)
 ·first | omega | exact absurd trivial hb11 | contradiction | (simp_all; done)
 refine Am ?_
 try simp only [Af]
 refine h8 _ ?_; clear h8
 refine Ad ?_
 try refine Ac ?_
 refine Al ?_
 refine Ae ?_
 refine Ab ?_
 refine h4 _ ⟨i + 1, ?_, ?_, [], ?_⟩
 dsimp only
 exact ⟨by omega, Jz i2 (fun h0 => by first | omega | (rw [hxd, hyd]; omega))⟩
 dsimp only
 omega
 dsimp only
 refine ⟨by rfl, ?_, ?_⟩
 refine Aj ?_
 exact As
 refine Aj ?_
 exact As
 obtain ⟨y, hye⟩ := BG (l := l) (i := i - 1) (by omega)
 have hpm : ((i : Int) - 1).toNat = i - 1 := by omega
 have hgt : decide ((0 : Int) < (i : Int)) = true := decide_eq_true (by omega)
 have hyd : l.getD (i - 1) 0 = y := B5 hye
 have hx := And.intro @hxe (And.intro @hye (And.intro @hgt (And.intro @hpm (And.intro @eI.eq_1 hx0))))
 refine Ad ?_
 try refine Ac ?_
 refine Ae ?_
 refine Al ?_
 refine Ae ?_
 iterate 2 refine BI ?_
 refine AK ?_
 refine AJ ?_
 iterate 2 refine BI ?_
 refine B7 ?_
 refine AK ?_
 refine AJ ?_
 refine B7 ?_
 refine A7 ?_
 refine Ab ?_
 have hx := hx0
 refine h10 _ ?_; clear h10
 refine Ai (fun hb12 => ?_) (fun hb12 => ?_)
 refine Aa fun N13 h13 => ?_
 refine Ad ?_
 try refine Ac ?_
 refine Ae ?_
 refine Ab ?_
 refine h13 _ ?_; clear h13
 refine An ?_
 try simp only [Af]
 first | (have hr : Dv l = true := Ho (fun j hj h0 => i2 j (by omega) h0); rw [hr]) | (have hr : Dv l = false := L0 hi0 (by omega) (by rw [hxd, hyd]; omega); rw [hr])
 refine Ax ?_
 exact As
 refine Am ?_
 try simp only [Af]
 refine h8 _ ?_; clear h8
 refine Ad ?_
 try refine Ac ?_
 refine Al ?_
 refine Ae ?_
 refine Ab ?_
 refine h4 _ ⟨i + 1, ?_, ?_, [], ?_⟩
 dsimp only
 exact ⟨by omega, Jz i2 (fun h0 => by first | omega | (rw [hxd, hyd]; omega))⟩
 dsimp only
 omega
 dsimp only
 refine ⟨by rfl, ?_, ?_⟩
 refine Aj ?_
 exact As
 refine Aj ?_
 exact As
 refine AF ?_
 simp only [Af, Nat.reduceEqDiff, reduceIte, eq_self]
 refine h2 _ ?_; clear h2
 refine Aa fun N14 h14 => ?_
 refine Ad ?_
 try refine Ac ?_
 refine Ae ?_
 refine Ab ?_
 refine h14 _ ?_; clear h14
 refine An ?_
 try simp only [Af]
 first | (have hr : Dv l = true := Ho (fun j hj h0 => i2 j (by omega) h0); rw [hr]) | (have hr : Dv l = false := L0 hi0 (by omega) (by rw [hxd, hyd]; omega); rw [hr])
 refine Ax ?_
 exact As
 cases hg

def NO : Bn Tryz.prog := IR.add 70 (Spec.pure CM) O2 (by kernel_rfl)

theorem Lr : A1 Tryz.prog 69 (Spec.pure Hi) := by
 refine Az (NO.at_ 41) Tryz.func69 rfl rfl rfl ?_
 intro args p r hg hp
 unfold Hi at hg
 split at hg
 rename_i xs
 simp only [Option.some.injEq, Prod.mk.injEq] at hg
 obtain ⟨rfl, rfl⟩ := hg
 obtain ⟨he, hl⟩ := hp
 generalize dI xs = l at *
 subst he
 have hT : (NO).X = T := rfl
 have hx0 := And.intro @Ci (And.intro @Ch @Tryz.results69)
 have hx := hx0
 refine ⟨by rfl, ?_⟩
 intro F W0 hnp hmk
 refine Aa fun N1 h1 => ?_
 refine Ad ?_
 try refine Ac ?_
 refine Bw ?_
 refine Ab ?_
 refine h1 _ ?_; clear h1
 refine Aa fun N2 h2 => ?_
 refine Aa fun N3 h3 => ?_
 refine Ad ?_
 try refine Ac ?_
 refine Ae ?_
 refine AZ ?_
 refine Al ?_
 refine Ab ?_
 refine h3 _ ?_; clear h3
 refine Ai (fun hb4 => ?_) (fun hb4 => ?_)
 refine Aa fun N5 h5 => ?_
 refine Ad ?_
 try refine Ac ?_
 refine BL ?_
 refine A4 ?_
 refine Ab ?_
 refine h5 _ ?_; clear h5
 refine An ?_
 try simp only [Af]
 have hr : HA l = (2, -1) := by unfold HA; rw [if_pos (by have := hb4; omega)]
 rw [hr]
 refine Ax ?_
 exact As
 refine Am ?_
 try simp only [Af]
 refine h2 _ ?_; clear h2
 refine Aa fun N6 h6 => ?_
 refine Aa fun N7 h7 => ?_
 refine Ad ?_
 try refine Ac ?_
 refine Ae ?_
 refine AZ ?_
 refine Ae ?_
 refine Ab ?_
 refine h7 _ ?_; clear h7
 refine Au ?_
 refine A0 (σ := Nat) (fun s => (fun i => i ≤ l.length ∧ ∀ j, j < i → tf l j = 0) s)
  (fun s => (fun i => [(0, .d (.sl (rows eI l))), (2, .ptr 0 0 0), (9, .d (.sl (rows eI l))), (10, .d (.int .i64 (l.length : Nat))), (11, .d (.int .i64 (i : Nat)))]) s)
  (fun s => (fun i => [some (.one 29 [.d (.int .i64 0), .d (.int .i64 0)])]) s) (fun s => (fun i => l.length - i) s) hnp 0 ?_ [some 0] ?_ ?_
 dsimp only
 exact ⟨by omega, fun j hj => by omega⟩
 dsimp only
 refine ⟨by rfl, ?_, ?_⟩
 refine Aj ?_
 exact As
 refine Aj ?_
 exact As
 rintro i hinv N8 h8
 dsimp only at hinv ⊢
 obtain ⟨i1, i2⟩ := hinv
 refine Aa fun N9 h9 => ?_
 refine Ad ?_
 try refine Ac ?_
 refine Al ?_
 refine Ab ?_
 refine h9 _ ?_; clear h9
 refine Aa fun N10 h10 => ?_
 refine Ai (fun hb11 => ?_) (fun hb11 => ?_)
 obtain ⟨x, hxe⟩ := BG (l := l) (i := i) (by omega)
 have hxd : l.getD i 0 = x := B5 hxe
 refine Am ?_
 try simp only [Af]
 refine h10 _ ?_; clear h10
 refine Aa fun N12 h12 => ?_
 refine Au ?_
 refine Aa fun N13 h13 => ?_
 have hx := And.intro @hxe (And.intro @eI.eq_1 hx0)
 refine Ad ?_
 try refine Ac ?_
 refine Ae ?_
 refine At ?_
 refine Ap ?_
 iterate 2 refine Ae ?_
 refine Ab ?_
 have hx := hx0
 refine h13 _ ?_; clear h13
 refine Aa fun N14 h14 => ?_
 refine Aa fun N15 h15 => ?_
 refine Ad ?_
 try refine Ac ?_
 refine Ae ?_
 refine Al ?_
 refine Ae ?_
 refine BI ?_
 refine B7 ?_
 refine A7 ?_
 refine Ab ?_
 refine h15 _ ?_; clear h15
 refine Ai (fun hb16 => ?_) (fun hb16 => ?_)
 refine Aa fun N17 h17 => ?_
 refine Ad ?_
 try refine Ac ?_
 refine Ae ?_
 refine Al ?_
 refine BL ?_
 refine A4 ?_
 refine Ab ?_
 refine h17 _ ?_; clear h17
 refine An ?_
 try simp only [Af]
 have hf : tf l i = 3 := by unfold tf; rw [hxd, if_pos (by have := hb16; simpa [or_comm] using this)]
 have hr : HA l = (3, -2 - (i : Int)) := by unfold HA; rw [if_neg (by have := hb4; omega), Bh (i := i) (by rw [hf]; decide) i2 (by omega), hf]; rfl
 rw [hr]
 refine Ax ?_
 exact As
 have hgood : ¬ (x < 0 ∨ 20 ≤ x) := by have := hb16; simpa [not_or] using this
 refine Am ?_
 try simp only [Af]
 refine h14 _ ?_; clear h14
 refine Aa fun N18 h18 => ?_
 rcases Nat.eq_zero_or_pos i with hi0 | hi0
 have hye := hxe
 have hgt : decide ((0 : Int) < (i : Int)) = false := decide_eq_false (by omega)
 have hpm := hxe
 have hx := And.intro @hxe (And.intro @hye (And.intro @hgt (And.intro @hpm (And.intro @eI.eq_1 hx0))))
 refine Ad ?_
 try refine Ac ?_
 refine Ae ?_
 refine Al ?_
 refine Ae ?_
 iterate 3 refine BI ?_
 refine B7 ?_
 refine AK ?_
 refine AJ ?_
 refine B7 ?_
 refine A7 ?_
 refine Ab ?_
 have hx := hx0
 refine h18 _ ?_; clear h18
 refine Ai (fun hb19 => ?_) (fun hb19 => ?_)
 ·first | omega | exact absurd trivial hb19 | contradiction | (simp_all; done)
 refine Am ?_
 try simp only [Af]
 refine h12 _ ?_; clear h12
 refine Ad ?_
 try refine Ac ?_
 refine Al ?_
 refine Ae ?_
 refine Ab ?_
 refine h8 _ ⟨i + 1, ?_, ?_, [some 0], ?_⟩
 dsimp only
 exact ⟨by omega, De i2 (by unfold tf; rw [hxd, if_neg hgood]; first | rfl | (rw [if_neg (by omega)]; done) | (rw [hyd, if_neg (by have := hb19; simpa using this)]; done))⟩
 dsimp only
 omega
 dsimp only
 refine ⟨by rfl, ?_, ?_⟩
 refine Aj ?_
 exact As
 refine Aj ?_
 exact As
 obtain ⟨y, hye⟩ := BG (l := l) (i := i - 1) (by omega)
 have hpm : ((i : Int) - 1).toNat = i - 1 := by omega
 have hgt : decide ((0 : Int) < (i : Int)) = true := decide_eq_true (by omega)
 have hyd : l.getD (i - 1) 0 = y := B5 hye
 have hx := And.intro @hxe (And.intro @hye (And.intro @hgt (And.intro @hpm (And.intro @eI.eq_1 hx0))))
 refine Ad ?_
 try refine Ac ?_
 refine Ae ?_
 refine Al ?_
 refine Ae ?_
 iterate 3 refine BI ?_
 refine B7 ?_
 refine AK ?_
 refine AJ ?_
 refine B7 ?_
 refine A7 ?_
 refine Ab ?_
 have hx := hx0
 refine h18 _ ?_; clear h18
 refine Ai (fun hb20 => ?_) (fun hb20 => ?_)
 refine Aa fun N21 h21 => ?_
 refine Ad ?_
 try refine Ac ?_
 refine Ae ?_
 refine Al ?_
 refine BL ?_
 refine A4 ?_
 refine Ab ?_
 refine h21 _ ?_; clear h21
 refine An ?_
 try simp only [Af]
 have hf : tf l i = 5 := by unfold tf; rw [hxd, hyd, if_neg hgood, if_pos ⟨by omega, by have := hb20; simpa using this⟩]
 have hr : HA l = (5, -2 - (i : Int)) := by unfold HA; rw [if_neg (by have := hb4; omega), Bh (i := i) (by rw [hf]; decide) i2 (by omega), hf]; rfl
 rw [hr]
 refine Ax ?_
 exact As
 refine Am ?_
 try simp only [Af]
 refine h12 _ ?_; clear h12
 refine Ad ?_
 try refine Ac ?_
 refine Al ?_
 refine Ae ?_
 refine Ab ?_
 refine h8 _ ⟨i + 1, ?_, ?_, [some 0], ?_⟩
 dsimp only
 exact ⟨by omega, De i2 (by unfold tf; rw [hxd, if_neg hgood]; first | rfl | (rw [if_neg (by omega)]; done) | (rw [hyd, if_neg (by have := hb20; simpa using this)]; done))⟩
 dsimp only
 omega
 dsimp only
 refine ⟨by rfl, ?_, ?_⟩
 refine Aj ?_
 exact As
 refine Aj ?_
 exact As
 refine AF ?_
 simp only [Af, Nat.reduceEqDiff, reduceIte, eq_self]
 refine h6 _ ?_; clear h6
 refine Aa fun N22 h22 => ?_
 refine Ad ?_
 try refine Ac ?_
 refine BL ?_
 refine A4 ?_
 refine Ab ?_
 refine h22 _ ?_; clear h22
 refine An ?_
 try simp only [Af]
 have hr : HA l = (0, 0) := by unfold HA; rw [if_neg (by have := hb4; omega), Cc (fun j hj => i2 j (by omega))]
 rw [hr]
 refine Ax ?_
 exact As
 cases hg

def GY : Bn Tryz.prog := NO.add 69 (Spec.pure Hi) Lr (by kernel_rfl)
end Go.Proofs.YtmbjnkgpcbpclaaGreat
