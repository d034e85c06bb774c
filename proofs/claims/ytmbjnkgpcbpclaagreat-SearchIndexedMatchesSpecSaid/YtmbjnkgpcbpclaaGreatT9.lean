import Derived.Test.YtmbjnkgpcbpclaaGreatT8
set_option linter.all false
set_option maxRecDepth 100000
set_option maxHeartbeats 4000000
namespace Go.Proofs.YtmbjnkgpcbpclaaGreat
open Go Go.Vc Go.RowKit
def Co (f g : Nat → Int) : Nat → Int × Int
  | 0 => (0, 0)
  | n + 1 => if (Co f g n).1 ≠ 0 then Co f g n else if f n ≠ 0 then (f n, g n) else (0, 0)
theorem Cv {f g : Nat → Int} : ∀ {n : Nat}, (∀ j, j < n → f j = 0) → Co f g n = (0, 0)
  | 0, _ => rfl
  | n + 1, h => by
    have ih := Cv (g := g) (n := n) fun j hj => h j (by omega)
    unfold Co; rw [ih, h n (by omega)]; rfl
theorem CS {f g : Nat → Int} {i : Nat} (hi : f i ≠ 0) (h : ∀ j, j < i → f j = 0) : ∀ {n : Nat}, i < n → Co f g n = (f i, g i) := by
  intro n
  induction n with
  | zero => intro h; omega
  | succ n ih =>
    intro hn
    unfold Co
    rcases Nat.lt_or_ge i n with hlt | hge
    · rw [ih hlt, if_pos hi]
    · obtain rfl : i = n := by omega
      rw [Cv h]
      simp [hi]
theorem Fv {f : Nat → Int} {i : Nat} (h : ∀ j, j < i → f j = 0) (hi : f i = 0) : ∀ j, j < i + 1 → f j = 0 := fun j hj => by
  rcases Nat.lt_or_ge j i with h' | h'
  · exact h j h'
  · obtain rfl : j = i := by omega
    exact hi
theorem Oy {Q : Nat → Prop} {i : Nat} (h : ∀ j, j < i → 0 < j → Q j) (hi : 0 < i → Q i) : ∀ j, j < i + 1 → 0 < j → Q j := fun j hj h0 => by
  rcases Nat.lt_or_ge j i with h' | h'
  · exact h j h' h0
  · obtain rfl : j = i := by omega
    exact hi h0
def tf (l : List Int) (i : Nat) : Int := if l.getD i 0 < 0 ∨ 20 ≤ l.getD i 0 then 3 else if 0 < i ∧ l.getD i 0 ≤ l.getD (i - 1) 0 then 5 else 0
def tg (i : Nat) : Int := -2 - (i : Int)
def KN (l : List Int) : Int × Int := if 20 < l.length then (2, -1) else Co (tf l) tg l.length
def HO : List AV → Option (Prop × AV)
  | [.d (.sl xs)] => some (xs = rows eI (dI xs) ∧ (dI xs).length ≤ 9223372036854775807, .agg [.d (.int .i64 (KN (dI xs)).1), .d (.int .i64 (KN (dI xs)).2)])
  | _ => none
def F1 (l : List Int) : Bool := (List.range l.length).all fun i => i == 0 || decide (l.getD (i - 1) 0 < l.getD i 0)
theorem Rg {l : List Int} {i : Nat} (h0 : 0 < i) (hi : i < l.length) (h : ¬ l.getD (i - 1) 0 < l.getD i 0) : F1 l = false := by
  unfold F1
  rw [Bool.eq_false_iff]; intro ha
  have := List.all_eq_true.1 ha i (List.mem_range.2 hi)
  simp only [Bool.or_eq_true, beq_iff_eq, decide_eq_true_eq] at this
  rcases this with h | h'
  · omega
  · exact h h'
theorem Kl {l : List Int} (h : ∀ j, j < l.length → 0 < j → l.getD (j - 1) 0 < l.getD j 0) : F1 l = true := by
  unfold F1
  rw [List.all_eq_true]
  intro i hi
  simp only [Bool.or_eq_true, beq_iff_eq, decide_eq_true_eq]
  rcases Nat.eq_zero_or_pos i with h0 | h0
  · exact .inl h0
  · exact .inr (h i (List.mem_range.1 hi) h0)
def FO : List AV → Option (Prop × AV)
  | [.d (.sl xs)] => some (xs = rows eI (dI xs) ∧ (dI xs).length ≤ 9223372036854775807, .d (.bool (F1 (dI xs))))
  | _ => none
theorem B5 {α : Type} {l : List α} {i : Nat} {x d : α} (h : l[i]? = some x) : l.getD i d = x := by rw [List.getD_eq_getElem?_getD, h]; rfl
theorem PP : A5 Tryz.prog 70 (Spec.pure FO) := by
 refine A1 (JM.at_ 24) Tryz.func70 rfl rfl rfl ?_
 intro args p r hg hp
 unfold FO at hg
 split at hg
 rename_i xs
 simp only [Option.some.injEq, Prod.mk.injEq] at hg
 obtain ⟨rfl, rfl⟩ := hg
 obtain ⟨he, hl⟩ := hp
 generalize dI xs = l at *
 subst he
 have hT : (JM).X = T := rfl
 have hx0 := And.intro @Ci (And.intro @Ch @Tryz.results70)
 have hx := hx0
 refine ⟨by rfl, ?_⟩
 intro F W0 hnp hmk
 refine Aa fun N1 h1 => Ac ?_
 refine Az ?_
 refine Ad ?_
 refine Ab (h1 _ (Aa fun N2 h2 => ?_)); clear h1
 refine Aa fun N3 h3 => Ac ?_
 refine Ad ?_
 refine AU ?_
 refine Ad ?_
 refine Ab (h3 _ (As ?_)); clear h3
 refine A3 (σ := Nat) (fun s => (fun i => i ≤ l.length ∧ ∀ j, j < i → 0 < j → l.getD (j - 1) 0 < l.getD j 0) s)
  (fun s => (fun i => [(0, .d (.sl (rows eI l))), (4, .d (.sl (rows eI l))), (5, .d (.int .i64 (l.length : Nat))), (6, .d (.int .i64 (i : Nat)))]) s)
  (fun s => (fun i => []) s) (fun s => (fun i => l.length - i) s) hnp 0 ?_ [] ?_ ?_
 dsimp only
 exact ⟨by omega, fun j hj => by omega⟩
 dsimp only
 refine ⟨by rfl, ?_, ?_⟩
 refine Aj ?_
 exact Au
 refine Aj ?_
 exact Au
 rintro i hinv N4 h4
 dsimp only at hinv ⊢
 obtain ⟨i1, i2⟩ := hinv
 refine Aa fun N5 h5 => Ac ?_
 refine Az ?_
 refine Ao ?_
 refine Ab (h5 _ (Aa fun N6 h6 => Ak (fun hb7 => ?_) (fun hb7 => ?_))); clear h5
 obtain ⟨x, hxe⟩ := BA (l := l) (i := i) (by omega)
 have hxd : l.getD i 0 = x := B5 hxe
 refine An ?_
 try simp only [Ae]
 refine h6 _ (Aa fun N8 h8 => As ?_); clear h6
 refine Aa fun N9 h9 => Ac ?_
 iterate 2 refine Ad ?_
 refine Ab (h9 _ (Aa fun N10 h10 => ?_)); clear h9
 rcases Nat.eq_zero_or_pos i with hi0 | hi0
 have hye := hxe
 have hgt : decide ((0 : Int) < (i : Int)) = false := decide_eq_false (by omega)
 have hpm := hxe
 have hx := And.intro @hxe (And.intro @hye (And.intro @hgt (And.intro @hpm (And.intro @eI.eq_1 hx0))))
 refine Ac ?_
 refine Ad ?_
 refine Ao ?_
 refine Ad ?_
 iterate 2 refine Cw ?_
 refine B9 ?_
 refine B8 ?_
 iterate 2 refine Cw ?_
 refine CD ?_
 refine B9 ?_
 refine B8 ?_
 refine CD ?_
 refine AH ?_
 have hx := hx0
 refine Ab (h10 _ (Ak (fun hb11 => ?_) (fun hb11 => ?_))); clear h10
 exact CJ hb11
 refine An ?_
 try simp only [Ae]
 refine h8 _ (Ac ?_); clear h8
 refine Ao ?_
 refine Ad ?_
 refine Ab ?_
 refine h4 _ ⟨i + 1, ?_, ?_, [], ?_⟩
 dsimp only
 exact ⟨by omega, Oy i2 (fun h0 => by first | omega | (rw [hxd, hyd]; omega))⟩
 dsimp only
 omega
 dsimp only
 refine ⟨by rfl, ?_, ?_⟩
 refine Aj ?_
 exact Au
 refine Aj ?_
 exact Au
 obtain ⟨y, hye⟩ := BA (l := l) (i := i - 1) (by omega)
 have hpm : ((i : Int) - 1).toNat = i - 1 := by omega
 have hgt : decide ((0 : Int) < (i : Int)) = true := decide_eq_true (by omega)
 have hyd : l.getD (i - 1) 0 = y := B5 hye
 have hx := And.intro @hxe (And.intro @hye (And.intro @hgt (And.intro @hpm (And.intro @eI.eq_1 hx0))))
 refine Ac ?_
 refine Ad ?_
 refine Ao ?_
 refine Ad ?_
 iterate 2 refine Cw ?_
 refine B9 ?_
 refine B8 ?_
 iterate 2 refine Cw ?_
 refine CD ?_
 refine B9 ?_
 refine B8 ?_
 refine CD ?_
 refine AH ?_
 have hx := hx0
 refine Ab (h10 _ (Ak (fun hb12 => ?_) (fun hb12 => ?_))); clear h10
 refine Aa fun N13 h13 => Ac ?_
 refine Ad ?_
 refine Ab (h13 _ (Am ?_)); clear h13
 try simp only [Ae]
 first | (have hr : F1 l = true := Kl (fun j hj h0 => i2 j (by omega) h0); rw [hr]) | (have hr : F1 l = false := Rg hi0 (by omega) (by rw [hxd, hyd]; omega); rw [hr])
 refine Aw ?_
 exact Au
 refine An ?_
 try simp only [Ae]
 refine h8 _ (Ac ?_); clear h8
 refine Ao ?_
 refine Ad ?_
 refine Ab ?_
 refine h4 _ ⟨i + 1, ?_, ?_, [], ?_⟩
 dsimp only
 exact ⟨by omega, Oy i2 (fun h0 => by first | omega | (rw [hxd, hyd]; omega))⟩
 dsimp only
 omega
 dsimp only
 refine ⟨by rfl, ?_, ?_⟩
 refine Aj ?_
 exact Au
 refine Aj ?_
 exact Au
 refine AJ ?_
 simp only [Ae, Nat.reduceEqDiff, reduceIte, eq_self]
 refine h2 _ (Aa fun N14 h14 => Ac ?_); clear h2
 refine Ad ?_
 refine Ab (h14 _ (Am ?_)); clear h14
 try simp only [Ae]
 first | (have hr : F1 l = true := Kl (fun j hj h0 => i2 j (by omega) h0); rw [hr]) | (have hr : F1 l = false := Rg hi0 (by omega) (by rw [hxd, hyd]; omega); rw [hr])
 refine Aw ?_
 exact Au
 cases hg
def Pp : Bq Tryz.prog := JM.add 70 (Spec.pure FO) PP (by kernel_rfl)
theorem Mr : A5 Tryz.prog 69 (Spec.pure HO) := by
 refine A1 (Pp.at_ 41) Tryz.func69 rfl rfl rfl ?_
 intro args p r hg hp
 unfold HO at hg
 split at hg
 rename_i xs
 simp only [Option.some.injEq, Prod.mk.injEq] at hg
 obtain ⟨rfl, rfl⟩ := hg
 obtain ⟨he, hl⟩ := hp
 generalize dI xs = l at *
 subst he
 have hT : (Pp).X = T := rfl
 have hx0 := And.intro @Ci (And.intro @Ch @Tryz.results69)
 have hx := hx0
 refine ⟨by rfl, ?_⟩
 intro F W0 hnp hmk
 refine Aa fun N1 h1 => Ac ?_
 refine Az ?_
 refine Bj ?_
 refine Ab (h1 _ (Aa fun N2 h2 => ?_)); clear h1
 refine Aa fun N3 h3 => Ac ?_
 refine Ad ?_
 refine AU ?_
 refine Ao ?_
 refine Ab (h3 _ (Ak (fun hb4 => ?_) (fun hb4 => ?_))); clear h3
 refine Aa fun N5 h5 => Ac ?_
 refine BD ?_
 refine A4 ?_
 refine Ab (h5 _ (Am ?_)); clear h5
 try simp only [Ae]
 have hr : KN l = (2, -1) := by unfold KN; rw [if_pos (by have := hb4; omega)]
 rw [hr]
 refine Aw ?_
 exact Au
 refine An ?_
 try simp only [Ae]
 refine h2 _ (Aa fun N6 h6 => ?_); clear h2
 refine Aa fun N7 h7 => Ac ?_
 refine Ad ?_
 refine AU ?_
 refine Ad ?_
 refine Ab (h7 _ (As ?_)); clear h7
 refine A3 (σ := Nat) (fun s => (fun i => i ≤ l.length ∧ ∀ j, j < i → tf l j = 0) s)
  (fun s => (fun i => [(0, .d (.sl (rows eI l))), (2, .ptr 0 0 0), (9, .d (.sl (rows eI l))), (10, .d (.int .i64 (l.length : Nat))), (11, .d (.int .i64 (i : Nat)))]) s)
  (fun s => (fun i => [some (.one 29 [.d (.int .i64 0), .d (.int .i64 0)])]) s) (fun s => (fun i => l.length - i) s) hnp 0 ?_ [some 0] ?_ ?_
 dsimp only
 exact ⟨by omega, fun j hj => by omega⟩
 dsimp only
 refine ⟨by rfl, ?_, ?_⟩
 refine Aj ?_
 exact Au
 refine Aj ?_
 exact Au
 rintro i hinv N8 h8
 dsimp only at hinv ⊢
 obtain ⟨i1, i2⟩ := hinv
 refine Aa fun N9 h9 => Ac ?_
 refine Az ?_
 refine Ao ?_
 refine Ab (h9 _ (Aa fun N10 h10 => Ak (fun hb11 => ?_) (fun hb11 => ?_))); clear h9
 obtain ⟨x, hxe⟩ := BA (l := l) (i := i) (by omega)
 have hxd : l.getD i 0 = x := B5 hxe
 refine An ?_
 try simp only [Ae]
 refine h10 _ (Aa fun N12 h12 => As ?_); clear h10
 have hx := And.intro @hxe (And.intro @eI.eq_1 hx0)
 refine Aa fun N13 h13 => Ac ?_
 refine Ad ?_
 refine Ar ?_
 refine Aq ?_
 iterate 2 refine Ad ?_
 have hx := hx0
 refine Ab (h13 _ (Aa fun N14 h14 => ?_)); clear h13
 refine Aa fun N15 h15 => Ac ?_
 refine Ad ?_
 refine Ao ?_
 refine Ad ?_
 refine Cw ?_
 refine CD ?_
 refine AH ?_
 refine Ab (h15 _ (Ak (fun hb16 => ?_) (fun hb16 => ?_))); clear h15
 refine Aa fun N17 h17 => Ac ?_
 refine Ad ?_
 refine Ao ?_
 refine BD ?_
 refine A4 ?_
 refine Ab (h17 _ (Am ?_)); clear h17
 try simp only [Ae]
 have hf : tf l i = 3 := by unfold tf; rw [hxd, if_pos (by have := hb16; simpa [or_comm] using this)]
 have hr : KN l = (3, -2 - (i : Int)) := by unfold KN; rw [if_neg (by have := hb4; omega), CS (i := i) (by rw [hf]; decide) i2 (by omega), hf]; rfl
 rw [hr]
 refine Aw ?_
 exact Au
 have hgood : ¬ (x < 0 ∨ 20 ≤ x) := by have := hb16; simpa [not_or] using this
 refine An ?_
 try simp only [Ae]
 refine h14 _ (Aa fun N18 h18 => ?_); clear h14
 rcases Nat.eq_zero_or_pos i with hi0 | hi0
 have hye := hxe
 have hgt : decide ((0 : Int) < (i : Int)) = false := decide_eq_false (by omega)
 have hpm := hxe
 have hx := And.intro @hxe (And.intro @hye (And.intro @hgt (And.intro @hpm (And.intro @eI.eq_1 hx0))))
 refine Ac ?_
 refine Ad ?_
 refine Ao ?_
 refine Ad ?_
 iterate 3 refine Cw ?_
 refine CD ?_
 refine B9 ?_
 refine B8 ?_
 refine CD ?_
 refine AH ?_
 have hx := hx0
 refine Ab (h18 _ (Ak (fun hb19 => ?_) (fun hb19 => ?_))); clear h18
 exact CJ hb19
 refine An ?_
 try simp only [Ae]
 refine h12 _ (Ac ?_); clear h12
 refine Ao ?_
 refine Ad ?_
 refine Ab ?_
 refine h8 _ ⟨i + 1, ?_, ?_, [some 0], ?_⟩
 dsimp only
 exact ⟨by omega, Fv i2 (by unfold tf; rw [hxd, if_neg hgood]; first | rfl | (rw [if_neg (by omega)]; done) | (rw [hyd, if_neg (by have := hb19; simpa using this)]; done))⟩
 dsimp only
 omega
 dsimp only
 refine ⟨by rfl, ?_, ?_⟩
 refine Aj ?_
 exact Au
 refine Aj ?_
 exact Au
 obtain ⟨y, hye⟩ := BA (l := l) (i := i - 1) (by omega)
 have hpm : ((i : Int) - 1).toNat = i - 1 := by omega
 have hgt : decide ((0 : Int) < (i : Int)) = true := decide_eq_true (by omega)
 have hyd : l.getD (i - 1) 0 = y := B5 hye
 have hx := And.intro @hxe (And.intro @hye (And.intro @hgt (And.intro @hpm (And.intro @eI.eq_1 hx0))))
 refine Ac ?_
 refine Ad ?_
 refine Ao ?_
 refine Ad ?_
 iterate 3 refine Cw ?_
 refine CD ?_
 refine B9 ?_
 refine B8 ?_
 refine CD ?_
 refine AH ?_
 have hx := hx0
 refine Ab (h18 _ (Ak (fun hb20 => ?_) (fun hb20 => ?_))); clear h18
 refine Aa fun N21 h21 => Ac ?_
 refine Ad ?_
 refine Ao ?_
 refine BD ?_
 refine A4 ?_
 refine Ab (h21 _ (Am ?_)); clear h21
 try simp only [Ae]
 have hf : tf l i = 5 := by unfold tf; rw [hxd, hyd, if_neg hgood, if_pos ⟨by omega, by have := hb20; simpa using this⟩]
 have hr : KN l = (5, -2 - (i : Int)) := by unfold KN; rw [if_neg (by have := hb4; omega), CS (i := i) (by rw [hf]; decide) i2 (by omega), hf]; rfl
 rw [hr]
 refine Aw ?_
 exact Au
 refine An ?_
 try simp only [Ae]
 refine h12 _ (Ac ?_); clear h12
 refine Ao ?_
 refine Ad ?_
 refine Ab ?_
 refine h8 _ ⟨i + 1, ?_, ?_, [some 0], ?_⟩
 dsimp only
 exact ⟨by omega, Fv i2 (by unfold tf; rw [hxd, if_neg hgood]; first | rfl | (rw [if_neg (by omega)]; done) | (rw [hyd, if_neg (by have := hb20; simpa using this)]; done))⟩
 dsimp only
 omega
 dsimp only
 refine ⟨by rfl, ?_, ?_⟩
 refine Aj ?_
 exact Au
 refine Aj ?_
 exact Au
 refine AJ ?_
 simp only [Ae, Nat.reduceEqDiff, reduceIte, eq_self]
 refine h6 _ (Aa fun N22 h22 => Ac ?_); clear h6
 refine BD ?_
 refine A4 ?_
 refine Ab (h22 _ (Am ?_)); clear h22
 try simp only [Ae]
 have hr : KN l = (0, 0) := by unfold KN; rw [if_neg (by have := hb4; omega), Cv (fun j hj => i2 j (by omega))]
 rw [hr]
 refine Aw ?_
 exact Au
 cases hg
def HD : Bq Tryz.prog := Pp.add 69 (Spec.pure HO) Mr (by kernel_rfl)
