import Derived.Test.YtmbjnkgpcbpclaaGreatT51
set_option linter.all false
set_option maxRecDepth 100000
set_option maxHeartbeats 4000000
namespace Go.Proofs.YtmbjnkgpcbpclaaGreat
open Go Go.Vc Go.RowKit
theorem Sw : A5 Tryz.prog 33 (Spec.gen NJ) := by
 refine Bm (Lh.at_ 61) Tryz.func33 rfl rfl rfl ?_
 intro args bl p r bf hg hp
 unfold NJ at hg
 split at hg
 rename_i a b c e i t s xs
 simp only [Option.some.injEq, Prod.mk.injEq] at hg
 obtain ⟨rfl, rfl, rfl⟩ := hg
 obtain ⟨he, rfl, rfl, rfl, hl, hbl⟩ := hp
 generalize dI xs = l at *
 subst he
 have hsa := MW a
 have hT : (Lh).X = T := rfl
 have hx0 := And.intro @AE (And.intro @Ci (And.intro @Ch @Tryz.results33))
 have hx := hx0
 refine ⟨Nat.le_of_ble_eq_true rfl, ?_⟩
 intro F W0 M0 hnp hmk
 have hnp : Bl.np = 1 := hnp
 refine Aa fun N1 h1 => Ac ?_
 refine Az ?_
 refine Fz (hq := AN) ?_
 refine Ad (hq := AN) ?_
 refine Ab (h1 _ (Aa fun N2 h2 => ?_)); clear h1
 refine Aa fun N3 h3 => Ac ?_
 refine Ar (hq := AN) ?_
 refine Aq (hq := AN) ?_
 refine Ao (hq := AN) ?_
 refine Ad (hq := AN) ?_
 refine Gh (hq := Hg) ?_
 refine Gg (hq := Hg) ?_
 refine Qu (hq := Hg) ?_
 refine AH (hq := AN) ?_
 refine Ab (h3 _ (Ak (fun hb4 => ?_) (fun hb4 => ?_))); clear h3
 have g1 : a < 1 ∨ 4 < a := by have := hb4; simpa using this
 refine Aa fun N5 h5 => Ac ?_
 refine Ad (hq := AN) ?_
 refine Ab (h5 _ (Am ?_)); clear h5
 try simp only [Ae]
 have hr : I0 ⟨a, b, c, e⟩ l = 4 := by
  unfold I0 Is; dsimp only; rw [if_pos g1]
 rw [hr]
 refine Aj ?_
 refine ⟨[some 0], by rfl, ?_, ?_⟩
 refine Aj ?_
 exact Au
 refine Aj ?_
 exact Au
 have g1 : ¬(a < 1 ∨ 4 < a) := by have := hb4; simpa using this
 refine An ?_
 try simp only [Ae]
 refine h2 _ (Aa fun N6 h6 => Aa fun N7 h7 => ?_); clear h2
 rcases (show a = 1 ∨ ¬a = 1 by omega) with rfl | ga
 have f1 := True.intro
 have hx := And.intro @f1 hx0
 refine Eu [62] ER (by kernel_rfl) ?_
 refine Ar (hq := AN) ?_
 refine Aq (hq := AN) ?_
 refine Ao (hq := AN) ?_
 refine Ad (hq := AN) ?_
 refine CQ (hq := AN) ?_
 refine C9 (hq := AN) ?_
 have hc := Ag (E := (Lh.at_ 61)) (f := 62) (sp := Spec.pure MA) rfl
 have hs := @MA.eq_1
 refine Lf (hq := AN) ?_
 refine Wp (hq := AN) ?_
 refine AH (hq := AN) ?_
 have hx := hx0
 refine Ab (h7 _ (Ak (fun hb8 => ?_) (fun hb8 => ?_))); clear h7
 have g2 : Gr b = false := by have := hb8; simpa using this
 refine Aa fun N9 h9 => Ac ?_
 refine Ad (hq := AN) ?_
 refine Ab (h9 _ (Am ?_)); clear h9
 try simp only [Ae]
 have hr : I0 ⟨1, b, c, e⟩ l = 3 := by
  unfold I0 Is; dsimp only; rw [if_neg g1, if_pos ⟨rfl, g2⟩]
 rw [hr]
 refine Aj ?_
 refine ⟨[some 0], by rfl, ?_, ?_⟩
 refine Aj ?_
 exact Au
 refine Aj ?_
 exact Au
 have g2 : Gr b = true := by have := hb8; simpa using this
 have c2 : ¬((1 : Int) = 1 ∧ Gr b = false) := fun h => by rw [g2] at h; cases h.2
 have c3 : ¬((1 : Int) ≠ 1 ∧ b ≠ []) := fun h => h.1 rfl
 refine An ?_
 try simp only [Ae]
 refine h6 _ (Aa fun N10 h10 => Ac ?_); clear h6
 refine Ar (hq := AN) ?_
 refine Aq (hq := AN) ?_
 have hc := Ag (E := (Lh.at_ 61)) (f := 34) (sp := Spec.pure FS) rfl
 have hs := @FS.eq_1
 refine Ba (hq := AN) ?_
 refine Ad (hq := AN) ?_
 refine Ab (h10 _ (Aa fun N11 h11 => ?_)); clear h10
 refine Aa fun N12 h12 => Ac ?_
 refine Ar (hq := AN) ?_
 refine Aq (hq := AN) ?_
 refine Ao (hq := AN) ?_
 refine Ad (hq := AN) ?_
 refine At Bb ?_
 refine At Bb ?_
 refine At Bb ?_
 refine AH (hq := AN) ?_
 refine Ad (hq := AN) ?_
 refine C3 (hq := AN) ?_
 refine J2 (hq := AN) ?_
 refine C3 (hq := AN) ?_
 refine DO (hq := AN) ?_
 refine AH (hq := AN) ?_
 refine Ab (h12 _ (Ak (fun hb13 => ?_) (fun hb13 => ?_))); clear h12
 refine Aa fun N14 h14 => Ac ?_
 refine Ad (hq := AN) ?_
 refine Ab (h14 _ (Am ?_)); clear h14
 try simp only [Ae]
 have hr : I0 ⟨1, b, c, e⟩ l = 5 := by
  unfold I0 Is; dsimp only; rw [if_neg g1, if_neg c2, if_neg c3, if_pos (by have := hb13; (try simp at this); omega)]
 rw [hr]
 refine Aj ?_
 refine ⟨[some 0], by rfl, ?_, ?_⟩
 refine Aj ?_
 exact Au
 refine Aj ?_
 exact Au
 have hkl : CE 1 ≤ l.length := by have := hb13; (try simp at this); omega
 have hwt := RJ l hkl (MW _)
 have hsu : ((l.length : Int) - (CE 1 : Int)).toNat = l.length - CE 1 := by omega
 have hss : l.length - (l.length - CE 1) = CE 1 := by omega
 refine An ?_
 try simp only [Ae]
 refine h11 _ (Aa fun N15 h15 => Ac ?_); clear h11
 refine AS (by rfl) (Hr (by exact DB) (by simp only [List.map]; rfl) (by simp) (by decide) (by decide) ?_)
 try simp only [wB, eq_self, Nat.reduceEqDiff, reduceIte, wL, Int.toNat_natCast, Int.reduceToNat, Nat.reduceAdd, Nat.reduceMul, Nat.reduceSub, Nat.reduceLeDiff, hx]
 have hx := And.intro @hsu (And.intro @hss hx0)
 refine Ab (h15 _ (Aa fun N16 h16 => Ac ?_)); clear h15
 refine Rk (by rfl) (OQ (by exact DF) (by exact DE) (by simp only [wB, eq_self, Nat.reduceEqDiff, reduceIte]; rfl) (by exact DB) (by exact DB) rfl (by decide)) ?_
 try simp only [wB, eq_self, Nat.reduceEqDiff, reduceIte, wL, Int.toNat_natCast, Int.reduceToNat, Nat.reduceAdd, Nat.reduceMul, Nat.reduceSub, Nat.reduceLeDiff, hx]
 iterate 2 refine Ad (hq := AN) ?_
 refine AU (hq := AN) ?_
 refine Ad (hq := AN) ?_
 refine Ao (hq := AN) ?_
 refine BZ (hq := AN) ?_
 refine AS (by rfl) (KB (id := 2) (by simp only [wB, eq_self, Nat.reduceEqDiff, reduceIte]; rfl) (Em (by exact DF) (by exact DE) (by simp only [A2, wB, eq_self, Nat.reduceEqDiff, reduceIte]; rfl) (by exact DB) (by exact DB) rfl (by exact DF) (by exact DE) (by simp only [C7, A2, wB, eq_self, Nat.reduceEqDiff, reduceIte, wL, Int.toNat_natCast, Int.reduceToNat, Nat.reduceAdd, Nat.reduceMul, Nat.reduceSub, Nat.reduceLeDiff, hx]; rfl) (by (first | (first | omega | decide | exact CU (f := eI) (fun _ => rfl) _) | exact AQ)) (by (first | (first | omega | decide | exact CU (f := eI) (fun _ => rfl) _) | exact AQ)) (by (first | (first | omega | decide | exact CU (f := eI) (fun _ => rfl) _) | exact AQ)) ?_))
 try simp only [A2, wB, eq_self, Nat.reduceEqDiff, reduceIte, wL, Int.toNat_natCast, Int.reduceToNat, Nat.reduceAdd, Nat.reduceMul, Nat.reduceSub, Nat.reduceLeDiff, hx]
 have hx := hx0
 refine Ab (h16 _ (Aa fun N17 h17 => Aa fun N18 h18 => ?_)); clear h16
 rcases (show (c = FG l (CE 1) 0 ∧ e = FG l (CE 1) 1) ∨ (c = FG l (CE 1) 0 ∧ e ≠ FG l (CE 1) 1) ∨ c ≠ FG l (CE 1) 0 by by_cases h : c = FG l (CE 1) 0 <;> by_cases h' : e = FG l (CE 1) 1 <;> simp [h, h']) with ⟨e1, e2⟩ | ⟨e1, e2⟩ | e1
 have f1 : (c = FG l (CE 1) 0) = True := eq_true e1
 have f2 : (e = FG l (CE 1) 1) = True := eq_true e2
 have hx := And.intro @f1 (And.intro @f2 (And.intro @hwt hx0))
 refine Ac ?_
 refine Ar (hq := AN) ?_
 refine Aq (hq := AN) ?_
 refine Ar (hq := AN) ?_
 refine Aq (hq := AN) ?_
 refine Ao (hq := AN) ?_
 refine Ad (hq := AN) ?_
 refine Gh (hq := Hg) ?_
 refine Gg (hq := Hg) ?_
 refine Gh (hq := Hg) ?_
 refine Gg (hq := Hg) ?_
 refine Qu (hq := Hg) ?_
 refine AH (hq := AN) ?_
 have hx := hx0
 refine Ab (h18 _ (Ak (fun hb19 => ?_) (fun hb19 => ?_))); clear h18
 exact CJ hb19
 refine An ?_
 try simp only [Ae]
 refine h17 _ (Aa fun N20 h20 => Ac ?_); clear h17
 refine Ad (hq := AN) ?_
 refine Ab (h20 _ (Am ?_)); clear h20
 try simp only [Ae]
 have hr : I0 ⟨1, b, c, e⟩ l = 0 := by
  unfold I0 Is; dsimp only; rw [if_neg g1, if_neg c2, if_neg c3, if_neg (by omega), if_pos ⟨e1, e2⟩]
 rw [hr]
 refine Aj ?_
 refine ⟨[some 0], by rfl, ?_, ?_⟩
 refine Aj ?_
 exact Au
 refine Aj ?_
 exact Au
 have f1 : (c = FG l (CE 1) 0) = True := eq_true e1
 have f2 : (e = FG l (CE 1) 1) = False := eq_false e2
 have hx := And.intro @f1 (And.intro @f2 (And.intro @hwt hx0))
 refine Ac ?_
 refine Ar (hq := AN) ?_
 refine Aq (hq := AN) ?_
 refine Ar (hq := AN) ?_
 refine Aq (hq := AN) ?_
 refine Ao (hq := AN) ?_
 refine Ad (hq := AN) ?_
 refine Gh (hq := Hg) ?_
 refine Gg (hq := Hg) ?_
 refine Gh (hq := Hg) ?_
 refine Gg (hq := Hg) ?_
 refine Qu (hq := Hg) ?_
 refine AH (hq := AN) ?_
 have hx := hx0
 refine Ab (h18 _ (Ak (fun hb21 => ?_) (fun hb21 => ?_))); clear h18
 refine Aa fun N22 h22 => Ac ?_
 refine Ad (hq := AN) ?_
 refine Ab (h22 _ (Am ?_)); clear h22
 try simp only [Ae]
 have hr : I0 ⟨1, b, c, e⟩ l = 5 := by
  unfold I0 Is; dsimp only; rw [if_neg g1, if_neg c2, if_neg c3, if_neg (by omega), if_neg (fun h => e2 h.2)]
 rw [hr]
 refine Aj ?_
 refine ⟨[some 0], by rfl, ?_, ?_⟩
 refine Aj ?_
 exact Au
 refine Aj ?_
 exact Au
 exact CJ hb21
 have f1 : (c = FG l (CE 1) 0) = False := eq_false e1
 have f2 : True := trivial
 have hx := And.intro @f1 (And.intro @f2 (And.intro @hwt hx0))
 refine Ac ?_
 refine Ar (hq := AN) ?_
 refine Aq (hq := AN) ?_
 refine Ar (hq := AN) ?_
 refine Aq (hq := AN) ?_
 refine Ao (hq := AN) ?_
 refine Ad (hq := AN) ?_
 refine Gh (hq := Hg) ?_
 refine Gg (hq := Hg) ?_
 refine Gh (hq := Hg) ?_
 refine Gg (hq := Hg) ?_
 refine Qu (hq := Hg) ?_
 refine AH (hq := AN) ?_
 have hx := hx0
 refine Ab (h18 _ (Ak (fun hb23 => ?_) (fun hb23 => ?_))); clear h18
 refine Aa fun N24 h24 => Ac ?_
 refine Ad (hq := AN) ?_
 refine Ab (h24 _ (Am ?_)); clear h24
 try simp only [Ae]
 have hr : I0 ⟨1, b, c, e⟩ l = 5 := by
  unfold I0 Is; dsimp only; rw [if_neg g1, if_neg c2, if_neg c3, if_neg (by omega), if_neg (fun h => e1 h.1)]
 rw [hr]
 refine Aj ?_
 refine ⟨[some 0], by rfl, ?_, ?_⟩
 refine Aj ?_
 exact Au
 refine Aj ?_
 exact Au
 exact CJ hb23
 have f1 : (a = 1) = False := eq_false ga
 have hx := And.intro @f1 hx0
 refine Eu [62] ER (by kernel_rfl) ?_
 refine Ar (hq := AN) ?_
 refine Aq (hq := AN) ?_
 refine Ao (hq := AN) ?_
 refine Ad (hq := AN) ?_
 refine At Bb ?_
 refine At Bb ?_
 refine At Bb ?_
 refine At Bb ?_
 refine AH (hq := AN) ?_
 have hx := hx0
 refine Ab (h7 _ (Ak (fun hb25 => ?_) (fun hb25 => ?_))); clear h7
 exact CJ hb25
 refine An ?_
 try simp only [Ae]
 refine h6 _ (Aa fun N26 h26 => Ac ?_); clear h6
 refine Ar (hq := AN) ?_
 refine Aq (hq := AN) ?_
 have hc := Ag (E := (Lh.at_ 61)) (f := 34) (sp := Spec.pure FS) rfl
 have hs := @FS.eq_1
 refine Ba (hq := AN) ?_
 refine Ad (hq := AN) ?_
 refine Ab (h26 _ (Aa fun N27 h27 => Aa fun N28 h28 => ?_)); clear h26
 rcases (show b = [] ∨ b ≠ [] by by_cases h : b = []; exact .inl h; exact .inr h) with gb | gb
 have f2 : (b = []) = True := eq_true gb
 have c2 : ¬(a = 1 ∧ Gr b = false) := fun h => ga h.1
 have c3 : ¬(a ≠ 1 ∧ b ≠ []) := fun h => h.2 gb
 have hx := And.intro @f1 (And.intro @f2 hx0)
 refine Ac ?_
 refine Ar (hq := AN) ?_
 refine Aq (hq := AN) ?_
 refine Ao (hq := AN) ?_
 refine Ad (hq := AN) ?_
 refine CQ (hq := AN) ?_
 refine C9 (hq := AN) ?_
 refine DO (hq := AN) ?_
 refine AH (hq := AN) ?_
 refine Ad (hq := AN) ?_
 refine C3 (hq := AN) ?_
 refine J2 (hq := AN) ?_
 refine C3 (hq := AN) ?_
 refine DO (hq := AN) ?_
 refine AH (hq := AN) ?_
 have hx := hx0
 refine Ab (h28 _ (Ak (fun hb29 => ?_) (fun hb29 => ?_))); clear h28
 refine Aa fun N30 h30 => Ac ?_
 refine Ad (hq := AN) ?_
 refine Ab (h30 _ (Am ?_)); clear h30
 try simp only [Ae]
 have hr : I0 ⟨a, b, c, e⟩ l = 5 := by
  unfold I0 Is; dsimp only; rw [if_neg g1, if_neg c2, if_neg c3, if_pos (by have := hb29; (try simp at this); omega)]
 rw [hr]
 refine Aj ?_
 refine ⟨[some 0], by rfl, ?_, ?_⟩
 refine Aj ?_
 exact Au
 refine Aj ?_
 exact Au
 have hkl : CE a ≤ l.length := by have := hb29; (try simp at this); omega
 have hwt := RJ l hkl (MW _)
 have hsu : ((l.length : Int) - (CE a : Int)).toNat = l.length - CE a := by omega
 have hss : l.length - (l.length - CE a) = CE a := by omega
 refine An ?_
 try simp only [Ae]
 refine h27 _ (Aa fun N31 h31 => Ac ?_); clear h27
 refine AS (by rfl) (Hr (by exact DB) (by simp only [List.map]; rfl) (by simp) (by decide) (by decide) ?_)
 try simp only [wB, eq_self, Nat.reduceEqDiff, reduceIte, wL, Int.toNat_natCast, Int.reduceToNat, Nat.reduceAdd, Nat.reduceMul, Nat.reduceSub, Nat.reduceLeDiff, hx]
 have hx := And.intro @hsu (And.intro @hss hx0)
 refine Ab (h31 _ (Aa fun N32 h32 => Ac ?_)); clear h31
 refine Rk (by rfl) (OQ (by exact DF) (by exact DE) (by simp only [wB, eq_self, Nat.reduceEqDiff, reduceIte]; rfl) (by exact DB) (by exact DB) rfl (by decide)) ?_
 try simp only [wB, eq_self, Nat.reduceEqDiff, reduceIte, wL, Int.toNat_natCast, Int.reduceToNat, Nat.reduceAdd, Nat.reduceMul, Nat.reduceSub, Nat.reduceLeDiff, hx]
 iterate 2 refine Ad (hq := AN) ?_
 refine AU (hq := AN) ?_
 refine Ad (hq := AN) ?_
 refine Ao (hq := AN) ?_
 refine BZ (hq := AN) ?_
 refine AS (by rfl) (KB (id := 2) (by simp only [wB, eq_self, Nat.reduceEqDiff, reduceIte]; rfl) (Em (by exact DF) (by exact DE) (by simp only [A2, wB, eq_self, Nat.reduceEqDiff, reduceIte]; rfl) (by exact DB) (by exact DB) rfl (by exact DF) (by exact DE) (by simp only [C7, A2, wB, eq_self, Nat.reduceEqDiff, reduceIte, wL, Int.toNat_natCast, Int.reduceToNat, Nat.reduceAdd, Nat.reduceMul, Nat.reduceSub, Nat.reduceLeDiff, hx]; rfl) (by (first | (first | omega | decide | exact CU (f := eI) (fun _ => rfl) _) | exact AQ)) (by (first | (first | omega | decide | exact CU (f := eI) (fun _ => rfl) _) | exact AQ)) (by (first | (first | omega | decide | exact CU (f := eI) (fun _ => rfl) _) | exact AQ)) ?_))
 try simp only [A2, wB, eq_self, Nat.reduceEqDiff, reduceIte, wL, Int.toNat_natCast, Int.reduceToNat, Nat.reduceAdd, Nat.reduceMul, Nat.reduceSub, Nat.reduceLeDiff, hx]
 have hx := hx0
 refine Ab (h32 _ (Aa fun N33 h33 => Aa fun N34 h34 => ?_)); clear h32
 rcases (show (c = FG l (CE a) 0 ∧ e = FG l (CE a) 1) ∨ (c = FG l (CE a) 0 ∧ e ≠ FG l (CE a) 1) ∨ c ≠ FG l (CE a) 0 by by_cases h : c = FG l (CE a) 0 <;> by_cases h' : e = FG l (CE a) 1 <;> simp [h, h']) with ⟨e1, e2⟩ | ⟨e1, e2⟩ | e1
 have f1 : (c = FG l (CE a) 0) = True := eq_true e1
 have f2 : (e = FG l (CE a) 1) = True := eq_true e2
 have hx := And.intro @f1 (And.intro @f2 (And.intro @hwt hx0))
 refine Ac ?_
 refine Ar (hq := AN) ?_
 refine Aq (hq := AN) ?_
 refine Ar (hq := AN) ?_
 refine Aq (hq := AN) ?_
 refine Ao (hq := AN) ?_
 refine Ad (hq := AN) ?_
 refine Gh (hq := Hg) ?_
 refine Gg (hq := Hg) ?_
 refine Gh (hq := Hg) ?_
 refine Gg (hq := Hg) ?_
 refine Qu (hq := Hg) ?_
 refine AH (hq := AN) ?_
 have hx := hx0
 refine Ab (h34 _ (Ak (fun hb35 => ?_) (fun hb35 => ?_))); clear h34
 exact CJ hb35
 refine An ?_
 try simp only [Ae]
 refine h33 _ (Aa fun N36 h36 => Ac ?_); clear h33
 refine Ad (hq := AN) ?_
 refine Ab (h36 _ (Am ?_)); clear h36
 try simp only [Ae]
 have hr : I0 ⟨a, b, c, e⟩ l = 0 := by
  unfold I0 Is; dsimp only; rw [if_neg g1, if_neg c2, if_neg c3, if_neg (by omega), if_pos ⟨e1, e2⟩]
 rw [hr]
 refine Aj ?_
 refine ⟨[some 0], by rfl, ?_, ?_⟩
 refine Aj ?_
 exact Au
 refine Aj ?_
 exact Au
 have f1 : (c = FG l (CE a) 0) = True := eq_true e1
 have f2 : (e = FG l (CE a) 1) = False := eq_false e2
 have hx := And.intro @f1 (And.intro @f2 (And.intro @hwt hx0))
 refine Ac ?_
 refine Ar (hq := AN) ?_
 refine Aq (hq := AN) ?_
 refine Ar (hq := AN) ?_
 refine Aq (hq := AN) ?_
 refine Ao (hq := AN) ?_
 refine Ad (hq := AN) ?_
 refine Gh (hq := Hg) ?_
 refine Gg (hq := Hg) ?_
 refine Gh (hq := Hg) ?_
 refine Gg (hq := Hg) ?_
 refine Qu (hq := Hg) ?_
 refine AH (hq := AN) ?_
 have hx := hx0
 refine Ab (h34 _ (Ak (fun hb37 => ?_) (fun hb37 => ?_))); clear h34
 refine Aa fun N38 h38 => Ac ?_
 refine Ad (hq := AN) ?_
 refine Ab (h38 _ (Am ?_)); clear h38
 try simp only [Ae]
 have hr : I0 ⟨a, b, c, e⟩ l = 5 := by
  unfold I0 Is; dsimp only; rw [if_neg g1, if_neg c2, if_neg c3, if_neg (by omega), if_neg (fun h => e2 h.2)]
 rw [hr]
 refine Aj ?_
 refine ⟨[some 0], by rfl, ?_, ?_⟩
 refine Aj ?_
 exact Au
 refine Aj ?_
 exact Au
 exact CJ hb37
 have f1 : (c = FG l (CE a) 0) = False := eq_false e1
 have f2 : True := trivial
 have hx := And.intro @f1 (And.intro @f2 (And.intro @hwt hx0))
 refine Ac ?_
 refine Ar (hq := AN) ?_
 refine Aq (hq := AN) ?_
 refine Ar (hq := AN) ?_
 refine Aq (hq := AN) ?_
 refine Ao (hq := AN) ?_
 refine Ad (hq := AN) ?_
 refine Gh (hq := Hg) ?_
 refine Gg (hq := Hg) ?_
 refine Gh (hq := Hg) ?_
 refine Gg (hq := Hg) ?_
 refine Qu (hq := Hg) ?_
 refine AH (hq := AN) ?_
 have hx := hx0
 refine Ab (h34 _ (Ak (fun hb39 => ?_) (fun hb39 => ?_))); clear h34
 refine Aa fun N40 h40 => Ac ?_
 refine Ad (hq := AN) ?_
 refine Ab (h40 _ (Am ?_)); clear h40
 try simp only [Ae]
 have hr : I0 ⟨a, b, c, e⟩ l = 5 := by
  unfold I0 Is; dsimp only; rw [if_neg g1, if_neg c2, if_neg c3, if_neg (by omega), if_neg (fun h => e1 h.1)]
 rw [hr]
 refine Aj ?_
 refine ⟨[some 0], by rfl, ?_, ?_⟩
 refine Aj ?_
 exact Au
 refine Aj ?_
 exact Au
 exact CJ hb39
 have f2 : (b = []) = False := eq_false gb
 have c2 : ¬(a = 1 ∧ Gr b = false) := fun h => ga h.1
 have hx := And.intro @f1 (And.intro @f2 hx0)
 refine Ac ?_
 refine Ar (hq := AN) ?_
 refine Aq (hq := AN) ?_
 refine Ao (hq := AN) ?_
 refine Ad (hq := AN) ?_
 refine CQ (hq := AN) ?_
 refine C9 (hq := AN) ?_
 refine DO (hq := AN) ?_
 refine AH (hq := AN) ?_
 refine Ad (hq := AN) ?_
 refine At Bb ?_
 refine At Bb ?_
 refine At Bb ?_
 refine At Bb ?_
 refine AH (hq := AN) ?_
 have hx := hx0
 refine Ab (h28 _ (Ak (fun hb41 => ?_) (fun hb41 => ?_))); clear h28
 refine Aa fun N42 h42 => Ac ?_
 refine Ad (hq := AN) ?_
 refine Ab (h42 _ (Am ?_)); clear h42
 try simp only [Ae]
 have hr : I0 ⟨a, b, c, e⟩ l = 5 := by
  unfold I0 Is; dsimp only; rw [if_neg g1, if_neg c2, if_pos ⟨ga, gb⟩]
 rw [hr]
 refine Aj ?_
 refine ⟨[some 0], by rfl, ?_, ?_⟩
 refine Aj ?_
 exact Au
 refine Aj ?_
 exact Au
 exact CJ hb41
 cases hg
def Np : Bq Tryz.prog := Lh.add 33 (Spec.gen NJ) Sw (by kernel_rfl)
