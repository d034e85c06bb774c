/- Walks, printed by wip/gen/walk.py. -/
import Derived.Test.YtmbjnkgpcbpclaaGreatT51
import Derived.Test.YtmbjnkgpcbpclaaGreatV5
set_option linter.all false
set_option maxRecDepth 100000
set_option maxHeartbeats 4000000
namespace Go.Proofs.YtmbjnkgpcbpclaaGreat
open Go Go.Vc Go.RowKit
theorem QB : A1 Tryz.prog 33 (Spec.gen M7) := by
 refine Bq (Kn.at_ 61) Tryz.func33 rfl rfl rfl ?_
 intro args bl p r bf hg hp
 unfold M7 at hg
 split at hg
 rename_i a b c e i t s xs
 simp only [Option.some.injEq, Prod.mk.injEq] at hg
 obtain ⟨rfl, rfl, rfl⟩ := hg
 obtain ⟨he, rfl, rfl, rfl, hl, hbl⟩ := hp
 generalize dI xs = l at *
 subst he
 have hsa := LS a
 have hT : (Kn).X = T := rfl
 have hx0 := And.intro @AA (And.intro @Ci (And.intro @Ch @Tryz.results33))
 have hx := hx0
 refine ⟨Nat.le_of_ble_eq_true rfl, ?_⟩
 intro F W0 M0 hnp hmk
 have hnp : Bd.np = 1 := hnp
 refine Aa fun N1 h1 => ?_
 refine Ad ?_
 try refine Ac ?_
 refine EX (hq := by exact AD) ?_
 refine Ae (hq := by exact AD) ?_
 refine Ab ?_
 refine h1 _ ?_; clear h1
 refine Aa fun N2 h2 => ?_
 refine Aa fun N3 h3 => ?_
 refine Ad ?_
 try refine Ac ?_
 refine At (hq := by exact AD) ?_
 refine Ap (hq := by exact AD) ?_
 refine Al (hq := by exact AD) ?_
 refine Ae (hq := by exact AD) ?_
 refine Ie (hq := by exact G8) ?_
 refine Ic (hq := by exact G8) ?_
 refine OW (hq := by exact G8) ?_
 refine A7 (hq := by exact AD) ?_
 refine Ab ?_
 refine h3 _ ?_; clear h3
 refine Ai (fun hb4 => ?_) (fun hb4 => ?_)
 have g1 : a < 1 ∨ 4 < a := by have := hb4; simpa using this
 refine Aa fun N5 h5 => ?_
 refine Ad ?_
 try refine Ac ?_
 refine Ae (hq := by exact AD) ?_
 refine Ab ?_
 refine h5 _ ?_; clear h5
 refine An ?_
 try simp only [Af]
 have hr : H9 ⟨a, b, c, e⟩ l = 4 := by
  unfold H9 H4; dsimp only; rw [if_pos g1]
 rw [hr]
 refine Aj ?_
 refine ⟨[some 0], by rfl, ?_, ?_⟩
 refine Aj ?_
 exact As
 refine Aj ?_
 exact As
 have g1 : ¬(a < 1 ∨ 4 < a) := by have := hb4; simpa using this
 refine Am ?_
 try simp only [Af]
 refine h2 _ ?_; clear h2
 refine Aa fun N6 h6 => ?_
 refine Aa fun N7 h7 => ?_
 rcases (show a = 1 ∨ ¬a = 1 by omega) with rfl | ga
 have f1 := True.intro
 have hx := And.intro @f1 hx0
 refine F8 [62] Fw (by kernel_rfl) ?_
 try refine Ac ?_
 refine At (hq := by exact AD) ?_
 refine Ap (hq := by exact AD) ?_
 refine Al (hq := by exact AD) ?_
 refine Ae (hq := by exact AD) ?_
 refine CG (hq := by exact AD) ?_
 refine CF (hq := by exact AD) ?_
 have hc := Ag (E := (Kn.at_ 61)) (f := 62) (sp := Spec.pure L3) rfl
 have hs := @L3.eq_1
 refine Kl (hq := by exact AD) ?_
 refine U9 (hq := by exact AD) ?_
 refine A7 (hq := by exact AD) ?_
 refine Ab ?_
 have hx := hx0
 refine h7 _ ?_; clear h7
 refine Ai (fun hb8 => ?_) (fun hb8 => ?_)
 have g2 : FC b = false := by have := hb8; simpa using this
 refine Aa fun N9 h9 => ?_
 refine Ad ?_
 try refine Ac ?_
 refine Ae (hq := by exact AD) ?_
 refine Ab ?_
 refine h9 _ ?_; clear h9
 refine An ?_
 try simp only [Af]
 have hr : H9 ⟨1, b, c, e⟩ l = 3 := by
  unfold H9 H4; dsimp only; rw [if_neg g1, if_pos ⟨rfl, g2⟩]
 rw [hr]
 refine Aj ?_
 refine ⟨[some 0], by rfl, ?_, ?_⟩
 refine Aj ?_
 exact As
 refine Aj ?_
 exact As
 have g2 : FC b = true := by have := hb8; simpa using this
 have c2 : ¬((1 : Int) = 1 ∧ FC b = false) := fun h => by rw [g2] at h; cases h.2
 have c3 : ¬((1 : Int) ≠ 1 ∧ b ≠ []) := fun h => h.1 rfl
 refine Am ?_
 try simp only [Af]
 refine h6 _ ?_; clear h6
 refine Aa fun N10 h10 => ?_
 refine Ad ?_
 try refine Ac ?_
 refine At (hq := by exact AD) ?_
 refine Ap (hq := by exact AD) ?_
 have hc := Ag (E := (Kn.at_ 61)) (f := 34) (sp := Spec.pure Fk) rfl
 have hs := @Fk.eq_1
 refine AS (hq := by exact AD) ?_
 refine Ae (hq := by exact AD) ?_
 refine Ab ?_
 refine h10 _ ?_; clear h10
 refine Aa fun N11 h11 => ?_
 refine Aa fun N12 h12 => ?_
 refine Ad ?_
 try refine Ac ?_
 refine At (hq := by exact AD) ?_
 refine Ap (hq := by exact AD) ?_
 refine Al (hq := by exact AD) ?_
 refine Ae (hq := by exact AD) ?_
 refine Ar ?_ ?_
 focus (exact AP)
 refine Ar ?_ ?_
 focus (exact AP)
 refine Ar ?_ ?_
 focus (exact AP)
 refine A7 (hq := by exact AD) ?_
 refine Ae (hq := by exact AD) ?_
 refine Cl (hq := by exact AD) ?_
 refine JR (hq := by exact AD) ?_
 refine Cl (hq := by exact AD) ?_
 refine DW (hq := by exact AD) ?_
 refine A7 (hq := by exact AD) ?_
 refine Ab ?_
 refine h12 _ ?_; clear h12
 refine Ai (fun hb13 => ?_) (fun hb13 => ?_)
 refine Aa fun N14 h14 => ?_
 refine Ad ?_
 try refine Ac ?_
 refine Ae (hq := by exact AD) ?_
 refine Ab ?_
 refine h14 _ ?_; clear h14
 refine An ?_
 try simp only [Af]
 have hr : H9 ⟨1, b, c, e⟩ l = 5 := by
  unfold H9 H4; dsimp only; rw [if_neg g1, if_neg c2, if_neg c3, if_pos (by have := hb13; (try simp at this); omega)]
 rw [hr]
 refine Aj ?_
 refine ⟨[some 0], by rfl, ?_, ?_⟩
 refine Aj ?_
 exact As
 refine Aj ?_
 exact As
 have hkl : Cm 1 ≤ l.length := by have := hb13; (try simp at this); omega
 have hwt := Qb l hkl (LS _)
 have hsu : ((l.length : Int) - (Cm 1 : Int)).toNat = l.length - Cm 1 := by omega
 have hss : l.length - (l.length - Cm 1) = Cm 1 := by omega
 refine Am ?_
 try simp only [Af]
 refine h11 _ ?_; clear h11
 refine Aa fun N15 h15 => ?_
 refine Ad ?_
 try refine Ac ?_
 refine AN (by rfl) (GG (by exact Dp) (by simp only [List.map]; rfl) (by simp) (by decide) (by decide) ?_)
 try simp only [wB, eq_self, Nat.reduceEqDiff, reduceIte, wL, Int.toNat_natCast, Int.reduceToNat, Nat.reduceAdd, Nat.reduceMul, Nat.reduceSub, Nat.reduceLeDiff, hx]
 refine Ab ?_
 refine h15 _ ?_; clear h15
 refine Aa fun N16 h16 => ?_
 have hx := And.intro @hsu (And.intro @hss hx0)
 refine Ad ?_
 try refine Ac ?_
 refine P9 (by rfl) (Nv (by exact Dq) (by exact Dn) (by simp only [wB, eq_self, Nat.reduceEqDiff, reduceIte]; rfl) (by exact Dp) (by exact Dp) rfl (by decide)) ?_
 try simp only [wB, eq_self, Nat.reduceEqDiff, reduceIte, wL, Int.toNat_natCast, Int.reduceToNat, Nat.reduceAdd, Nat.reduceMul, Nat.reduceSub, Nat.reduceLeDiff, hx]
 iterate 2 refine Ae (hq := by exact AD) ?_
 refine AZ (hq := by exact AD) ?_
 refine Ae (hq := by exact AD) ?_
 refine Al (hq := by exact AD) ?_
 refine DL (hq := by exact AD) ?_
 refine AN (by rfl) (JI (id := 2) (by simp only [wB, eq_self, Nat.reduceEqDiff, reduceIte]; rfl) (DF (by exact Dq) (by exact Dn) (by simp only [Ay, wB, eq_self, Nat.reduceEqDiff, reduceIte]; rfl) (by exact Dp) (by exact Dp) rfl (by exact Dq) (by exact Dn) (by simp only [Cj, Ay, wB, eq_self, Nat.reduceEqDiff, reduceIte, wL, Int.toNat_natCast, Int.reduceToNat, Nat.reduceAdd, Nat.reduceMul, Nat.reduceSub, Nat.reduceLeDiff, hx]; rfl) (by (first | (first | omega | decide | exact C3 (f := eI) (fun _ => rfl) _) | exact A3)) (by (first | (first | omega | decide | exact C3 (f := eI) (fun _ => rfl) _) | exact A3)) (by (first | (first | omega | decide | exact C3 (f := eI) (fun _ => rfl) _) | exact A3)) ?_))
 try simp only [Ay, wB, eq_self, Nat.reduceEqDiff, reduceIte, wL, Int.toNat_natCast, Int.reduceToNat, Nat.reduceAdd, Nat.reduceMul, Nat.reduceSub, Nat.reduceLeDiff, hx]
 refine Ab ?_
 have hx := hx0
 refine h16 _ ?_; clear h16
 refine Aa fun N17 h17 => ?_
 refine Aa fun N18 h18 => ?_
 rcases (show (c = EY l (Cm 1) 0 ∧ e = EY l (Cm 1) 1) ∨ (c = EY l (Cm 1) 0 ∧ e ≠ EY l (Cm 1) 1) ∨ c ≠ EY l (Cm 1) 0 by by_cases h : c = EY l (Cm 1) 0 <;> by_cases h' : e = EY l (Cm 1) 1 <;> simp [h, h']) with ⟨e1, e2⟩ | ⟨e1, e2⟩ | e1
 have f1 : (c = EY l (Cm 1) 0) = True := eq_true e1
 have f2 : (e = EY l (Cm 1) 1) = True := eq_true e2
 have hx := And.intro @f1 (And.intro @f2 (And.intro @hwt hx0))
 refine Ad ?_
 try refine Ac ?_
 refine At (hq := by exact AD) ?_
 refine Ap (hq := by exact AD) ?_
 refine At (hq := by exact AD) ?_
 refine Ap (hq := by exact AD) ?_
 refine Al (hq := by exact AD) ?_
 refine Ae (hq := by exact AD) ?_
 refine Ie (hq := by exact G8) ?_
 refine Ic (hq := by exact G8) ?_
 refine Ie (hq := by exact G8) ?_
 refine Ic (hq := by exact G8) ?_
 refine OW (hq := by exact G8) ?_
 refine A7 (hq := by exact AD) ?_
 refine Ab ?_
 have hx := hx0
 refine h18 _ ?_; clear h18
 refine Ai (fun hb19 => ?_) (fun hb19 => ?_)
 ·first | omega | exact absurd trivial hb19 | contradiction | (simp_all; done)
 refine Am ?_
 try simp only [Af]
 refine h17 _ ?_; clear h17
 refine Aa fun N20 h20 => ?_
 refine Ad ?_
 try refine Ac ?_
 refine Ae (hq := by exact AD) ?_
 refine Ab ?_
 refine h20 _ ?_; clear h20
 refine An ?_
 try simp only [Af]
 have hr : H9 ⟨1, b, c, e⟩ l = 0 := by
  unfold H9 H4; dsimp only; rw [if_neg g1, if_neg c2, if_neg c3, if_neg (by omega), if_pos ⟨e1, e2⟩]
 rw [hr]
 refine Aj ?_
 refine ⟨[some 0], by rfl, ?_, ?_⟩
 refine Aj ?_
 exact As
 refine Aj ?_
 exact As
 have f1 : (c = EY l (Cm 1) 0) = True := eq_true e1
 have f2 : (e = EY l (Cm 1) 1) = False := eq_false e2
 have hx := And.intro @f1 (And.intro @f2 (And.intro @hwt hx0))
 refine Ad ?_
 try refine Ac ?_
 refine At (hq := by exact AD) ?_
 refine Ap (hq := by exact AD) ?_
 refine At (hq := by exact AD) ?_
 refine Ap (hq := by exact AD) ?_
 refine Al (hq := by exact AD) ?_
 refine Ae (hq := by exact AD) ?_
 refine Ie (hq := by exact G8) ?_
 refine Ic (hq := by exact G8) ?_
 refine Ie (hq := by exact G8) ?_
 refine Ic (hq := by exact G8) ?_
 refine OW (hq := by exact G8) ?_
 refine A7 (hq := by exact AD) ?_
 refine Ab ?_
 have hx := hx0
 refine h18 _ ?_; clear h18
 refine Ai (fun hb21 => ?_) (fun hb21 => ?_)
 refine Aa fun N22 h22 => ?_
 refine Ad ?_
 try refine Ac ?_
 refine Ae (hq := by exact AD) ?_
 refine Ab ?_
 refine h22 _ ?_; clear h22
 refine An ?_
 try simp only [Af]
 have hr : H9 ⟨1, b, c, e⟩ l = 5 := by
  unfold H9 H4; dsimp only; rw [if_neg g1, if_neg c2, if_neg c3, if_neg (by omega), if_neg (fun h => e2 h.2)]
 rw [hr]
 refine Aj ?_
 refine ⟨[some 0], by rfl, ?_, ?_⟩
 refine Aj ?_
 exact As
 refine Aj ?_
 exact As
 ·first | omega | exact absurd trivial hb21 | contradiction | (simp_all; done)
 have f1 : (c = EY l (Cm 1) 0) = False := eq_false e1
 have f2 : True := trivial
 have hx := And.intro @f1 (And.intro @f2 (And.intro @hwt hx0))
 refine Ad ?_
 try refine Ac ?_
 refine At (hq := by exact AD) ?_
 refine Ap (hq := by exact AD) ?_
 refine At (hq := by exact AD) ?_
 refine Ap (hq := by exact AD) ?_
 refine Al (hq := by exact AD) ?_
 refine Ae (hq := by exact AD) ?_
 refine Ie (hq := by exact G8) ?_
 refine Ic (hq := by exact G8) ?_
 refine Ie (hq := by exact G8) ?_
 refine Ic (hq := by exact G8) ?_
 refine OW (hq := by exact G8) ?_
 refine A7 (hq := by exact AD) ?_
 refine Ab ?_
 have hx := hx0
 refine h18 _ ?_; clear h18
 refine Ai (fun hb23 => ?_) (fun hb23 => ?_)
 refine Aa fun N24 h24 => ?_
 refine Ad ?_
 try refine Ac ?_
 refine Ae (hq := by exact AD) ?_
 refine Ab ?_
 refine h24 _ ?_; clear h24
 refine An ?_
 try simp only [Af]
 have hr : H9 ⟨1, b, c, e⟩ l = 5 := by
  unfold H9 H4; dsimp only; rw [if_neg g1, if_neg c2, if_neg c3, if_neg (by omega), if_neg (fun h => e1 h.1)]
 rw [hr]
 refine Aj ?_
 refine ⟨[some 0], by rfl, ?_, ?_⟩
 refine Aj ?_
 exact As
 refine Aj ?_
 exact As
 ·first | omega | exact absurd trivial hb23 | contradiction | (simp_all; done)
 have f1 : (a = 1) = False := eq_false ga
 have hx := And.intro @f1 hx0
 refine F8 [62] Fw (by kernel_rfl) ?_
 try refine Ac ?_
 refine At (hq := by exact AD) ?_
 refine Ap (hq := by exact AD) ?_
 refine Al (hq := by exact AD) ?_
 refine Ae (hq := by exact AD) ?_
 refine Ar ?_ ?_
 focus (exact AP)
 refine Ar ?_ ?_
 focus (exact AP)
 refine Ar ?_ ?_
 focus (exact AP)
 refine Ar ?_ ?_
 focus (exact AP)
 refine A7 (hq := by exact AD) ?_
 refine Ab ?_
 have hx := hx0
 refine h7 _ ?_; clear h7
 refine Ai (fun hb25 => ?_) (fun hb25 => ?_)
 ·first | omega | exact absurd trivial hb25 | contradiction | (simp_all; done)
 refine Am ?_
 try simp only [Af]
 refine h6 _ ?_; clear h6
 refine Aa fun N26 h26 => ?_
 refine Ad ?_
 try refine Ac ?_
 refine At (hq := by exact AD) ?_
 refine Ap (hq := by exact AD) ?_
 have hc := Ag (E := (Kn.at_ 61)) (f := 34) (sp := Spec.pure Fk) rfl
 have hs := @Fk.eq_1
 refine AS (hq := by exact AD) ?_
 refine Ae (hq := by exact AD) ?_
 refine Ab ?_
 refine h26 _ ?_; clear h26
 refine Aa fun N27 h27 => ?_
 refine Aa fun N28 h28 => ?_
 rcases (show b = [] ∨ b ≠ [] by by_cases h : b = []; exact .inl h; exact .inr h) with gb | gb
 have f2 : (b = []) = True := eq_true gb
 have c2 : ¬(a = 1 ∧ FC b = false) := fun h => ga h.1
 have c3 : ¬(a ≠ 1 ∧ b ≠ []) := fun h => h.2 gb
 have hx := And.intro @f1 (And.intro @f2 hx0)
 refine Ad ?_
 try refine Ac ?_
 refine At (hq := by exact AD) ?_
 refine Ap (hq := by exact AD) ?_
 refine Al (hq := by exact AD) ?_
 refine Ae (hq := by exact AD) ?_
 refine CG (hq := by exact AD) ?_
 refine CF (hq := by exact AD) ?_
 refine DW (hq := by exact AD) ?_
 refine A7 (hq := by exact AD) ?_
 refine Ae (hq := by exact AD) ?_
 refine Cl (hq := by exact AD) ?_
 refine JR (hq := by exact AD) ?_
 refine Cl (hq := by exact AD) ?_
 refine DW (hq := by exact AD) ?_
 refine A7 (hq := by exact AD) ?_
 refine Ab ?_
 have hx := hx0
 refine h28 _ ?_; clear h28
 refine Ai (fun hb29 => ?_) (fun hb29 => ?_)
 refine Aa fun N30 h30 => ?_
 refine Ad ?_
 try refine Ac ?_
 refine Ae (hq := by exact AD) ?_
 refine Ab ?_
 refine h30 _ ?_; clear h30
 refine An ?_
 try simp only [Af]
 have hr : H9 ⟨a, b, c, e⟩ l = 5 := by
  unfold H9 H4; dsimp only; rw [if_neg g1, if_neg c2, if_neg c3, if_pos (by have := hb29; (try simp at this); omega)]
 rw [hr]
 refine Aj ?_
 refine ⟨[some 0], by rfl, ?_, ?_⟩
 refine Aj ?_
 exact As
 refine Aj ?_
 exact As
 have hkl : Cm a ≤ l.length := by have := hb29; (try simp at this); omega
 have hwt := Qb l hkl (LS _)
 have hsu : ((l.length : Int) - (Cm a : Int)).toNat = l.length - Cm a := by omega
 have hss : l.length - (l.length - Cm a) = Cm a := by omega
 refine Am ?_
 try simp only [Af]
 refine h27 _ ?_; clear h27
 refine Aa fun N31 h31 => ?_
 refine Ad ?_
 try refine Ac ?_
 refine AN (by rfl) (GG (by exact Dp) (by simp only [List.map]; rfl) (by simp) (by decide) (by decide) ?_)
 try simp only [wB, eq_self, Nat.reduceEqDiff, reduceIte, wL, Int.toNat_natCast, Int.reduceToNat, Nat.reduceAdd, Nat.reduceMul, Nat.reduceSub, Nat.reduceLeDiff, hx]
 refine Ab ?_
 refine h31 _ ?_; clear h31
 refine Aa fun N32 h32 => ?_
 have hx := And.intro @hsu (And.intro @hss hx0)
 refine Ad ?_
 try refine Ac ?_
 refine P9 (by rfl) (Nv (by exact Dq) (by exact Dn) (by simp only [wB, eq_self, Nat.reduceEqDiff, reduceIte]; rfl) (by exact Dp) (by exact Dp) rfl (by decide)) ?_
 try simp only [wB, eq_self, Nat.reduceEqDiff, reduceIte, wL, Int.toNat_natCast, Int.reduceToNat, Nat.reduceAdd, Nat.reduceMul, Nat.reduceSub, Nat.reduceLeDiff, hx]
 iterate 2 refine Ae (hq := by exact AD) ?_
 refine AZ (hq := by exact AD) ?_
 refine Ae (hq := by exact AD) ?_
 refine Al (hq := by exact AD) ?_
 refine DL (hq := by exact AD) ?_
 refine AN (by rfl) (JI (id := 2) (by simp only [wB, eq_self, Nat.reduceEqDiff, reduceIte]; rfl) (DF (by exact Dq) (by exact Dn) (by simp only [Ay, wB, eq_self, Nat.reduceEqDiff, reduceIte]; rfl) (by exact Dp) (by exact Dp) rfl (by exact Dq) (by exact Dn) (by simp only [Cj, Ay, wB, eq_self, Nat.reduceEqDiff, reduceIte, wL, Int.toNat_natCast, Int.reduceToNat, Nat.reduceAdd, Nat.reduceMul, Nat.reduceSub, Nat.reduceLeDiff, hx]; rfl) (by (first | (first | omega | decide | exact C3 (f := eI) (fun _ => rfl) _) | exact A3)) (by (first | (first | omega | decide | exact C3 (f := eI) (fun _ => rfl) _) | exact A3)) (by (first | (first | omega | decide | exact C3 (f := eI) (fun _ => rfl) _) | exact A3)) ?_))
 try simp only [Ay, wB, eq_self, Nat.reduceEqDiff, reduceIte, wL, Int.toNat_natCast, Int.reduceToNat, Nat.reduceAdd, Nat.reduceMul, Nat.reduceSub, Nat.reduceLeDiff, hx]
 refine Ab ?_
 have hx := hx0
 refine h32 _ ?_; clear h32
 refine Aa fun N33 h33 => ?_
 refine Aa fun N34 h34 => ?_
 rcases (show (c = EY l (Cm a) 0 ∧ e = EY l (Cm a) 1) ∨ (c = EY l (Cm a) 0 ∧ e ≠ EY l (Cm a) 1) ∨ c ≠ EY l (Cm a) 0 by by_cases h : c = EY l (Cm a) 0 <;> by_cases h' : e = EY l (Cm a) 1 <;> simp [h, h']) with ⟨e1, e2⟩ | ⟨e1, e2⟩ | e1
 have f1 : (c = EY l (Cm a) 0) = True := eq_true e1
 have f2 : (e = EY l (Cm a) 1) = True := eq_true e2
 have hx := And.intro @f1 (And.intro @f2 (And.intro @hwt hx0))
 refine Ad ?_
 try refine Ac ?_
 refine At (hq := by exact AD) ?_
 refine Ap (hq := by exact AD) ?_
 refine At (hq := by exact AD) ?_
 refine Ap (hq := by exact AD) ?_
 refine Al (hq := by exact AD) ?_
 refine Ae (hq := by exact AD) ?_
 refine Ie (hq := by exact G8) ?_
 refine Ic (hq := by exact G8) ?_
 refine Ie (hq := by exact G8) ?_
 refine Ic (hq := by exact G8) ?_
 refine OW (hq := by exact G8) ?_
 refine A7 (hq := by exact AD) ?_
 refine Ab ?_
 have hx := hx0
 refine h34 _ ?_; clear h34
 refine Ai (fun hb35 => ?_) (fun hb35 => ?_)
 ·first | omega | exact absurd trivial hb35 | contradiction | (simp_all; done)
 refine Am ?_
 try simp only [Af]
 refine h33 _ ?_; clear h33
 refine Aa fun N36 h36 => ?_
 refine Ad ?_
 try refine Ac ?_
 refine Ae (hq := by exact AD) ?_
 refine Ab ?_
 refine h36 _ ?_; clear h36
 refine An ?_
 try simp only [Af]
 have hr : H9 ⟨a, b, c, e⟩ l = 0 := by
  unfold H9 H4; dsimp only; rw [if_neg g1, if_neg c2, if_neg c3, if_neg (by omega), if_pos ⟨e1, e2⟩]
 rw [hr]
 refine Aj ?_
 refine ⟨[some 0], by rfl, ?_, ?_⟩
 refine Aj ?_
 exact As
 refine Aj ?_
 exact As
 have f1 : (c = EY l (Cm a) 0) = True := eq_true e1
 have f2 : (e = EY l (Cm a) 1) = False := eq_false e2
 have hx := And.intro @f1 (And.intro @f2 (And.intro @hwt hx0))
 refine Ad ?_
 try refine Ac ?_
 refine At (hq := by exact AD) ?_
 refine Ap (hq := by exact AD) ?_
 refine At (hq := by exact AD) ?_
 refine Ap (hq := by exact AD) ?_
 refine Al (hq := by exact AD) ?_
 refine Ae (hq := by exact AD) ?_
 refine Ie (hq := by exact G8) ?_
 refine Ic (hq := by exact G8) ?_
 refine Ie (hq := by exact G8) ?_
 refine Ic (hq := by exact G8) ?_
 refine OW (hq := by exact G8) ?_
 refine A7 (hq := by exact AD) ?_
 refine Ab ?_
 have hx := hx0
 refine h34 _ ?_; clear h34
 refine Ai (fun hb37 => ?_) (fun hb37 => ?_)
 refine Aa fun N38 h38 => ?_
 refine Ad ?_
 try refine Ac ?_
 refine Ae (hq := by exact AD) ?_
 refine Ab ?_
 refine h38 _ ?_; clear h38
 refine An ?_
 try simp only [Af]
 have hr : H9 ⟨a, b, c, e⟩ l = 5 := by
  unfold H9 H4; dsimp only; rw [if_neg g1, if_neg c2, if_neg c3, if_neg (by omega), if_neg (fun h => e2 h.2)]
 rw [hr]
 refine Aj ?_
 refine ⟨[some 0], by rfl, ?_, ?_⟩
 refine Aj ?_
 exact As
 refine Aj ?_
 exact As
 ·first | omega | exact absurd trivial hb37 | contradiction | (simp_all; done)
 have f1 : (c = EY l (Cm a) 0) = False := eq_false e1
 have f2 : True := trivial
 have hx := And.intro @f1 (And.intro @f2 (And.intro @hwt hx0))
 refine Ad ?_
 try refine Ac ?_
 refine At (hq := by exact AD) ?_
 refine Ap (hq := by exact AD) ?_
 refine At (hq := by exact AD) ?_
 refine Ap (hq := by exact AD) ?_
 refine Al (hq := by exact AD) ?_
 refine Ae (hq := by exact AD) ?_
 refine Ie (hq := by exact G8) ?_
 refine Ic (hq := by exact G8) ?_
 refine Ie (hq := by exact G8) ?_
 refine Ic (hq := by exact G8) ?_
 refine OW (hq := by exact G8) ?_
 refine A7 (hq := by exact AD) ?_
 refine Ab ?_
 have hx := hx0
 refine h34 _ ?_; clear h34
 refine Ai (fun hb39 => ?_) (fun hb39 => ?_)
 refine Aa fun N40 h40 => ?_
 refine Ad ?_
 try refine Ac ?_
 refine Ae (hq := by exact AD) ?_
 refine Ab ?_
 refine h40 _ ?_; clear h40
 refine An ?_
 try simp only [Af]
 have hr : H9 ⟨a, b, c, e⟩ l = 5 := by
  unfold H9 H4; dsimp only; rw [if_neg g1, if_neg c2, if_neg c3, if_neg (by omega), if_neg (fun h => e1 h.1)]
 rw [hr]
 refine Aj ?_
 refine ⟨[some 0], by rfl, ?_, ?_⟩
 refine Aj ?_
 exact As
 refine Aj ?_
 exact As
 ·first | omega | exact absurd trivial hb39 | contradiction | (simp_all; done)
 have f2 : (b = []) = False := eq_false gb
 have c2 : ¬(a = 1 ∧ FC b = false) := fun h => ga h.1
 have hx := And.intro @f1 (And.intro @f2 hx0)
 refine Ad ?_
 try refine Ac ?_
 refine At (hq := by exact AD) ?_
 refine Ap (hq := by exact AD) ?_
 refine Al (hq := by exact AD) ?_
 refine Ae (hq := by exact AD) ?_
 refine CG (hq := by exact AD) ?_
 refine CF (hq := by exact AD) ?_
 refine DW (hq := by exact AD) ?_
 refine A7 (hq := by exact AD) ?_
 refine Ae (hq := by exact AD) ?_
 refine Ar ?_ ?_
 focus (exact AP)
 refine Ar ?_ ?_
 focus (exact AP)
 refine Ar ?_ ?_
 focus (exact AP)
 refine Ar ?_ ?_
 focus (exact AP)
 refine A7 (hq := by exact AD) ?_
 refine Ab ?_
 have hx := hx0
 refine h28 _ ?_; clear h28
 refine Ai (fun hb41 => ?_) (fun hb41 => ?_)
 refine Aa fun N42 h42 => ?_
 refine Ad ?_
 try refine Ac ?_
 refine Ae (hq := by exact AD) ?_
 refine Ab ?_
 refine h42 _ ?_; clear h42
 refine An ?_
 try simp only [Af]
 have hr : H9 ⟨a, b, c, e⟩ l = 5 := by
  unfold H9 H4; dsimp only; rw [if_neg g1, if_neg c2, if_pos ⟨ga, gb⟩]
 rw [hr]
 refine Aj ?_
 refine ⟨[some 0], by rfl, ?_, ?_⟩
 refine Aj ?_
 exact As
 refine Aj ?_
 exact As
 ·first | omega | exact absurd trivial hb41 | contradiction | (simp_all; done)
 cases hg

def Ml : Bn Tryz.prog := Kn.add 33 (Spec.gen M7) QB (by kernel_rfl)
end Go.Proofs.YtmbjnkgpcbpclaaGreat
