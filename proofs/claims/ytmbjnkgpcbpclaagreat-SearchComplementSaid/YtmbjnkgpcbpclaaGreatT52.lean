/- Walks, printed by wip/gen/walk.py. -/
import Derived.Test.YtmbjnkgpcbpclaaGreatT51
import Derived.Test.YtmbjnkgpcbpclaaGreatV5
set_option linter.all false
set_option maxRecDepth 100000
set_option maxHeartbeats 4000000
namespace Go.Proofs.YtmbjnkgpcbpclaaGreat
open Go Go.Vc Go.RowKit
theorem PJ : A5 Tryz.prog 33 (Spec.gen LR) := by
 refine Bt (JI.at_ 61) Tryz.func33 rfl rfl rfl ?_
 intro args bl p r bf hg hp
 unfold LR at hg
 split at hg
 rename_i a b c e i t s xs
 simp only [Option.some.injEq, Prod.mk.injEq] at hg
 obtain ⟨rfl, rfl, rfl⟩ := hg
 obtain ⟨he, rfl, rfl, rfl, hl, hbl⟩ := hp
 generalize dI xs = l at *
 subst he
 have hsa := Oi a
 have hT : (JI).X = T := rfl
 have hx0 := And.intro @AJ (And.intro @Cu (And.intro @Ct @Tryz.results33))
 have hx := hx0
 refine ⟨Nat.le_of_ble_eq_true rfl, ?_⟩
 intro F W0 M0 hnp hmk
 have hnp : AU.np = 1 := hnp
 refine Aa fun N1 h1 => ?_
 refine Ad ?_
 try refine Ac ?_
 refine FU (hq := by exact AW) ?_
 refine Ae (hq := by exact AW) ?_
 refine Ab ?_
 refine h1 _ ?_; clear h1
 refine Aa fun N2 h2 => ?_
 refine Aa fun N3 h3 => ?_
 refine Ad ?_
 try refine Ac ?_
 refine Au (hq := by exact AW) ?_
 refine Ar (hq := by exact AW) ?_
 refine Am (hq := by exact AW) ?_
 refine Ae (hq := by exact AW) ?_
 refine HG (hq := by exact Gq) ?_
 refine HF (hq := by exact Gq) ?_
 refine Oh (hq := by exact Gq) ?_
 refine AQ (hq := by exact AW) ?_
 refine Ab ?_
 refine h3 _ ?_; clear h3
 refine Al (fun hb4 => ?_) (fun hb4 => ?_)
 have g1 : a < 1 ∨ 4 < a := by have := hb4; simpa using this
 refine Aa fun N5 h5 => ?_
 refine Ad ?_
 try refine Ac ?_
 refine Ae (hq := by exact AW) ?_
 refine Ab ?_
 refine h5 _ ?_; clear h5
 refine Ao ?_
 try simp only [Af]
 have hr : Hi ⟨a, b, c, e⟩ l = 4 := by
  unfold Hi MY; dsimp only; rw [if_pos g1]
 rw [hr]
 refine Aj ?_
 refine ⟨[some 0], by rfl, ?_, ?_⟩
 refine Aj ?_
 exact At
 refine Aj ?_
 exact At
 have g1 : ¬(a < 1 ∨ 4 < a) := by have := hb4; simpa using this
 refine An ?_
 try simp only [Af]
 refine h2 _ ?_; clear h2
 refine Aa fun N6 h6 => ?_
 refine Aa fun N7 h7 => ?_
 rcases (show a = 1 ∨ ¬a = 1 by omega) with rfl | ga
 have f1 := True.intro
 have hx := And.intro @f1 hx0
 refine Hk [62] Gm (by kernel_rfl) ?_
 try refine Ac ?_
 refine Au (hq := by exact AW) ?_
 refine Ar (hq := by exact AW) ?_
 refine Am (hq := by exact AW) ?_
 refine Ae (hq := by exact AW) ?_
 refine D7 (hq := by exact AW) ?_
 refine DJ (hq := by exact AW) ?_
 have hc := Ah (E := (JI.at_ 61)) (f := 62) (sp := Spec.pure La) rfl
 have hs := @La.eq_1
 refine TH (hq := by exact AW) ?_
 refine W8 (hq := by exact AW) ?_
 refine AQ (hq := by exact AW) ?_
 refine Ab ?_
 have hx := hx0
 refine h7 _ ?_; clear h7
 refine Al (fun hb8 => ?_) (fun hb8 => ?_)
 have g2 : Gu b = false := by have := hb8; simpa using this
 refine Aa fun N9 h9 => ?_
 refine Ad ?_
 try refine Ac ?_
 refine Ae (hq := by exact AW) ?_
 refine Ab ?_
 refine h9 _ ?_; clear h9
 refine Ao ?_
 try simp only [Af]
 have hr : Hi ⟨1, b, c, e⟩ l = 3 := by
  unfold Hi MY; dsimp only; rw [if_neg g1, if_pos ⟨rfl, g2⟩]
 rw [hr]
 refine Aj ?_
 refine ⟨[some 0], by rfl, ?_, ?_⟩
 refine Aj ?_
 exact At
 refine Aj ?_
 exact At
 have g2 : Gu b = true := by have := hb8; simpa using this
 have c2 : ¬((1 : Int) = 1 ∧ Gu b = false) := fun h => by rw [g2] at h; cases h.2
 have c3 : ¬((1 : Int) ≠ 1 ∧ b ≠ []) := fun h => h.1 rfl
 refine An ?_
 try simp only [Af]
 refine h6 _ ?_; clear h6
 refine Aa fun N10 h10 => ?_
 refine Ad ?_
 try refine Ac ?_
 refine Au (hq := by exact AW) ?_
 refine Ar (hq := by exact AW) ?_
 have hc := Ah (E := (JI.at_ 61)) (f := 34) (sp := Spec.pure Lv) rfl
 have hs := @Lv.eq_1
 refine BF (hq := by exact AW) ?_
 refine Ae (hq := by exact AW) ?_
 refine Ab ?_
 refine h10 _ ?_; clear h10
 refine Aa fun N11 h11 => ?_
 refine Aa fun N12 h12 => ?_
 refine Ad ?_
 try refine Ac ?_
 refine Au (hq := by exact AW) ?_
 refine Ar (hq := by exact AW) ?_
 refine Am (hq := by exact AW) ?_
 refine Ae (hq := by exact AW) ?_
 refine Av ?_ ?_
 focus (exact Bl)
 refine Av ?_ ?_
 focus (exact Bl)
 refine Av ?_ ?_
 focus (exact Bl)
 refine AQ (hq := by exact AW) ?_
 refine Ae (hq := by exact AW) ?_
 refine Cy (hq := by exact AW) ?_
 refine MV (hq := by exact AW) ?_
 refine Cy (hq := by exact AW) ?_
 refine Fz (hq := by exact AW) ?_
 refine AQ (hq := by exact AW) ?_
 refine Ab ?_
 refine h12 _ ?_; clear h12
 refine Al (fun hb13 => ?_) (fun hb13 => ?_)
 refine Aa fun N14 h14 => ?_
 refine Ad ?_
 try refine Ac ?_
 refine Ae (hq := by exact AW) ?_
 refine Ab ?_
 refine h14 _ ?_; clear h14
 refine Ao ?_
 try simp only [Af]
 have hr : Hi ⟨1, b, c, e⟩ l = 5 := by
  unfold Hi MY; dsimp only; rw [if_neg g1, if_neg c2, if_neg c3, if_pos (by have := hb13; (try simp at this); omega)]
 rw [hr]
 refine Aj ?_
 refine ⟨[some 0], by rfl, ?_, ?_⟩
 refine Aj ?_
 exact At
 refine Aj ?_
 exact At
 have hkl : Dh 1 ≤ l.length := by have := hb13; (try simp at this); omega
 have hwt := Pr l hkl (Oi _)
 have hsu : ((l.length : Int) - (Dh 1 : Int)).toNat = l.length - Dh 1 := by omega
 have hss : l.length - (l.length - Dh 1) = Dh 1 := by omega
 refine An ?_
 try simp only [Af]
 refine h11 _ ?_; clear h11
 refine Aa fun N15 h15 => ?_
 refine Ad ?_
 try refine Ac ?_
 refine AE (by rfl) (Gx (by exact CZ) (by simp only [List.map]; rfl) (by simp) (by decide) (by decide) ?_)
 try simp only [wB, eq_self, Nat.reduceEqDiff, reduceIte, wL, Int.toNat_natCast, Int.reduceToNat, Nat.reduceAdd, Nat.reduceMul, Nat.reduceSub, Nat.reduceLeDiff, hx]
 refine Ab ?_
 refine h15 _ ?_; clear h15
 refine Aa fun N16 h16 => ?_
 have hx := And.intro @hsu (And.intro @hss hx0)
 refine Ad ?_
 try refine Ac ?_
 refine OR (by rfl) (MJ (by exact Da) (by exact CY) (by simp only [wB, eq_self, Nat.reduceEqDiff, reduceIte]; rfl) (by exact CZ) (by exact CZ) rfl (by decide)) ?_
 try simp only [wB, eq_self, Nat.reduceEqDiff, reduceIte, wL, Int.toNat_natCast, Int.reduceToNat, Nat.reduceAdd, Nat.reduceMul, Nat.reduceSub, Nat.reduceLeDiff, hx]
 iterate 2 refine Ae (hq := by exact AW) ?_
 refine Bm (hq := by exact AW) ?_
 refine Ae (hq := by exact AW) ?_
 refine Am (hq := by exact AW) ?_
 refine DI (hq := by exact AW) ?_
 refine AE (by rfl) (Jq (id := 2) (by simp only [wB, eq_self, Nat.reduceEqDiff, reduceIte]; rfl) (D1 (by exact Da) (by exact CY) (by simp only [Ax, wB, eq_self, Nat.reduceEqDiff, reduceIte]; rfl) (by exact CZ) (by exact CZ) rfl (by exact Da) (by exact CY) (by simp only [BX, Ax, wB, eq_self, Nat.reduceEqDiff, reduceIte, wL, Int.toNat_natCast, Int.reduceToNat, Nat.reduceAdd, Nat.reduceMul, Nat.reduceSub, Nat.reduceLeDiff, hx]; rfl) (by (first | (first | omega | decide | exact Cr (f := eI) (fun _ => rfl) _) | exact Ay)) (by (first | (first | omega | decide | exact Cr (f := eI) (fun _ => rfl) _) | exact Ay)) (by (first | (first | omega | decide | exact Cr (f := eI) (fun _ => rfl) _) | exact Ay)) ?_))
 try simp only [Ax, wB, eq_self, Nat.reduceEqDiff, reduceIte, wL, Int.toNat_natCast, Int.reduceToNat, Nat.reduceAdd, Nat.reduceMul, Nat.reduceSub, Nat.reduceLeDiff, hx]
 refine Ab ?_
 have hx := hx0
 refine h16 _ ?_; clear h16
 refine Aa fun N17 h17 => ?_
 refine Aa fun N18 h18 => ?_
 rcases (show (c = EJ l (Dh 1) 0 ∧ e = EJ l (Dh 1) 1) ∨ (c = EJ l (Dh 1) 0 ∧ e ≠ EJ l (Dh 1) 1) ∨ c ≠ EJ l (Dh 1) 0 by by_cases h : c = EJ l (Dh 1) 0 <;> by_cases h' : e = EJ l (Dh 1) 1 <;> simp [h, h']) with ⟨e1, e2⟩ | ⟨e1, e2⟩ | e1
 have f1 : (c = EJ l (Dh 1) 0) = True := eq_true e1
 have f2 : (e = EJ l (Dh 1) 1) = True := eq_true e2
 have hx := And.intro @f1 (And.intro @f2 (And.intro @hwt hx0))
 refine Ad ?_
 try refine Ac ?_
 refine Au (hq := by exact AW) ?_
 refine Ar (hq := by exact AW) ?_
 refine Au (hq := by exact AW) ?_
 refine Ar (hq := by exact AW) ?_
 refine Am (hq := by exact AW) ?_
 refine Ae (hq := by exact AW) ?_
 refine HG (hq := by exact Gq) ?_
 refine HF (hq := by exact Gq) ?_
 refine HG (hq := by exact Gq) ?_
 refine HF (hq := by exact Gq) ?_
 refine Oh (hq := by exact Gq) ?_
 refine AQ (hq := by exact AW) ?_
 refine Ab ?_
 have hx := hx0
 refine h18 _ ?_; clear h18
 refine Al (fun hb19 => ?_) (fun hb19 => ?_)
 ·first | omega | exact absurd trivial hb19 | contradiction | (simp_all; done)
 refine An ?_
 try simp only [Af]
 refine h17 _ ?_; clear h17
 refine Aa fun N20 h20 => ?_
 refine Ad ?_
 try refine Ac ?_
 refine Ae (hq := by exact AW) ?_
 refine Ab ?_
 refine h20 _ ?_; clear h20
 refine Ao ?_
 try simp only [Af]
 have hr : Hi ⟨1, b, c, e⟩ l = 0 := by
  unfold Hi MY; dsimp only; rw [if_neg g1, if_neg c2, if_neg c3, if_neg (by omega), if_pos ⟨e1, e2⟩]
 rw [hr]
 refine Aj ?_
 refine ⟨[some 0], by rfl, ?_, ?_⟩
 refine Aj ?_
 exact At
 refine Aj ?_
 exact At
 have f1 : (c = EJ l (Dh 1) 0) = True := eq_true e1
 have f2 : (e = EJ l (Dh 1) 1) = False := eq_false e2
 have hx := And.intro @f1 (And.intro @f2 (And.intro @hwt hx0))
 refine Ad ?_
 try refine Ac ?_
 refine Au (hq := by exact AW) ?_
 refine Ar (hq := by exact AW) ?_
 refine Au (hq := by exact AW) ?_
 refine Ar (hq := by exact AW) ?_
 refine Am (hq := by exact AW) ?_
 refine Ae (hq := by exact AW) ?_
 refine HG (hq := by exact Gq) ?_
 refine HF (hq := by exact Gq) ?_
 refine HG (hq := by exact Gq) ?_
 refine HF (hq := by exact Gq) ?_
 refine Oh (hq := by exact Gq) ?_
 refine AQ (hq := by exact AW) ?_
 refine Ab ?_
 have hx := hx0
 refine h18 _ ?_; clear h18
 refine Al (fun hb21 => ?_) (fun hb21 => ?_)
 refine Aa fun N22 h22 => ?_
 refine Ad ?_
 try refine Ac ?_
 refine Ae (hq := by exact AW) ?_
 refine Ab ?_
 refine h22 _ ?_; clear h22
 refine Ao ?_
 try simp only [Af]
 have hr : Hi ⟨1, b, c, e⟩ l = 5 := by
  unfold Hi MY; dsimp only; rw [if_neg g1, if_neg c2, if_neg c3, if_neg (by omega), if_neg (fun h => e2 h.2)]
 rw [hr]
 refine Aj ?_
 refine ⟨[some 0], by rfl, ?_, ?_⟩
 refine Aj ?_
 exact At
 refine Aj ?_
 exact At
 ·first | omega | exact absurd trivial hb21 | contradiction | (simp_all; done)
 have f1 : (c = EJ l (Dh 1) 0) = False := eq_false e1
 have f2 : True := trivial
 have hx := And.intro @f1 (And.intro @f2 (And.intro @hwt hx0))
 refine Ad ?_
 try refine Ac ?_
 refine Au (hq := by exact AW) ?_
 refine Ar (hq := by exact AW) ?_
 refine Au (hq := by exact AW) ?_
 refine Ar (hq := by exact AW) ?_
 refine Am (hq := by exact AW) ?_
 refine Ae (hq := by exact AW) ?_
 refine HG (hq := by exact Gq) ?_
 refine HF (hq := by exact Gq) ?_
 refine HG (hq := by exact Gq) ?_
 refine HF (hq := by exact Gq) ?_
 refine Oh (hq := by exact Gq) ?_
 refine AQ (hq := by exact AW) ?_
 refine Ab ?_
 have hx := hx0
 refine h18 _ ?_; clear h18
 refine Al (fun hb23 => ?_) (fun hb23 => ?_)
 refine Aa fun N24 h24 => ?_
 refine Ad ?_
 try refine Ac ?_
 refine Ae (hq := by exact AW) ?_
 refine Ab ?_
 refine h24 _ ?_; clear h24
 refine Ao ?_
 try simp only [Af]
 have hr : Hi ⟨1, b, c, e⟩ l = 5 := by
  unfold Hi MY; dsimp only; rw [if_neg g1, if_neg c2, if_neg c3, if_neg (by omega), if_neg (fun h => e1 h.1)]
 rw [hr]
 refine Aj ?_
 refine ⟨[some 0], by rfl, ?_, ?_⟩
 refine Aj ?_
 exact At
 refine Aj ?_
 exact At
 ·first | omega | exact absurd trivial hb23 | contradiction | (simp_all; done)
 have f1 : (a = 1) = False := eq_false ga
 have hx := And.intro @f1 hx0
 refine Hk [62] Gm (by kernel_rfl) ?_
 try refine Ac ?_
 refine Au (hq := by exact AW) ?_
 refine Ar (hq := by exact AW) ?_
 refine Am (hq := by exact AW) ?_
 refine Ae (hq := by exact AW) ?_
 refine Av ?_ ?_
 focus (exact Bl)
 refine Av ?_ ?_
 focus (exact Bl)
 refine Av ?_ ?_
 focus (exact Bl)
 refine Av ?_ ?_
 focus (exact Bl)
 refine AQ (hq := by exact AW) ?_
 refine Ab ?_
 have hx := hx0
 refine h7 _ ?_; clear h7
 refine Al (fun hb25 => ?_) (fun hb25 => ?_)
 ·first | omega | exact absurd trivial hb25 | contradiction | (simp_all; done)
 refine An ?_
 try simp only [Af]
 refine h6 _ ?_; clear h6
 refine Aa fun N26 h26 => ?_
 refine Ad ?_
 try refine Ac ?_
 refine Au (hq := by exact AW) ?_
 refine Ar (hq := by exact AW) ?_
 have hc := Ah (E := (JI.at_ 61)) (f := 34) (sp := Spec.pure Lv) rfl
 have hs := @Lv.eq_1
 refine BF (hq := by exact AW) ?_
 refine Ae (hq := by exact AW) ?_
 refine Ab ?_
 refine h26 _ ?_; clear h26
 refine Aa fun N27 h27 => ?_
 refine Aa fun N28 h28 => ?_
 rcases (show b = [] ∨ b ≠ [] by by_cases h : b = []; exact .inl h; exact .inr h) with gb | gb
 have f2 : (b = []) = True := eq_true gb
 have c2 : ¬(a = 1 ∧ Gu b = false) := fun h => ga h.1
 have c3 : ¬(a ≠ 1 ∧ b ≠ []) := fun h => h.2 gb
 have hx := And.intro @f1 (And.intro @f2 hx0)
 refine Ad ?_
 try refine Ac ?_
 refine Au (hq := by exact AW) ?_
 refine Ar (hq := by exact AW) ?_
 refine Am (hq := by exact AW) ?_
 refine Ae (hq := by exact AW) ?_
 refine D7 (hq := by exact AW) ?_
 refine DJ (hq := by exact AW) ?_
 refine Fz (hq := by exact AW) ?_
 refine AQ (hq := by exact AW) ?_
 refine Ae (hq := by exact AW) ?_
 refine Cy (hq := by exact AW) ?_
 refine MV (hq := by exact AW) ?_
 refine Cy (hq := by exact AW) ?_
 refine Fz (hq := by exact AW) ?_
 refine AQ (hq := by exact AW) ?_
 refine Ab ?_
 have hx := hx0
 refine h28 _ ?_; clear h28
 refine Al (fun hb29 => ?_) (fun hb29 => ?_)
 refine Aa fun N30 h30 => ?_
 refine Ad ?_
 try refine Ac ?_
 refine Ae (hq := by exact AW) ?_
 refine Ab ?_
 refine h30 _ ?_; clear h30
 refine Ao ?_
 try simp only [Af]
 have hr : Hi ⟨a, b, c, e⟩ l = 5 := by
  unfold Hi MY; dsimp only; rw [if_neg g1, if_neg c2, if_neg c3, if_pos (by have := hb29; (try simp at this); omega)]
 rw [hr]
 refine Aj ?_
 refine ⟨[some 0], by rfl, ?_, ?_⟩
 refine Aj ?_
 exact At
 refine Aj ?_
 exact At
 have hkl : Dh a ≤ l.length := by have := hb29; (try simp at this); omega
 have hwt := Pr l hkl (Oi _)
 have hsu : ((l.length : Int) - (Dh a : Int)).toNat = l.length - Dh a := by omega
 have hss : l.length - (l.length - Dh a) = Dh a := by omega
 refine An ?_
 try simp only [Af]
 refine h27 _ ?_; clear h27
 refine Aa fun N31 h31 => ?_
 refine Ad ?_
 try refine Ac ?_
 refine AE (by rfl) (Gx (by exact CZ) (by simp only [List.map]; rfl) (by simp) (by decide) (by decide) ?_)
 try simp only [wB, eq_self, Nat.reduceEqDiff, reduceIte, wL, Int.toNat_natCast, Int.reduceToNat, Nat.reduceAdd, Nat.reduceMul, Nat.reduceSub, Nat.reduceLeDiff, hx]
 refine Ab ?_
 refine h31 _ ?_; clear h31
 refine Aa fun N32 h32 => ?_
 have hx := And.intro @hsu (And.intro @hss hx0)
 refine Ad ?_
 try refine Ac ?_
 refine OR (by rfl) (MJ (by exact Da) (by exact CY) (by simp only [wB, eq_self, Nat.reduceEqDiff, reduceIte]; rfl) (by exact CZ) (by exact CZ) rfl (by decide)) ?_
 try simp only [wB, eq_self, Nat.reduceEqDiff, reduceIte, wL, Int.toNat_natCast, Int.reduceToNat, Nat.reduceAdd, Nat.reduceMul, Nat.reduceSub, Nat.reduceLeDiff, hx]
 iterate 2 refine Ae (hq := by exact AW) ?_
 refine Bm (hq := by exact AW) ?_
 refine Ae (hq := by exact AW) ?_
 refine Am (hq := by exact AW) ?_
 refine DI (hq := by exact AW) ?_
 refine AE (by rfl) (Jq (id := 2) (by simp only [wB, eq_self, Nat.reduceEqDiff, reduceIte]; rfl) (D1 (by exact Da) (by exact CY) (by simp only [Ax, wB, eq_self, Nat.reduceEqDiff, reduceIte]; rfl) (by exact CZ) (by exact CZ) rfl (by exact Da) (by exact CY) (by simp only [BX, Ax, wB, eq_self, Nat.reduceEqDiff, reduceIte, wL, Int.toNat_natCast, Int.reduceToNat, Nat.reduceAdd, Nat.reduceMul, Nat.reduceSub, Nat.reduceLeDiff, hx]; rfl) (by (first | (first | omega | decide | exact Cr (f := eI) (fun _ => rfl) _) | exact Ay)) (by (first | (first | omega | decide | exact Cr (f := eI) (fun _ => rfl) _) | exact Ay)) (by (first | (first | omega | decide | exact Cr (f := eI) (fun _ => rfl) _) | exact Ay)) ?_))
 try simp only [Ax, wB, eq_self, Nat.reduceEqDiff, reduceIte, wL, Int.toNat_natCast, Int.reduceToNat, Nat.reduceAdd, Nat.reduceMul, Nat.reduceSub, Nat.reduceLeDiff, hx]
 refine Ab ?_
 have hx := hx0
 refine h32 _ ?_; clear h32
 refine Aa fun N33 h33 => ?_
 refine Aa fun N34 h34 => ?_
 rcases (show (c = EJ l (Dh a) 0 ∧ e = EJ l (Dh a) 1) ∨ (c = EJ l (Dh a) 0 ∧ e ≠ EJ l (Dh a) 1) ∨ c ≠ EJ l (Dh a) 0 by by_cases h : c = EJ l (Dh a) 0 <;> by_cases h' : e = EJ l (Dh a) 1 <;> simp [h, h']) with ⟨e1, e2⟩ | ⟨e1, e2⟩ | e1
 have f1 : (c = EJ l (Dh a) 0) = True := eq_true e1
 have f2 : (e = EJ l (Dh a) 1) = True := eq_true e2
 have hx := And.intro @f1 (And.intro @f2 (And.intro @hwt hx0))
 refine Ad ?_
 try refine Ac ?_
 refine Au (hq := by exact AW) ?_
 refine Ar (hq := by exact AW) ?_
 refine Au (hq := by exact AW) ?_
 refine Ar (hq := by exact AW) ?_
 refine Am (hq := by exact AW) ?_
 refine Ae (hq := by exact AW) ?_
 refine HG (hq := by exact Gq) ?_
 refine HF (hq := by exact Gq) ?_
 refine HG (hq := by exact Gq) ?_
 refine HF (hq := by exact Gq) ?_
 refine Oh (hq := by exact Gq) ?_
 refine AQ (hq := by exact AW) ?_
 refine Ab ?_
 have hx := hx0
 refine h34 _ ?_; clear h34
 refine Al (fun hb35 => ?_) (fun hb35 => ?_)
 ·first | omega | exact absurd trivial hb35 | contradiction | (simp_all; done)
 refine An ?_
 try simp only [Af]
 refine h33 _ ?_; clear h33
 refine Aa fun N36 h36 => ?_
 refine Ad ?_
 try refine Ac ?_
 refine Ae (hq := by exact AW) ?_
 refine Ab ?_
 refine h36 _ ?_; clear h36
 refine Ao ?_
 try simp only [Af]
 have hr : Hi ⟨a, b, c, e⟩ l = 0 := by
  unfold Hi MY; dsimp only; rw [if_neg g1, if_neg c2, if_neg c3, if_neg (by omega), if_pos ⟨e1, e2⟩]
 rw [hr]
 refine Aj ?_
 refine ⟨[some 0], by rfl, ?_, ?_⟩
 refine Aj ?_
 exact At
 refine Aj ?_
 exact At
 have f1 : (c = EJ l (Dh a) 0) = True := eq_true e1
 have f2 : (e = EJ l (Dh a) 1) = False := eq_false e2
 have hx := And.intro @f1 (And.intro @f2 (And.intro @hwt hx0))
 refine Ad ?_
 try refine Ac ?_
 refine Au (hq := by exact AW) ?_
 refine Ar (hq := by exact AW) ?_
 refine Au (hq := by exact AW) ?_
 refine Ar (hq := by exact AW) ?_
 refine Am (hq := by exact AW) ?_
 refine Ae (hq := by exact AW) ?_
 refine HG (hq := by exact Gq) ?_
 refine HF (hq := by exact Gq) ?_
 refine HG (hq := by exact Gq) ?_
 refine HF (hq := by exact Gq) ?_
 refine Oh (hq := by exact Gq) ?_
 refine AQ (hq := by exact AW) ?_
 refine Ab ?_
 have hx := hx0
 refine h34 _ ?_; clear h34
 refine Al (fun hb37 => ?_) (fun hb37 => ?_)
 refine Aa fun N38 h38 => ?_
 refine Ad ?_
 try refine Ac ?_
 refine Ae (hq := by exact AW) ?_
 refine Ab ?_
 refine h38 _ ?_; clear h38
 refine Ao ?_
 try simp only [Af]
 have hr : Hi ⟨a, b, c, e⟩ l = 5 := by
  unfold Hi MY; dsimp only; rw [if_neg g1, if_neg c2, if_neg c3, if_neg (by omega), if_neg (fun h => e2 h.2)]
 rw [hr]
 refine Aj ?_
 refine ⟨[some 0], by rfl, ?_, ?_⟩
 refine Aj ?_
 exact At
 refine Aj ?_
 exact At
 ·first | omega | exact absurd trivial hb37 | contradiction | (simp_all; done)
 have f1 : (c = EJ l (Dh a) 0) = False := eq_false e1
 have f2 : True := trivial
 have hx := And.intro @f1 (And.intro @f2 (And.intro @hwt hx0))
 refine Ad ?_
 try refine Ac ?_
 refine Au (hq := by exact AW) ?_
 refine Ar (hq := by exact AW) ?_
 refine Au (hq := by exact AW) ?_
 refine Ar (hq := by exact AW) ?_
 refine Am (hq := by exact AW) ?_
 refine Ae (hq := by exact AW) ?_
 refine HG (hq := by exact Gq) ?_
 refine HF (hq := by exact Gq) ?_
 refine HG (hq := by exact Gq) ?_
 refine HF (hq := by exact Gq) ?_
 refine Oh (hq := by exact Gq) ?_
 refine AQ (hq := by exact AW) ?_
 refine Ab ?_
 have hx := hx0
 refine h34 _ ?_; clear h34
 refine Al (fun hb39 => ?_) (fun hb39 => ?_)
 refine Aa fun N40 h40 => ?_
 refine Ad ?_
 try refine Ac ?_
 refine Ae (hq := by exact AW) ?_
 refine Ab ?_
 refine h40 _ ?_; clear h40
 refine Ao ?_
 try simp only [Af]
 have hr : Hi ⟨a, b, c, e⟩ l = 5 := by
  unfold Hi MY; dsimp only; rw [if_neg g1, if_neg c2, if_neg c3, if_neg (by omega), if_neg (fun h => e1 h.1)]
 rw [hr]
 refine Aj ?_
 refine ⟨[some 0], by rfl, ?_, ?_⟩
 refine Aj ?_
 exact At
 refine Aj ?_
 exact At
 ·first | omega | exact absurd trivial hb39 | contradiction | (simp_all; done)
 have f2 : (b = []) = False := eq_false gb
 have c2 : ¬(a = 1 ∧ Gu b = false) := fun h => ga h.1
 have hx := And.intro @f1 (And.intro @f2 hx0)
 refine Ad ?_
 try refine Ac ?_
 refine Au (hq := by exact AW) ?_
 refine Ar (hq := by exact AW) ?_
 refine Am (hq := by exact AW) ?_
 refine Ae (hq := by exact AW) ?_
 refine D7 (hq := by exact AW) ?_
 refine DJ (hq := by exact AW) ?_
 refine Fz (hq := by exact AW) ?_
 refine AQ (hq := by exact AW) ?_
 refine Ae (hq := by exact AW) ?_
 refine Av ?_ ?_
 focus (exact Bl)
 refine Av ?_ ?_
 focus (exact Bl)
 refine Av ?_ ?_
 focus (exact Bl)
 refine Av ?_ ?_
 focus (exact Bl)
 refine AQ (hq := by exact AW) ?_
 refine Ab ?_
 have hx := hx0
 refine h28 _ ?_; clear h28
 refine Al (fun hb41 => ?_) (fun hb41 => ?_)
 refine Aa fun N42 h42 => ?_
 refine Ad ?_
 try refine Ac ?_
 refine Ae (hq := by exact AW) ?_
 refine Ab ?_
 refine h42 _ ?_; clear h42
 refine Ao ?_
 try simp only [Af]
 have hr : Hi ⟨a, b, c, e⟩ l = 5 := by
  unfold Hi MY; dsimp only; rw [if_neg g1, if_neg c2, if_pos ⟨ga, gb⟩]
 rw [hr]
 refine Aj ?_
 refine ⟨[some 0], by rfl, ?_, ?_⟩
 refine Aj ?_
 exact At
 refine Aj ?_
 exact At
 ·first | omega | exact absurd trivial hb41 | contradiction | (simp_all; done)
 cases hg

def L8 : Bo Tryz.prog := JI.add 33 (Spec.gen LR) PJ (by kernel_rfl)
end Go.Proofs.YtmbjnkgpcbpclaaGreat
