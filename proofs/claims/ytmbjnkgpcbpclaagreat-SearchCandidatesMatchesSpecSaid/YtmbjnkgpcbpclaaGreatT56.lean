/- Walks, printed by wip/gen/walk.py. -/
import Derived.Test.YtmbjnkgpcbpclaaGreatT55
import Derived.Test.YtmbjnkgpcbpclaaGreatV5
set_option linter.all false
set_option maxRecDepth 100000
set_option maxHeartbeats 4000000
namespace Go.Proofs.YtmbjnkgpcbpclaaGreat
open Go Go.Vc Go.RowKit
theorem Lm {q : List Sn} {i : Nat} (h : i ≤ q.length) : (E3 (D4 q) i).length = i := IE (by rw [CX]; exact h)
theorem Sq {q : List Sn} {i : Nat} {x : Sn} (h : q[i]? = some x) : E3 (D4 q) (i + 1) = E3 (D4 q) i ++ [Cm x.kd] := by
  have : (D4 q)[i]? = some (nM x) := by unfold D4; rw [List.getElem?_map, h]; rfl
  rw [Sr this]
  show _ ++ [ar (kM x.kd)] = _
  rw [Mv]
theorem Y4 {q : List Sn} {i : Nat} (hi : i < q.length) : EQ (E3 (D4 q) (i + 1)) = JN (CI q i) (Cm (q.getD i default).kd) := by
  rw [Wm (by rw [CX]; omega), Wx hi]; rfl
theorem YZ {q : List Sn} {i m : Nat} (hm : m ≤ i) (hi : i ≤ q.length) (h : ∀ j, j < m → BR q j = 0) : Xf (E3 (D4 q) i) m := Yf hm (by rw [CX]; exact hi) fun j hj => LP (by omega) (h j hj)
theorem Su {q : List Sn} (h1 : 1 ≤ q.length) (h : ∀ j, j < q.length → BR q j = 0) : EQ (E3 (D4 q) q.length) = false := by
  have := UZ (q := D4 q) (by rw [CX]; exact h1) fun j hj => LP (by rw [CX] at hj; exact hj) (h j (by rw [CX] at hj; exact hj))
  rwa [CX] at this
theorem Pg {q : List Sn} {i : Nat} (hi : i ≤ q.length) (hb : EQ (E3 (D4 q) i) = false) : Uv (E3 (D4 q) i) = -1 ∧ W3 (E3 (D4 q) i) = CI q i := Ys (by rw [CX]; exact hi) hb
theorem PY {q : List Sn} {i : Nat} (hi : i + 1 ≤ q.length) (hb : EQ (E3 (D4 q) (i + 1)) = true) : Uv (E3 (D4 q) (i + 1)) = (i : Int) := Xs (by rw [CX]; exact hi) hb
theorem TJ {q : List Sn} {i a : Nat} (h40 : q.length ≤ 40) (hi : i + 1 ≤ q.length) (h : ∀ j, j < i → BR q j = 0) (ha : a ≤ 2) (hb : JN (CI q i) a = false) :
    (((a : Nat) : Int) = 2 → 1 ≤ (i : Int) ∧ (CI q (i + 1)).getD (((i : Nat) : Int).toNat - 1) 0 ≤ 1000) ∧
    (if ((a : Nat) : Int) = 1 then (i : Int) - 1 else if ((a : Nat) : Int) = 2 then (i : Int) - 1 - ((CI q (i + 1)).getD (((i : Nat) : Int).toNat - 1) 0 : Nat) else 0) = JV (CI q i) a ∧
    (if ((a : Nat) : Int) = 2 then (i : Int) - 1 else 0) = Mh (CI q i) a := Yg (by rw [CX]; exact h40) (by rw [CX]; exact hi) (fun j hj => LP (by omega) (h j hj)) ha hb
theorem VD {b : Bs} (h : (decide (1 ≤ (b.length : Int)) && decide ((b.length : Int) ≤ 80)) = false) : FC b = false := by
  unfold FC
  rw [Bool.and_eq_false_iff, decide_eq_false_iff_not, decide_eq_false_iff_not] at h
  have : (decide (1 ≤ b.length) && decide (b.length ≤ 80)) = false := by rw [Bool.and_eq_false_iff, decide_eq_false_iff_not, decide_eq_false_iff_not]; omega
  rw [this]; rfl
theorem RK (a : Int) (u h : Bool) : ¬a = 1 ∨ (a = 1 ∧ u = false) ∨ (a = 1 ∧ u = true ∧ h = true) ∨ (a = 1 ∧ u = true ∧ h = false) := by
  by_cases ha : a = 1
  · cases u <;> cases h <;> simp [ha]
  · exact .inl ha
theorem TG {b : Bs} (h : (decide (1 ≤ (b.length : Int)) && decide ((b.length : Int) ≤ 80)) = true) : b.length ≤ 80 := by
  rw [Bool.and_eq_true, decide_eq_true_eq, decide_eq_true_eq] at h; omega
theorem TH {b : Bs} (h : (decide (1 ≤ (b.length : Int)) && decide ((b.length : Int) ≤ 80)) = true) : FC b = !(DS b [10]) := by
  unfold FC
  rw [Bool.and_eq_true, decide_eq_true_eq, decide_eq_true_eq] at h
  rw [decide_eq_true (p := 1 ≤ b.length) (by omega), decide_eq_true (p := b.length ≤ 80) (by omega), P7]; rfl

theorem Nr : A1 Tryz.prog 12 (Spec.pure Hz) := by
 refine Az (Ck.at_ 115) Tryz.func12 rfl rfl rfl ?_
 intro args p r hg hp
 unfold Hz at hg
 split at hg
 rename_i xs
 simp only [Option.some.injEq, Prod.mk.injEq] at hg
 obtain ⟨rfl, rfl⟩ := hg
 obtain ⟨he, hl, hbg⟩ := hp
 generalize Cz xs = q at *
 subst he
 have hT : (Ck).X = T := rfl
 have hx0 := And.intro @BQ (And.intro @AY (And.intro @Lw (And.intro @Me (And.intro @Ci (And.intro @Ch @Tryz.results12)))))
 have hx := hx0
 refine ⟨by rfl, ?_⟩
 intro F W0 hnp hmk
 refine Aa fun N1 h1 => ?_
 refine Ad ?_
 try refine Ac ?_
 refine EX ?_
 refine Bw ?_
 refine Ab ?_
 refine h1 _ ?_; clear h1
 refine Aa fun N2 h2 => ?_
 refine Aa fun N3 h3 => ?_
 refine Ad ?_
 try refine Ac ?_
 refine At ?_
 refine Ap ?_
 refine AZ ?_
 have hc := Ag (E := (Ck.at_ 115)) (f := 35) (sp := Spec.pure O0) rfl
 have hs := @O0.eq_1
 refine AS ?_
 refine Gl ?_
 refine Ab ?_
 refine h3 _ ?_; clear h3
 refine Ai (fun hb4 => ?_) (fun hb4 => ?_)
 refine Aa fun N5 h5 => ?_
 refine Ad ?_
 try refine Ac ?_
 have hc := Ag (E := (Ck.at_ 115)) (f := 21) (sp := Spec.pure AH) rfl
 have hs := @AH.eq_1
 refine AS ?_
 refine A4 ?_
 refine Ab ?_
 refine h5 _ ?_; clear h5
 refine An ?_
 try simp only [Af]
 have hr : Ki q = (9, -1) := by unfold Ki; rw [if_pos (by have := hb4; simpa using this)]
 rw [hr]
 refine Ax ?_
 exact As
 have h1 : 1 ≤ q.length := by have := hb4; (try simp at this); omega
 have h40 : q.length ≤ 40 := by have := hb4; (try simp at this); omega
 refine Am ?_
 try simp only [Af]
 refine h2 _ ?_; clear h2
 refine Aa fun N6 h6 => ?_
 refine Ad ?_
 try refine Ac ?_
 refine Ae ?_
 refine Ab ?_
 refine h6 _ ?_; clear h6
 refine Aa fun N7 h7 => ?_
 refine Aa fun N8 h8 => ?_
 refine Ad ?_
 try refine Ac ?_
 refine Ae ?_
 refine Ab ?_
 refine h8 _ ?_; clear h8
 refine Au ?_
 refine A0 (σ := Nat) (fun s => (fun i => i ≤ q.length ∧ ∀ j, j < i → BR q j = 0) s)
  (fun s => (fun i => [(1, .ptr 0 0 0), (2, .ptr 1 0 0), (3, .sl 2 0 i), (4, .d (.int .i64 (i : Nat)))]) s)
  (fun s => (fun i => [some (.one 25 [.d (.sl (rows DR q))]), some (.one 29 [.d (.int .i64 0), .d (.int .i64 0)]), some (.vec 3 1 (rows eI (zI (E3 (D4 q) i))))]) s) (fun s => (fun i => q.length - i) s) hnp 0 ?_ [some 0, some 1, none] ?_ ?_
 dsimp only
 exact ⟨by omega, fun j hj => by omega⟩
 dsimp only
 refine ⟨by rfl, ?_, ?_⟩
 refine Aj ?_
 exact As
 refine Aj ?_
 exact As
 rintro i hinv N9 h9
 dsimp only at hinv ⊢
 obtain ⟨i1, i2⟩ := hinv
 refine Aa fun N10 h10 => ?_
 refine Aa fun N11 h11 => ?_
 refine Ad ?_
 try refine Ac ?_
 refine Ae ?_
 refine At ?_
 refine Ap ?_
 refine AZ ?_
 refine Al ?_
 refine Ab ?_
 refine h11 _ ?_; clear h11
 refine Ai (fun hb12 => ?_) (fun hb12 => ?_)
 have hiq : i < q.length := by have := hb12; omega
 obtain ⟨x, hxe⟩ := BG (l := q) (i := i) hiq
 have hxd : q.getD i default = x := by rw [List.getD_eq_getElem?_getD, hxe]; rfl
 have hbx := hbg x (AE hxe)
 have hal := Lm (q := q) (i := i) (by omega)
 have hal1 := Lm (q := q) (i := i + 1) (by omega)
 have has := Sq hxe
 have hzs := Qf (E3 (D4 q) i) (Cm x.kd)
 have hzt := IL (E3 (D4 q) i)
 rw [hal] at hzt
 have har := LS x.kd
 have hbq := Y4 (q := q) (i := i) hiq
 rw [hxd] at hbq
 have hokA : Xf (E3 (D4 q) (i + 1)) ((E3 (D4 q) (i + 1)).length - 1) := by rw [hal1]; exact YZ (by omega) (by omega) i2
 have hsl : (CI q (i + 1)).length = i + 1 := Ec _ _
 obtain ⟨a, b, c, d⟩ := x
 dsimp only at has hzs har hbq hbx
 have hsx : rows eI (List.take i (zI (E3 (D4 q) i))) ++ [[D.int IntKind.i64 ((Cm a : Nat) : Int)]] = rows eI (zI (E3 (D4 q) (i + 1))) := by rw [hzt, hzs, ← has]
 refine Am ?_
 try simp only [Af]
 refine h10 _ ?_; clear h10
 refine Aa fun N13 h13 => ?_
 refine Au ?_
 refine Aa fun N14 h14 => ?_
 have hx := And.intro @hxe (And.intro @DR.eq_1 hx0)
 refine Ad ?_
 try refine Ac ?_
 refine At ?_
 refine Ap ?_
 refine Ae ?_
 refine At ?_
 refine Ap ?_
 refine Bw ?_
 refine A4 ?_
 refine Ab ?_
 have hx := hx0
 refine h14 _ ?_; clear h14
 refine Aa fun N15 h15 => ?_
 refine Aa fun N16 h16 => ?_
 refine Ad ?_
 try refine Ac ?_
 refine At ?_
 refine Ap ?_
 have hc := Ag (E := (Ck.at_ 115)) (f := 35) (sp := Spec.pure O0) rfl
 have hs := @O0.eq_1
 refine AS ?_
 refine Gl ?_
 refine Ab ?_
 refine h16 _ ?_; clear h16
 refine Ai (fun hb17 => ?_) (fun hb17 => ?_)
 have g1 : a < 1 ∨ 4 < a := by have := hb17; (try simp at this); omega
 refine Aa fun N18 h18 => ?_
 refine Ad ?_
 try refine Ac ?_
 refine Ae ?_
 have hc := Ag (E := (Ck.at_ 115)) (f := 21) (sp := Spec.pure AH) rfl
 have hs := @AH.eq_1
 refine AS ?_
 refine A4 ?_
 refine Ab ?_
 refine h18 _ ?_; clear h18
 refine An ?_
 try simp only [Af]
 have hrc : BR q i = 4 := by
  unfold BR H4; rw [hxd]; dsimp only; rw [if_pos g1]
 have hr := DZ h1 h40 hiq i2 hrc (by decide)
 rw [hr]
 refine Ax ?_
 exact As
 have g1 : ¬(a < 1 ∨ 4 < a) := by have := hb17; (try simp at this); omega
 refine Am ?_
 try simp only [Af]
 refine h15 _ ?_; clear h15
 refine Aa fun N19 h19 => ?_
 refine Aa fun N20 h20 => ?_
 rcases RK a (decide (1 ≤ (b.length : Int)) && decide ((b.length : Int) ≤ 80)) (DS b [10]) with ga | ⟨ga, f2⟩ | ⟨ga, f2, f3⟩ | ⟨ga, f2, f3⟩
 have f1 : (a = 1) = False := eq_false ga
 have f2 := True.intro
 have f3 := True.intro
 have c2 : ¬(a = 1 ∧ FC b = false) := fun h => ga h.1
 have hx := And.intro @f1 (And.intro @f2 (And.intro @f3 hx0))
 refine Ad ?_
 try refine Ac ?_
 refine At ?_
 refine Ap ?_
 refine Al ?_
 refine Ae ?_
 refine Ar ?_ ?_
 focus (exact AP)
 refine Ar ?_ ?_
 focus (exact AP)
 refine Ar ?_ ?_
 focus (exact AP)
 refine Ar ?_ ?_
 focus (exact AP)
 refine Ar ?_ ?_
 focus (exact AP)
 refine Ar ?_ ?_
 focus (exact AP)
 refine Ar ?_ ?_
 focus (exact AP)
 refine Ar ?_ ?_
 focus (exact AP)
 refine Ar ?_ ?_
 focus (exact AP)
 refine Ar ?_ ?_
 focus (exact AP)
 refine A7 ?_
 refine Ab ?_
 have hx := hx0
 refine h20 _ ?_; clear h20
 refine Ai (fun hb21 => ?_) (fun hb21 => ?_)
 ·first | omega | exact absurd trivial hb21 | contradiction | (simp_all; done)
 refine Am ?_
 try simp only [Af]
 refine h19 _ ?_; clear h19
 refine Aa fun N22 h22 => ?_
 refine F8 [37] Fw (by kernel_rfl) ?_
 try refine Ac ?_
 refine Ae ?_
 refine At ?_
 refine Ap ?_
 have hc := Ag (E := (Ck.at_ 115)) (f := 37) (sp := Spec.pure Fk) rfl
 have hs := @Fk.eq_1
 refine AS ?_
 refine FH ?_
 refine Ih ?_
 refine Ae ?_
 refine Ab ?_
 refine h22 _ ?_; clear h22
 refine Aa fun N23 h23 => ?_
 rcases (show EQ (E3 (D4 q) (i + 1)) = false ∨ EQ (E3 (D4 q) (i + 1)) = true by cases EQ (E3 (D4 q) (i + 1)) <;> simp) with hb | hb
 obtain ⟨hsX, hsO⟩ := Pg (q := q) (i := i + 1) (by omega) hb
 have hsb := hbq.symm.trans hb
 obtain ⟨ho1, ho2, ho3⟩ := TJ (q := q) (i := i) h40 (by omega) i2 har hsb
 have hx := And.intro @hsx (And.intro @hsX (And.intro @hsO hx0))
 refine Ad ?_
 try refine Ac ?_
 refine Ae ?_
 have hc := Ag (E := (Ck.at_ 115)) (f := 38) (sp := Spec.gen Ig) rfl
 have hs := @Ig.eq_1
 refine B8 (hq := by (first | ((repeat' apply And.intro) <;> first | rfl | omega | exact Gq | exact hokA) | exact A3)) ?_
 refine Ae ?_
 iterate 2 refine Dz ?_
 iterate 2 refine Ae ?_
 refine Ab ?_
 have hx := hx0
 refine h23 _ ?_; clear h23
 refine Aa fun N24 h24 => ?_
 refine Aa fun N25 h25 => ?_
 have ng1 : ((0 : Int) ≤ -1) = False := eq_false (by decide)
 rcases (show b = [] ∨ b ≠ [] by by_cases h : b = []; exact .inl h; exact .inr h) with gb | gb
 have f4 : (b = []) = True := eq_true gb
 have c3 : ¬(a ≠ 1 ∧ b ≠ []) := fun h => h.2 gb
 have hx := And.intro @f1 (And.intro @f4 (And.intro @ng1 hx0))
 refine Ad ?_
 try refine Ac ?_
 refine Ae ?_
 refine Al ?_
 refine Ae ?_
 refine CG ?_
 refine CF ?_
 refine DW ?_
 refine Cl ?_
 refine CG ?_
 refine CF ?_
 refine DW ?_
 refine H6 ?_
 refine A7 ?_
 refine Ab ?_
 have hx := hx0
 refine h25 _ ?_; clear h25
 refine Ai (fun hb26 => ?_) (fun hb26 => ?_)
 ·first | omega | exact absurd trivial hb26 | contradiction | (simp_all; done)
 refine Am ?_
 try simp only [Af]
 refine h24 _ ?_; clear h24
 refine Aa fun N27 h27 => ?_
 have hx := And.intro @ho2 (And.intro @ho3 hx0)
 refine Ad ?_
 try refine Ac ?_
 refine At ?_
 refine Ap ?_
 have hc := Ag (E := (Ck.at_ 115)) (f := 37) (sp := Spec.pure Fk) rfl
 have hs := @Fk.eq_1
 refine AS ?_
 iterate 2 refine Ae ?_
 have hc := Ag (E := (Ck.at_ 115)) (f := 39) (sp := Spec.pure ON) rfl
 have hs := @ON.eq_1
 refine AS (hq := by (first | ((repeat' apply And.intro) <;> first | rfl | omega | exact ho1) | exact A3)) ?_
 refine Ae ?_
 iterate 2 refine Dz ?_
 iterate 2 refine Ae ?_
 refine Ab ?_
 have hx := hx0
 refine h27 _ ?_; clear h27
 refine Aa fun N28 h28 => ?_
 rcases (show (c = JV (CI q i) (Cm a) ∧ d = Mh (CI q i) (Cm a)) ∨ (c = JV (CI q i) (Cm a) ∧ d ≠ Mh (CI q i) (Cm a)) ∨ c ≠ JV (CI q i) (Cm a) by by_cases h : c = JV (CI q i) (Cm a) <;> by_cases h' : d = Mh (CI q i) (Cm a) <;> simp [h, h']) with ⟨e1, e2⟩ | ⟨e1, e2⟩ | e1
 have f1 : (c = JV (CI q i) (Cm a)) = True := eq_true e1
 have f2 : (d = Mh (CI q i) (Cm a)) = True := eq_true e2
 have hx := And.intro @f1 (And.intro @f2 hx0)
 refine Ad ?_
 try refine Ac ?_
 refine At ?_
 refine Ap ?_
 refine Ae ?_
 refine Al ?_
 refine Ae ?_
 refine AK ?_
 refine AJ ?_
 refine BI ?_
 refine B7 ?_
 refine A7 ?_
 refine Ab ?_
 have hx := hx0
 refine h28 _ ?_; clear h28
 refine Ai (fun hb29 => ?_) (fun hb29 => ?_)
 ·first | omega | exact absurd trivial hb29 | contradiction | (simp_all; done)
 refine Am ?_
 try simp only [Af]
 refine h13 _ ?_; clear h13
 refine Ad ?_
 try refine Ac ?_
 refine Ae ?_
 refine Al ?_
 refine Ae ?_
 refine Ab ?_
 have hrc : BR q i = 0 := by
  unfold BR H4; rw [hxd]; dsimp only; rw [if_neg g1, if_neg c2, if_neg c3, if_neg (by rw [hsb]; simp), if_pos ⟨e1, e2⟩]
 refine h9 _ ⟨i + 1, ?_, ?_, [some 0, some 1, some 5], ?_⟩
 dsimp only
 exact ⟨by omega, De i2 hrc⟩
 dsimp only
 omega
 dsimp only
 refine ⟨by rfl, ?_, ?_⟩
 refine Aj ?_
 ·(repeat' apply And.intro) <;> (first | (first | rfl | trivial | omega | (rw [hsx]; done) | exact Or.inl rfl) | exact As)
 refine Aj ?_
 ·(repeat' apply And.intro) <;> (first | (first | rfl | trivial | omega | (rw [hsx]; done) | exact Or.inl rfl) | exact As)
 have f1 : (c = JV (CI q i) (Cm a)) = True := eq_true e1
 have f2 : (d = Mh (CI q i) (Cm a)) = False := eq_false e2
 have hx := And.intro @f1 (And.intro @f2 hx0)
 refine Ad ?_
 try refine Ac ?_
 refine At ?_
 refine Ap ?_
 refine Ae ?_
 refine Al ?_
 refine Ae ?_
 refine AK ?_
 refine AJ ?_
 refine BI ?_
 refine B7 ?_
 refine A7 ?_
 refine Ab ?_
 have hx := hx0
 refine h28 _ ?_; clear h28
 refine Ai (fun hb30 => ?_) (fun hb30 => ?_)
 refine Aa fun N31 h31 => ?_
 refine Ad ?_
 try refine Ac ?_
 refine Ae ?_
 have hc := Ag (E := (Ck.at_ 115)) (f := 21) (sp := Spec.pure AH) rfl
 have hs := @AH.eq_1
 refine AS ?_
 refine A4 ?_
 refine Ab ?_
 refine h31 _ ?_; clear h31
 refine An ?_
 try simp only [Af]
 have hrc : BR q i = 5 := by
  unfold BR H4; rw [hxd]; dsimp only; rw [if_neg g1, if_neg c2, if_neg c3, if_neg (by rw [hsb]; simp), if_neg (fun h => e2 h.2)]
 have hr := DZ h1 h40 hiq i2 hrc (by decide)
 rw [hr]
 refine Ax ?_
 exact As
 ·first | omega | exact absurd trivial hb30 | contradiction | (simp_all; done)
 have f1 : (c = JV (CI q i) (Cm a)) = False := eq_false e1
 have f2 : True := trivial
 have hx := And.intro @f1 (And.intro @f2 hx0)
 refine Ad ?_
 try refine Ac ?_
 refine At ?_
 refine Ap ?_
 refine Ae ?_
 refine Al ?_
 refine Ae ?_
 refine AK ?_
 refine AJ ?_
 refine BI ?_
 refine B7 ?_
 refine A7 ?_
 refine Ab ?_
 have hx := hx0
 refine h28 _ ?_; clear h28
 refine Ai (fun hb32 => ?_) (fun hb32 => ?_)
 refine Aa fun N33 h33 => ?_
 refine Ad ?_
 try refine Ac ?_
 refine Ae ?_
 have hc := Ag (E := (Ck.at_ 115)) (f := 21) (sp := Spec.pure AH) rfl
 have hs := @AH.eq_1
 refine AS ?_
 refine A4 ?_
 refine Ab ?_
 refine h33 _ ?_; clear h33
 refine An ?_
 try simp only [Af]
 have hrc : BR q i = 5 := by
  unfold BR H4; rw [hxd]; dsimp only; rw [if_neg g1, if_neg c2, if_neg c3, if_neg (by rw [hsb]; simp), if_neg (fun h => e1 h.1)]
 have hr := DZ h1 h40 hiq i2 hrc (by decide)
 rw [hr]
 refine Ax ?_
 exact As
 ·first | omega | exact absurd trivial hb32 | contradiction | (simp_all; done)
 have f4 : (b = []) = False := eq_false gb
 have hx := And.intro @f1 (And.intro @f4 (And.intro @ng1 hx0))
 refine Ad ?_
 try refine Ac ?_
 refine Ae ?_
 refine Al ?_
 refine Ae ?_
 refine CG ?_
 refine CF ?_
 refine DW ?_
 refine Cl ?_
 refine CG ?_
 refine CF ?_
 refine DW ?_
 refine H6 ?_
 refine A7 ?_
 refine Ab ?_
 have hx := hx0
 refine h25 _ ?_; clear h25
 refine Ai (fun hb34 => ?_) (fun hb34 => ?_)
 refine Aa fun N35 h35 => ?_
 refine Ad ?_
 try refine Ac ?_
 refine Ae ?_
 have hc := Ag (E := (Ck.at_ 115)) (f := 21) (sp := Spec.pure AH) rfl
 have hs := @AH.eq_1
 refine AS ?_
 refine A4 ?_
 refine Ab ?_
 refine h35 _ ?_; clear h35
 refine An ?_
 try simp only [Af]
 have hrc : BR q i = 5 := by
  unfold BR H4; rw [hxd]; dsimp only; rw [if_neg g1, if_neg c2, if_pos ⟨ga, gb⟩]
 have hr := DZ h1 h40 hiq i2 hrc (by decide)
 rw [hr]
 refine Ax ?_
 exact As
 ·first | omega | exact absurd trivial hb34 | contradiction | (simp_all; done)
 have hsX := PY (q := q) (i := i) (by omega) hb
 have hsO : True := trivial
 have hsb := hbq.symm.trans hb
 have hx := And.intro @hsx (And.intro @hsX (And.intro @hsO hx0))
 refine Ad ?_
 try refine Ac ?_
 refine Ae ?_
 have hc := Ag (E := (Ck.at_ 115)) (f := 38) (sp := Spec.gen Ig) rfl
 have hs := @Ig.eq_1
 refine B8 (hq := by (first | ((repeat' apply And.intro) <;> first | rfl | omega | exact Gq | exact hokA) | exact A3)) ?_
 refine Ae ?_
 iterate 2 refine Dz ?_
 iterate 2 refine Ae ?_
 refine Ab ?_
 have hx := hx0
 refine h23 _ ?_; clear h23
 refine Aa fun N36 h36 => ?_
 refine Aa fun N37 h37 => ?_
 have ng2 : ((0 : Int) ≤ (i : Int)) = True := eq_true (by omega)
 have hx := And.intro @ng2 hx0
 refine Ad ?_
 try refine Ac ?_
 refine Ae ?_
 refine Al ?_
 refine Ae ?_
 refine Ar ?_ ?_
 focus (exact AP)
 refine Ar ?_ ?_
 focus (exact AP)
 refine Ar ?_ ?_
 focus (exact AP)
 refine Ar ?_ ?_
 focus (exact AP)
 refine Ar ?_ ?_
 focus (exact AP)
 refine Ar ?_ ?_
 focus (exact AP)
 refine Ar ?_ ?_
 focus (exact AP)
 refine Ar ?_ ?_
 focus (exact AP)
 refine A7 ?_
 refine Ab ?_
 have hx := hx0
 refine h37 _ ?_; clear h37
 refine Ai (fun hb38 => ?_) (fun hb38 => ?_)
 refine Aa fun N39 h39 => ?_
 refine Ad ?_
 try refine Ac ?_
 refine Ae ?_
 have hc := Ag (E := (Ck.at_ 115)) (f := 21) (sp := Spec.pure AH) rfl
 have hs := @AH.eq_1
 refine AS ?_
 refine A4 ?_
 refine Ab ?_
 refine h39 _ ?_; clear h39
 refine An ?_
 try simp only [Af]
 have hrc : BR q i = 5 := by
  unfold BR H4; rw [hxd]; dsimp only; rw [if_neg g1, if_neg c2, if_pos hsb, ite_self]
 have hr := DZ h1 h40 hiq i2 hrc (by decide)
 rw [hr]
 refine Ax ?_
 exact As
 ·first | omega | exact absurd trivial hb38 | contradiction | (simp_all; done)
 have f1 : (a = 1) = True := eq_true ga
 have f3 := True.intro
 have hkt := VD f2
 have hx := And.intro @f1 (And.intro @f2 (And.intro @f3 hx0))
 refine Ad ?_
 try refine Ac ?_
 refine At ?_
 refine Ap ?_
 refine Al ?_
 refine Ae ?_
 refine CG ?_
 refine CF ?_
 refine JR ?_
 have hc := Ag (E := (Ck.at_ 115)) (f := 35) (sp := Spec.pure O0) rfl
 have hs := @O0.eq_1
 refine Kl ?_
 refine U9 ?_
 refine Cl ?_
 refine Ar ?_ ?_
 focus (exact AP)
 refine Ar ?_ ?_
 focus (exact AP)
 refine Ar ?_ ?_
 focus (exact AP)
 refine H6 ?_
 refine A7 ?_
 refine Ab ?_
 have hx := hx0
 refine h20 _ ?_; clear h20
 refine Ai (fun hb40 => ?_) (fun hb40 => ?_)
 refine Aa fun N41 h41 => ?_
 refine Ad ?_
 try refine Ac ?_
 refine Ae ?_
 have hc := Ag (E := (Ck.at_ 115)) (f := 21) (sp := Spec.pure AH) rfl
 have hs := @AH.eq_1
 refine AS ?_
 refine A4 ?_
 refine Ab ?_
 refine h41 _ ?_; clear h41
 refine An ?_
 try simp only [Af]
 have hrc : BR q i = 3 := by
  unfold BR H4; rw [hxd]; dsimp only; rw [if_neg g1, if_pos ⟨ga, hkt⟩]
 have hr := DZ h1 h40 hiq i2 hrc (by decide)
 rw [hr]
 refine Ax ?_
 exact As
 ·first | omega | exact absurd trivial hb40 | contradiction | (simp_all; done)
 have f1 : (a = 1) = True := eq_true ga
 have hkt := TH f2
 have hb80 := TG f2
 rw [f3] at hkt
 have hx := And.intro @f1 (And.intro @f2 (And.intro @f3 hx0))
 refine Ad ?_
 try refine Ac ?_
 refine At ?_
 refine Ap ?_
 refine Al ?_
 refine Ae ?_
 refine CG ?_
 refine CF ?_
 refine JR ?_
 have hc := Ag (E := (Ck.at_ 115)) (f := 35) (sp := Spec.pure O0) rfl
 have hs := @O0.eq_1
 refine Kl ?_
 refine U9 ?_
 refine Cl ?_
 refine CG ?_
 refine CF ?_
 have hc := Ag (E := (Ck.at_ 115)) (f := 36) (sp := Spec.pure Jo) rfl
 have hs := @Jo.eq_1
 refine Kl (hq := by (first | ((repeat' apply And.intro) <;> first | rfl | omega | (simp; done) | (simp; omega)) | exact A3)) ?_
 refine H6 ?_
 refine A7 ?_
 refine Ab ?_
 have hx := hx0
 refine h20 _ ?_; clear h20
 refine Ai (fun hb42 => ?_) (fun hb42 => ?_)
 refine Aa fun N43 h43 => ?_
 refine Ad ?_
 try refine Ac ?_
 refine Ae ?_
 have hc := Ag (E := (Ck.at_ 115)) (f := 21) (sp := Spec.pure AH) rfl
 have hs := @AH.eq_1
 refine AS ?_
 refine A4 ?_
 refine Ab ?_
 refine h43 _ ?_; clear h43
 refine An ?_
 try simp only [Af]
 have hrc : BR q i = 3 := by
  unfold BR H4; rw [hxd]; dsimp only; rw [if_neg g1, if_pos ⟨ga, hkt⟩]
 have hr := DZ h1 h40 hiq i2 hrc (by decide)
 rw [hr]
 refine Ax ?_
 exact As
 ·first | omega | exact absurd trivial hb42 | contradiction | (simp_all; done)
 have f1 : (a = 1) = True := eq_true ga
 have hkt := TH f2
 have hb80 := TG f2
 rw [f3] at hkt
 have c2 : ¬(a = 1 ∧ FC b = false) := fun h => by rw [hkt] at h; cases h.2
 have c3 : ¬(a ≠ 1 ∧ b ≠ []) := fun h => h.1 ga
 have hx := And.intro @f1 (And.intro @f2 (And.intro @f3 hx0))
 refine Ad ?_
 try refine Ac ?_
 refine At ?_
 refine Ap ?_
 refine Al ?_
 refine Ae ?_
 refine CG ?_
 refine CF ?_
 refine JR ?_
 have hc := Ag (E := (Ck.at_ 115)) (f := 35) (sp := Spec.pure O0) rfl
 have hs := @O0.eq_1
 refine Kl ?_
 refine U9 ?_
 refine Cl ?_
 refine CG ?_
 refine CF ?_
 have hc := Ag (E := (Ck.at_ 115)) (f := 36) (sp := Spec.pure Jo) rfl
 have hs := @Jo.eq_1
 refine Kl (hq := by (first | ((repeat' apply And.intro) <;> first | rfl | omega | (simp; done) | (simp; omega)) | exact A3)) ?_
 refine H6 ?_
 refine A7 ?_
 refine Ab ?_
 have hx := hx0
 refine h20 _ ?_; clear h20
 refine Ai (fun hb44 => ?_) (fun hb44 => ?_)
 ·first | omega | exact absurd trivial hb44 | contradiction | (simp_all; done)
 refine Am ?_
 try simp only [Af]
 refine h19 _ ?_; clear h19
 refine Aa fun N45 h45 => ?_
 refine F8 [37] Fw (by kernel_rfl) ?_
 try refine Ac ?_
 refine Ae ?_
 refine At ?_
 refine Ap ?_
 have hc := Ag (E := (Ck.at_ 115)) (f := 37) (sp := Spec.pure Fk) rfl
 have hs := @Fk.eq_1
 refine AS ?_
 refine FH ?_
 refine Ih ?_
 refine Ae ?_
 refine Ab ?_
 refine h45 _ ?_; clear h45
 refine Aa fun N46 h46 => ?_
 rcases (show EQ (E3 (D4 q) (i + 1)) = false ∨ EQ (E3 (D4 q) (i + 1)) = true by cases EQ (E3 (D4 q) (i + 1)) <;> simp) with hb | hb
 obtain ⟨hsX, hsO⟩ := Pg (q := q) (i := i + 1) (by omega) hb
 have hsb := hbq.symm.trans hb
 obtain ⟨ho1, ho2, ho3⟩ := TJ (q := q) (i := i) h40 (by omega) i2 har hsb
 have hx := And.intro @hsx (And.intro @hsX (And.intro @hsO hx0))
 refine Ad ?_
 try refine Ac ?_
 refine Ae ?_
 have hc := Ag (E := (Ck.at_ 115)) (f := 38) (sp := Spec.gen Ig) rfl
 have hs := @Ig.eq_1
 refine B8 (hq := by (first | ((repeat' apply And.intro) <;> first | rfl | omega | exact Gq | exact hokA) | exact A3)) ?_
 refine Ae ?_
 iterate 2 refine Dz ?_
 iterate 2 refine Ae ?_
 refine Ab ?_
 have hx := hx0
 refine h46 _ ?_; clear h46
 refine Aa fun N47 h47 => ?_
 refine Aa fun N48 h48 => ?_
 have ng1 : ((0 : Int) ≤ -1) = False := eq_false (by decide)
 have hx := And.intro @f1 (And.intro @ng1 hx0)
 refine Ad ?_
 try refine Ac ?_
 refine Ae ?_
 refine Al ?_
 refine Ae ?_
 refine CG ?_
 refine CF ?_
 refine DW ?_
 refine Cl ?_
 refine Ar ?_ ?_
 focus (exact AP)
 refine Ar ?_ ?_
 focus (exact AP)
 refine Ar ?_ ?_
 focus (exact AP)
 refine H6 ?_
 refine A7 ?_
 refine Ab ?_
 have hx := hx0
 refine h48 _ ?_; clear h48
 refine Ai (fun hb49 => ?_) (fun hb49 => ?_)
 ·first | omega | exact absurd trivial hb49 | contradiction | (simp_all; done)
 refine Am ?_
 try simp only [Af]
 refine h47 _ ?_; clear h47
 refine Aa fun N50 h50 => ?_
 have hx := And.intro @ho2 (And.intro @ho3 hx0)
 refine Ad ?_
 try refine Ac ?_
 refine At ?_
 refine Ap ?_
 have hc := Ag (E := (Ck.at_ 115)) (f := 37) (sp := Spec.pure Fk) rfl
 have hs := @Fk.eq_1
 refine AS ?_
 iterate 2 refine Ae ?_
 have hc := Ag (E := (Ck.at_ 115)) (f := 39) (sp := Spec.pure ON) rfl
 have hs := @ON.eq_1
 refine AS (hq := by (first | ((repeat' apply And.intro) <;> first | rfl | omega | exact ho1) | exact A3)) ?_
 refine Ae ?_
 iterate 2 refine Dz ?_
 iterate 2 refine Ae ?_
 refine Ab ?_
 have hx := hx0
 refine h50 _ ?_; clear h50
 refine Aa fun N51 h51 => ?_
 rcases (show (c = JV (CI q i) (Cm a) ∧ d = Mh (CI q i) (Cm a)) ∨ (c = JV (CI q i) (Cm a) ∧ d ≠ Mh (CI q i) (Cm a)) ∨ c ≠ JV (CI q i) (Cm a) by by_cases h : c = JV (CI q i) (Cm a) <;> by_cases h' : d = Mh (CI q i) (Cm a) <;> simp [h, h']) with ⟨e1, e2⟩ | ⟨e1, e2⟩ | e1
 have f1 : (c = JV (CI q i) (Cm a)) = True := eq_true e1
 have f2 : (d = Mh (CI q i) (Cm a)) = True := eq_true e2
 have hx := And.intro @f1 (And.intro @f2 hx0)
 refine Ad ?_
 try refine Ac ?_
 refine At ?_
 refine Ap ?_
 refine Ae ?_
 refine Al ?_
 refine Ae ?_
 refine AK ?_
 refine AJ ?_
 refine BI ?_
 refine B7 ?_
 refine A7 ?_
 refine Ab ?_
 have hx := hx0
 refine h51 _ ?_; clear h51
 refine Ai (fun hb52 => ?_) (fun hb52 => ?_)
 ·first | omega | exact absurd trivial hb52 | contradiction | (simp_all; done)
 refine Am ?_
 try simp only [Af]
 refine h13 _ ?_; clear h13
 refine Ad ?_
 try refine Ac ?_
 refine Ae ?_
 refine Al ?_
 refine Ae ?_
 refine Ab ?_
 have hrc : BR q i = 0 := by
  unfold BR H4; rw [hxd]; dsimp only; rw [if_neg g1, if_neg c2, if_neg c3, if_neg (by rw [hsb]; simp), if_pos ⟨e1, e2⟩]
 refine h9 _ ⟨i + 1, ?_, ?_, [some 0, some 1, some 5], ?_⟩
 dsimp only
 exact ⟨by omega, De i2 hrc⟩
 dsimp only
 omega
 dsimp only
 refine ⟨by rfl, ?_, ?_⟩
 refine Aj ?_
 ·(repeat' apply And.intro) <;> (first | (first | rfl | trivial | omega | (rw [hsx]; done) | exact Or.inl rfl) | exact As)
 refine Aj ?_
 ·(repeat' apply And.intro) <;> (first | (first | rfl | trivial | omega | (rw [hsx]; done) | exact Or.inl rfl) | exact As)
 have f1 : (c = JV (CI q i) (Cm a)) = True := eq_true e1
 have f2 : (d = Mh (CI q i) (Cm a)) = False := eq_false e2
 have hx := And.intro @f1 (And.intro @f2 hx0)
 refine Ad ?_
 try refine Ac ?_
 refine At ?_
 refine Ap ?_
 refine Ae ?_
 refine Al ?_
 refine Ae ?_
 refine AK ?_
 refine AJ ?_
 refine BI ?_
 refine B7 ?_
 refine A7 ?_
 refine Ab ?_
 have hx := hx0
 refine h51 _ ?_; clear h51
 refine Ai (fun hb53 => ?_) (fun hb53 => ?_)
 refine Aa fun N54 h54 => ?_
 refine Ad ?_
 try refine Ac ?_
 refine Ae ?_
 have hc := Ag (E := (Ck.at_ 115)) (f := 21) (sp := Spec.pure AH) rfl
 have hs := @AH.eq_1
 refine AS ?_
 refine A4 ?_
 refine Ab ?_
 refine h54 _ ?_; clear h54
 refine An ?_
 try simp only [Af]
 have hrc : BR q i = 5 := by
  unfold BR H4; rw [hxd]; dsimp only; rw [if_neg g1, if_neg c2, if_neg c3, if_neg (by rw [hsb]; simp), if_neg (fun h => e2 h.2)]
 have hr := DZ h1 h40 hiq i2 hrc (by decide)
 rw [hr]
 refine Ax ?_
 exact As
 ·first | omega | exact absurd trivial hb53 | contradiction | (simp_all; done)
 have f1 : (c = JV (CI q i) (Cm a)) = False := eq_false e1
 have f2 : True := trivial
 have hx := And.intro @f1 (And.intro @f2 hx0)
 refine Ad ?_
 try refine Ac ?_
 refine At ?_
 refine Ap ?_
 refine Ae ?_
 refine Al ?_
 refine Ae ?_
 refine AK ?_
 refine AJ ?_
 refine BI ?_
 refine B7 ?_
 refine A7 ?_
 refine Ab ?_
 have hx := hx0
 refine h51 _ ?_; clear h51
 refine Ai (fun hb55 => ?_) (fun hb55 => ?_)
 refine Aa fun N56 h56 => ?_
 refine Ad ?_
 try refine Ac ?_
 refine Ae ?_
 have hc := Ag (E := (Ck.at_ 115)) (f := 21) (sp := Spec.pure AH) rfl
 have hs := @AH.eq_1
 refine AS ?_
 refine A4 ?_
 refine Ab ?_
 refine h56 _ ?_; clear h56
 refine An ?_
 try simp only [Af]
 have hrc : BR q i = 5 := by
  unfold BR H4; rw [hxd]; dsimp only; rw [if_neg g1, if_neg c2, if_neg c3, if_neg (by rw [hsb]; simp), if_neg (fun h => e1 h.1)]
 have hr := DZ h1 h40 hiq i2 hrc (by decide)
 rw [hr]
 refine Ax ?_
 exact As
 ·first | omega | exact absurd trivial hb55 | contradiction | (simp_all; done)
 have hsX := PY (q := q) (i := i) (by omega) hb
 have hsO : True := trivial
 have hsb := hbq.symm.trans hb
 have hx := And.intro @hsx (And.intro @hsX (And.intro @hsO hx0))
 refine Ad ?_
 try refine Ac ?_
 refine Ae ?_
 have hc := Ag (E := (Ck.at_ 115)) (f := 38) (sp := Spec.gen Ig) rfl
 have hs := @Ig.eq_1
 refine B8 (hq := by (first | ((repeat' apply And.intro) <;> first | rfl | omega | exact Gq | exact hokA) | exact A3)) ?_
 refine Ae ?_
 iterate 2 refine Dz ?_
 iterate 2 refine Ae ?_
 refine Ab ?_
 have hx := hx0
 refine h46 _ ?_; clear h46
 refine Aa fun N57 h57 => ?_
 refine Aa fun N58 h58 => ?_
 have ng2 : ((0 : Int) ≤ (i : Int)) = True := eq_true (by omega)
 have hx := And.intro @ng2 hx0
 refine Ad ?_
 try refine Ac ?_
 refine Ae ?_
 refine Al ?_
 refine Ae ?_
 refine Ar ?_ ?_
 focus (exact AP)
 refine Ar ?_ ?_
 focus (exact AP)
 refine Ar ?_ ?_
 focus (exact AP)
 refine Ar ?_ ?_
 focus (exact AP)
 refine Ar ?_ ?_
 focus (exact AP)
 refine Ar ?_ ?_
 focus (exact AP)
 refine Ar ?_ ?_
 focus (exact AP)
 refine Ar ?_ ?_
 focus (exact AP)
 refine A7 ?_
 refine Ab ?_
 have hx := hx0
 refine h58 _ ?_; clear h58
 refine Ai (fun hb59 => ?_) (fun hb59 => ?_)
 refine Aa fun N60 h60 => ?_
 refine Ad ?_
 try refine Ac ?_
 refine Ae ?_
 have hc := Ag (E := (Ck.at_ 115)) (f := 21) (sp := Spec.pure AH) rfl
 have hs := @AH.eq_1
 refine AS ?_
 refine A4 ?_
 refine Ab ?_
 refine h60 _ ?_; clear h60
 refine An ?_
 try simp only [Af]
 have hrc : BR q i = 5 := by
  unfold BR H4; rw [hxd]; dsimp only; rw [if_neg g1, if_neg c2, if_pos hsb, ite_self]
 have hr := DZ h1 h40 hiq i2 hrc (by decide)
 rw [hr]
 refine Ax ?_
 exact As
 ·first | omega | exact absurd trivial hb59 | contradiction | (simp_all; done)
 obtain rfl : i = q.length := by have := hb12; omega
 have hba := Su h1 i2
 obtain ⟨hsX, hsO⟩ := Pg (Nat.le_refl q.length) hba
 have hal := Lm (Nat.le_refl q.length)
 have hokA : Xf (E3 (D4 q) q.length) ((E3 (D4 q) q.length).length - 1) := by rw [hal]; exact YZ (by omega) (Nat.le_refl _) (fun j hj => i2 j (by omega))
 have hsl : (CI q q.length).length = q.length := Ec _ _
 obtain ⟨y, hye⟩ := BG (l := CI q q.length) (i := q.length - 1) (by omega)
 have hyd : (CI q q.length).getD (q.length - 1) 0 = y := B5 hye
 have hzy := Qe hye
 have hpm : ((q.length : Int) - 1).toNat = q.length - 1 := by omega
 have hre := Uf h1 h40 i2
 rw [hyd] at hre
 refine AF ?_
 simp only [Af, Nat.reduceEqDiff, reduceIte, eq_self]
 refine h7 _ ?_; clear h7
 refine Aa fun N61 h61 => ?_
 have hx := And.intro @hsX (And.intro @hsO hx0)
 refine Ad ?_
 try refine Ac ?_
 refine Ae ?_
 have hc := Ag (E := (Ck.at_ 115)) (f := 38) (sp := Spec.gen Ig) rfl
 have hs := @Ig.eq_1
 refine B8 (hq := by (first | ((repeat' apply And.intro) <;> first | rfl | omega | exact Gq | exact hokA) | exact A3)) ?_
 refine Ae ?_
 iterate 2 refine Dz ?_
 iterate 2 refine Ae ?_
 refine Ab ?_
 have hx := hx0
 refine h61 _ ?_; clear h61
 refine Aa fun N62 h62 => ?_
 refine Aa fun N63 h63 => ?_
 have hx := And.intro @hsl (And.intro @hpm (And.intro @hzy (And.intro @eI.eq_1 hx0)))
 refine Ad ?_
 try refine Ac ?_
 iterate 2 refine Ae ?_
 refine AZ ?_
 refine Al ?_
 refine At ?_
 refine Ap ?_
 refine Ae ?_
 refine AZ ?_
 refine Al ?_
 refine Ab ?_
 have hx := hx0
 refine h63 _ ?_; clear h63
 refine Ai (fun hb64 => ?_) (fun hb64 => ?_)
 refine Aa fun N65 h65 => ?_
 refine Ad ?_
 try refine Ac ?_
 have hc := Ag (E := (Ck.at_ 115)) (f := 21) (sp := Spec.pure AH) rfl
 have hs := @AH.eq_1
 refine AS ?_
 refine A4 ?_
 refine Ab ?_
 refine h65 _ ?_; clear h65
 refine An ?_
 try simp only [Af]
 rw [if_pos (by have := hb64; (try simp at this); omega)] at hre
 rw [hre]
 refine Ax ?_
 exact As
 refine Am ?_
 try simp only [Af]
 refine h62 _ ?_; clear h62
 refine Aa fun N66 h66 => ?_
 refine Ad ?_
 try refine Ac ?_
 refine BL ?_
 refine A4 ?_
 refine Ab ?_
 refine h66 _ ?_; clear h66
 refine An ?_
 try simp only [Af]
 rw [if_neg (by have := hb64; (try simp at this); omega)] at hre
 rw [hre]
 refine Ax ?_
 exact As
 cases hg

def IC : Bn Tryz.prog := Ck.add 12 (Spec.pure Hz) Nr (by kernel_rfl)
end Go.Proofs.YtmbjnkgpcbpclaaGreat
