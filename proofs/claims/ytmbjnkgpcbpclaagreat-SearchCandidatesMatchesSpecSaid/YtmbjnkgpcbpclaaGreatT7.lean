/- Walks, printed by wip/gen/walk.py. -/
import Derived.Test.YtmbjnkgpcbpclaaGreatT6
import Derived.Test.YtmbjnkgpcbpclaaGreatV5
set_option linter.all false
set_option maxRecDepth 100000
set_option maxHeartbeats 4000000
namespace Go.Proofs.YtmbjnkgpcbpclaaGreat
open Go Go.Vc Go.RowKit
theorem Rz (l : List (Bs × D)) (k : Nat) (x : Bs × D) : rows eG (List.take k l) ++ [eG x] ++ rows eG (List.drop k l) = rows eG (l.take k ++ x :: l.drop k) := by simp [rows]
theorem CC {Q : List (Bs × D)} {k : Nat} {g : Bs} {d : D} : (rows eG Q).set k [.str g, d] = rows eG (Q.set k (g, d)) := by
  unfold rows; rw [List.map_set]; rfl
theorem XB {P : List AU} {vs : List Value} (hl : vs.length = P.length) {k : Nat} {g : Bs} {t : List Int} (h : P[k]? = some (g, t)) : ∃ v, vs[k]? = some v ∧ (zR P vs)[k]? = some (g, .raw v) ∧ bB P vs = (bB P vs).take k ++ (v, rows eI t) :: (bB P vs).drop (k + 1) := by
  have hk := (List.getElem?_eq_some_iff.1 h).1
  obtain ⟨v, hv⟩ : ∃ v, vs[k]? = some v := ⟨_, List.getElem?_eq_getElem (by omega)⟩
  have hb : (bB P vs)[k]? = some (v, rows eI t) := by simp [bB, List.getElem?_zipWith, h, hv]
  exact ⟨v, hv, by simp [zR, List.getElem?_zipWith, h, hv], Ny hb⟩
theorem Ek {P : List AU} {vs : List Value} {g : Bs} {n : Int} {t : List Int} (hl : vs.length = P.length) (hh : Ds P g = true) (hk : P[C5 P g]? = some (g, t)) (v : Value) :
    (vs.set (C5 P g) v).length = (post P g n).length ∧ zR (post P g n) (vs.set (C5 P g) v) = (zR P vs).set (C5 P g) (g, .raw v) ∧ bB (post P g n) (vs.set (C5 P g) v) = (bB P vs).take (C5 P g) ++ (v, rows eI (JU t n)) :: (bB P vs).drop (C5 P g + 1) := by
  have hp : post P g n = P.set (C5 P g) (g, JU t n) := by unfold post; rw [if_pos hh, List.getD_eq_getElem?_getD, hk]; rfl
  have hlt := (List.getElem?_eq_some_iff.1 hk).1
  refine ⟨by rw [hp]; simp [hl], by rw [hp]; exact Mg _ _ _ _ _ _, ?_⟩
  rw [hp]
  unfold bB
  rw [Mg, List.set_eq_take_append_cons_drop, if_pos (by simp [hl]; omega)]
theorem El {P : List AU} {vs : List Value} {g : Bs} {n : Int} (hl : vs.length = P.length) (hh : Ds P g = false) (v : Value) :
    (vs.take (C5 P g) ++ v :: vs.drop (C5 P g)).length = (post P g n).length ∧ zR (post P g n) (vs.take (C5 P g) ++ v :: vs.drop (C5 P g)) = (zR P vs).take (C5 P g) ++ (g, .raw v) :: (zR P vs).drop (C5 P g) ∧
      bB (post P g n) (vs.take (C5 P g) ++ v :: vs.drop (C5 P g)) = (bB P vs).take (C5 P g) ++ (v, rows eI [n]) :: (bB P vs).drop (C5 P g) := by
  have hp : post P g n = P.take (C5 P g) ++ (g, [n]) :: P.drop (C5 P g) := by unfold post; rw [if_neg (by rw [hh]; simp)]
  refine ⟨?_, ?_, ?_⟩
  · rw [hp]; simp [hl]
  · rw [hp]; exact Mf _ _ _ _ _ _ hl
  · rw [hp]; exact Mf _ _ _ _ _ _ hl
theorem Xe {Q : List (Bs × D)} {k : Nat} {x : Bs × D} (h : k ≤ Q.length) : (Q.take k ++ x :: Q.drop k)[k]? = some x := by
  rw [List.getElem?_append_right (by simp; omega), List.length_take, Nat.min_eq_left h]; simp
theorem EN {Q : List (Bs × D)} {k : Nat} {x y : Bs × D} (h : k ≤ Q.length) : (Q.take k ++ x :: Q.drop k).set k y = Q.take k ++ y :: Q.drop k := by
  rw [List.set_append_right _ _ (by simp; omega), List.length_take, Nat.min_eq_left h]; simp
theorem NW : A1 Tryz.prog 53 (Spec.gen Jg) := by
 refine Bq (HC.at_ 71) Tryz.func53 rfl rfl rfl ?_
 intro args bl p r bf hg hp
 unfold Jg at hg
 split at hg
 rename_i n u tx a b t z xs t2 z2 f e2 z3 ps
 simp only [Option.some.injEq, Prod.mk.injEq] at hg
 obtain ⟨rfl, rfl, rfl⟩ := hg
 obtain ⟨P, rfl, rfl, rfl, he, rfl, hso, hll, rfl, rfl, rfl, rfl, rfl, rfl, hg, hpl, hpm, hsl⟩ := hp
 rw [U5]
 generalize dI xs = l at *
 subst he
 have hT : (HC).X = T := rfl
 have hx0 := And.intro @PO (And.intro @Lv (And.intro @Jm @Tryz.results53))
 have hx := hx0
 refine ⟨Nat.le_of_ble_eq_true rfl, ?_⟩
 intro F W0 M0 hnp hmk
 have hnp : Bd.np = 3 := hnp
 refine Aa fun N1 h1 => ?_
 have hx := And.intro @AA hx0
 refine Ad ?_
 try refine Ac ?_
 iterate 2 refine Ae ?_
 refine Bv ?_
 refine At ?_
 refine Ap ?_
 refine Ae ?_
 have hc := Ag (E := (HC.at_ 71)) (f := 77) (sp := Spec.gen Cw) rfl
 have hs := And.intro @Cw.eq_1 @Cw.eq_2
 refine B8 ?_
 refine Bv ?_
 refine At ?_
 refine A4 ?_
 refine Ab ?_
 have hx := hx0
 refine h1 _ ?_; clear h1
 refine Aa fun N2 h2 => ?_
 refine UC 0 1 rfl rfl rfl rfl (fun vs0 hvs0 => ?_)
 rw [List.length_map] at hvs0
 rw [PM, PL]
 simp only [Bc, BS, List.set, List.cons_append, List.nil_append, List.mem_cons, List.not_mem_nil, or_false]
 refine Ad ?_
 try refine Ac ?_
 refine Ae ?_
 refine AZ ?_
 iterate 2 refine Al ?_
 refine Ae ?_
 refine Ab ?_
 refine h2 _ ?_; clear h2
 refine Au ?_
 refine A0 (σ := Nat × List Value) (fun s => (fun i vs => i ≤ u.length - 2 ∧ vs.length = (Ba P n u i).length) (s.1) (s.2))
  (fun s => (fun i vs => [(0, .ptr 0 0 0), (1, .d (.int .i64 n)), (2, .d (.str u)), (22, .d (.int .i64 ((u.length : Int) - 3 + 1))), (23, .d (.int .i64 (i : Nat)))]) (s.1) (s.2))
  (fun s => (fun i vs => [some (.one tx [.sl 3 0 (JU l n).length, .sl 4 0 (zR (Ba P n u i) vs).length]), none, none, some (.vec 3 1 (rows eI (JU l n))), some (.vec 85 2 (rows eG (zR (Ba P n u i) vs))), some (.ob (.bag 3 1 (bB (Ba P n u i) vs)))]) (s.1) (s.2)) (fun s => (fun i vs => u.length - i) (s.1) (s.2)) hnp (0, vs0) ?_ [some 0, some 1, some 2, some 3, some 4, some 5] ?_ ?_
 dsimp only
 exact ⟨by omega, hvs0⟩
 dsimp only
 refine ⟨by rfl, ?_, ?_⟩
 refine Aj ?_
 ·(repeat' apply And.intro) <;> (first | (first | (rw [List.length_map]; exact (Pq hvs0).symm) | rfl) | exact As)
 refine Aj ?_
 ·(repeat' apply And.intro) <;> (first | (first | (rw [List.length_map]; exact (Pq hvs0).symm) | rfl) | exact As)
 rintro ⟨i, vs⟩ hinv N3 h3
 dsimp only at hinv ⊢
 obtain ⟨hi, hvs⟩ := hinv
 have hgi := HH (n := n) (s := u) hg i
 have hzl := Pq hvs
 have hzs := Wh hvs hgi.sort
 have hzb := Yz hvs (gr u i)
 have hzh := X0 hvs (gr u i)
 have hkl := WZ (Ba P n u i) (gr u i)
 have hpi := Je (P := P) (n := n) (s := u) i
 have hgr : List.take (((i : Int) + 3).toNat - i) (u.drop i) = gr u i := by unfold gr; congr 1; omega
 have hmi := Jf (n := n) (s := u) (by omega) hpm i
 refine Aa fun N4 h4 => ?_
 refine Ad ?_
 try refine Ac ?_
 refine Al ?_
 refine Ab ?_
 refine h4 _ ?_; clear h4
 refine Aa fun N5 h5 => ?_
 refine Ai (fun hb6 => ?_) (fun hb6 => ?_)
 have hi3 : i + 3 ≤ u.length := by have := hb6; omega
 refine Am ?_
 try simp only [Af]
 refine h5 _ ?_; clear h5
 refine Aa fun N7 h7 => ?_
 refine Au ?_
 refine Aa fun N8 h8 => ?_
 refine Ad ?_
 try refine Ac ?_
 iterate 2 refine Ae ?_
 refine Ab ?_
 refine h8 _ ?_; clear h8
 refine Aa fun N9 h9 => ?_
 refine Ad ?_
 try refine Ac ?_
 iterate 3 refine Ae ?_
 refine Al ?_
 refine DL ?_
 refine Ae ?_
 refine Ab ?_
 simp only [hgr]
 refine h9 _ ?_; clear h9
 refine Aa fun N10 h10 => ?_
 refine Ad ?_
 try refine Ac ?_
 refine Ae ?_
 refine Bv ?_
 refine Ap ?_
 refine Ae ?_
 have hc := Ag (E := (HC.at_ 71)) (f := 78) (sp := Spec.pure CT) rfl
 have hs := @CT.eq_1
 refine AS (hq := by (first | (exact ⟨by omega, by omega, by rw [List.take_length]; exact hzs, by rw [List.take_length]; omega⟩) | exact A3)) ?_
 refine Ae ?_
 iterate 2 refine Dz ?_
 iterate 2 refine Ae ?_
 refine Ab ?_
 simp only [List.take_length, hzb, hzh]
 refine h10 _ ?_; clear h10
 refine Aa fun N11 h11 => ?_
 refine Aa fun N12 h12 => ?_
 refine Ad ?_
 try refine Ac ?_
 refine Ae ?_
 refine Gl ?_
 refine Ab ?_
 refine h12 _ ?_; clear h12
 refine Ai (fun hb13 => ?_) (fun hb13 => ?_)
 have hh : Ds (Ba P n u i) (gr u i) = false := by simpa using hb13
 have hrow : rows eG (List.take (C5 (Ba P n u i) (gr u i)) (zR (Ba P n u i) vs)) ++ [[.str (gr u i), .raw Gd]] ++ rows eG (List.drop (C5 (Ba P n u i) (gr u i)) (zR (Ba P n u i) vs)) = rows eG (List.take (C5 (Ba P n u i) (gr u i)) (zR (Ba P n u i) vs) ++ (gr u i, .raw Gd) :: List.drop (C5 (Ba P n u i) (gr u i)) (zR (Ba P n u i) vs)) := Rz _ _ (gr u i, .raw Gd)
 have hq : (List.take (C5 (Ba P n u i) (gr u i)) (zR (Ba P n u i) vs) ++ (gr u i, D.raw Gd) :: List.drop (C5 (Ba P n u i) (gr u i)) (zR (Ba P n u i) vs))[(C5 (Ba P n u i) (gr u i))]? = some (gr u i, .raw Gd) := Xe (by omega)
 refine Ad ?_
 try refine Ac ?_
 iterate 2 refine Ae ?_
 refine Bv ?_
 refine At ?_
 refine Ap ?_
 iterate 2 refine Ae ?_
 refine AN (by rfl) (OY (by simp only [wB, eq_self, Nat.reduceEqDiff, reduceIte, CU, E8, List.map, B9, KV, hT, C7, wL, Int.toNat_natCast, Int.reduceToNat, Nat.reduceAdd, Nat.reduceMul, Nat.reduceSub, Nat.reduceLeDiff, hx]; rfl) (by exact A3) (by simp only [Ei, Ej, AM, AC, AL, eq_self, Nat.reduceEqDiff, reduceIte, and_true, true_and, A9, List.map_cons, List.map_nil]) ?_)
 simp only [List.map, VL, wB, eq_self, Nat.reduceEqDiff, reduceIte, wL, Int.toNat_natCast, Int.reduceToNat, Nat.reduceAdd, Nat.reduceMul, Nat.reduceSub, Nat.reduceLeDiff, hx]
 refine FH ?_
 have hc := Ag (E := (HC.at_ 71)) (f := 79) (sp := Spec.gen (CR 85 2)) rfl
 have hs := And.intro @CR.eq_1 @CR.eq_2
 refine B8 ?_
 refine Bv ?_
 refine At ?_
 refine A4 ?_
 refine Ab ?_
 simp only [hrow]
 refine h11 _ ?_; clear h11
 have hx := And.intro @hq (And.intro @eG.eq_1 hx0)
 refine G1 [] (.seq [0, 4, 5, 6, 7, 8, 9, 10, 11, 12, 13] (.alt 1 (.alt 2 (.alt 3 (.seq [14, 15, 16, 17] .nil) (.alt 14 (.seq [3, 15, 16, 17] .nil) .nil)) (.alt 14 (.seq [2, 3, 15, 16, 17] .nil) .nil)) (.alt 14 (.seq [1, 2, 3, 15, 16, 17] .nil) .nil))) Fw (by kernel_rfl) ?_
 refine Bu ?_
 simp only [Ao, Ak]
 try refine Ac ?_
 iterate 3 refine Ae ?_
 refine Bv ?_
 refine At ?_
 refine Ap ?_
 refine Ae ?_
 iterate 2 refine At ?_
 refine Ap ?_
 refine Ae ?_
 refine Ab ?_
 refine AX ?_ ?_
 simp only [Ao, Ak]
 try refine Ac ?_
 refine Bv ?_
 refine Ab ?_
 refine AX ?_ ?_
 simp only [Ao, Ak]
 try refine Ac ?_
 refine At ?_
 refine Ab ?_
 refine AX ?_ ?_
 simp only [Ao, Ak]
 try refine Ac ?_
 refine Ap ?_
 refine Ab ?_
 refine Bu ?_
 simp only [Ao, Ak]
 try refine Ac ?_
 have hs := And.intro @Cw.eq_1 @Cw.eq_2
 refine AN (by rfl) (Ea 5 0 (f := 77) (sp := Spec.gen Cw) rfl (by simp only [A9, wB, eq_self, Nat.reduceEqDiff, reduceIte]; rfl)  rfl (by simp only [wB, eq_self, Nat.reduceEqDiff, reduceIte, and_true]) (m1 := ((bB (Ba P n u i) vs).take (C5 (Ba P n u i) (gr u i)))) (m2 := ((bB (Ba P n u i) vs).drop (C5 (Ba P n u i) (gr u i)))) (by simp only [wB, eq_self, Nat.reduceEqDiff, reduceIte, Db, Ct, Cs, Bb, BJ, hs, Cu, Ay, wL, Int.toNat_natCast, Int.reduceToNat, Nat.reduceAdd, Nat.reduceMul, Nat.reduceSub, Nat.reduceLeDiff, List.mem_cons, List.not_mem_nil, AA, CP, CY, hx, wG, Nat.reduceAdd, Nat.reduceSub, Nat.reduceLT, Nat.reduceLeDiff, if_true, if_false, ite_self, List.mem_append, true_implies, Option.bind_some, List.set_cons_zero, List.set_cons_succ, or_false, false_or]; rfl) (by first | trivial | ((try dsimp only); (first | (first | trivial | exact ⟨hgi.rise _ (AE ht), by have h2 : ts.length ≤ _ := hmi _ (AE ht); omega⟩) | exact A3))) (by simp only [wB, eq_self, Nat.reduceEqDiff, reduceIte, wG, Ay, Nat.reduceAdd, Nat.reduceSub, Nat.reduceLT, Nat.reduceLeDiff, Bc, List.cons_append, List.nil_append, List.mem_cons, List.not_mem_nil, or_false, false_or, wL, Int.toNat_natCast, Int.reduceToNat, Nat.reduceAdd, Nat.reduceMul, Nat.reduceSub, Nat.reduceLeDiff, hx]; rfl) (by rfl) (by rfl) (by rfl) (List.take_append_drop _ _).symm (by first | decide | simp) (by first | exact Nat.le_refl _ | (simp [rows]; done) | (first | (first | trivial | exact ⟨hgi.rise _ (AE ht), by have h2 : ts.length ≤ _ := hmi _ (AE ht); omega⟩) | exact A3)) fun v1 => ?_)
 simp only [wB, eq_self, Nat.reduceEqDiff, reduceIte, wG, Ay, Nat.reduceAdd, Nat.reduceSub, Nat.reduceLT, Nat.reduceLeDiff, Bc, List.cons_append, List.nil_append, List.mem_cons, List.not_mem_nil, or_false, false_or, wL, Int.toNat_natCast, Int.reduceToNat, Nat.reduceAdd, Nat.reduceMul, Nat.reduceSub, Nat.reduceLeDiff, hx]
 iterate 2 refine At ?_
 refine A4 ?_
 refine Ab ?_
 refine BO ?_
 have hx := hx0
 refine h7 _ ?_; clear h7
 refine Ad ?_
 try refine Ac ?_
 refine Al ?_
 refine Ae ?_
 refine Ab ?_
 have e1 := El (n := n) hvs hh v1
 have e2 : zR (Ba P n u (i + 1)) _ = _ := e1.2.1
 have e6 : bB (Ba P n u (i + 1)) _ = _ := e1.2.2
 refine h3 _ ⟨(i + 1, vs.take (C5 (Ba P n u i) (gr u i)) ++ v1 :: vs.drop (C5 (Ba P n u i) (gr u i))), ?_, ?_, [some 0, some 1, some 2, some 3, some 7, some 9], ?_⟩
 dsimp only
 exact ⟨by omega, (El hvs hh v1).1⟩
 dsimp only
 omega
 dsimp only
 refine ⟨by rfl, ?_, ?_⟩
 refine Aj ?_
 ·(repeat' apply And.intro) <;> (first | (first | rfl | (rw [e2]; simp; omega) | (rw [CC, EN (by omega), e2]) | exact congrArg (OB.bag _ _) e6.symm) | exact As)
 refine Aj ?_
 ·(repeat' apply And.intro) <;> (first | (first | rfl | (rw [e2]; simp; omega) | (rw [CC, EN (by omega), e2]) | exact congrArg (OB.bag _ _) e6.symm) | exact As)
 refine AX ?_ ?_
 simp only [Ao, Ak]
 try refine Ac ?_
 have hs := And.intro @Cw.eq_1 @Cw.eq_2
 refine AN (by rfl) (Ea 5 0 (f := 77) (sp := Spec.gen Cw) rfl (by simp only [A9, wB, eq_self, Nat.reduceEqDiff, reduceIte]; rfl)  rfl (by simp only [wB, eq_self, Nat.reduceEqDiff, reduceIte, and_true]) (m1 := ((bB (Ba P n u i) vs).take (C5 (Ba P n u i) (gr u i)))) (m2 := ((bB (Ba P n u i) vs).drop (C5 (Ba P n u i) (gr u i)))) (by simp only [wB, eq_self, Nat.reduceEqDiff, reduceIte, Db, Ct, Cs, Bb, BJ, hs, Cu, Ay, wL, Int.toNat_natCast, Int.reduceToNat, Nat.reduceAdd, Nat.reduceMul, Nat.reduceSub, Nat.reduceLeDiff, List.mem_cons, List.not_mem_nil, AA, CP, CY, hx, wG, Nat.reduceAdd, Nat.reduceSub, Nat.reduceLT, Nat.reduceLeDiff, if_true, if_false, ite_self, List.mem_append, true_implies, Option.bind_some, List.set_cons_zero, List.set_cons_succ, or_false, false_or]; rfl) (by first | trivial | ((try dsimp only); (first | (first | trivial | exact ⟨hgi.rise _ (AE ht), by have h2 : ts.length ≤ _ := hmi _ (AE ht); omega⟩) | exact A3))) (by simp only [wB, eq_self, Nat.reduceEqDiff, reduceIte, wG, Ay, Nat.reduceAdd, Nat.reduceSub, Nat.reduceLT, Nat.reduceLeDiff, Bc, List.cons_append, List.nil_append, List.mem_cons, List.not_mem_nil, or_false, false_or, wL, Int.toNat_natCast, Int.reduceToNat, Nat.reduceAdd, Nat.reduceMul, Nat.reduceSub, Nat.reduceLeDiff, hx]; rfl) (by rfl) (by rfl) (by rfl) (List.take_append_drop _ _).symm (by first | decide | simp) (by first | exact Nat.le_refl _ | (simp [rows]; done) | (first | (first | trivial | exact ⟨hgi.rise _ (AE ht), by have h2 : ts.length ≤ _ := hmi _ (AE ht); omega⟩) | exact A3)) fun v1 => ?_)
 simp only [wB, eq_self, Nat.reduceEqDiff, reduceIte, wG, Ay, Nat.reduceAdd, Nat.reduceSub, Nat.reduceLT, Nat.reduceLeDiff, Bc, List.cons_append, List.nil_append, List.mem_cons, List.not_mem_nil, or_false, false_or, wL, Int.toNat_natCast, Int.reduceToNat, Nat.reduceAdd, Nat.reduceMul, Nat.reduceSub, Nat.reduceLeDiff, hx]
 refine Ab ?_
 refine Bu ?_
 simp only [Ao, Ak]
 try refine Ac ?_
 refine Ap ?_
 iterate 2 refine At ?_
 refine A4 ?_
 refine Ab ?_
 refine BO ?_
 have hx := hx0
 refine h7 _ ?_; clear h7
 refine Ad ?_
 try refine Ac ?_
 refine Al ?_
 refine Ae ?_
 refine Ab ?_
 have e1 := El (n := n) hvs hh v1
 have e2 : zR (Ba P n u (i + 1)) _ = _ := e1.2.1
 have e6 : bB (Ba P n u (i + 1)) _ = _ := e1.2.2
 refine h3 _ ⟨(i + 1, vs.take (C5 (Ba P n u i) (gr u i)) ++ v1 :: vs.drop (C5 (Ba P n u i) (gr u i))), ?_, ?_, [some 0, some 1, some 2, some 3, some 7, some 9], ?_⟩
 dsimp only
 exact ⟨by omega, (El hvs hh v1).1⟩
 dsimp only
 omega
 dsimp only
 refine ⟨by rfl, ?_, ?_⟩
 refine Aj ?_
 ·(repeat' apply And.intro) <;> (first | (first | rfl | (rw [e2]; simp; omega) | (rw [CC, EN (by omega), e2]) | exact congrArg (OB.bag _ _) e6.symm) | exact As)
 refine Aj ?_
 ·(repeat' apply And.intro) <;> (first | (first | rfl | (rw [e2]; simp; omega) | (rw [CC, EN (by omega), e2]) | exact congrArg (OB.bag _ _) e6.symm) | exact As)
 exact C8
 refine AX ?_ ?_
 simp only [Ao, Ak]
 try refine Ac ?_
 have hs := And.intro @Cw.eq_1 @Cw.eq_2
 refine AN (by rfl) (Ea 5 0 (f := 77) (sp := Spec.gen Cw) rfl (by simp only [A9, wB, eq_self, Nat.reduceEqDiff, reduceIte]; rfl)  rfl (by simp only [wB, eq_self, Nat.reduceEqDiff, reduceIte, and_true]) (m1 := ((bB (Ba P n u i) vs).take (C5 (Ba P n u i) (gr u i)))) (m2 := ((bB (Ba P n u i) vs).drop (C5 (Ba P n u i) (gr u i)))) (by simp only [wB, eq_self, Nat.reduceEqDiff, reduceIte, Db, Ct, Cs, Bb, BJ, hs, Cu, Ay, wL, Int.toNat_natCast, Int.reduceToNat, Nat.reduceAdd, Nat.reduceMul, Nat.reduceSub, Nat.reduceLeDiff, List.mem_cons, List.not_mem_nil, AA, CP, CY, hx, wG, Nat.reduceAdd, Nat.reduceSub, Nat.reduceLT, Nat.reduceLeDiff, if_true, if_false, ite_self, List.mem_append, true_implies, Option.bind_some, List.set_cons_zero, List.set_cons_succ, or_false, false_or]; rfl) (by first | trivial | ((try dsimp only); (first | (first | trivial | exact ⟨hgi.rise _ (AE ht), by have h2 : ts.length ≤ _ := hmi _ (AE ht); omega⟩) | exact A3))) (by simp only [wB, eq_self, Nat.reduceEqDiff, reduceIte, wG, Ay, Nat.reduceAdd, Nat.reduceSub, Nat.reduceLT, Nat.reduceLeDiff, Bc, List.cons_append, List.nil_append, List.mem_cons, List.not_mem_nil, or_false, false_or, wL, Int.toNat_natCast, Int.reduceToNat, Nat.reduceAdd, Nat.reduceMul, Nat.reduceSub, Nat.reduceLeDiff, hx]; rfl) (by rfl) (by rfl) (by rfl) (List.take_append_drop _ _).symm (by first | decide | simp) (by first | exact Nat.le_refl _ | (simp [rows]; done) | (first | (first | trivial | exact ⟨hgi.rise _ (AE ht), by have h2 : ts.length ≤ _ := hmi _ (AE ht); omega⟩) | exact A3)) fun v1 => ?_)
 simp only [wB, eq_self, Nat.reduceEqDiff, reduceIte, wG, Ay, Nat.reduceAdd, Nat.reduceSub, Nat.reduceLT, Nat.reduceLeDiff, Bc, List.cons_append, List.nil_append, List.mem_cons, List.not_mem_nil, or_false, false_or, wL, Int.toNat_natCast, Int.reduceToNat, Nat.reduceAdd, Nat.reduceMul, Nat.reduceSub, Nat.reduceLeDiff, hx]
 refine Ab ?_
 refine Bu ?_
 simp only [Ao, Ak]
 try refine Ac ?_
 refine At ?_
 refine Ap ?_
 iterate 2 refine At ?_
 refine A4 ?_
 refine Ab ?_
 refine BO ?_
 have hx := hx0
 refine h7 _ ?_; clear h7
 refine Ad ?_
 try refine Ac ?_
 refine Al ?_
 refine Ae ?_
 refine Ab ?_
 have e1 := El (n := n) hvs hh v1
 have e2 : zR (Ba P n u (i + 1)) _ = _ := e1.2.1
 have e6 : bB (Ba P n u (i + 1)) _ = _ := e1.2.2
 refine h3 _ ⟨(i + 1, vs.take (C5 (Ba P n u i) (gr u i)) ++ v1 :: vs.drop (C5 (Ba P n u i) (gr u i))), ?_, ?_, [some 0, some 1, some 2, some 3, some 7, some 9], ?_⟩
 dsimp only
 exact ⟨by omega, (El hvs hh v1).1⟩
 dsimp only
 omega
 dsimp only
 refine ⟨by rfl, ?_, ?_⟩
 refine Aj ?_
 ·(repeat' apply And.intro) <;> (first | (first | rfl | (rw [e2]; simp; omega) | (rw [CC, EN (by omega), e2]) | exact congrArg (OB.bag _ _) e6.symm) | exact As)
 refine Aj ?_
 ·(repeat' apply And.intro) <;> (first | (first | rfl | (rw [e2]; simp; omega) | (rw [CC, EN (by omega), e2]) | exact congrArg (OB.bag _ _) e6.symm) | exact As)
 exact C8
 refine AX ?_ ?_
 simp only [Ao, Ak]
 try refine Ac ?_
 have hs := And.intro @Cw.eq_1 @Cw.eq_2
 refine AN (by rfl) (Ea 5 0 (f := 77) (sp := Spec.gen Cw) rfl (by simp only [A9, wB, eq_self, Nat.reduceEqDiff, reduceIte]; rfl)  rfl (by simp only [wB, eq_self, Nat.reduceEqDiff, reduceIte, and_true]) (m1 := ((bB (Ba P n u i) vs).take (C5 (Ba P n u i) (gr u i)))) (m2 := ((bB (Ba P n u i) vs).drop (C5 (Ba P n u i) (gr u i)))) (by simp only [wB, eq_self, Nat.reduceEqDiff, reduceIte, Db, Ct, Cs, Bb, BJ, hs, Cu, Ay, wL, Int.toNat_natCast, Int.reduceToNat, Nat.reduceAdd, Nat.reduceMul, Nat.reduceSub, Nat.reduceLeDiff, List.mem_cons, List.not_mem_nil, AA, CP, CY, hx, wG, Nat.reduceAdd, Nat.reduceSub, Nat.reduceLT, Nat.reduceLeDiff, if_true, if_false, ite_self, List.mem_append, true_implies, Option.bind_some, List.set_cons_zero, List.set_cons_succ, or_false, false_or]; rfl) (by first | trivial | ((try dsimp only); (first | (first | trivial | exact ⟨hgi.rise _ (AE ht), by have h2 : ts.length ≤ _ := hmi _ (AE ht); omega⟩) | exact A3))) (by simp only [wB, eq_self, Nat.reduceEqDiff, reduceIte, wG, Ay, Nat.reduceAdd, Nat.reduceSub, Nat.reduceLT, Nat.reduceLeDiff, Bc, List.cons_append, List.nil_append, List.mem_cons, List.not_mem_nil, or_false, false_or, wL, Int.toNat_natCast, Int.reduceToNat, Nat.reduceAdd, Nat.reduceMul, Nat.reduceSub, Nat.reduceLeDiff, hx]; rfl) (by rfl) (by rfl) (by rfl) (List.take_append_drop _ _).symm (by first | decide | simp) (by first | exact Nat.le_refl _ | (simp [rows]; done) | (first | (first | trivial | exact ⟨hgi.rise _ (AE ht), by have h2 : ts.length ≤ _ := hmi _ (AE ht); omega⟩) | exact A3)) fun v1 => ?_)
 simp only [wB, eq_self, Nat.reduceEqDiff, reduceIte, wG, Ay, Nat.reduceAdd, Nat.reduceSub, Nat.reduceLT, Nat.reduceLeDiff, Bc, List.cons_append, List.nil_append, List.mem_cons, List.not_mem_nil, or_false, false_or, wL, Int.toNat_natCast, Int.reduceToNat, Nat.reduceAdd, Nat.reduceMul, Nat.reduceSub, Nat.reduceLeDiff, hx]
 refine Ab ?_
 refine Bu ?_
 simp only [Ao, Ak]
 try refine Ac ?_
 refine Bv ?_
 refine At ?_
 refine Ap ?_
 iterate 2 refine At ?_
 refine A4 ?_
 refine Ab ?_
 refine BO ?_
 have hx := hx0
 refine h7 _ ?_; clear h7
 refine Ad ?_
 try refine Ac ?_
 refine Al ?_
 refine Ae ?_
 refine Ab ?_
 have e1 := El (n := n) hvs hh v1
 have e2 : zR (Ba P n u (i + 1)) _ = _ := e1.2.1
 have e6 : bB (Ba P n u (i + 1)) _ = _ := e1.2.2
 refine h3 _ ⟨(i + 1, vs.take (C5 (Ba P n u i) (gr u i)) ++ v1 :: vs.drop (C5 (Ba P n u i) (gr u i))), ?_, ?_, [some 0, some 1, some 2, some 3, some 7, some 9], ?_⟩
 dsimp only
 exact ⟨by omega, (El hvs hh v1).1⟩
 dsimp only
 omega
 dsimp only
 refine ⟨by rfl, ?_, ?_⟩
 refine Aj ?_
 ·(repeat' apply And.intro) <;> (first | (first | rfl | (rw [e2]; simp; omega) | (rw [CC, EN (by omega), e2]) | exact congrArg (OB.bag _ _) e6.symm) | exact As)
 refine Aj ?_
 ·(repeat' apply And.intro) <;> (first | (first | rfl | (rw [e2]; simp; omega) | (rw [CC, EN (by omega), e2]) | exact congrArg (OB.bag _ _) e6.symm) | exact As)
 exact C8
 have hh : Ds (Ba P n u i) (gr u i) = true := by simpa using hb13
 obtain ⟨ts, ht⟩ := Hn hgi.sort hh
 obtain ⟨v0, hv0, hq, hsp⟩ := XB hvs ht
 have hklt := (List.getElem?_eq_some_iff.1 ht).1
 refine Am ?_
 try simp only [Af]
 refine h11 _ ?_; clear h11
 have hx := And.intro @hq (And.intro @eG.eq_1 hx0)
 refine G1 [] (.seq [0, 4, 5, 6, 7, 8, 9, 10, 11, 12, 13] (.alt 1 (.alt 2 (.alt 3 (.seq [14, 15, 16, 17] .nil) (.alt 14 (.seq [3, 15, 16, 17] .nil) .nil)) (.alt 14 (.seq [2, 3, 15, 16, 17] .nil) .nil)) (.alt 14 (.seq [1, 2, 3, 15, 16, 17] .nil) .nil))) Fw (by kernel_rfl) ?_
 refine Bu ?_
 simp only [Ao, Ak]
 try refine Ac ?_
 iterate 3 refine Ae ?_
 refine Bv ?_
 refine At ?_
 refine Ap ?_
 refine Ae ?_
 iterate 2 refine At ?_
 refine Ap ?_
 refine Ae ?_
 refine Ab ?_
 refine AX ?_ ?_
 simp only [Ao, Ak]
 try refine Ac ?_
 refine Bv ?_
 refine Ab ?_
 refine AX ?_ ?_
 simp only [Ao, Ak]
 try refine Ac ?_
 refine At ?_
 refine Ab ?_
 refine AX ?_ ?_
 simp only [Ao, Ak]
 try refine Ac ?_
 refine Ap ?_
 refine Ab ?_
 refine Bu ?_
 simp only [Ao, Ak]
 try refine Ac ?_
 have hs := And.intro @Cw.eq_1 @Cw.eq_2
 refine AN (by rfl) (E2 5 (by rfl) (f := 77) (sp := Spec.gen Cw) rfl (by simp only [A9, wB, eq_self, Nat.reduceEqDiff, reduceIte]; rfl)  (by simp only [wB, eq_self, Nat.reduceEqDiff, reduceIte, and_true]) (m1 := ((bB (Ba P n u i) vs).take (C5 (Ba P n u i) (gr u i)))) (m2 := ((bB (Ba P n u i) vs).drop ((C5 (Ba P n u i) (gr u i)) + 1))) rfl hsp 0 rfl (by simp only [wB, eq_self, Nat.reduceEqDiff, reduceIte, wG, Ay, Nat.reduceAdd, Nat.reduceSub, Nat.reduceLT, Nat.reduceLeDiff, Bc, List.cons_append, List.nil_append, List.mem_cons, List.not_mem_nil, or_false, false_or, wL, Int.toNat_natCast, Int.reduceToNat, Nat.reduceAdd, Nat.reduceMul, Nat.reduceSub, Nat.reduceLeDiff, hx]; rfl) (by simp only [wB, eq_self, Nat.reduceEqDiff, reduceIte, Db, Ct, Cs, Bb, BJ, hs, Cu, Ay, wL, Int.toNat_natCast, Int.reduceToNat, Nat.reduceAdd, Nat.reduceMul, Nat.reduceSub, Nat.reduceLeDiff, List.mem_cons, List.not_mem_nil, AA, CP, CY, hx, wG, Nat.reduceAdd, Nat.reduceSub, Nat.reduceLT, Nat.reduceLeDiff, if_true, if_false, ite_self, List.mem_append, true_implies, Option.bind_some, List.set_cons_zero, List.set_cons_succ, or_false, false_or]; rfl) (by first | trivial | ((try dsimp only); (first | (first | trivial | exact ⟨hgi.rise _ (AE ht), by have h2 : ts.length ≤ _ := hmi _ (AE ht); omega⟩) | exact A3))) (by simp only [wB, eq_self, Nat.reduceEqDiff, reduceIte, wG, Ay, Nat.reduceAdd, Nat.reduceSub, Nat.reduceLT, Nat.reduceLeDiff, Bc, List.cons_append, List.nil_append, List.mem_cons, List.not_mem_nil, or_false, false_or, wL, Int.toNat_natCast, Int.reduceToNat, Nat.reduceAdd, Nat.reduceMul, Nat.reduceSub, Nat.reduceLeDiff, hx]; rfl) (by rfl) (by rfl) (by rfl) (by first | decide | simp) (by first | exact Nat.le_refl _ | (simp [rows]; done) | (first | (first | trivial | exact ⟨hgi.rise _ (AE ht), by have h2 : ts.length ≤ _ := hmi _ (AE ht); omega⟩) | exact A3)) fun v1 => ?_)
 simp only [wB, eq_self, Nat.reduceEqDiff, reduceIte, wG, Ay, Nat.reduceAdd, Nat.reduceSub, Nat.reduceLT, Nat.reduceLeDiff, Bc, List.cons_append, List.nil_append, List.mem_cons, List.not_mem_nil, or_false, false_or, wL, Int.toNat_natCast, Int.reduceToNat, Nat.reduceAdd, Nat.reduceMul, Nat.reduceSub, Nat.reduceLeDiff, hx]
 iterate 2 refine At ?_
 refine A4 ?_
 refine Ab ?_
 refine BO ?_
 have hx := hx0
 refine h7 _ ?_; clear h7
 refine Ad ?_
 try refine Ac ?_
 refine Al ?_
 refine Ae ?_
 refine Ab ?_
 have e1 := Ek (n := n) hvs hh ht v1
 have e2 : zR (Ba P n u (i + 1)) _ = _ := e1.2.1
 have e6 : bB (Ba P n u (i + 1)) _ = _ := e1.2.2
 refine h3 _ ⟨(i + 1, vs.set (C5 (Ba P n u i) (gr u i)) v1), ?_, ?_, [some 0, some 1, some 2, some 3, some 4, some 9], ?_⟩
 dsimp only
 exact ⟨by omega, (Ek hvs hh ht v1).1⟩
 dsimp only
 omega
 dsimp only
 refine ⟨by rfl, ?_, ?_⟩
 refine Aj ?_
 ·(repeat' apply And.intro) <;> (first | (first | rfl | (rw [e2]; simp; done) | (rw [CC, e2]) | (rw [List.take_length]; exact congrArg (OB.bag _ _) e6.symm)) | exact As)
 refine Aj ?_
 ·(repeat' apply And.intro) <;> (first | (first | rfl | (rw [e2]; simp; done) | (rw [CC, e2]) | (rw [List.take_length]; exact congrArg (OB.bag _ _) e6.symm)) | exact As)
 refine AX ?_ ?_
 simp only [Ao, Ak]
 try refine Ac ?_
 have hs := And.intro @Cw.eq_1 @Cw.eq_2
 refine AN (by rfl) (E2 5 (by rfl) (f := 77) (sp := Spec.gen Cw) rfl (by simp only [A9, wB, eq_self, Nat.reduceEqDiff, reduceIte]; rfl)  (by simp only [wB, eq_self, Nat.reduceEqDiff, reduceIte, and_true]) (m1 := ((bB (Ba P n u i) vs).take (C5 (Ba P n u i) (gr u i)))) (m2 := ((bB (Ba P n u i) vs).drop ((C5 (Ba P n u i) (gr u i)) + 1))) rfl hsp 0 rfl (by simp only [wB, eq_self, Nat.reduceEqDiff, reduceIte, wG, Ay, Nat.reduceAdd, Nat.reduceSub, Nat.reduceLT, Nat.reduceLeDiff, Bc, List.cons_append, List.nil_append, List.mem_cons, List.not_mem_nil, or_false, false_or, wL, Int.toNat_natCast, Int.reduceToNat, Nat.reduceAdd, Nat.reduceMul, Nat.reduceSub, Nat.reduceLeDiff, hx]; rfl) (by simp only [wB, eq_self, Nat.reduceEqDiff, reduceIte, Db, Ct, Cs, Bb, BJ, hs, Cu, Ay, wL, Int.toNat_natCast, Int.reduceToNat, Nat.reduceAdd, Nat.reduceMul, Nat.reduceSub, Nat.reduceLeDiff, List.mem_cons, List.not_mem_nil, AA, CP, CY, hx, wG, Nat.reduceAdd, Nat.reduceSub, Nat.reduceLT, Nat.reduceLeDiff, if_true, if_false, ite_self, List.mem_append, true_implies, Option.bind_some, List.set_cons_zero, List.set_cons_succ, or_false, false_or]; rfl) (by first | trivial | ((try dsimp only); (first | (first | trivial | exact ⟨hgi.rise _ (AE ht), by have h2 : ts.length ≤ _ := hmi _ (AE ht); omega⟩) | exact A3))) (by simp only [wB, eq_self, Nat.reduceEqDiff, reduceIte, wG, Ay, Nat.reduceAdd, Nat.reduceSub, Nat.reduceLT, Nat.reduceLeDiff, Bc, List.cons_append, List.nil_append, List.mem_cons, List.not_mem_nil, or_false, false_or, wL, Int.toNat_natCast, Int.reduceToNat, Nat.reduceAdd, Nat.reduceMul, Nat.reduceSub, Nat.reduceLeDiff, hx]; rfl) (by rfl) (by rfl) (by rfl) (by first | decide | simp) (by first | exact Nat.le_refl _ | (simp [rows]; done) | (first | (first | trivial | exact ⟨hgi.rise _ (AE ht), by have h2 : ts.length ≤ _ := hmi _ (AE ht); omega⟩) | exact A3)) fun v1 => ?_)
 simp only [wB, eq_self, Nat.reduceEqDiff, reduceIte, wG, Ay, Nat.reduceAdd, Nat.reduceSub, Nat.reduceLT, Nat.reduceLeDiff, Bc, List.cons_append, List.nil_append, List.mem_cons, List.not_mem_nil, or_false, false_or, wL, Int.toNat_natCast, Int.reduceToNat, Nat.reduceAdd, Nat.reduceMul, Nat.reduceSub, Nat.reduceLeDiff, hx]
 refine Ab ?_
 refine Bu ?_
 simp only [Ao, Ak]
 try refine Ac ?_
 refine Ap ?_
 iterate 2 refine At ?_
 refine A4 ?_
 refine Ab ?_
 refine BO ?_
 have hx := hx0
 refine h7 _ ?_; clear h7
 refine Ad ?_
 try refine Ac ?_
 refine Al ?_
 refine Ae ?_
 refine Ab ?_
 have e1 := Ek (n := n) hvs hh ht v1
 have e2 : zR (Ba P n u (i + 1)) _ = _ := e1.2.1
 have e6 : bB (Ba P n u (i + 1)) _ = _ := e1.2.2
 refine h3 _ ⟨(i + 1, vs.set (C5 (Ba P n u i) (gr u i)) v1), ?_, ?_, [some 0, some 1, some 2, some 3, some 4, some 9], ?_⟩
 dsimp only
 exact ⟨by omega, (Ek hvs hh ht v1).1⟩
 dsimp only
 omega
 dsimp only
 refine ⟨by rfl, ?_, ?_⟩
 refine Aj ?_
 ·(repeat' apply And.intro) <;> (first | (first | rfl | (rw [e2]; simp; done) | (rw [CC, e2]) | (rw [List.take_length]; exact congrArg (OB.bag _ _) e6.symm)) | exact As)
 refine Aj ?_
 ·(repeat' apply And.intro) <;> (first | (first | rfl | (rw [e2]; simp; done) | (rw [CC, e2]) | (rw [List.take_length]; exact congrArg (OB.bag _ _) e6.symm)) | exact As)
 exact C8
 refine AX ?_ ?_
 simp only [Ao, Ak]
 try refine Ac ?_
 have hs := And.intro @Cw.eq_1 @Cw.eq_2
 refine AN (by rfl) (E2 5 (by rfl) (f := 77) (sp := Spec.gen Cw) rfl (by simp only [A9, wB, eq_self, Nat.reduceEqDiff, reduceIte]; rfl)  (by simp only [wB, eq_self, Nat.reduceEqDiff, reduceIte, and_true]) (m1 := ((bB (Ba P n u i) vs).take (C5 (Ba P n u i) (gr u i)))) (m2 := ((bB (Ba P n u i) vs).drop ((C5 (Ba P n u i) (gr u i)) + 1))) rfl hsp 0 rfl (by simp only [wB, eq_self, Nat.reduceEqDiff, reduceIte, wG, Ay, Nat.reduceAdd, Nat.reduceSub, Nat.reduceLT, Nat.reduceLeDiff, Bc, List.cons_append, List.nil_append, List.mem_cons, List.not_mem_nil, or_false, false_or, wL, Int.toNat_natCast, Int.reduceToNat, Nat.reduceAdd, Nat.reduceMul, Nat.reduceSub, Nat.reduceLeDiff, hx]; rfl) (by simp only [wB, eq_self, Nat.reduceEqDiff, reduceIte, Db, Ct, Cs, Bb, BJ, hs, Cu, Ay, wL, Int.toNat_natCast, Int.reduceToNat, Nat.reduceAdd, Nat.reduceMul, Nat.reduceSub, Nat.reduceLeDiff, List.mem_cons, List.not_mem_nil, AA, CP, CY, hx, wG, Nat.reduceAdd, Nat.reduceSub, Nat.reduceLT, Nat.reduceLeDiff, if_true, if_false, ite_self, List.mem_append, true_implies, Option.bind_some, List.set_cons_zero, List.set_cons_succ, or_false, false_or]; rfl) (by first | trivial | ((try dsimp only); (first | (first | trivial | exact ⟨hgi.rise _ (AE ht), by have h2 : ts.length ≤ _ := hmi _ (AE ht); omega⟩) | exact A3))) (by simp only [wB, eq_self, Nat.reduceEqDiff, reduceIte, wG, Ay, Nat.reduceAdd, Nat.reduceSub, Nat.reduceLT, Nat.reduceLeDiff, Bc, List.cons_append, List.nil_append, List.mem_cons, List.not_mem_nil, or_false, false_or, wL, Int.toNat_natCast, Int.reduceToNat, Nat.reduceAdd, Nat.reduceMul, Nat.reduceSub, Nat.reduceLeDiff, hx]; rfl) (by rfl) (by rfl) (by rfl) (by first | decide | simp) (by first | exact Nat.le_refl _ | (simp [rows]; done) | (first | (first | trivial | exact ⟨hgi.rise _ (AE ht), by have h2 : ts.length ≤ _ := hmi _ (AE ht); omega⟩) | exact A3)) fun v1 => ?_)
 simp only [wB, eq_self, Nat.reduceEqDiff, reduceIte, wG, Ay, Nat.reduceAdd, Nat.reduceSub, Nat.reduceLT, Nat.reduceLeDiff, Bc, List.cons_append, List.nil_append, List.mem_cons, List.not_mem_nil, or_false, false_or, wL, Int.toNat_natCast, Int.reduceToNat, Nat.reduceAdd, Nat.reduceMul, Nat.reduceSub, Nat.reduceLeDiff, hx]
 refine Ab ?_
 refine Bu ?_
 simp only [Ao, Ak]
 try refine Ac ?_
 refine At ?_
 refine Ap ?_
 iterate 2 refine At ?_
 refine A4 ?_
 refine Ab ?_
 refine BO ?_
 have hx := hx0
 refine h7 _ ?_; clear h7
 refine Ad ?_
 try refine Ac ?_
 refine Al ?_
 refine Ae ?_
 refine Ab ?_
 have e1 := Ek (n := n) hvs hh ht v1
 have e2 : zR (Ba P n u (i + 1)) _ = _ := e1.2.1
 have e6 : bB (Ba P n u (i + 1)) _ = _ := e1.2.2
 refine h3 _ ⟨(i + 1, vs.set (C5 (Ba P n u i) (gr u i)) v1), ?_, ?_, [some 0, some 1, some 2, some 3, some 4, some 9], ?_⟩
 dsimp only
 exact ⟨by omega, (Ek hvs hh ht v1).1⟩
 dsimp only
 omega
 dsimp only
 refine ⟨by rfl, ?_, ?_⟩
 refine Aj ?_
 ·(repeat' apply And.intro) <;> (first | (first | rfl | (rw [e2]; simp; done) | (rw [CC, e2]) | (rw [List.take_length]; exact congrArg (OB.bag _ _) e6.symm)) | exact As)
 refine Aj ?_
 ·(repeat' apply And.intro) <;> (first | (first | rfl | (rw [e2]; simp; done) | (rw [CC, e2]) | (rw [List.take_length]; exact congrArg (OB.bag _ _) e6.symm)) | exact As)
 exact C8
 refine AX ?_ ?_
 simp only [Ao, Ak]
 try refine Ac ?_
 have hs := And.intro @Cw.eq_1 @Cw.eq_2
 refine AN (by rfl) (E2 5 (by rfl) (f := 77) (sp := Spec.gen Cw) rfl (by simp only [A9, wB, eq_self, Nat.reduceEqDiff, reduceIte]; rfl)  (by simp only [wB, eq_self, Nat.reduceEqDiff, reduceIte, and_true]) (m1 := ((bB (Ba P n u i) vs).take (C5 (Ba P n u i) (gr u i)))) (m2 := ((bB (Ba P n u i) vs).drop ((C5 (Ba P n u i) (gr u i)) + 1))) rfl hsp 0 rfl (by simp only [wB, eq_self, Nat.reduceEqDiff, reduceIte, wG, Ay, Nat.reduceAdd, Nat.reduceSub, Nat.reduceLT, Nat.reduceLeDiff, Bc, List.cons_append, List.nil_append, List.mem_cons, List.not_mem_nil, or_false, false_or, wL, Int.toNat_natCast, Int.reduceToNat, Nat.reduceAdd, Nat.reduceMul, Nat.reduceSub, Nat.reduceLeDiff, hx]; rfl) (by simp only [wB, eq_self, Nat.reduceEqDiff, reduceIte, Db, Ct, Cs, Bb, BJ, hs, Cu, Ay, wL, Int.toNat_natCast, Int.reduceToNat, Nat.reduceAdd, Nat.reduceMul, Nat.reduceSub, Nat.reduceLeDiff, List.mem_cons, List.not_mem_nil, AA, CP, CY, hx, wG, Nat.reduceAdd, Nat.reduceSub, Nat.reduceLT, Nat.reduceLeDiff, if_true, if_false, ite_self, List.mem_append, true_implies, Option.bind_some, List.set_cons_zero, List.set_cons_succ, or_false, false_or]; rfl) (by first | trivial | ((try dsimp only); (first | (first | trivial | exact ⟨hgi.rise _ (AE ht), by have h2 : ts.length ≤ _ := hmi _ (AE ht); omega⟩) | exact A3))) (by simp only [wB, eq_self, Nat.reduceEqDiff, reduceIte, wG, Ay, Nat.reduceAdd, Nat.reduceSub, Nat.reduceLT, Nat.reduceLeDiff, Bc, List.cons_append, List.nil_append, List.mem_cons, List.not_mem_nil, or_false, false_or, wL, Int.toNat_natCast, Int.reduceToNat, Nat.reduceAdd, Nat.reduceMul, Nat.reduceSub, Nat.reduceLeDiff, hx]; rfl) (by rfl) (by rfl) (by rfl) (by first | decide | simp) (by first | exact Nat.le_refl _ | (simp [rows]; done) | (first | (first | trivial | exact ⟨hgi.rise _ (AE ht), by have h2 : ts.length ≤ _ := hmi _ (AE ht); omega⟩) | exact A3)) fun v1 => ?_)
 simp only [wB, eq_self, Nat.reduceEqDiff, reduceIte, wG, Ay, Nat.reduceAdd, Nat.reduceSub, Nat.reduceLT, Nat.reduceLeDiff, Bc, List.cons_append, List.nil_append, List.mem_cons, List.not_mem_nil, or_false, false_or, wL, Int.toNat_natCast, Int.reduceToNat, Nat.reduceAdd, Nat.reduceMul, Nat.reduceSub, Nat.reduceLeDiff, hx]
 refine Ab ?_
 refine Bu ?_
 simp only [Ao, Ak]
 try refine Ac ?_
 refine Bv ?_
 refine At ?_
 refine Ap ?_
 iterate 2 refine At ?_
 refine A4 ?_
 refine Ab ?_
 refine BO ?_
 have hx := hx0
 refine h7 _ ?_; clear h7
 refine Ad ?_
 try refine Ac ?_
 refine Al ?_
 refine Ae ?_
 refine Ab ?_
 have e1 := Ek (n := n) hvs hh ht v1
 have e2 : zR (Ba P n u (i + 1)) _ = _ := e1.2.1
 have e6 : bB (Ba P n u (i + 1)) _ = _ := e1.2.2
 refine h3 _ ⟨(i + 1, vs.set (C5 (Ba P n u i) (gr u i)) v1), ?_, ?_, [some 0, some 1, some 2, some 3, some 4, some 9], ?_⟩
 dsimp only
 exact ⟨by omega, (Ek hvs hh ht v1).1⟩
 dsimp only
 omega
 dsimp only
 refine ⟨by rfl, ?_, ?_⟩
 refine Aj ?_
 ·(repeat' apply And.intro) <;> (first | (first | rfl | (rw [e2]; simp; done) | (rw [CC, e2]) | (rw [List.take_length]; exact congrArg (OB.bag _ _) e6.symm)) | exact As)
 refine Aj ?_
 ·(repeat' apply And.intro) <;> (first | (first | rfl | (rw [e2]; simp; done) | (rw [CC, e2]) | (rw [List.take_length]; exact congrArg (OB.bag _ _) e6.symm)) | exact As)
 exact C8
 have hie : i = u.length - 2 := by have := hb6; omega
 subst hie
 refine RQ 0 1 5 rfl rfl rfl rfl rfl (by decide) (ps := (NX P n u).map uP) (vs := vs) (by rw [List.length_map]; exact hvs) (by rw [PM]; rfl) (by rw [PL]; rfl) ?_
 simp only [Bc, BS, List.set, List.cons_append, List.nil_append, List.mem_cons, List.not_mem_nil, or_false]
 refine AF ?_
 simp only [Af, Nat.reduceEqDiff, reduceIte, eq_self]
 refine Aj ?_
 refine ⟨[some 0, some 1, some 2, some 3, some 6], by rfl, ?_, ?_⟩
 refine Aj ?_
 exact As
 refine Aj ?_
 exact As
 cases hg

def KY : Bn Tryz.prog := HC.add 53 (Spec.gen Jg) NW (by kernel_rfl)
end Go.Proofs.YtmbjnkgpcbpclaaGreat
