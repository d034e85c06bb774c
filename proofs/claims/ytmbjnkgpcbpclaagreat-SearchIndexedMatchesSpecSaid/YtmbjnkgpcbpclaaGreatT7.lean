import Derived.Test.YtmbjnkgpcbpclaaGreatT6
set_option linter.all false
set_option maxRecDepth 100000
set_option maxHeartbeats 4000000
namespace Go.Proofs.YtmbjnkgpcbpclaaGreat
open Go Go.Vc Go.RowKit
theorem Tt (l : List (Bs × D)) (k : Nat) (x : Bs × D) : rows eG (List.take k l) ++ [eG x] ++ rows eG (List.drop k l) = rows eG (l.take k ++ x :: l.drop k) := by simp [rows]
theorem Df {Q : List (Bs × D)} {k : Nat} {g : Bs} {d : D} : (rows eG Q).set k [.str g, d] = rows eG (Q.set k (g, d)) := by
  unfold rows; rw [List.map_set]; rfl
theorem Zk {P : List AR} {vs : List Value} (hl : vs.length = P.length) {k : Nat} {g : Bs} {t : List Int} (h : P[k]? = some (g, t)) : ∃ v, vs[k]? = some v ∧ (zR P vs)[k]? = some (g, .raw v) ∧ bB P vs = (bB P vs).take k ++ (v, rows eI t) :: (bB P vs).drop (k + 1) := by
  have hk := (List.getElem?_eq_some_iff.1 h).1
  obtain ⟨v, hv⟩ : ∃ v, vs[k]? = some v := ⟨_, List.getElem?_eq_getElem (by omega)⟩
  have hb : (bB P vs)[k]? = some (v, rows eI t) := by simp [bB, List.getElem?_zipWith, h, hv]
  exact ⟨v, hv, by simp [zR, List.getElem?_zipWith, h, hv], OV hb⟩
theorem EI {P : List AR} {vs : List Value} {g : Bs} {n : Int} {t : List Int} (hl : vs.length = P.length) (hh : Ce P g = true) (hk : P[Cq P g]? = some (g, t)) (v : Value) :
    (vs.set (Cq P g) v).length = (post P g n).length ∧ zR (post P g n) (vs.set (Cq P g) v) = (zR P vs).set (Cq P g) (g, .raw v) ∧ bB (post P g n) (vs.set (Cq P g) v) = (bB P vs).take (Cq P g) ++ (v, rows eI (Fh t n)) :: (bB P vs).drop (Cq P g + 1) := by
  have hp : post P g n = P.set (Cq P g) (g, Fh t n) := by unfold post; rw [if_pos hh, List.getD_eq_getElem?_getD, hk]; rfl
  have hlt := (List.getElem?_eq_some_iff.1 hk).1
  refine ⟨by rw [hp]; simp [hl], by rw [hp]; exact Nj _ _ _ _ _ _, ?_⟩
  rw [hp]
  unfold bB
  rw [Nj, List.set_eq_take_append_cons_drop, if_pos (by simp [hl]; omega)]
theorem EJ {P : List AR} {vs : List Value} {g : Bs} {n : Int} (hl : vs.length = P.length) (hh : Ce P g = false) (v : Value) :
    (vs.take (Cq P g) ++ v :: vs.drop (Cq P g)).length = (post P g n).length ∧ zR (post P g n) (vs.take (Cq P g) ++ v :: vs.drop (Cq P g)) = (zR P vs).take (Cq P g) ++ (g, .raw v) :: (zR P vs).drop (Cq P g) ∧
      bB (post P g n) (vs.take (Cq P g) ++ v :: vs.drop (Cq P g)) = (bB P vs).take (Cq P g) ++ (v, rows eI [n]) :: (bB P vs).drop (Cq P g) := by
  have hp : post P g n = P.take (Cq P g) ++ (g, [n]) :: P.drop (Cq P g) := by unfold post; rw [if_neg (by rw [hh]; simp)]
  refine ⟨?_, ?_, ?_⟩
  · rw [hp]; simp [hl]
  · rw [hp]; exact Ni _ _ _ _ _ _ hl
  · rw [hp]; exact Ni _ _ _ _ _ _ hl
theorem YC {Q : List (Bs × D)} {k : Nat} {x : Bs × D} (h : k ≤ Q.length) : (Q.take k ++ x :: Q.drop k)[k]? = some x := by
  rw [List.getElem?_append_right (by simp; omega), List.length_take, Nat.min_eq_left h]; simp
theorem F9 {Q : List (Bs × D)} {k : Nat} {x y : Bs × D} (h : k ≤ Q.length) : (Q.take k ++ x :: Q.drop k).set k y = Q.take k ++ y :: Q.drop k := by
  rw [List.set_append_right _ _ (by simp; omega), List.length_take, Nat.min_eq_left h]; simp
theorem U0 {s : Bs} {i : Nat} (h : i + 3 ≤ s.length) : (gr s i).length = 3 := by simp [gr]; omega
theorem Pv : A5 Tryz.prog 53 (Spec.gen JX) := by
 refine Bm (I2.at_ 71) Tryz.func53 rfl rfl rfl ?_
 intro args bl p r bf hg hp
 unfold JX at hg
 split at hg
 rename_i n u tx a b t z xs t2 z2 f e2 z3 ps
 simp only [Option.some.injEq, Prod.mk.injEq] at hg
 obtain ⟨rfl, rfl, rfl⟩ := hg
 obtain ⟨P, rfl, rfl, rfl, he, rfl, hso, hll, rfl, rfl, rfl, rfl, rfl, rfl, hg, hpl, hpm, hsl⟩ := hp
 rw [Wl]
 generalize dI xs = l at *
 subst he
 have hT : (I2).X = T := rfl
 have hx0 := And.intro @R2 (And.intro @Mw (And.intro @Kc @Tryz.results53))
 have hx := hx0
 refine ⟨Nat.le_of_ble_eq_true rfl, ?_⟩
 intro F W0 M0 hnp hmk
 have hnp : Bl.np = 3 := hnp
 have hx := And.intro @AE hx0
 refine Aa fun N1 h1 => Ac ?_
 refine Az ?_
 iterate 2 refine Ad ?_
 refine BB ?_
 refine Ar ?_
 refine Aq ?_
 refine Ad ?_
 have hc := Ag (E := (I2.at_ 71)) (f := 77) (sp := Spec.gen CO) rfl
 have hs := And.intro @CO.eq_1 @CO.eq_2
 refine BM ?_
 refine BB ?_
 refine Ar ?_
 refine A4 ?_
 have hx := hx0
 refine Ab (h1 _ (Aa fun N2 h2 => ?_)); clear h1
 refine Ws 0 1 rfl rfl rfl rfl (fun vs0 hvs0 => ?_)
 rw [List.length_map] at hvs0
 rw [R0, Rz]
 simp only [Bk, Cc, List.set, List.cons_append, List.nil_append, List.mem_cons, List.not_mem_nil, or_false]
 refine Ac ?_
 refine Ad ?_
 refine AU ?_
 iterate 2 refine Ao ?_
 refine Ad ?_
 refine Ab (h2 _ (As ?_)); clear h2
 refine A3 (σ := Nat × List Value) (fun s => (fun i vs => i ≤ u.length - 2 ∧ vs.length = (Be P n u i).length) (s.1) (s.2))
  (fun s => (fun i vs => [(0, .ptr 0 0 0), (1, .d (.int .i64 n)), (2, .d (.str u)), (22, .d (.int .i64 ((u.length : Int) - 3 + 1))), (23, .d (.int .i64 (i : Nat)))]) (s.1) (s.2))
  (fun s => (fun i vs => [some (.one tx [.sl 3 0 (Fh l n).length, .sl 4 0 (zR (Be P n u i) vs).length]), none, none, some (.vec 3 1 (rows eI (Fh l n))), some (.vec 85 2 (rows eG (zR (Be P n u i) vs))), some (.ob (.bag 3 1 (bB (Be P n u i) vs)))]) (s.1) (s.2)) (fun s => (fun i vs => u.length - i) (s.1) (s.2)) hnp (0, vs0) ?_ [some 0, some 1, some 2, some 3, some 4, some 5] ?_ ?_
 dsimp only
 exact ⟨by omega, hvs0⟩
 dsimp only
 refine ⟨by rfl, ?_, ?_⟩
 refine Aj ?_
 ·(repeat' apply And.intro) <;> (first | (first | (rw [List.length_map]; exact (QI hvs0).symm) | rfl) | exact Au)
 refine Aj ?_
 ·(repeat' apply And.intro) <;> (first | (first | (rw [List.length_map]; exact (QI hvs0).symm) | rfl) | exact Au)
 rintro ⟨i, vs⟩ hinv N3 h3
 dsimp only at hinv ⊢
 obtain ⟨hi, hvs⟩ := hinv
 have hgi := FK (n := n) (s := u) hg i
 have hzl := QI hvs
 have hzs := XH hvs hgi.sort
 have hzb := ZU hvs (gr u i)
 have hzh := Za hvs (gr u i)
 have hkl := Y4 (Be P n u i) (gr u i)
 have hpi := HK (P := P) (n := n) (s := u) i
 have hgr : List.take (((i : Int) + 3).toNat - i) (u.drop i) = gr u i := by unfold gr; congr 1; omega
 have hmi := HL (n := n) (s := u) (by omega) hpm i
 refine Aa fun N4 h4 => Ac ?_
 refine Az ?_
 refine Ao ?_
 refine Ab (h4 _ (Aa fun N5 h5 => Ak (fun hb6 => ?_) (fun hb6 => ?_))); clear h4
 have hi3 : i + 3 ≤ u.length := by have := hb6; omega
 refine An ?_
 try simp only [Ae]
 refine h5 _ (Aa fun N7 h7 => As ?_); clear h5
 refine Aa fun N8 h8 => Ac ?_
 iterate 2 refine Ad ?_
 refine Ab (h8 _ (Aa fun N9 h9 => Ac ?_)); clear h8
 iterate 3 refine Ad ?_
 refine Ao ?_
 refine BZ ?_
 refine Ad ?_
 refine Ab ?_
 simp only [hgr]
 refine h9 _ (Aa fun N10 h10 => Ac ?_); clear h9
 refine Ad ?_
 refine BB ?_
 refine Aq ?_
 refine Ad ?_
 have hc := Ag (E := (I2.at_ 71)) (f := 78) (sp := Spec.pure Du) rfl
 have hs := @Du.eq_1
 refine Ba (hq := by (first | (exact ⟨by omega, by omega, by rw [List.take_length]; exact hzs, by rw [List.take_length]; omega⟩) | exact AQ)) ?_
 refine Ad ?_
 iterate 2 refine Dt ?_
 iterate 2 refine Ad ?_
 refine Ab ?_
 simp only [List.take_length, hzb, hzh]
 refine h10 _ (Aa fun N11 h11 => ?_); clear h10
 refine Aa fun N12 h12 => Ac ?_
 refine Ad ?_
 refine EL ?_
 refine Ab (h12 _ (Ak (fun hb13 => ?_) (fun hb13 => ?_))); clear h12
 have hh : Ce (Be P n u i) (gr u i) = false := by simpa using hb13
 have hrow : rows eG (List.take (Cq (Be P n u i) (gr u i)) (zR (Be P n u i) vs)) ++ [[.str (gr u i), .raw GF]] ++ rows eG (List.drop (Cq (Be P n u i) (gr u i)) (zR (Be P n u i) vs)) = rows eG (List.take (Cq (Be P n u i) (gr u i)) (zR (Be P n u i) vs) ++ (gr u i, .raw GF) :: List.drop (Cq (Be P n u i) (gr u i)) (zR (Be P n u i) vs)) := Tt _ _ (gr u i, .raw GF)
 have hq : (List.take (Cq (Be P n u i) (gr u i)) (zR (Be P n u i) vs) ++ (gr u i, D.raw GF) :: List.drop (Cq (Be P n u i) (gr u i)) (zR (Be P n u i) vs))[(Cq (Be P n u i) (gr u i))]? = some (gr u i, .raw GF) := YC (by omega)
 refine Ac ?_
 iterate 2 refine Ad ?_
 refine BB ?_
 refine Ar ?_
 refine Aq ?_
 iterate 2 refine Ad ?_
 refine AS (by rfl) (Qv (by simp only [wB, eq_self, Nat.reduceEqDiff, reduceIte, Dv, Fm, List.map, BI, LO, hT, CZ, wL, Int.toNat_natCast, Int.reduceToNat, Nat.reduceAdd, Nat.reduceMul, Nat.reduceSub, Nat.reduceLeDiff, hx]; rfl) (by exact AQ) (by simp only [EG, EH, AX, AP, AW, eq_self, Nat.reduceEqDiff, reduceIte, and_true, true_and, AF, List.map_cons, List.map_nil]) ?_)
 simp only [List.map, Xw, wB, eq_self, Nat.reduceEqDiff, reduceIte, wL, Int.toNat_natCast, Int.reduceToNat, Nat.reduceAdd, Nat.reduceMul, Nat.reduceSub, Nat.reduceLeDiff, hx]
 refine Di ?_
 have hc := Ag (E := (I2.at_ 71)) (f := 79) (sp := Spec.gen (Ds 85 2)) rfl
 have hs := And.intro @Ds.eq_1 @Ds.eq_2
 refine BM ?_
 refine BB ?_
 refine Ar ?_
 refine A4 ?_
 refine Ab ?_
 simp only [hrow]
 refine h11 _ ?_; clear h11
 have hx := And.intro @hq (And.intro @eG.eq_1 hx0)
 refine EA [] (.seq [0, 4, 5, 6, 7, 8, 9, 10, 11, 12, 13] (.alt 1 (.alt 2 (.alt 3 (.seq [14, 15, 16, 17] .nil) (.alt 14 (.seq [3, 15, 16, 17] .nil) .nil)) (.alt 14 (.seq [2, 3, 15, 16, 17] .nil) .nil)) (.alt 14 (.seq [1, 2, 3, 15, 16, 17] .nil) .nil))) ER (by kernel_rfl) ?_
 refine A7 ?_
 simp only [Ah, Af]
 iterate 3 refine Ad ?_
 refine BB ?_
 refine Ar ?_
 refine Aq ?_
 refine Ad ?_
 iterate 2 refine Ar ?_
 refine Aq ?_
 refine Ad ?_
 refine Ab ?_
 refine A0 ?_ ?_
 simp only [Ah, Af]
 refine BB ?_
 refine Ab ?_
 refine A0 ?_ ?_
 simp only [Ah, Af]
 refine Ar ?_
 refine Ab ?_
 refine A0 ?_ ?_
 simp only [Ah, Af]
 refine Aq ?_
 refine Ab ?_
 refine A7 ?_
 simp only [Ah, Af]
 have hs := And.intro @CO.eq_1 @CO.eq_2
 refine AS (by rfl) (E7 5 0 (f := 77) (sp := Spec.gen CO) rfl (by simp only [AF, wB, eq_self, Nat.reduceEqDiff, reduceIte]; rfl)  rfl (by simp only [wB, eq_self, Nat.reduceEqDiff, reduceIte, and_true]) (m1 := ((bB (Be P n u i) vs).take (Cq (Be P n u i) (gr u i)))) (m2 := ((bB (Be P n u i) vs).drop (Cq (Be P n u i) (gr u i)))) (by simp only [wB, eq_self, Nat.reduceEqDiff, reduceIte, D5, CL, CK, Bi, BX, hs, CM, A2, wL, Int.toNat_natCast, Int.reduceToNat, Nat.reduceAdd, Nat.reduceMul, Nat.reduceSub, Nat.reduceLeDiff, List.mem_cons, List.not_mem_nil, AE, Dd, D0, hx, wG, Nat.reduceAdd, Nat.reduceSub, Nat.reduceLT, Nat.reduceLeDiff, if_true, if_false, ite_self, List.mem_append, true_implies, Option.bind_some, List.set_cons_zero, List.set_cons_succ, or_false, false_or]; rfl) (by first | trivial | ((try dsimp only); (first | (first | trivial | exact ⟨hgi.rise _ (AB ht), by have h2 : ts.length ≤ _ := hmi _ (AB ht); omega⟩) | exact AQ))) (by simp only [wB, eq_self, Nat.reduceEqDiff, reduceIte, wG, A2, Nat.reduceAdd, Nat.reduceSub, Nat.reduceLT, Nat.reduceLeDiff, Bk, List.cons_append, List.nil_append, List.mem_cons, List.not_mem_nil, or_false, false_or, wL, Int.toNat_natCast, Int.reduceToNat, Nat.reduceAdd, Nat.reduceMul, Nat.reduceSub, Nat.reduceLeDiff, hx]; rfl) (by rfl) (by rfl) (by rfl) (List.take_append_drop _ _).symm (by first | decide | simp) (by first | exact Nat.le_refl _ | (simp [rows]; done) | (first | (first | trivial | exact ⟨hgi.rise _ (AB ht), by have h2 : ts.length ≤ _ := hmi _ (AB ht); omega⟩) | exact AQ)) fun v1 => ?_)
 simp only [wB, eq_self, Nat.reduceEqDiff, reduceIte, wG, A2, Nat.reduceAdd, Nat.reduceSub, Nat.reduceLT, Nat.reduceLeDiff, Bk, List.cons_append, List.nil_append, List.mem_cons, List.not_mem_nil, or_false, false_or, wL, Int.toNat_natCast, Int.reduceToNat, Nat.reduceAdd, Nat.reduceMul, Nat.reduceSub, Nat.reduceLeDiff, hx]
 iterate 2 refine Ar ?_
 refine A4 ?_
 refine Ab ?_
 refine AK ?_
 have hx := hx0
 refine h7 _ (Ac ?_); clear h7
 refine Ao ?_
 refine Ad ?_
 refine Ab ?_
 have e1 := EJ (n := n) hvs hh v1
 have e2 : zR (Be P n u (i + 1)) _ = _ := e1.2.1
 have e6 : bB (Be P n u (i + 1)) _ = _ := e1.2.2
 refine h3 _ ⟨(i + 1, vs.take (Cq (Be P n u i) (gr u i)) ++ v1 :: vs.drop (Cq (Be P n u i) (gr u i))), ?_, ?_, [some 0, some 1, some 2, some 3, some 7, some 9], ?_⟩
 dsimp only
 exact ⟨by omega, (EJ hvs hh v1).1⟩
 dsimp only
 omega
 dsimp only
 refine ⟨by rfl, ?_, ?_⟩
 refine Aj ?_
 ·(repeat' apply And.intro) <;> (first | (first | rfl | (rw [e2]; simp; omega) | (rw [Df, F9 (by omega), e2]) | exact congrArg (OB.bag _ _) e6.symm) | exact Au)
 refine Aj ?_
 ·(repeat' apply And.intro) <;> (first | (first | rfl | (rw [e2]; simp; omega) | (rw [Df, F9 (by omega), e2]) | exact congrArg (OB.bag _ _) e6.symm) | exact Au)
 refine A0 ?_ ?_
 simp only [Ah, Af]
 have hs := And.intro @CO.eq_1 @CO.eq_2
 refine AS (by rfl) (E7 5 0 (f := 77) (sp := Spec.gen CO) rfl (by simp only [AF, wB, eq_self, Nat.reduceEqDiff, reduceIte]; rfl)  rfl (by simp only [wB, eq_self, Nat.reduceEqDiff, reduceIte, and_true]) (m1 := ((bB (Be P n u i) vs).take (Cq (Be P n u i) (gr u i)))) (m2 := ((bB (Be P n u i) vs).drop (Cq (Be P n u i) (gr u i)))) (by simp only [wB, eq_self, Nat.reduceEqDiff, reduceIte, D5, CL, CK, Bi, BX, hs, CM, A2, wL, Int.toNat_natCast, Int.reduceToNat, Nat.reduceAdd, Nat.reduceMul, Nat.reduceSub, Nat.reduceLeDiff, List.mem_cons, List.not_mem_nil, AE, Dd, D0, hx, wG, Nat.reduceAdd, Nat.reduceSub, Nat.reduceLT, Nat.reduceLeDiff, if_true, if_false, ite_self, List.mem_append, true_implies, Option.bind_some, List.set_cons_zero, List.set_cons_succ, or_false, false_or]; rfl) (by first | trivial | ((try dsimp only); (first | (first | trivial | exact ⟨hgi.rise _ (AB ht), by have h2 : ts.length ≤ _ := hmi _ (AB ht); omega⟩) | exact AQ))) (by simp only [wB, eq_self, Nat.reduceEqDiff, reduceIte, wG, A2, Nat.reduceAdd, Nat.reduceSub, Nat.reduceLT, Nat.reduceLeDiff, Bk, List.cons_append, List.nil_append, List.mem_cons, List.not_mem_nil, or_false, false_or, wL, Int.toNat_natCast, Int.reduceToNat, Nat.reduceAdd, Nat.reduceMul, Nat.reduceSub, Nat.reduceLeDiff, hx]; rfl) (by rfl) (by rfl) (by rfl) (List.take_append_drop _ _).symm (by first | decide | simp) (by first | exact Nat.le_refl _ | (simp [rows]; done) | (first | (first | trivial | exact ⟨hgi.rise _ (AB ht), by have h2 : ts.length ≤ _ := hmi _ (AB ht); omega⟩) | exact AQ)) fun v1 => ?_)
 simp only [wB, eq_self, Nat.reduceEqDiff, reduceIte, wG, A2, Nat.reduceAdd, Nat.reduceSub, Nat.reduceLT, Nat.reduceLeDiff, Bk, List.cons_append, List.nil_append, List.mem_cons, List.not_mem_nil, or_false, false_or, wL, Int.toNat_natCast, Int.reduceToNat, Nat.reduceAdd, Nat.reduceMul, Nat.reduceSub, Nat.reduceLeDiff, hx]
 refine Ab ?_
 refine A7 ?_
 simp only [Ah, Af]
 refine Aq ?_
 iterate 2 refine Ar ?_
 refine A4 ?_
 refine Ab ?_
 refine AK ?_
 have hx := hx0
 refine h7 _ (Ac ?_); clear h7
 refine Ao ?_
 refine Ad ?_
 refine Ab ?_
 have e1 := EJ (n := n) hvs hh v1
 have e2 : zR (Be P n u (i + 1)) _ = _ := e1.2.1
 have e6 : bB (Be P n u (i + 1)) _ = _ := e1.2.2
 refine h3 _ ⟨(i + 1, vs.take (Cq (Be P n u i) (gr u i)) ++ v1 :: vs.drop (Cq (Be P n u i) (gr u i))), ?_, ?_, [some 0, some 1, some 2, some 3, some 7, some 9], ?_⟩
 dsimp only
 exact ⟨by omega, (EJ hvs hh v1).1⟩
 dsimp only
 omega
 dsimp only
 refine ⟨by rfl, ?_, ?_⟩
 refine Aj ?_
 ·(repeat' apply And.intro) <;> (first | (first | rfl | (rw [e2]; simp; omega) | (rw [Df, F9 (by omega), e2]) | exact congrArg (OB.bag _ _) e6.symm) | exact Au)
 refine Aj ?_
 ·(repeat' apply And.intro) <;> (first | (first | rfl | (rw [e2]; simp; omega) | (rw [Df, F9 (by omega), e2]) | exact congrArg (OB.bag _ _) e6.symm) | exact Au)
 exact Bh
 refine A0 ?_ ?_
 simp only [Ah, Af]
 have hs := And.intro @CO.eq_1 @CO.eq_2
 refine AS (by rfl) (E7 5 0 (f := 77) (sp := Spec.gen CO) rfl (by simp only [AF, wB, eq_self, Nat.reduceEqDiff, reduceIte]; rfl)  rfl (by simp only [wB, eq_self, Nat.reduceEqDiff, reduceIte, and_true]) (m1 := ((bB (Be P n u i) vs).take (Cq (Be P n u i) (gr u i)))) (m2 := ((bB (Be P n u i) vs).drop (Cq (Be P n u i) (gr u i)))) (by simp only [wB, eq_self, Nat.reduceEqDiff, reduceIte, D5, CL, CK, Bi, BX, hs, CM, A2, wL, Int.toNat_natCast, Int.reduceToNat, Nat.reduceAdd, Nat.reduceMul, Nat.reduceSub, Nat.reduceLeDiff, List.mem_cons, List.not_mem_nil, AE, Dd, D0, hx, wG, Nat.reduceAdd, Nat.reduceSub, Nat.reduceLT, Nat.reduceLeDiff, if_true, if_false, ite_self, List.mem_append, true_implies, Option.bind_some, List.set_cons_zero, List.set_cons_succ, or_false, false_or]; rfl) (by first | trivial | ((try dsimp only); (first | (first | trivial | exact ⟨hgi.rise _ (AB ht), by have h2 : ts.length ≤ _ := hmi _ (AB ht); omega⟩) | exact AQ))) (by simp only [wB, eq_self, Nat.reduceEqDiff, reduceIte, wG, A2, Nat.reduceAdd, Nat.reduceSub, Nat.reduceLT, Nat.reduceLeDiff, Bk, List.cons_append, List.nil_append, List.mem_cons, List.not_mem_nil, or_false, false_or, wL, Int.toNat_natCast, Int.reduceToNat, Nat.reduceAdd, Nat.reduceMul, Nat.reduceSub, Nat.reduceLeDiff, hx]; rfl) (by rfl) (by rfl) (by rfl) (List.take_append_drop _ _).symm (by first | decide | simp) (by first | exact Nat.le_refl _ | (simp [rows]; done) | (first | (first | trivial | exact ⟨hgi.rise _ (AB ht), by have h2 : ts.length ≤ _ := hmi _ (AB ht); omega⟩) | exact AQ)) fun v1 => ?_)
 simp only [wB, eq_self, Nat.reduceEqDiff, reduceIte, wG, A2, Nat.reduceAdd, Nat.reduceSub, Nat.reduceLT, Nat.reduceLeDiff, Bk, List.cons_append, List.nil_append, List.mem_cons, List.not_mem_nil, or_false, false_or, wL, Int.toNat_natCast, Int.reduceToNat, Nat.reduceAdd, Nat.reduceMul, Nat.reduceSub, Nat.reduceLeDiff, hx]
 refine Ab ?_
 refine A7 ?_
 simp only [Ah, Af]
 refine Ar ?_
 refine Aq ?_
 iterate 2 refine Ar ?_
 refine A4 ?_
 refine Ab ?_
 refine AK ?_
 have hx := hx0
 refine h7 _ (Ac ?_); clear h7
 refine Ao ?_
 refine Ad ?_
 refine Ab ?_
 have e1 := EJ (n := n) hvs hh v1
 have e2 : zR (Be P n u (i + 1)) _ = _ := e1.2.1
 have e6 : bB (Be P n u (i + 1)) _ = _ := e1.2.2
 refine h3 _ ⟨(i + 1, vs.take (Cq (Be P n u i) (gr u i)) ++ v1 :: vs.drop (Cq (Be P n u i) (gr u i))), ?_, ?_, [some 0, some 1, some 2, some 3, some 7, some 9], ?_⟩
 dsimp only
 exact ⟨by omega, (EJ hvs hh v1).1⟩
 dsimp only
 omega
 dsimp only
 refine ⟨by rfl, ?_, ?_⟩
 refine Aj ?_
 ·(repeat' apply And.intro) <;> (first | (first | rfl | (rw [e2]; simp; omega) | (rw [Df, F9 (by omega), e2]) | exact congrArg (OB.bag _ _) e6.symm) | exact Au)
 refine Aj ?_
 ·(repeat' apply And.intro) <;> (first | (first | rfl | (rw [e2]; simp; omega) | (rw [Df, F9 (by omega), e2]) | exact congrArg (OB.bag _ _) e6.symm) | exact Au)
 exact Bh
 refine A0 ?_ ?_
 simp only [Ah, Af]
 have hs := And.intro @CO.eq_1 @CO.eq_2
 refine AS (by rfl) (E7 5 0 (f := 77) (sp := Spec.gen CO) rfl (by simp only [AF, wB, eq_self, Nat.reduceEqDiff, reduceIte]; rfl)  rfl (by simp only [wB, eq_self, Nat.reduceEqDiff, reduceIte, and_true]) (m1 := ((bB (Be P n u i) vs).take (Cq (Be P n u i) (gr u i)))) (m2 := ((bB (Be P n u i) vs).drop (Cq (Be P n u i) (gr u i)))) (by simp only [wB, eq_self, Nat.reduceEqDiff, reduceIte, D5, CL, CK, Bi, BX, hs, CM, A2, wL, Int.toNat_natCast, Int.reduceToNat, Nat.reduceAdd, Nat.reduceMul, Nat.reduceSub, Nat.reduceLeDiff, List.mem_cons, List.not_mem_nil, AE, Dd, D0, hx, wG, Nat.reduceAdd, Nat.reduceSub, Nat.reduceLT, Nat.reduceLeDiff, if_true, if_false, ite_self, List.mem_append, true_implies, Option.bind_some, List.set_cons_zero, List.set_cons_succ, or_false, false_or]; rfl) (by first | trivial | ((try dsimp only); (first | (first | trivial | exact ⟨hgi.rise _ (AB ht), by have h2 : ts.length ≤ _ := hmi _ (AB ht); omega⟩) | exact AQ))) (by simp only [wB, eq_self, Nat.reduceEqDiff, reduceIte, wG, A2, Nat.reduceAdd, Nat.reduceSub, Nat.reduceLT, Nat.reduceLeDiff, Bk, List.cons_append, List.nil_append, List.mem_cons, List.not_mem_nil, or_false, false_or, wL, Int.toNat_natCast, Int.reduceToNat, Nat.reduceAdd, Nat.reduceMul, Nat.reduceSub, Nat.reduceLeDiff, hx]; rfl) (by rfl) (by rfl) (by rfl) (List.take_append_drop _ _).symm (by first | decide | simp) (by first | exact Nat.le_refl _ | (simp [rows]; done) | (first | (first | trivial | exact ⟨hgi.rise _ (AB ht), by have h2 : ts.length ≤ _ := hmi _ (AB ht); omega⟩) | exact AQ)) fun v1 => ?_)
 simp only [wB, eq_self, Nat.reduceEqDiff, reduceIte, wG, A2, Nat.reduceAdd, Nat.reduceSub, Nat.reduceLT, Nat.reduceLeDiff, Bk, List.cons_append, List.nil_append, List.mem_cons, List.not_mem_nil, or_false, false_or, wL, Int.toNat_natCast, Int.reduceToNat, Nat.reduceAdd, Nat.reduceMul, Nat.reduceSub, Nat.reduceLeDiff, hx]
 refine Ab ?_
 refine A7 ?_
 simp only [Ah, Af]
 refine BB ?_
 refine Ar ?_
 refine Aq ?_
 iterate 2 refine Ar ?_
 refine A4 ?_
 refine Ab ?_
 refine AK ?_
 have hx := hx0
 refine h7 _ (Ac ?_); clear h7
 refine Ao ?_
 refine Ad ?_
 refine Ab ?_
 have e1 := EJ (n := n) hvs hh v1
 have e2 : zR (Be P n u (i + 1)) _ = _ := e1.2.1
 have e6 : bB (Be P n u (i + 1)) _ = _ := e1.2.2
 refine h3 _ ⟨(i + 1, vs.take (Cq (Be P n u i) (gr u i)) ++ v1 :: vs.drop (Cq (Be P n u i) (gr u i))), ?_, ?_, [some 0, some 1, some 2, some 3, some 7, some 9], ?_⟩
 dsimp only
 exact ⟨by omega, (EJ hvs hh v1).1⟩
 dsimp only
 omega
 dsimp only
 refine ⟨by rfl, ?_, ?_⟩
 refine Aj ?_
 ·(repeat' apply And.intro) <;> (first | (first | rfl | (rw [e2]; simp; omega) | (rw [Df, F9 (by omega), e2]) | exact congrArg (OB.bag _ _) e6.symm) | exact Au)
 refine Aj ?_
 ·(repeat' apply And.intro) <;> (first | (first | rfl | (rw [e2]; simp; omega) | (rw [Df, F9 (by omega), e2]) | exact congrArg (OB.bag _ _) e6.symm) | exact Au)
 exact Bh
 have hh : Ce (Be P n u i) (gr u i) = true := by simpa using hb13
 obtain ⟨ts, ht⟩ := GS hgi.sort hh
 obtain ⟨v0, hv0, hq, hsp⟩ := Zk hvs ht
 have hklt := (List.getElem?_eq_some_iff.1 ht).1
 refine An ?_
 try simp only [Ae]
 refine h11 _ ?_; clear h11
 have hx := And.intro @hq (And.intro @eG.eq_1 hx0)
 refine EA [] (.seq [0, 4, 5, 6, 7, 8, 9, 10, 11, 12, 13] (.alt 1 (.alt 2 (.alt 3 (.seq [14, 15, 16, 17] .nil) (.alt 14 (.seq [3, 15, 16, 17] .nil) .nil)) (.alt 14 (.seq [2, 3, 15, 16, 17] .nil) .nil)) (.alt 14 (.seq [1, 2, 3, 15, 16, 17] .nil) .nil))) ER (by kernel_rfl) ?_
 refine A7 ?_
 simp only [Ah, Af]
 iterate 3 refine Ad ?_
 refine BB ?_
 refine Ar ?_
 refine Aq ?_
 refine Ad ?_
 iterate 2 refine Ar ?_
 refine Aq ?_
 refine Ad ?_
 refine Ab ?_
 refine A0 ?_ ?_
 simp only [Ah, Af]
 refine BB ?_
 refine Ab ?_
 refine A0 ?_ ?_
 simp only [Ah, Af]
 refine Ar ?_
 refine Ab ?_
 refine A0 ?_ ?_
 simp only [Ah, Af]
 refine Aq ?_
 refine Ab ?_
 refine A7 ?_
 simp only [Ah, Af]
 have hs := And.intro @CO.eq_1 @CO.eq_2
 refine AS (by rfl) (Fa 5 (by rfl) (f := 77) (sp := Spec.gen CO) rfl (by simp only [AF, wB, eq_self, Nat.reduceEqDiff, reduceIte]; rfl)  (by simp only [wB, eq_self, Nat.reduceEqDiff, reduceIte, and_true]) (m1 := ((bB (Be P n u i) vs).take (Cq (Be P n u i) (gr u i)))) (m2 := ((bB (Be P n u i) vs).drop ((Cq (Be P n u i) (gr u i)) + 1))) rfl hsp 0 rfl (by simp only [wB, eq_self, Nat.reduceEqDiff, reduceIte, wG, A2, Nat.reduceAdd, Nat.reduceSub, Nat.reduceLT, Nat.reduceLeDiff, Bk, List.cons_append, List.nil_append, List.mem_cons, List.not_mem_nil, or_false, false_or, wL, Int.toNat_natCast, Int.reduceToNat, Nat.reduceAdd, Nat.reduceMul, Nat.reduceSub, Nat.reduceLeDiff, hx]; rfl) (by simp only [wB, eq_self, Nat.reduceEqDiff, reduceIte, D5, CL, CK, Bi, BX, hs, CM, A2, wL, Int.toNat_natCast, Int.reduceToNat, Nat.reduceAdd, Nat.reduceMul, Nat.reduceSub, Nat.reduceLeDiff, List.mem_cons, List.not_mem_nil, AE, Dd, D0, hx, wG, Nat.reduceAdd, Nat.reduceSub, Nat.reduceLT, Nat.reduceLeDiff, if_true, if_false, ite_self, List.mem_append, true_implies, Option.bind_some, List.set_cons_zero, List.set_cons_succ, or_false, false_or]; rfl) (by first | trivial | ((try dsimp only); (first | (first | trivial | exact ⟨hgi.rise _ (AB ht), by have h2 : ts.length ≤ _ := hmi _ (AB ht); omega⟩) | exact AQ))) (by simp only [wB, eq_self, Nat.reduceEqDiff, reduceIte, wG, A2, Nat.reduceAdd, Nat.reduceSub, Nat.reduceLT, Nat.reduceLeDiff, Bk, List.cons_append, List.nil_append, List.mem_cons, List.not_mem_nil, or_false, false_or, wL, Int.toNat_natCast, Int.reduceToNat, Nat.reduceAdd, Nat.reduceMul, Nat.reduceSub, Nat.reduceLeDiff, hx]; rfl) (by rfl) (by rfl) (by rfl) (by first | decide | simp) (by first | exact Nat.le_refl _ | (simp [rows]; done) | (first | (first | trivial | exact ⟨hgi.rise _ (AB ht), by have h2 : ts.length ≤ _ := hmi _ (AB ht); omega⟩) | exact AQ)) fun v1 => ?_)
 simp only [wB, eq_self, Nat.reduceEqDiff, reduceIte, wG, A2, Nat.reduceAdd, Nat.reduceSub, Nat.reduceLT, Nat.reduceLeDiff, Bk, List.cons_append, List.nil_append, List.mem_cons, List.not_mem_nil, or_false, false_or, wL, Int.toNat_natCast, Int.reduceToNat, Nat.reduceAdd, Nat.reduceMul, Nat.reduceSub, Nat.reduceLeDiff, hx]
 iterate 2 refine Ar ?_
 refine A4 ?_
 refine Ab ?_
 refine AK ?_
 have hx := hx0
 refine h7 _ (Ac ?_); clear h7
 refine Ao ?_
 refine Ad ?_
 refine Ab ?_
 have e1 := EI (n := n) hvs hh ht v1
 have e2 : zR (Be P n u (i + 1)) _ = _ := e1.2.1
 have e6 : bB (Be P n u (i + 1)) _ = _ := e1.2.2
 refine h3 _ ⟨(i + 1, vs.set (Cq (Be P n u i) (gr u i)) v1), ?_, ?_, [some 0, some 1, some 2, some 3, some 4, some 9], ?_⟩
 dsimp only
 exact ⟨by omega, (EI hvs hh ht v1).1⟩
 dsimp only
 omega
 dsimp only
 refine ⟨by rfl, ?_, ?_⟩
 refine Aj ?_
 ·(repeat' apply And.intro) <;> (first | (first | rfl | (rw [e2]; simp; done) | (rw [Df, e2]) | (rw [List.take_length]; exact congrArg (OB.bag _ _) e6.symm)) | exact Au)
 refine Aj ?_
 ·(repeat' apply And.intro) <;> (first | (first | rfl | (rw [e2]; simp; done) | (rw [Df, e2]) | (rw [List.take_length]; exact congrArg (OB.bag _ _) e6.symm)) | exact Au)
 refine A0 ?_ ?_
 simp only [Ah, Af]
 have hs := And.intro @CO.eq_1 @CO.eq_2
 refine AS (by rfl) (Fa 5 (by rfl) (f := 77) (sp := Spec.gen CO) rfl (by simp only [AF, wB, eq_self, Nat.reduceEqDiff, reduceIte]; rfl)  (by simp only [wB, eq_self, Nat.reduceEqDiff, reduceIte, and_true]) (m1 := ((bB (Be P n u i) vs).take (Cq (Be P n u i) (gr u i)))) (m2 := ((bB (Be P n u i) vs).drop ((Cq (Be P n u i) (gr u i)) + 1))) rfl hsp 0 rfl (by simp only [wB, eq_self, Nat.reduceEqDiff, reduceIte, wG, A2, Nat.reduceAdd, Nat.reduceSub, Nat.reduceLT, Nat.reduceLeDiff, Bk, List.cons_append, List.nil_append, List.mem_cons, List.not_mem_nil, or_false, false_or, wL, Int.toNat_natCast, Int.reduceToNat, Nat.reduceAdd, Nat.reduceMul, Nat.reduceSub, Nat.reduceLeDiff, hx]; rfl) (by simp only [wB, eq_self, Nat.reduceEqDiff, reduceIte, D5, CL, CK, Bi, BX, hs, CM, A2, wL, Int.toNat_natCast, Int.reduceToNat, Nat.reduceAdd, Nat.reduceMul, Nat.reduceSub, Nat.reduceLeDiff, List.mem_cons, List.not_mem_nil, AE, Dd, D0, hx, wG, Nat.reduceAdd, Nat.reduceSub, Nat.reduceLT, Nat.reduceLeDiff, if_true, if_false, ite_self, List.mem_append, true_implies, Option.bind_some, List.set_cons_zero, List.set_cons_succ, or_false, false_or]; rfl) (by first | trivial | ((try dsimp only); (first | (first | trivial | exact ⟨hgi.rise _ (AB ht), by have h2 : ts.length ≤ _ := hmi _ (AB ht); omega⟩) | exact AQ))) (by simp only [wB, eq_self, Nat.reduceEqDiff, reduceIte, wG, A2, Nat.reduceAdd, Nat.reduceSub, Nat.reduceLT, Nat.reduceLeDiff, Bk, List.cons_append, List.nil_append, List.mem_cons, List.not_mem_nil, or_false, false_or, wL, Int.toNat_natCast, Int.reduceToNat, Nat.reduceAdd, Nat.reduceMul, Nat.reduceSub, Nat.reduceLeDiff, hx]; rfl) (by rfl) (by rfl) (by rfl) (by first | decide | simp) (by first | exact Nat.le_refl _ | (simp [rows]; done) | (first | (first | trivial | exact ⟨hgi.rise _ (AB ht), by have h2 : ts.length ≤ _ := hmi _ (AB ht); omega⟩) | exact AQ)) fun v1 => ?_)
 simp only [wB, eq_self, Nat.reduceEqDiff, reduceIte, wG, A2, Nat.reduceAdd, Nat.reduceSub, Nat.reduceLT, Nat.reduceLeDiff, Bk, List.cons_append, List.nil_append, List.mem_cons, List.not_mem_nil, or_false, false_or, wL, Int.toNat_natCast, Int.reduceToNat, Nat.reduceAdd, Nat.reduceMul, Nat.reduceSub, Nat.reduceLeDiff, hx]
 refine Ab ?_
 refine A7 ?_
 simp only [Ah, Af]
 refine Aq ?_
 iterate 2 refine Ar ?_
 refine A4 ?_
 refine Ab ?_
 refine AK ?_
 have hx := hx0
 refine h7 _ (Ac ?_); clear h7
 refine Ao ?_
 refine Ad ?_
 refine Ab ?_
 have e1 := EI (n := n) hvs hh ht v1
 have e2 : zR (Be P n u (i + 1)) _ = _ := e1.2.1
 have e6 : bB (Be P n u (i + 1)) _ = _ := e1.2.2
 refine h3 _ ⟨(i + 1, vs.set (Cq (Be P n u i) (gr u i)) v1), ?_, ?_, [some 0, some 1, some 2, some 3, some 4, some 9], ?_⟩
 dsimp only
 exact ⟨by omega, (EI hvs hh ht v1).1⟩
 dsimp only
 omega
 dsimp only
 refine ⟨by rfl, ?_, ?_⟩
 refine Aj ?_
 ·(repeat' apply And.intro) <;> (first | (first | rfl | (rw [e2]; simp; done) | (rw [Df, e2]) | (rw [List.take_length]; exact congrArg (OB.bag _ _) e6.symm)) | exact Au)
 refine Aj ?_
 ·(repeat' apply And.intro) <;> (first | (first | rfl | (rw [e2]; simp; done) | (rw [Df, e2]) | (rw [List.take_length]; exact congrArg (OB.bag _ _) e6.symm)) | exact Au)
 exact Bh
 refine A0 ?_ ?_
 simp only [Ah, Af]
 have hs := And.intro @CO.eq_1 @CO.eq_2
 refine AS (by rfl) (Fa 5 (by rfl) (f := 77) (sp := Spec.gen CO) rfl (by simp only [AF, wB, eq_self, Nat.reduceEqDiff, reduceIte]; rfl)  (by simp only [wB, eq_self, Nat.reduceEqDiff, reduceIte, and_true]) (m1 := ((bB (Be P n u i) vs).take (Cq (Be P n u i) (gr u i)))) (m2 := ((bB (Be P n u i) vs).drop ((Cq (Be P n u i) (gr u i)) + 1))) rfl hsp 0 rfl (by simp only [wB, eq_self, Nat.reduceEqDiff, reduceIte, wG, A2, Nat.reduceAdd, Nat.reduceSub, Nat.reduceLT, Nat.reduceLeDiff, Bk, List.cons_append, List.nil_append, List.mem_cons, List.not_mem_nil, or_false, false_or, wL, Int.toNat_natCast, Int.reduceToNat, Nat.reduceAdd, Nat.reduceMul, Nat.reduceSub, Nat.reduceLeDiff, hx]; rfl) (by simp only [wB, eq_self, Nat.reduceEqDiff, reduceIte, D5, CL, CK, Bi, BX, hs, CM, A2, wL, Int.toNat_natCast, Int.reduceToNat, Nat.reduceAdd, Nat.reduceMul, Nat.reduceSub, Nat.reduceLeDiff, List.mem_cons, List.not_mem_nil, AE, Dd, D0, hx, wG, Nat.reduceAdd, Nat.reduceSub, Nat.reduceLT, Nat.reduceLeDiff, if_true, if_false, ite_self, List.mem_append, true_implies, Option.bind_some, List.set_cons_zero, List.set_cons_succ, or_false, false_or]; rfl) (by first | trivial | ((try dsimp only); (first | (first | trivial | exact ⟨hgi.rise _ (AB ht), by have h2 : ts.length ≤ _ := hmi _ (AB ht); omega⟩) | exact AQ))) (by simp only [wB, eq_self, Nat.reduceEqDiff, reduceIte, wG, A2, Nat.reduceAdd, Nat.reduceSub, Nat.reduceLT, Nat.reduceLeDiff, Bk, List.cons_append, List.nil_append, List.mem_cons, List.not_mem_nil, or_false, false_or, wL, Int.toNat_natCast, Int.reduceToNat, Nat.reduceAdd, Nat.reduceMul, Nat.reduceSub, Nat.reduceLeDiff, hx]; rfl) (by rfl) (by rfl) (by rfl) (by first | decide | simp) (by first | exact Nat.le_refl _ | (simp [rows]; done) | (first | (first | trivial | exact ⟨hgi.rise _ (AB ht), by have h2 : ts.length ≤ _ := hmi _ (AB ht); omega⟩) | exact AQ)) fun v1 => ?_)
 simp only [wB, eq_self, Nat.reduceEqDiff, reduceIte, wG, A2, Nat.reduceAdd, Nat.reduceSub, Nat.reduceLT, Nat.reduceLeDiff, Bk, List.cons_append, List.nil_append, List.mem_cons, List.not_mem_nil, or_false, false_or, wL, Int.toNat_natCast, Int.reduceToNat, Nat.reduceAdd, Nat.reduceMul, Nat.reduceSub, Nat.reduceLeDiff, hx]
 refine Ab ?_
 refine A7 ?_
 simp only [Ah, Af]
 refine Ar ?_
 refine Aq ?_
 iterate 2 refine Ar ?_
 refine A4 ?_
 refine Ab ?_
 refine AK ?_
 have hx := hx0
 refine h7 _ (Ac ?_); clear h7
 refine Ao ?_
 refine Ad ?_
 refine Ab ?_
 have e1 := EI (n := n) hvs hh ht v1
 have e2 : zR (Be P n u (i + 1)) _ = _ := e1.2.1
 have e6 : bB (Be P n u (i + 1)) _ = _ := e1.2.2
 refine h3 _ ⟨(i + 1, vs.set (Cq (Be P n u i) (gr u i)) v1), ?_, ?_, [some 0, some 1, some 2, some 3, some 4, some 9], ?_⟩
 dsimp only
 exact ⟨by omega, (EI hvs hh ht v1).1⟩
 dsimp only
 omega
 dsimp only
 refine ⟨by rfl, ?_, ?_⟩
 refine Aj ?_
 ·(repeat' apply And.intro) <;> (first | (first | rfl | (rw [e2]; simp; done) | (rw [Df, e2]) | (rw [List.take_length]; exact congrArg (OB.bag _ _) e6.symm)) | exact Au)
 refine Aj ?_
 ·(repeat' apply And.intro) <;> (first | (first | rfl | (rw [e2]; simp; done) | (rw [Df, e2]) | (rw [List.take_length]; exact congrArg (OB.bag _ _) e6.symm)) | exact Au)
 exact Bh
 refine A0 ?_ ?_
 simp only [Ah, Af]
 have hs := And.intro @CO.eq_1 @CO.eq_2
 refine AS (by rfl) (Fa 5 (by rfl) (f := 77) (sp := Spec.gen CO) rfl (by simp only [AF, wB, eq_self, Nat.reduceEqDiff, reduceIte]; rfl)  (by simp only [wB, eq_self, Nat.reduceEqDiff, reduceIte, and_true]) (m1 := ((bB (Be P n u i) vs).take (Cq (Be P n u i) (gr u i)))) (m2 := ((bB (Be P n u i) vs).drop ((Cq (Be P n u i) (gr u i)) + 1))) rfl hsp 0 rfl (by simp only [wB, eq_self, Nat.reduceEqDiff, reduceIte, wG, A2, Nat.reduceAdd, Nat.reduceSub, Nat.reduceLT, Nat.reduceLeDiff, Bk, List.cons_append, List.nil_append, List.mem_cons, List.not_mem_nil, or_false, false_or, wL, Int.toNat_natCast, Int.reduceToNat, Nat.reduceAdd, Nat.reduceMul, Nat.reduceSub, Nat.reduceLeDiff, hx]; rfl) (by simp only [wB, eq_self, Nat.reduceEqDiff, reduceIte, D5, CL, CK, Bi, BX, hs, CM, A2, wL, Int.toNat_natCast, Int.reduceToNat, Nat.reduceAdd, Nat.reduceMul, Nat.reduceSub, Nat.reduceLeDiff, List.mem_cons, List.not_mem_nil, AE, Dd, D0, hx, wG, Nat.reduceAdd, Nat.reduceSub, Nat.reduceLT, Nat.reduceLeDiff, if_true, if_false, ite_self, List.mem_append, true_implies, Option.bind_some, List.set_cons_zero, List.set_cons_succ, or_false, false_or]; rfl) (by first | trivial | ((try dsimp only); (first | (first | trivial | exact ⟨hgi.rise _ (AB ht), by have h2 : ts.length ≤ _ := hmi _ (AB ht); omega⟩) | exact AQ))) (by simp only [wB, eq_self, Nat.reduceEqDiff, reduceIte, wG, A2, Nat.reduceAdd, Nat.reduceSub, Nat.reduceLT, Nat.reduceLeDiff, Bk, List.cons_append, List.nil_append, List.mem_cons, List.not_mem_nil, or_false, false_or, wL, Int.toNat_natCast, Int.reduceToNat, Nat.reduceAdd, Nat.reduceMul, Nat.reduceSub, Nat.reduceLeDiff, hx]; rfl) (by rfl) (by rfl) (by rfl) (by first | decide | simp) (by first | exact Nat.le_refl _ | (simp [rows]; done) | (first | (first | trivial | exact ⟨hgi.rise _ (AB ht), by have h2 : ts.length ≤ _ := hmi _ (AB ht); omega⟩) | exact AQ)) fun v1 => ?_)
 simp only [wB, eq_self, Nat.reduceEqDiff, reduceIte, wG, A2, Nat.reduceAdd, Nat.reduceSub, Nat.reduceLT, Nat.reduceLeDiff, Bk, List.cons_append, List.nil_append, List.mem_cons, List.not_mem_nil, or_false, false_or, wL, Int.toNat_natCast, Int.reduceToNat, Nat.reduceAdd, Nat.reduceMul, Nat.reduceSub, Nat.reduceLeDiff, hx]
 refine Ab ?_
 refine A7 ?_
 simp only [Ah, Af]
 refine BB ?_
 refine Ar ?_
 refine Aq ?_
 iterate 2 refine Ar ?_
 refine A4 ?_
 refine Ab ?_
 refine AK ?_
 have hx := hx0
 refine h7 _ (Ac ?_); clear h7
 refine Ao ?_
 refine Ad ?_
 refine Ab ?_
 have e1 := EI (n := n) hvs hh ht v1
 have e2 : zR (Be P n u (i + 1)) _ = _ := e1.2.1
 have e6 : bB (Be P n u (i + 1)) _ = _ := e1.2.2
 refine h3 _ ⟨(i + 1, vs.set (Cq (Be P n u i) (gr u i)) v1), ?_, ?_, [some 0, some 1, some 2, some 3, some 4, some 9], ?_⟩
 dsimp only
 exact ⟨by omega, (EI hvs hh ht v1).1⟩
 dsimp only
 omega
 dsimp only
 refine ⟨by rfl, ?_, ?_⟩
 refine Aj ?_
 ·(repeat' apply And.intro) <;> (first | (first | rfl | (rw [e2]; simp; done) | (rw [Df, e2]) | (rw [List.take_length]; exact congrArg (OB.bag _ _) e6.symm)) | exact Au)
 refine Aj ?_
 ·(repeat' apply And.intro) <;> (first | (first | rfl | (rw [e2]; simp; done) | (rw [Df, e2]) | (rw [List.take_length]; exact congrArg (OB.bag _ _) e6.symm)) | exact Au)
 exact Bh
 have hie : i = u.length - 2 := by have := hb6; omega
 subst hie
 refine TF 0 1 5 rfl rfl rfl rfl rfl (by decide) (ps := (KQ P n u).map uP) (vs := vs) (by rw [List.length_map]; exact hvs) (by rw [R0]; rfl) (by rw [Rz]; rfl) ?_
 simp only [Bk, Cc, List.set, List.cons_append, List.nil_append, List.mem_cons, List.not_mem_nil, or_false]
 refine AJ ?_
 simp only [Ae, Nat.reduceEqDiff, reduceIte, eq_self]
 refine Aj ?_
 refine ⟨[some 0, some 1, some 2, some 3, some 6], by rfl, ?_, ?_⟩
 refine Aj ?_
 exact Au
 refine Aj ?_
 exact Au
 cases hg
def LS : Bq Tryz.prog := I2.add 53 (Spec.gen JX) Pv (by kernel_rfl)
