/- Walks, printed by wip/gen/walk.py. -/
import Derived.Test.YtmbjnkgpcbpclaaGreatT6
import Derived.Test.YtmbjnkgpcbpclaaGreatV5
set_option linter.all false
set_option maxRecDepth 100000
set_option maxHeartbeats 4000000
namespace Go.Proofs.YtmbjnkgpcbpclaaGreat
open Go Go.Vc Go.RowKit
theorem Q7 (l : List (Bs × D)) (k : Nat) (x : Bs × D) : rows eG (List.take k l) ++ [eG x] ++ rows eG (List.drop k l) = rows eG (l.take k ++ x :: l.drop k) := by simp [rows]
theorem C0 {Q : List (Bs × D)} {k : Nat} {g : Bs} {d : D} : (rows eG Q).set k [.str g, d] = rows eG (Q.set k (g, d)) := by
  unfold rows; rw [List.map_set]; rfl
theorem WN {P : List AM} {vs : List Value} (hl : vs.length = P.length) {k : Nat} {g : Bs} {t : List Int} (h : P[k]? = some (g, t)) : ∃ v, vs[k]? = some v ∧ (zR P vs)[k]? = some (g, .raw v) ∧ bB P vs = (bB P vs).take k ++ (v, rows eI t) :: (bB P vs).drop (k + 1) := by
  have hk := (List.getElem?_eq_some_iff.1 h).1
  obtain ⟨v, hv⟩ : ∃ v, vs[k]? = some v := ⟨_, List.getElem?_eq_getElem (by omega)⟩
  have hb : (bB P vs)[k]? = some (v, rows eI t) := by simp [bB, List.getElem?_zipWith, h, hv]
  exact ⟨v, hv, by simp [zR, List.getElem?_zipWith, h, hv], MM hb⟩
theorem DW {P : List AM} {vs : List Value} {g : Bs} {n : Int} {t : List Int} (hl : vs.length = P.length) (hh : Db P g = true) (hk : P[Ck P g]? = some (g, t)) (v : Value) :
    (vs.set (Ck P g) v).length = (post P g n).length ∧ zR (post P g n) (vs.set (Ck P g) v) = (zR P vs).set (Ck P g) (g, .raw v) ∧ bB (post P g n) (vs.set (Ck P g) v) = (bB P vs).take (Ck P g) ++ (v, rows eI (Hn t n)) :: (bB P vs).drop (Ck P g + 1) := by
  have hp : post P g n = P.set (Ck P g) (g, Hn t n) := by unfold post; rw [if_pos hh, List.getD_eq_getElem?_getD, hk]; rfl
  have hlt := (List.getElem?_eq_some_iff.1 hk).1
  refine ⟨by rw [hp]; simp [hl], by rw [hp]; exact L4 _ _ _ _ _ _, ?_⟩
  rw [hp]
  unfold bB
  rw [L4, List.set_eq_take_append_cons_drop, if_pos (by simp [hl]; omega)]
theorem DX {P : List AM} {vs : List Value} {g : Bs} {n : Int} (hl : vs.length = P.length) (hh : Db P g = false) (v : Value) :
    (vs.take (Ck P g) ++ v :: vs.drop (Ck P g)).length = (post P g n).length ∧ zR (post P g n) (vs.take (Ck P g) ++ v :: vs.drop (Ck P g)) = (zR P vs).take (Ck P g) ++ (g, .raw v) :: (zR P vs).drop (Ck P g) ∧
      bB (post P g n) (vs.take (Ck P g) ++ v :: vs.drop (Ck P g)) = (bB P vs).take (Ck P g) ++ (v, rows eI [n]) :: (bB P vs).drop (Ck P g) := by
  have hp : post P g n = P.take (Ck P g) ++ (g, [n]) :: P.drop (Ck P g) := by unfold post; rw [if_neg (by rw [hh]; simp)]
  refine ⟨?_, ?_, ?_⟩
  · rw [hp]; simp [hl]
  · rw [hp]; exact L3 _ _ _ _ _ _ hl
  · rw [hp]; exact L3 _ _ _ _ _ _ hl
theorem Wn {Q : List (Bs × D)} {k : Nat} {x : Bs × D} (h : k ≤ Q.length) : (Q.take k ++ x :: Q.drop k)[k]? = some x := by
  rw [List.getElem?_append_right (by simp; omega), List.length_take, Nat.min_eq_left h]; simp
theorem E8 {Q : List (Bs × D)} {k : Nat} {x y : Bs × D} (h : k ≤ Q.length) : (Q.take k ++ x :: Q.drop k).set k y = Q.take k ++ y :: Q.drop k := by
  rw [List.set_append_right _ _ (by simp; omega), List.length_take, Nat.min_eq_left h]; simp
theorem RR {s : Bs} {i : Nat} (h : i + 3 ≤ s.length) : (gr s i).length = 3 := by simp [gr]; omega

theorem Nj : A5 Tryz.prog 53 (Spec.gen IF) := by
 refine Bt (Hp.at_ 71) Tryz.func53 rfl rfl rfl ?_
 intro args bl p r bf hg hp
 unfold IF at hg
 split at hg
 rename_i n u tx a b t z xs t2 z2 f e2 z3 ps
 simp only [Option.some.injEq, Prod.mk.injEq] at hg
 obtain ⟨rfl, rfl, rfl⟩ := hg
 obtain ⟨P, rfl, rfl, rfl, he, rfl, hso, hll, rfl, rfl, rfl, rfl, rfl, rfl, hg, hpl, hpm, hsl⟩ := hp
 rw [TD]
 generalize dI xs = l at *
 subst he
 have hT : (Hp).X = T := rfl
 have hx0 := And.intro @Pf (And.intro @KS (And.intro @IL @Tryz.results53))
 have hx := hx0
 refine ⟨Nat.le_of_ble_eq_true rfl, ?_⟩
 intro F W0 M0 hnp hmk
 have hnp : AU.np = 3 := hnp
 refine Aa fun N1 h1 => ?_
 have hx := And.intro @AJ hx0
 refine Ad ?_
 try refine Ac ?_
 iterate 2 refine Ae ?_
 refine Bn ?_
 refine Au ?_
 refine Ar ?_
 refine Ae ?_
 have hc := Ah (E := (Hp.at_ 71)) (f := 77) (sp := Spec.gen Cj) rfl
 have hs := And.intro @Cj.eq_1 @Cj.eq_2
 refine BD ?_
 refine Bn ?_
 refine Au ?_
 refine A8 ?_
 refine Ab ?_
 have hx := hx0
 refine h1 _ ?_; clear h1
 refine Aa fun N2 h2 => ?_
 refine TK 0 1 rfl rfl rfl rfl (fun vs0 hvs0 => ?_)
 rw [List.length_map] at hvs0
 rw [Pd, Pc]
 simp only [AS, BI, List.set, List.cons_append, List.nil_append, List.mem_cons, List.not_mem_nil, or_false]
 refine Ad ?_
 try refine Ac ?_
 refine Ae ?_
 refine Bm ?_
 iterate 2 refine Am ?_
 refine Ae ?_
 refine Ab ?_
 refine h2 _ ?_; clear h2
 refine Aw ?_
 refine A9 (σ := Nat × List Value) (fun s => (fun i vs => i ≤ u.length - 2 ∧ vs.length = (AO P n u i).length) (s.1) (s.2))
  (fun s => (fun i vs => [(0, .ptr 0 0 0), (1, .d (.int .i64 n)), (2, .d (.str u)), (22, .d (.int .i64 ((u.length : Int) - 3 + 1))), (23, .d (.int .i64 (i : Nat)))]) (s.1) (s.2))
  (fun s => (fun i vs => [some (.one tx [.sl 3 0 (Hn l n).length, .sl 4 0 (zR (AO P n u i) vs).length]), none, none, some (.vec 3 1 (rows eI (Hn l n))), some (.vec 85 2 (rows eG (zR (AO P n u i) vs))), some (.ob (.bag 3 1 (bB (AO P n u i) vs)))]) (s.1) (s.2)) (fun s => (fun i vs => u.length - i) (s.1) (s.2)) hnp (0, vs0) ?_ [some 0, some 1, some 2, some 3, some 4, some 5] ?_ ?_
 dsimp only
 exact ⟨by omega, hvs0⟩
 dsimp only
 refine ⟨by rfl, ?_, ?_⟩
 refine Aj ?_
 ·(repeat' apply And.intro) <;> (first | (first | (rw [List.length_map]; exact (O1 hvs0).symm) | rfl) | exact At)
 refine Aj ?_
 ·(repeat' apply And.intro) <;> (first | (first | (rw [List.length_map]; exact (O1 hvs0).symm) | rfl) | exact At)
 rintro ⟨i, vs⟩ hinv N3 h3
 dsimp only at hinv ⊢
 obtain ⟨hi, hvs⟩ := hinv
 have hgi := FX (n := n) (s := u) hg i
 have hzl := O1 hvs
 have hzs := Vn hvs hgi.sort
 have hzb := X9 hvs (gr u i)
 have hzh := WC hvs (gr u i)
 have hkl := We (AO P n u i) (gr u i)
 have hpi := ID (P := P) (n := n) (s := u) i
 have hgr : List.take (((i : Int) + 3).toNat - i) (u.drop i) = gr u i := by unfold gr; congr 1; omega
 have hmi := IE (n := n) (s := u) (by omega) hpm i
 refine Aa fun N4 h4 => ?_
 refine Ad ?_
 try refine Ac ?_
 refine Am ?_
 refine Ab ?_
 refine h4 _ ?_; clear h4
 refine Aa fun N5 h5 => ?_
 refine Al (fun hb6 => ?_) (fun hb6 => ?_)
 have hi3 : i + 3 ≤ u.length := by have := hb6; omega
 refine An ?_
 try simp only [Af]
 refine h5 _ ?_; clear h5
 refine Aa fun N7 h7 => ?_
 refine Aw ?_
 refine Aa fun N8 h8 => ?_
 refine Ad ?_
 try refine Ac ?_
 iterate 2 refine Ae ?_
 refine Ab ?_
 refine h8 _ ?_; clear h8
 refine Aa fun N9 h9 => ?_
 refine Ad ?_
 try refine Ac ?_
 iterate 3 refine Ae ?_
 refine Am ?_
 refine DI ?_
 refine Ae ?_
 refine Ab ?_
 simp only [hgr]
 refine h9 _ ?_; clear h9
 refine Aa fun N10 h10 => ?_
 refine Ad ?_
 try refine Ac ?_
 refine Ae ?_
 refine Bn ?_
 refine Ar ?_
 refine Ae ?_
 have hc := Ah (E := (Hp.at_ 71)) (f := 78) (sp := Spec.pure CE) rfl
 have hs := @CE.eq_1
 refine BF (hq := by (first | (exact ⟨by omega, by omega, by rw [List.take_length]; exact hzs, by rw [List.take_length]; omega⟩) | exact Ay)) ?_
 refine Ae ?_
 iterate 2 refine DH ?_
 iterate 2 refine Ae ?_
 refine Ab ?_
 simp only [List.take_length, hzb, hzh]
 refine h10 _ ?_; clear h10
 refine Aa fun N11 h11 => ?_
 refine Aa fun N12 h12 => ?_
 refine Ad ?_
 try refine Ac ?_
 refine Ae ?_
 refine Ik ?_
 refine Ab ?_
 refine h12 _ ?_; clear h12
 refine Al (fun hb13 => ?_) (fun hb13 => ?_)
 have hh : Db (AO P n u i) (gr u i) = false := by simpa using hb13
 have hrow : rows eG (List.take (Ck (AO P n u i) (gr u i)) (zR (AO P n u i) vs)) ++ [[.str (gr u i), .raw FM]] ++ rows eG (List.drop (Ck (AO P n u i) (gr u i)) (zR (AO P n u i) vs)) = rows eG (List.take (Ck (AO P n u i) (gr u i)) (zR (AO P n u i) vs) ++ (gr u i, .raw FM) :: List.drop (Ck (AO P n u i) (gr u i)) (zR (AO P n u i) vs)) := Q7 _ _ (gr u i, .raw FM)
 have hq : (List.take (Ck (AO P n u i) (gr u i)) (zR (AO P n u i) vs) ++ (gr u i, D.raw FM) :: List.drop (Ck (AO P n u i) (gr u i)) (zR (AO P n u i) vs))[(Ck (AO P n u i) (gr u i))]? = some (gr u i, .raw FM) := Wn (by omega)
 refine Ad ?_
 try refine Ac ?_
 iterate 2 refine Ae ?_
 refine Bn ?_
 refine Au ?_
 refine Ar ?_
 iterate 2 refine Ae ?_
 refine AE (by rfl) (Oj (by simp only [wB, eq_self, Nat.reduceEqDiff, reduceIte, CG, Et, List.map, Bv, K3, hT, Cw, wL, Int.toNat_natCast, Int.reduceToNat, Nat.reduceAdd, Nat.reduceMul, Nat.reduceSub, Nat.reduceLeDiff, hx]; rfl) (by exact Ay) (by simp only [DU, DV, AD, AB, AC, eq_self, Nat.reduceEqDiff, reduceIte, and_true, true_and, A6, List.map_cons, List.map_nil]) ?_)
 simp only [List.map, UP, wB, eq_self, Nat.reduceEqDiff, reduceIte, wL, Int.toNat_natCast, Int.reduceToNat, Nat.reduceAdd, Nat.reduceMul, Nat.reduceSub, Nat.reduceLeDiff, hx]
 refine GE ?_
 have hc := Ah (E := (Hp.at_ 71)) (f := 79) (sp := Spec.gen (CD 85 2)) rfl
 have hs := And.intro @CD.eq_1 @CD.eq_2
 refine BD ?_
 refine Bn ?_
 refine Au ?_
 refine A8 ?_
 refine Ab ?_
 simp only [hrow]
 refine h11 _ ?_; clear h11
 have hx := And.intro @hq (And.intro @eG.eq_1 hx0)
 refine Fs [] (.seq [0, 4, 5, 6, 7, 8, 9, 10, 11, 12, 13] (.alt 1 (.alt 2 (.alt 3 (.seq [14, 15, 16, 17] .nil) (.alt 14 (.seq [3, 15, 16, 17] .nil) .nil)) (.alt 14 (.seq [2, 3, 15, 16, 17] .nil) .nil)) (.alt 14 (.seq [1, 2, 3, 15, 16, 17] .nil) .nil))) Gm (by kernel_rfl) ?_
 refine Bb ?_
 simp only [Ak, Ai]
 try refine Ac ?_
 iterate 3 refine Ae ?_
 refine Bn ?_
 refine Au ?_
 refine Ar ?_
 refine Ae ?_
 iterate 2 refine Au ?_
 refine Ar ?_
 refine Ae ?_
 refine Ab ?_
 refine AN ?_ ?_
 simp only [Ak, Ai]
 try refine Ac ?_
 refine Bn ?_
 refine Ab ?_
 refine AN ?_ ?_
 simp only [Ak, Ai]
 try refine Ac ?_
 refine Au ?_
 refine Ab ?_
 refine AN ?_ ?_
 simp only [Ak, Ai]
 try refine Ac ?_
 refine Ar ?_
 refine Ab ?_
 refine Bb ?_
 simp only [Ak, Ai]
 try refine Ac ?_
 have hs := And.intro @Cj.eq_1 @Cj.eq_2
 refine AE (by rfl) (DN 5 0 (f := 77) (sp := Spec.gen Cj) rfl (by simp only [A6, wB, eq_self, Nat.reduceEqDiff, reduceIte]; rfl)  rfl (by simp only [wB, eq_self, Nat.reduceEqDiff, reduceIte, and_true]) (m1 := ((bB (AO P n u i) vs).take (Ck (AO P n u i) (gr u i)))) (m2 := ((bB (AO P n u i) vs).drop (Ck (AO P n u i) (gr u i)))) (by simp only [wB, eq_self, Nat.reduceEqDiff, reduceIte, CM, Ch, Cg, AR, BA, hs, Ci, Ax, wL, Int.toNat_natCast, Int.reduceToNat, Nat.reduceAdd, Nat.reduceMul, Nat.reduceSub, Nat.reduceLeDiff, List.mem_cons, List.not_mem_nil, AJ, CB, CJ, hx, wG, Nat.reduceAdd, Nat.reduceSub, Nat.reduceLT, Nat.reduceLeDiff, if_true, if_false, ite_self, List.mem_append, true_implies, Option.bind_some, List.set_cons_zero, List.set_cons_succ, or_false, false_or]; rfl) (by first | trivial | ((try dsimp only); (first | (first | trivial | exact ⟨hgi.rise _ (AF ht), by have h2 : ts.length ≤ _ := hmi _ (AF ht); omega⟩) | exact Ay))) (by simp only [wB, eq_self, Nat.reduceEqDiff, reduceIte, wG, Ax, Nat.reduceAdd, Nat.reduceSub, Nat.reduceLT, Nat.reduceLeDiff, AS, List.cons_append, List.nil_append, List.mem_cons, List.not_mem_nil, or_false, false_or, wL, Int.toNat_natCast, Int.reduceToNat, Nat.reduceAdd, Nat.reduceMul, Nat.reduceSub, Nat.reduceLeDiff, hx]; rfl) (by rfl) (by rfl) (by rfl) (List.take_append_drop _ _).symm (by first | decide | simp) (by first | exact Nat.le_refl _ | (simp [rows]; done) | (first | (first | trivial | exact ⟨hgi.rise _ (AF ht), by have h2 : ts.length ≤ _ := hmi _ (AF ht); omega⟩) | exact Ay)) fun v1 => ?_)
 simp only [wB, eq_self, Nat.reduceEqDiff, reduceIte, wG, Ax, Nat.reduceAdd, Nat.reduceSub, Nat.reduceLT, Nat.reduceLeDiff, AS, List.cons_append, List.nil_append, List.mem_cons, List.not_mem_nil, or_false, false_or, wL, Int.toNat_natCast, Int.reduceToNat, Nat.reduceAdd, Nat.reduceMul, Nat.reduceSub, Nat.reduceLeDiff, hx]
 iterate 2 refine Au ?_
 refine A8 ?_
 refine Ab ?_
 refine B9 ?_
 have hx := hx0
 refine h7 _ ?_; clear h7
 refine Ad ?_
 try refine Ac ?_
 refine Am ?_
 refine Ae ?_
 refine Ab ?_
 have e1 := DX (n := n) hvs hh v1
 have e2 : zR (AO P n u (i + 1)) _ = _ := e1.2.1
 have e6 : bB (AO P n u (i + 1)) _ = _ := e1.2.2
 refine h3 _ ⟨(i + 1, vs.take (Ck (AO P n u i) (gr u i)) ++ v1 :: vs.drop (Ck (AO P n u i) (gr u i))), ?_, ?_, [some 0, some 1, some 2, some 3, some 7, some 9], ?_⟩
 dsimp only
 exact ⟨by omega, (DX hvs hh v1).1⟩
 dsimp only
 omega
 dsimp only
 refine ⟨by rfl, ?_, ?_⟩
 refine Aj ?_
 ·(repeat' apply And.intro) <;> (first | (first | rfl | (rw [e2]; simp; omega) | (rw [C0, E8 (by omega), e2]) | exact congrArg (OB.bag _ _) e6.symm) | exact At)
 refine Aj ?_
 ·(repeat' apply And.intro) <;> (first | (first | rfl | (rw [e2]; simp; omega) | (rw [C0, E8 (by omega), e2]) | exact congrArg (OB.bag _ _) e6.symm) | exact At)
 refine AN ?_ ?_
 simp only [Ak, Ai]
 try refine Ac ?_
 have hs := And.intro @Cj.eq_1 @Cj.eq_2
 refine AE (by rfl) (DN 5 0 (f := 77) (sp := Spec.gen Cj) rfl (by simp only [A6, wB, eq_self, Nat.reduceEqDiff, reduceIte]; rfl)  rfl (by simp only [wB, eq_self, Nat.reduceEqDiff, reduceIte, and_true]) (m1 := ((bB (AO P n u i) vs).take (Ck (AO P n u i) (gr u i)))) (m2 := ((bB (AO P n u i) vs).drop (Ck (AO P n u i) (gr u i)))) (by simp only [wB, eq_self, Nat.reduceEqDiff, reduceIte, CM, Ch, Cg, AR, BA, hs, Ci, Ax, wL, Int.toNat_natCast, Int.reduceToNat, Nat.reduceAdd, Nat.reduceMul, Nat.reduceSub, Nat.reduceLeDiff, List.mem_cons, List.not_mem_nil, AJ, CB, CJ, hx, wG, Nat.reduceAdd, Nat.reduceSub, Nat.reduceLT, Nat.reduceLeDiff, if_true, if_false, ite_self, List.mem_append, true_implies, Option.bind_some, List.set_cons_zero, List.set_cons_succ, or_false, false_or]; rfl) (by first | trivial | ((try dsimp only); (first | (first | trivial | exact ⟨hgi.rise _ (AF ht), by have h2 : ts.length ≤ _ := hmi _ (AF ht); omega⟩) | exact Ay))) (by simp only [wB, eq_self, Nat.reduceEqDiff, reduceIte, wG, Ax, Nat.reduceAdd, Nat.reduceSub, Nat.reduceLT, Nat.reduceLeDiff, AS, List.cons_append, List.nil_append, List.mem_cons, List.not_mem_nil, or_false, false_or, wL, Int.toNat_natCast, Int.reduceToNat, Nat.reduceAdd, Nat.reduceMul, Nat.reduceSub, Nat.reduceLeDiff, hx]; rfl) (by rfl) (by rfl) (by rfl) (List.take_append_drop _ _).symm (by first | decide | simp) (by first | exact Nat.le_refl _ | (simp [rows]; done) | (first | (first | trivial | exact ⟨hgi.rise _ (AF ht), by have h2 : ts.length ≤ _ := hmi _ (AF ht); omega⟩) | exact Ay)) fun v1 => ?_)
 simp only [wB, eq_self, Nat.reduceEqDiff, reduceIte, wG, Ax, Nat.reduceAdd, Nat.reduceSub, Nat.reduceLT, Nat.reduceLeDiff, AS, List.cons_append, List.nil_append, List.mem_cons, List.not_mem_nil, or_false, false_or, wL, Int.toNat_natCast, Int.reduceToNat, Nat.reduceAdd, Nat.reduceMul, Nat.reduceSub, Nat.reduceLeDiff, hx]
 refine Ab ?_
 refine Bb ?_
 simp only [Ak, Ai]
 try refine Ac ?_
 refine Ar ?_
 iterate 2 refine Au ?_
 refine A8 ?_
 refine Ab ?_
 refine B9 ?_
 have hx := hx0
 refine h7 _ ?_; clear h7
 refine Ad ?_
 try refine Ac ?_
 refine Am ?_
 refine Ae ?_
 refine Ab ?_
 have e1 := DX (n := n) hvs hh v1
 have e2 : zR (AO P n u (i + 1)) _ = _ := e1.2.1
 have e6 : bB (AO P n u (i + 1)) _ = _ := e1.2.2
 refine h3 _ ⟨(i + 1, vs.take (Ck (AO P n u i) (gr u i)) ++ v1 :: vs.drop (Ck (AO P n u i) (gr u i))), ?_, ?_, [some 0, some 1, some 2, some 3, some 7, some 9], ?_⟩
 dsimp only
 exact ⟨by omega, (DX hvs hh v1).1⟩
 dsimp only
 omega
 dsimp only
 refine ⟨by rfl, ?_, ?_⟩
 refine Aj ?_
 ·(repeat' apply And.intro) <;> (first | (first | rfl | (rw [e2]; simp; omega) | (rw [C0, E8 (by omega), e2]) | exact congrArg (OB.bag _ _) e6.symm) | exact At)
 refine Aj ?_
 ·(repeat' apply And.intro) <;> (first | (first | rfl | (rw [e2]; simp; omega) | (rw [C0, E8 (by omega), e2]) | exact congrArg (OB.bag _ _) e6.symm) | exact At)
 exact Cl
 refine AN ?_ ?_
 simp only [Ak, Ai]
 try refine Ac ?_
 have hs := And.intro @Cj.eq_1 @Cj.eq_2
 refine AE (by rfl) (DN 5 0 (f := 77) (sp := Spec.gen Cj) rfl (by simp only [A6, wB, eq_self, Nat.reduceEqDiff, reduceIte]; rfl)  rfl (by simp only [wB, eq_self, Nat.reduceEqDiff, reduceIte, and_true]) (m1 := ((bB (AO P n u i) vs).take (Ck (AO P n u i) (gr u i)))) (m2 := ((bB (AO P n u i) vs).drop (Ck (AO P n u i) (gr u i)))) (by simp only [wB, eq_self, Nat.reduceEqDiff, reduceIte, CM, Ch, Cg, AR, BA, hs, Ci, Ax, wL, Int.toNat_natCast, Int.reduceToNat, Nat.reduceAdd, Nat.reduceMul, Nat.reduceSub, Nat.reduceLeDiff, List.mem_cons, List.not_mem_nil, AJ, CB, CJ, hx, wG, Nat.reduceAdd, Nat.reduceSub, Nat.reduceLT, Nat.reduceLeDiff, if_true, if_false, ite_self, List.mem_append, true_implies, Option.bind_some, List.set_cons_zero, List.set_cons_succ, or_false, false_or]; rfl) (by first | trivial | ((try dsimp only); (first | (first | trivial | exact ⟨hgi.rise _ (AF ht), by have h2 : ts.length ≤ _ := hmi _ (AF ht); omega⟩) | exact Ay))) (by simp only [wB, eq_self, Nat.reduceEqDiff, reduceIte, wG, Ax, Nat.reduceAdd, Nat.reduceSub, Nat.reduceLT, Nat.reduceLeDiff, AS, List.cons_append, List.nil_append, List.mem_cons, List.not_mem_nil, or_false, false_or, wL, Int.toNat_natCast, Int.reduceToNat, Nat.reduceAdd, Nat.reduceMul, Nat.reduceSub, Nat.reduceLeDiff, hx]; rfl) (by rfl) (by rfl) (by rfl) (List.take_append_drop _ _).symm (by first | decide | simp) (by first | exact Nat.le_refl _ | (simp [rows]; done) | (first | (first | trivial | exact ⟨hgi.rise _ (AF ht), by have h2 : ts.length ≤ _ := hmi _ (AF ht); omega⟩) | exact Ay)) fun v1 => ?_)
 simp only [wB, eq_self, Nat.reduceEqDiff, reduceIte, wG, Ax, Nat.reduceAdd, Nat.reduceSub, Nat.reduceLT, Nat.reduceLeDiff, AS, List.cons_append, List.nil_append, List.mem_cons, List.not_mem_nil, or_false, false_or, wL, Int.toNat_natCast, Int.reduceToNat, Nat.reduceAdd, Nat.reduceMul, Nat.reduceSub, Nat.reduceLeDiff, hx]
 refine Ab ?_
 refine Bb ?_
 simp only [Ak, Ai]
 try refine Ac ?_
 refine Au ?_
 refine Ar ?_
 iterate 2 refine Au ?_
 refine A8 ?_
 refine Ab ?_
 refine B9 ?_
 have hx := hx0
 refine h7 _ ?_; clear h7
 refine Ad ?_
 try refine Ac ?_
 refine Am ?_
 refine Ae ?_
 refine Ab ?_
 have e1 := DX (n := n) hvs hh v1
 have e2 : zR (AO P n u (i + 1)) _ = _ := e1.2.1
 have e6 : bB (AO P n u (i + 1)) _ = _ := e1.2.2
 refine h3 _ ⟨(i + 1, vs.take (Ck (AO P n u i) (gr u i)) ++ v1 :: vs.drop (Ck (AO P n u i) (gr u i))), ?_, ?_, [some 0, some 1, some 2, some 3, some 7, some 9], ?_⟩
 dsimp only
 exact ⟨by omega, (DX hvs hh v1).1⟩
 dsimp only
 omega
 dsimp only
 refine ⟨by rfl, ?_, ?_⟩
 refine Aj ?_
 ·(repeat' apply And.intro) <;> (first | (first | rfl | (rw [e2]; simp; omega) | (rw [C0, E8 (by omega), e2]) | exact congrArg (OB.bag _ _) e6.symm) | exact At)
 refine Aj ?_
 ·(repeat' apply And.intro) <;> (first | (first | rfl | (rw [e2]; simp; omega) | (rw [C0, E8 (by omega), e2]) | exact congrArg (OB.bag _ _) e6.symm) | exact At)
 exact Cl
 refine AN ?_ ?_
 simp only [Ak, Ai]
 try refine Ac ?_
 have hs := And.intro @Cj.eq_1 @Cj.eq_2
 refine AE (by rfl) (DN 5 0 (f := 77) (sp := Spec.gen Cj) rfl (by simp only [A6, wB, eq_self, Nat.reduceEqDiff, reduceIte]; rfl)  rfl (by simp only [wB, eq_self, Nat.reduceEqDiff, reduceIte, and_true]) (m1 := ((bB (AO P n u i) vs).take (Ck (AO P n u i) (gr u i)))) (m2 := ((bB (AO P n u i) vs).drop (Ck (AO P n u i) (gr u i)))) (by simp only [wB, eq_self, Nat.reduceEqDiff, reduceIte, CM, Ch, Cg, AR, BA, hs, Ci, Ax, wL, Int.toNat_natCast, Int.reduceToNat, Nat.reduceAdd, Nat.reduceMul, Nat.reduceSub, Nat.reduceLeDiff, List.mem_cons, List.not_mem_nil, AJ, CB, CJ, hx, wG, Nat.reduceAdd, Nat.reduceSub, Nat.reduceLT, Nat.reduceLeDiff, if_true, if_false, ite_self, List.mem_append, true_implies, Option.bind_some, List.set_cons_zero, List.set_cons_succ, or_false, false_or]; rfl) (by first | trivial | ((try dsimp only); (first | (first | trivial | exact ⟨hgi.rise _ (AF ht), by have h2 : ts.length ≤ _ := hmi _ (AF ht); omega⟩) | exact Ay))) (by simp only [wB, eq_self, Nat.reduceEqDiff, reduceIte, wG, Ax, Nat.reduceAdd, Nat.reduceSub, Nat.reduceLT, Nat.reduceLeDiff, AS, List.cons_append, List.nil_append, List.mem_cons, List.not_mem_nil, or_false, false_or, wL, Int.toNat_natCast, Int.reduceToNat, Nat.reduceAdd, Nat.reduceMul, Nat.reduceSub, Nat.reduceLeDiff, hx]; rfl) (by rfl) (by rfl) (by rfl) (List.take_append_drop _ _).symm (by first | decide | simp) (by first | exact Nat.le_refl _ | (simp [rows]; done) | (first | (first | trivial | exact ⟨hgi.rise _ (AF ht), by have h2 : ts.length ≤ _ := hmi _ (AF ht); omega⟩) | exact Ay)) fun v1 => ?_)
 simp only [wB, eq_self, Nat.reduceEqDiff, reduceIte, wG, Ax, Nat.reduceAdd, Nat.reduceSub, Nat.reduceLT, Nat.reduceLeDiff, AS, List.cons_append, List.nil_append, List.mem_cons, List.not_mem_nil, or_false, false_or, wL, Int.toNat_natCast, Int.reduceToNat, Nat.reduceAdd, Nat.reduceMul, Nat.reduceSub, Nat.reduceLeDiff, hx]
 refine Ab ?_
 refine Bb ?_
 simp only [Ak, Ai]
 try refine Ac ?_
 refine Bn ?_
 refine Au ?_
 refine Ar ?_
 iterate 2 refine Au ?_
 refine A8 ?_
 refine Ab ?_
 refine B9 ?_
 have hx := hx0
 refine h7 _ ?_; clear h7
 refine Ad ?_
 try refine Ac ?_
 refine Am ?_
 refine Ae ?_
 refine Ab ?_
 have e1 := DX (n := n) hvs hh v1
 have e2 : zR (AO P n u (i + 1)) _ = _ := e1.2.1
 have e6 : bB (AO P n u (i + 1)) _ = _ := e1.2.2
 refine h3 _ ⟨(i + 1, vs.take (Ck (AO P n u i) (gr u i)) ++ v1 :: vs.drop (Ck (AO P n u i) (gr u i))), ?_, ?_, [some 0, some 1, some 2, some 3, some 7, some 9], ?_⟩
 dsimp only
 exact ⟨by omega, (DX hvs hh v1).1⟩
 dsimp only
 omega
 dsimp only
 refine ⟨by rfl, ?_, ?_⟩
 refine Aj ?_
 ·(repeat' apply And.intro) <;> (first | (first | rfl | (rw [e2]; simp; omega) | (rw [C0, E8 (by omega), e2]) | exact congrArg (OB.bag _ _) e6.symm) | exact At)
 refine Aj ?_
 ·(repeat' apply And.intro) <;> (first | (first | rfl | (rw [e2]; simp; omega) | (rw [C0, E8 (by omega), e2]) | exact congrArg (OB.bag _ _) e6.symm) | exact At)
 exact Cl
 have hh : Db (AO P n u i) (gr u i) = true := by simpa using hb13
 obtain ⟨ts, ht⟩ := Ga hgi.sort hh
 obtain ⟨v0, hv0, hq, hsp⟩ := WN hvs ht
 have hklt := (List.getElem?_eq_some_iff.1 ht).1
 refine An ?_
 try simp only [Af]
 refine h11 _ ?_; clear h11
 have hx := And.intro @hq (And.intro @eG.eq_1 hx0)
 refine Fs [] (.seq [0, 4, 5, 6, 7, 8, 9, 10, 11, 12, 13] (.alt 1 (.alt 2 (.alt 3 (.seq [14, 15, 16, 17] .nil) (.alt 14 (.seq [3, 15, 16, 17] .nil) .nil)) (.alt 14 (.seq [2, 3, 15, 16, 17] .nil) .nil)) (.alt 14 (.seq [1, 2, 3, 15, 16, 17] .nil) .nil))) Gm (by kernel_rfl) ?_
 refine Bb ?_
 simp only [Ak, Ai]
 try refine Ac ?_
 iterate 3 refine Ae ?_
 refine Bn ?_
 refine Au ?_
 refine Ar ?_
 refine Ae ?_
 iterate 2 refine Au ?_
 refine Ar ?_
 refine Ae ?_
 refine Ab ?_
 refine AN ?_ ?_
 simp only [Ak, Ai]
 try refine Ac ?_
 refine Bn ?_
 refine Ab ?_
 refine AN ?_ ?_
 simp only [Ak, Ai]
 try refine Ac ?_
 refine Au ?_
 refine Ab ?_
 refine AN ?_ ?_
 simp only [Ak, Ai]
 try refine Ac ?_
 refine Ar ?_
 refine Ab ?_
 refine Bb ?_
 simp only [Ak, Ai]
 try refine Ac ?_
 have hs := And.intro @Cj.eq_1 @Cj.eq_2
 refine AE (by rfl) (En 5 (by rfl) (f := 77) (sp := Spec.gen Cj) rfl (by simp only [A6, wB, eq_self, Nat.reduceEqDiff, reduceIte]; rfl)  (by simp only [wB, eq_self, Nat.reduceEqDiff, reduceIte, and_true]) (m1 := ((bB (AO P n u i) vs).take (Ck (AO P n u i) (gr u i)))) (m2 := ((bB (AO P n u i) vs).drop ((Ck (AO P n u i) (gr u i)) + 1))) rfl hsp 0 rfl (by simp only [wB, eq_self, Nat.reduceEqDiff, reduceIte, wG, Ax, Nat.reduceAdd, Nat.reduceSub, Nat.reduceLT, Nat.reduceLeDiff, AS, List.cons_append, List.nil_append, List.mem_cons, List.not_mem_nil, or_false, false_or, wL, Int.toNat_natCast, Int.reduceToNat, Nat.reduceAdd, Nat.reduceMul, Nat.reduceSub, Nat.reduceLeDiff, hx]; rfl) (by simp only [wB, eq_self, Nat.reduceEqDiff, reduceIte, CM, Ch, Cg, AR, BA, hs, Ci, Ax, wL, Int.toNat_natCast, Int.reduceToNat, Nat.reduceAdd, Nat.reduceMul, Nat.reduceSub, Nat.reduceLeDiff, List.mem_cons, List.not_mem_nil, AJ, CB, CJ, hx, wG, Nat.reduceAdd, Nat.reduceSub, Nat.reduceLT, Nat.reduceLeDiff, if_true, if_false, ite_self, List.mem_append, true_implies, Option.bind_some, List.set_cons_zero, List.set_cons_succ, or_false, false_or]; rfl) (by first | trivial | ((try dsimp only); (first | (first | trivial | exact ⟨hgi.rise _ (AF ht), by have h2 : ts.length ≤ _ := hmi _ (AF ht); omega⟩) | exact Ay))) (by simp only [wB, eq_self, Nat.reduceEqDiff, reduceIte, wG, Ax, Nat.reduceAdd, Nat.reduceSub, Nat.reduceLT, Nat.reduceLeDiff, AS, List.cons_append, List.nil_append, List.mem_cons, List.not_mem_nil, or_false, false_or, wL, Int.toNat_natCast, Int.reduceToNat, Nat.reduceAdd, Nat.reduceMul, Nat.reduceSub, Nat.reduceLeDiff, hx]; rfl) (by rfl) (by rfl) (by rfl) (by first | decide | simp) (by first | exact Nat.le_refl _ | (simp [rows]; done) | (first | (first | trivial | exact ⟨hgi.rise _ (AF ht), by have h2 : ts.length ≤ _ := hmi _ (AF ht); omega⟩) | exact Ay)) fun v1 => ?_)
 simp only [wB, eq_self, Nat.reduceEqDiff, reduceIte, wG, Ax, Nat.reduceAdd, Nat.reduceSub, Nat.reduceLT, Nat.reduceLeDiff, AS, List.cons_append, List.nil_append, List.mem_cons, List.not_mem_nil, or_false, false_or, wL, Int.toNat_natCast, Int.reduceToNat, Nat.reduceAdd, Nat.reduceMul, Nat.reduceSub, Nat.reduceLeDiff, hx]
 iterate 2 refine Au ?_
 refine A8 ?_
 refine Ab ?_
 refine B9 ?_
 have hx := hx0
 refine h7 _ ?_; clear h7
 refine Ad ?_
 try refine Ac ?_
 refine Am ?_
 refine Ae ?_
 refine Ab ?_
 have e1 := DW (n := n) hvs hh ht v1
 have e2 : zR (AO P n u (i + 1)) _ = _ := e1.2.1
 have e6 : bB (AO P n u (i + 1)) _ = _ := e1.2.2
 refine h3 _ ⟨(i + 1, vs.set (Ck (AO P n u i) (gr u i)) v1), ?_, ?_, [some 0, some 1, some 2, some 3, some 4, some 9], ?_⟩
 dsimp only
 exact ⟨by omega, (DW hvs hh ht v1).1⟩
 dsimp only
 omega
 dsimp only
 refine ⟨by rfl, ?_, ?_⟩
 refine Aj ?_
 ·(repeat' apply And.intro) <;> (first | (first | rfl | (rw [e2]; simp; done) | (rw [C0, e2]) | (rw [List.take_length]; exact congrArg (OB.bag _ _) e6.symm)) | exact At)
 refine Aj ?_
 ·(repeat' apply And.intro) <;> (first | (first | rfl | (rw [e2]; simp; done) | (rw [C0, e2]) | (rw [List.take_length]; exact congrArg (OB.bag _ _) e6.symm)) | exact At)
 refine AN ?_ ?_
 simp only [Ak, Ai]
 try refine Ac ?_
 have hs := And.intro @Cj.eq_1 @Cj.eq_2
 refine AE (by rfl) (En 5 (by rfl) (f := 77) (sp := Spec.gen Cj) rfl (by simp only [A6, wB, eq_self, Nat.reduceEqDiff, reduceIte]; rfl)  (by simp only [wB, eq_self, Nat.reduceEqDiff, reduceIte, and_true]) (m1 := ((bB (AO P n u i) vs).take (Ck (AO P n u i) (gr u i)))) (m2 := ((bB (AO P n u i) vs).drop ((Ck (AO P n u i) (gr u i)) + 1))) rfl hsp 0 rfl (by simp only [wB, eq_self, Nat.reduceEqDiff, reduceIte, wG, Ax, Nat.reduceAdd, Nat.reduceSub, Nat.reduceLT, Nat.reduceLeDiff, AS, List.cons_append, List.nil_append, List.mem_cons, List.not_mem_nil, or_false, false_or, wL, Int.toNat_natCast, Int.reduceToNat, Nat.reduceAdd, Nat.reduceMul, Nat.reduceSub, Nat.reduceLeDiff, hx]; rfl) (by simp only [wB, eq_self, Nat.reduceEqDiff, reduceIte, CM, Ch, Cg, AR, BA, hs, Ci, Ax, wL, Int.toNat_natCast, Int.reduceToNat, Nat.reduceAdd, Nat.reduceMul, Nat.reduceSub, Nat.reduceLeDiff, List.mem_cons, List.not_mem_nil, AJ, CB, CJ, hx, wG, Nat.reduceAdd, Nat.reduceSub, Nat.reduceLT, Nat.reduceLeDiff, if_true, if_false, ite_self, List.mem_append, true_implies, Option.bind_some, List.set_cons_zero, List.set_cons_succ, or_false, false_or]; rfl) (by first | trivial | ((try dsimp only); (first | (first | trivial | exact ⟨hgi.rise _ (AF ht), by have h2 : ts.length ≤ _ := hmi _ (AF ht); omega⟩) | exact Ay))) (by simp only [wB, eq_self, Nat.reduceEqDiff, reduceIte, wG, Ax, Nat.reduceAdd, Nat.reduceSub, Nat.reduceLT, Nat.reduceLeDiff, AS, List.cons_append, List.nil_append, List.mem_cons, List.not_mem_nil, or_false, false_or, wL, Int.toNat_natCast, Int.reduceToNat, Nat.reduceAdd, Nat.reduceMul, Nat.reduceSub, Nat.reduceLeDiff, hx]; rfl) (by rfl) (by rfl) (by rfl) (by first | decide | simp) (by first | exact Nat.le_refl _ | (simp [rows]; done) | (first | (first | trivial | exact ⟨hgi.rise _ (AF ht), by have h2 : ts.length ≤ _ := hmi _ (AF ht); omega⟩) | exact Ay)) fun v1 => ?_)
 simp only [wB, eq_self, Nat.reduceEqDiff, reduceIte, wG, Ax, Nat.reduceAdd, Nat.reduceSub, Nat.reduceLT, Nat.reduceLeDiff, AS, List.cons_append, List.nil_append, List.mem_cons, List.not_mem_nil, or_false, false_or, wL, Int.toNat_natCast, Int.reduceToNat, Nat.reduceAdd, Nat.reduceMul, Nat.reduceSub, Nat.reduceLeDiff, hx]
 refine Ab ?_
 refine Bb ?_
 simp only [Ak, Ai]
 try refine Ac ?_
 refine Ar ?_
 iterate 2 refine Au ?_
 refine A8 ?_
 refine Ab ?_
 refine B9 ?_
 have hx := hx0
 refine h7 _ ?_; clear h7
 refine Ad ?_
 try refine Ac ?_
 refine Am ?_
 refine Ae ?_
 refine Ab ?_
 have e1 := DW (n := n) hvs hh ht v1
 have e2 : zR (AO P n u (i + 1)) _ = _ := e1.2.1
 have e6 : bB (AO P n u (i + 1)) _ = _ := e1.2.2
 refine h3 _ ⟨(i + 1, vs.set (Ck (AO P n u i) (gr u i)) v1), ?_, ?_, [some 0, some 1, some 2, some 3, some 4, some 9], ?_⟩
 dsimp only
 exact ⟨by omega, (DW hvs hh ht v1).1⟩
 dsimp only
 omega
 dsimp only
 refine ⟨by rfl, ?_, ?_⟩
 refine Aj ?_
 ·(repeat' apply And.intro) <;> (first | (first | rfl | (rw [e2]; simp; done) | (rw [C0, e2]) | (rw [List.take_length]; exact congrArg (OB.bag _ _) e6.symm)) | exact At)
 refine Aj ?_
 ·(repeat' apply And.intro) <;> (first | (first | rfl | (rw [e2]; simp; done) | (rw [C0, e2]) | (rw [List.take_length]; exact congrArg (OB.bag _ _) e6.symm)) | exact At)
 exact Cl
 refine AN ?_ ?_
 simp only [Ak, Ai]
 try refine Ac ?_
 have hs := And.intro @Cj.eq_1 @Cj.eq_2
 refine AE (by rfl) (En 5 (by rfl) (f := 77) (sp := Spec.gen Cj) rfl (by simp only [A6, wB, eq_self, Nat.reduceEqDiff, reduceIte]; rfl)  (by simp only [wB, eq_self, Nat.reduceEqDiff, reduceIte, and_true]) (m1 := ((bB (AO P n u i) vs).take (Ck (AO P n u i) (gr u i)))) (m2 := ((bB (AO P n u i) vs).drop ((Ck (AO P n u i) (gr u i)) + 1))) rfl hsp 0 rfl (by simp only [wB, eq_self, Nat.reduceEqDiff, reduceIte, wG, Ax, Nat.reduceAdd, Nat.reduceSub, Nat.reduceLT, Nat.reduceLeDiff, AS, List.cons_append, List.nil_append, List.mem_cons, List.not_mem_nil, or_false, false_or, wL, Int.toNat_natCast, Int.reduceToNat, Nat.reduceAdd, Nat.reduceMul, Nat.reduceSub, Nat.reduceLeDiff, hx]; rfl) (by simp only [wB, eq_self, Nat.reduceEqDiff, reduceIte, CM, Ch, Cg, AR, BA, hs, Ci, Ax, wL, Int.toNat_natCast, Int.reduceToNat, Nat.reduceAdd, Nat.reduceMul, Nat.reduceSub, Nat.reduceLeDiff, List.mem_cons, List.not_mem_nil, AJ, CB, CJ, hx, wG, Nat.reduceAdd, Nat.reduceSub, Nat.reduceLT, Nat.reduceLeDiff, if_true, if_false, ite_self, List.mem_append, true_implies, Option.bind_some, List.set_cons_zero, List.set_cons_succ, or_false, false_or]; rfl) (by first | trivial | ((try dsimp only); (first | (first | trivial | exact ⟨hgi.rise _ (AF ht), by have h2 : ts.length ≤ _ := hmi _ (AF ht); omega⟩) | exact Ay))) (by simp only [wB, eq_self, Nat.reduceEqDiff, reduceIte, wG, Ax, Nat.reduceAdd, Nat.reduceSub, Nat.reduceLT, Nat.reduceLeDiff, AS, List.cons_append, List.nil_append, List.mem_cons, List.not_mem_nil, or_false, false_or, wL, Int.toNat_natCast, Int.reduceToNat, Nat.reduceAdd, Nat.reduceMul, Nat.reduceSub, Nat.reduceLeDiff, hx]; rfl) (by rfl) (by rfl) (by rfl) (by first | decide | simp) (by first | exact Nat.le_refl _ | (simp [rows]; done) | (first | (first | trivial | exact ⟨hgi.rise _ (AF ht), by have h2 : ts.length ≤ _ := hmi _ (AF ht); omega⟩) | exact Ay)) fun v1 => ?_)
 simp only [wB, eq_self, Nat.reduceEqDiff, reduceIte, wG, Ax, Nat.reduceAdd, Nat.reduceSub, Nat.reduceLT, Nat.reduceLeDiff, AS, List.cons_append, List.nil_append, List.mem_cons, List.not_mem_nil, or_false, false_or, wL, Int.toNat_natCast, Int.reduceToNat, Nat.reduceAdd, Nat.reduceMul, Nat.reduceSub, Nat.reduceLeDiff, hx]
 refine Ab ?_
 refine Bb ?_
 simp only [Ak, Ai]
 try refine Ac ?_
 refine Au ?_
 refine Ar ?_
 iterate 2 refine Au ?_
 refine A8 ?_
 refine Ab ?_
 refine B9 ?_
 have hx := hx0
 refine h7 _ ?_; clear h7
 refine Ad ?_
 try refine Ac ?_
 refine Am ?_
 refine Ae ?_
 refine Ab ?_
 have e1 := DW (n := n) hvs hh ht v1
 have e2 : zR (AO P n u (i + 1)) _ = _ := e1.2.1
 have e6 : bB (AO P n u (i + 1)) _ = _ := e1.2.2
 refine h3 _ ⟨(i + 1, vs.set (Ck (AO P n u i) (gr u i)) v1), ?_, ?_, [some 0, some 1, some 2, some 3, some 4, some 9], ?_⟩
 dsimp only
 exact ⟨by omega, (DW hvs hh ht v1).1⟩
 dsimp only
 omega
 dsimp only
 refine ⟨by rfl, ?_, ?_⟩
 refine Aj ?_
 ·(repeat' apply And.intro) <;> (first | (first | rfl | (rw [e2]; simp; done) | (rw [C0, e2]) | (rw [List.take_length]; exact congrArg (OB.bag _ _) e6.symm)) | exact At)
 refine Aj ?_
 ·(repeat' apply And.intro) <;> (first | (first | rfl | (rw [e2]; simp; done) | (rw [C0, e2]) | (rw [List.take_length]; exact congrArg (OB.bag _ _) e6.symm)) | exact At)
 exact Cl
 refine AN ?_ ?_
 simp only [Ak, Ai]
 try refine Ac ?_
 have hs := And.intro @Cj.eq_1 @Cj.eq_2
 refine AE (by rfl) (En 5 (by rfl) (f := 77) (sp := Spec.gen Cj) rfl (by simp only [A6, wB, eq_self, Nat.reduceEqDiff, reduceIte]; rfl)  (by simp only [wB, eq_self, Nat.reduceEqDiff, reduceIte, and_true]) (m1 := ((bB (AO P n u i) vs).take (Ck (AO P n u i) (gr u i)))) (m2 := ((bB (AO P n u i) vs).drop ((Ck (AO P n u i) (gr u i)) + 1))) rfl hsp 0 rfl (by simp only [wB, eq_self, Nat.reduceEqDiff, reduceIte, wG, Ax, Nat.reduceAdd, Nat.reduceSub, Nat.reduceLT, Nat.reduceLeDiff, AS, List.cons_append, List.nil_append, List.mem_cons, List.not_mem_nil, or_false, false_or, wL, Int.toNat_natCast, Int.reduceToNat, Nat.reduceAdd, Nat.reduceMul, Nat.reduceSub, Nat.reduceLeDiff, hx]; rfl) (by simp only [wB, eq_self, Nat.reduceEqDiff, reduceIte, CM, Ch, Cg, AR, BA, hs, Ci, Ax, wL, Int.toNat_natCast, Int.reduceToNat, Nat.reduceAdd, Nat.reduceMul, Nat.reduceSub, Nat.reduceLeDiff, List.mem_cons, List.not_mem_nil, AJ, CB, CJ, hx, wG, Nat.reduceAdd, Nat.reduceSub, Nat.reduceLT, Nat.reduceLeDiff, if_true, if_false, ite_self, List.mem_append, true_implies, Option.bind_some, List.set_cons_zero, List.set_cons_succ, or_false, false_or]; rfl) (by first | trivial | ((try dsimp only); (first | (first | trivial | exact ⟨hgi.rise _ (AF ht), by have h2 : ts.length ≤ _ := hmi _ (AF ht); omega⟩) | exact Ay))) (by simp only [wB, eq_self, Nat.reduceEqDiff, reduceIte, wG, Ax, Nat.reduceAdd, Nat.reduceSub, Nat.reduceLT, Nat.reduceLeDiff, AS, List.cons_append, List.nil_append, List.mem_cons, List.not_mem_nil, or_false, false_or, wL, Int.toNat_natCast, Int.reduceToNat, Nat.reduceAdd, Nat.reduceMul, Nat.reduceSub, Nat.reduceLeDiff, hx]; rfl) (by rfl) (by rfl) (by rfl) (by first | decide | simp) (by first | exact Nat.le_refl _ | (simp [rows]; done) | (first | (first | trivial | exact ⟨hgi.rise _ (AF ht), by have h2 : ts.length ≤ _ := hmi _ (AF ht); omega⟩) | exact Ay)) fun v1 => ?_)
 simp only [wB, eq_self, Nat.reduceEqDiff, reduceIte, wG, Ax, Nat.reduceAdd, Nat.reduceSub, Nat.reduceLT, Nat.reduceLeDiff, AS, List.cons_append, List.nil_append, List.mem_cons, List.not_mem_nil, or_false, false_or, wL, Int.toNat_natCast, Int.reduceToNat, Nat.reduceAdd, Nat.reduceMul, Nat.reduceSub, Nat.reduceLeDiff, hx]
 refine Ab ?_
 refine Bb ?_
 simp only [Ak, Ai]
 try refine Ac ?_
 refine Bn ?_
 refine Au ?_
 refine Ar ?_
 iterate 2 refine Au ?_
 refine A8 ?_
 refine Ab ?_
 refine B9 ?_
 have hx := hx0
 refine h7 _ ?_; clear h7
 refine Ad ?_
 try refine Ac ?_
 refine Am ?_
 refine Ae ?_
 refine Ab ?_
 have e1 := DW (n := n) hvs hh ht v1
 have e2 : zR (AO P n u (i + 1)) _ = _ := e1.2.1
 have e6 : bB (AO P n u (i + 1)) _ = _ := e1.2.2
 refine h3 _ ⟨(i + 1, vs.set (Ck (AO P n u i) (gr u i)) v1), ?_, ?_, [some 0, some 1, some 2, some 3, some 4, some 9], ?_⟩
 dsimp only
 exact ⟨by omega, (DW hvs hh ht v1).1⟩
 dsimp only
 omega
 dsimp only
 refine ⟨by rfl, ?_, ?_⟩
 refine Aj ?_
 ·(repeat' apply And.intro) <;> (first | (first | rfl | (rw [e2]; simp; done) | (rw [C0, e2]) | (rw [List.take_length]; exact congrArg (OB.bag _ _) e6.symm)) | exact At)
 refine Aj ?_
 ·(repeat' apply And.intro) <;> (first | (first | rfl | (rw [e2]; simp; done) | (rw [C0, e2]) | (rw [List.take_length]; exact congrArg (OB.bag _ _) e6.symm)) | exact At)
 exact Cl
 have hie : i = u.length - 2 := by have := hb6; omega
 subst hie
 refine QV 0 1 5 rfl rfl rfl rfl rfl (by decide) (ps := (LI P n u).map uP) (vs := vs) (by rw [List.length_map]; exact hvs) (by rw [Pd]; rfl) (by rw [Pc]; rfl) ?_
 simp only [AS, BI, List.set, List.cons_append, List.nil_append, List.mem_cons, List.not_mem_nil, or_false]
 refine Be ?_
 simp only [Af, Nat.reduceEqDiff, reduceIte, eq_self]
 refine Aj ?_
 refine ⟨[some 0, some 1, some 2, some 3, some 6], by rfl, ?_, ?_⟩
 refine Aj ?_
 exact At
 refine Aj ?_
 exact At
 cases hg

def K6 : Bo Tryz.prog := Hp.add 53 (Spec.gen IF) Nj (by kernel_rfl)
end Go.Proofs.YtmbjnkgpcbpclaaGreat
