/- Walks, printed by wip/gen/walk.py. -/
import Derived.Test.YtmbjnkgpcbpclaaGreatT6
import Derived.Test.YtmbjnkgpcbpclaaGreatV5
set_option linter.all false
set_option maxRecDepth 100000
set_option maxHeartbeats 4000000
namespace Go.Proofs.YtmbjnkgpcbpclaaGreat
open Go Go.Vc Go.RowKit
theorem rows_ins2 (l : List (Bs × D)) (k : Nat) (x : Bs × D) : rows eG (List.take k l) ++ [eG x] ++ rows eG (List.drop k l) = rows eG (l.take k ++ x :: l.drop k) := by simp [rows]
theorem set_row {Q : List (Bs × D)} {k : Nat} {g : Bs} {d : D} : (rows eG Q).set k [.str g, d] = rows eG (Q.set k (g, d)) := by
  unfold rows; rw [List.map_set]; rfl
theorem at_zR {P : List Post} {vs : List Value} (hl : vs.length = P.length) {k : Nat} {g : Bs} {t : List Int} (h : P[k]? = some (g, t)) : ∃ v, vs[k]? = some v ∧ (zR P vs)[k]? = some (g, .raw v) ∧ bB P vs = (bB P vs).take k ++ (v, rows eI t) :: (bB P vs).drop (k + 1) := by
  have hk := (List.getElem?_eq_some_iff.1 h).1
  obtain ⟨v, hv⟩ : ∃ v, vs[k]? = some v := ⟨_, List.getElem?_eq_getElem (by omega)⟩
  have hb : (bB P vs)[k]? = some (v, rows eI t) := by simp [bB, List.getElem?_zipWith, h, hv]
  exact ⟨v, hv, by simp [zR, List.getElem?_zipWith, h, hv], split_at hb⟩
theorem step_has {P : List Post} {vs : List Value} {g : Bs} {n : Int} {t : List Int} (hl : vs.length = P.length) (hh : hasG' P g = true) (hk : P[lbG P g]? = some (g, t)) (v : Value) :
    (vs.set (lbG P g) v).length = (post P g n).length ∧ zR (post P g n) (vs.set (lbG P g) v) = (zR P vs).set (lbG P g) (g, .raw v) ∧ bB (post P g n) (vs.set (lbG P g) v) = (bB P vs).take (lbG P g) ++ (v, rows eI (ins t n)) :: (bB P vs).drop (lbG P g + 1) := by
  have hp : post P g n = P.set (lbG P g) (g, ins t n) := by unfold post; rw [if_pos hh, List.getD_eq_getElem?_getD, hk]; rfl
  have hlt := (List.getElem?_eq_some_iff.1 hk).1
  refine ⟨by rw [hp]; simp [hl], by rw [hp]; exact zip_set _ _ _ _ _ _, ?_⟩
  rw [hp]
  unfold bB
  rw [zip_set, List.set_eq_take_append_cons_drop, if_pos (by simp [hl]; omega)]
theorem step_new {P : List Post} {vs : List Value} {g : Bs} {n : Int} (hl : vs.length = P.length) (hh : hasG' P g = false) (v : Value) :
    (vs.take (lbG P g) ++ v :: vs.drop (lbG P g)).length = (post P g n).length ∧ zR (post P g n) (vs.take (lbG P g) ++ v :: vs.drop (lbG P g)) = (zR P vs).take (lbG P g) ++ (g, .raw v) :: (zR P vs).drop (lbG P g) ∧
      bB (post P g n) (vs.take (lbG P g) ++ v :: vs.drop (lbG P g)) = (bB P vs).take (lbG P g) ++ (v, rows eI [n]) :: (bB P vs).drop (lbG P g) := by
  have hp : post P g n = P.take (lbG P g) ++ (g, [n]) :: P.drop (lbG P g) := by unfold post; rw [if_neg (by rw [hh]; simp)]
  refine ⟨?_, ?_, ?_⟩
  · rw [hp]; simp [hl]
  · rw [hp]; exact zip_ins _ _ _ _ _ _ hl
  · rw [hp]; exact zip_ins _ _ _ _ _ _ hl
theorem new_at {Q : List (Bs × D)} {k : Nat} {x : Bs × D} (h : k ≤ Q.length) : (Q.take k ++ x :: Q.drop k)[k]? = some x := by
  rw [List.getElem?_append_right (by simp; omega), List.length_take, Nat.min_eq_left h]; simp
theorem new_set {Q : List (Bs × D)} {k : Nat} {x y : Bs × D} (h : k ≤ Q.length) : (Q.take k ++ x :: Q.drop k).set k y = Q.take k ++ y :: Q.drop k := by
  rw [List.set_append_right _ _ (by simp; omega), List.length_take, Nat.min_eq_left h]; simp
theorem addO_meets : Meets Tryz.prog 53 (Spec.gen addOG) := by
 refine meets_handed (E_insO.at_ 71) Tryz.func53 rfl rfl rfl ?_
 intro args bl p r bf hg hp
 unfold addOG at hg
 split at hg
 rename_i n u tx a b t z xs t2 z2 f e2 z3 ps
 simp only [Option.some.injEq, Prod.mk.injEq] at hg
 obtain ⟨rfl, rfl, rfl⟩ := hg
 obtain ⟨P, rfl, rfl, rfl, he, rfl, hso, hll, rfl, rfl, rfl, rfl, rfl, rfl, hg, hpl, hpm, hsl⟩ := hp
 rw [unP_uP]
 generalize dI xs = l at *
 subst he
 have hT : (E_insO).X = T := rfl
 have hx0 := And.intro @rect_eG (And.intro @dG_rows (And.intro @cleanD_raw @Tryz.results53))
 have hx := hx0
 refine ⟨Nat.le_of_ble_eq_true rfl, ?_⟩
 intro F W0 M0 hnp hmk
 have hnp : Far.np = 3 := hnp
 refine vc_seq_k fun N1 h1 => ?_
 have hx := And.intro @dI_rows hx0
 refine u_reg ?_
 try refine lg_mk ?_
 iterate 2 refine u_mv ?_
 refine u_nl ?_
 refine u_pt ?_
 refine u_ld ?_
 refine u_mv ?_
 have hc := call_rule (E := (E_insO.at_ 71)) (f := 77) (sp := Spec.gen insOG) rfl
 have hs := And.intro @insOG.eq_1 @insOG.eq_2
 refine u_hg ?_
 refine u_nl ?_
 refine u_pt ?_
 refine u_st ?_
 refine lg_nil ?_
 have hx := hx0
 refine h1 _ ?_; clear h1; try clear N1
 refine vc_seq_k fun N2 h2 => ?_
 refine vc_open1 0 1 rfl rfl rfl rfl (fun vs0 hvs0 => ?_)
 rw [List.length_map] at hvs0
 rw [rawR_uP, rawB_uP]
 simp only [kilL, updL, List.set, List.cons_append, List.nil_append, List.mem_cons, List.not_mem_nil, or_false]
 refine u_reg ?_
 try refine lg_mk ?_
 refine u_mv ?_
 refine u_ln ?_
 iterate 2 refine u_bn ?_
 refine u_mv ?_
 refine lg_nil ?_
 refine h2 _ ?_; clear h2; try clear N2
 refine vc_block ?_
 refine vc_loop_mk (σ := Nat × List Value) (fun s => (fun i vs => i ≤ u.length - 2 ∧ vs.length = (addK P n u i).length) (s.1) (s.2))
  (fun s => (fun i vs => [(0, .ptr 0 0 0), (1, .d (.int .i64 n)), (2, .d (.str u)), (22, .d (.int .i64 ((u.length : Int) - 3 + 1))), (23, .d (.int .i64 (i : Nat)))]) (s.1) (s.2))
  (fun s => (fun i vs => [some (.one tx [.sl 3 0 (ins l n).length, .sl 4 0 (zR (addK P n u i) vs).length]), none, none, some (.vec 3 1 (rows eI (ins l n))), some (.vec 85 2 (rows eG (zR (addK P n u i) vs))), some (.ob (.bag 3 1 (bB (addK P n u i) vs)))]) (s.1) (s.2)) (fun s => (fun i vs => u.length - i) (s.1) (s.2)) hnp (0, vs0) ?_ [some 0, some 1, some 2, some 3, some 4, some 5] ?_ ?_
 dsimp only
 exact ⟨by omega, hvs0⟩
 dsimp only
 refine ⟨by rfl, ?_, ?_⟩
 refine fin_ ?_
 ·(repeat' apply And.intro) <;> (first | (first | (rw [List.length_map]; exact (zR_len hvs0).symm) | rfl) | exact cl_)
 refine fin_ ?_
 ·(repeat' apply And.intro) <;> (first | (first | (rw [List.length_map]; exact (zR_len hvs0).symm) | rfl) | exact cl_)
 rintro ⟨i, vs⟩ hinv N3 h3
 dsimp only at hinv ⊢
 obtain ⟨hi, hvs⟩ := hinv
 have hgi := addK_good (n := n) (s := u) hg i
 have hzl := zR_len hvs
 have hzs := zR_sort hvs hgi.sort
 have hzb := zR_lb hvs (gr u i)
 have hzh := zR_has hvs (gr u i)
 have hkl := lbG_le (addK P n u i) (gr u i)
 have hpi := addK_len (P := P) (n := n) (s := u) i
 have hgr : List.take (((i : Int) + 3).toNat - i) (u.drop i) = gr u i := by unfold gr; congr 1; omega
 have hmi := addK_max (n := n) (s := u) (by omega) hpm i
 refine vc_seq_k fun N4 h4 => ?_
 refine u_reg ?_
 try refine lg_mk ?_
 refine u_bn ?_
 refine lg_nil ?_
 refine h4 _ ?_; clear h4; try clear N4
 refine vc_seq_k fun N5 h5 => ?_
 refine u_cond (fun hb6 => ?_) (fun hb6 => ?_)
 have hi3 : i + 3 ≤ u.length := by have := hb6; omega
 refine vc_skip ?_
 try simp only [k_rules]
 refine h5 _ ?_; clear h5; try clear N5
 refine vc_seq_k fun N7 h7 => ?_
 refine vc_block ?_
 refine vc_seq_k fun N8 h8 => ?_
 refine u_reg ?_
 try refine lg_mk ?_
 iterate 2 refine u_mv ?_
 refine lg_nil ?_
 refine h8 _ ?_; clear h8; try clear N8
 refine vc_seq_k fun N9 h9 => ?_
 refine u_reg ?_
 try refine lg_mk ?_
 iterate 3 refine u_mv ?_
 refine u_bn ?_
 refine u_sl ?_
 refine u_mv ?_
 refine lg_nil ?_
 simp only [hgr]
 refine h9 _ ?_; clear h9; try clear N9
 refine vc_seq_k fun N10 h10 => ?_
 refine u_reg ?_
 try refine lg_mk ?_
 refine u_mv ?_
 refine u_nl ?_
 refine u_ld ?_
 refine u_mv ?_
 have hc := call_rule (E := (E_insO.at_ 71)) (f := 78) (sp := Spec.pure findG) rfl
 have hs := @findG.eq_1
 refine u_cp (hq := by (first | (exact ⟨by omega, by omega, by rw [List.take_length]; exact hzs, by rw [List.take_length]; omega⟩) | exact sd_)) ?_
 refine u_mv ?_
 iterate 2 refine u_ex ?_
 iterate 2 refine u_mv ?_
 refine lg_nil ?_
 simp only [List.take_length, hzb, hzh]
 refine h10 _ ?_; clear h10; try clear N10
 refine vc_seq_k fun N11 h11 => ?_
 refine vc_seq_k fun N12 h12 => ?_
 refine u_reg ?_
 try refine lg_mk ?_
 refine u_mv ?_
 refine u_un ?_
 refine lg_nil ?_
 refine h12 _ ?_; clear h12; try clear N12
 refine u_cond (fun hb13 => ?_) (fun hb13 => ?_)
 have hh : hasG' (addK P n u i) (gr u i) = false := by simpa using hb13
 have hrow : rows eG (List.take (lbG (addK P n u i) (gr u i)) (zR (addK P n u i) vs)) ++ [[.str (gr u i), .raw nilv]] ++ rows eG (List.drop (lbG (addK P n u i) (gr u i)) (zR (addK P n u i) vs)) = rows eG (List.take (lbG (addK P n u i) (gr u i)) (zR (addK P n u i) vs) ++ (gr u i, .raw nilv) :: List.drop (lbG (addK P n u i) (gr u i)) (zR (addK P n u i) vs)) := rows_ins2 _ _ (gr u i, .raw nilv)
 have hq : (List.take (lbG (addK P n u i) (gr u i)) (zR (addK P n u i) vs) ++ (gr u i, D.raw nilv) :: List.drop (lbG (addK P n u i) (gr u i)) (zR (addK P n u i) vs))[(lbG (addK P n u i) (gr u i))]? = some (gr u i, .raw nilv) := new_at (by omega)
 refine u_reg ?_
 try refine lg_mk ?_
 iterate 2 refine u_mv ?_
 refine u_nl ?_
 refine u_pt ?_
 refine u_ld ?_
 iterate 2 refine u_mv ?_
 refine lg_sem (by rfl) (sem_buildR (by simp only [wB, eq_self, Nat.reduceEqDiff, reduceIte, op_rules2, aBuild, List.map, env_rules, tys, hT, tiAgg, wL, Int.toNat_natCast, Int.reduceToNat, Nat.reduceAdd, Nat.reduceMul, Nat.reduceSub, Nat.reduceLeDiff, hx]; rfl) (by exact sd_) (by simp only [nd_rules, nd_slice, ev_rules, fr_rules, av_rules, eq_self, Nat.reduceEqDiff, reduceIte, and_true, true_and, map_rules, List.map_cons, List.map_nil]) ?_)
 simp only [List.map, rawN, wB, eq_self, Nat.reduceEqDiff, reduceIte, wL, Int.toNat_natCast, Int.reduceToNat, Nat.reduceAdd, Nat.reduceMul, Nat.reduceSub, Nat.reduceLeDiff, hx]
 refine u_bs ?_
 have hc := call_rule (E := (E_insO.at_ 71)) (f := 79) (sp := Spec.gen (insertG 85 2)) rfl
 have hs := And.intro @insertG.eq_1 @insertG.eq_2
 refine u_hg ?_
 refine u_nl ?_
 refine u_pt ?_
 refine u_st ?_
 refine lg_nil ?_
 simp only [hrow]
 refine h11 _ ?_; clear h11; try clear N11
 have hx := And.intro @hq (And.intro @eG.eq_1 hx0)
 refine vc_regT [] (.seq [0, 4, 5, 6, 7, 8, 9, 10, 11, 12, 13] (.alt 1 (.alt 2 (.alt 3 (.seq [14, 15, 16, 17] .nil) (.alt 14 (.seq [3, 15, 16, 17] .nil) .nil)) (.alt 14 (.seq [2, 3, 15, 16, 17] .nil) .nil)) (.alt 14 (.seq [1, 2, 3, 15, 16, 17] .nil) .nil))) hmix (by kernel_rfl) ?_
 refine at_seq ?_
 simp only [pick_rules, list_rules]
 try refine lg_mk ?_
 iterate 3 refine u_mv ?_
 refine u_nl ?_
 refine u_pt ?_
 refine u_ld ?_
 refine u_mv ?_
 iterate 2 refine u_pt ?_
 refine u_ld ?_
 refine u_mv ?_
 refine lg_nil ?_
 refine at_alt ?_ ?_
 simp only [pick_rules, list_rules]
 try refine lg_mk ?_
 refine u_nl ?_
 refine lg_nil ?_
 refine at_alt ?_ ?_
 simp only [pick_rules, list_rules]
 try refine lg_mk ?_
 refine u_pt ?_
 refine lg_nil ?_
 refine at_alt ?_ ?_
 simp only [pick_rules, list_rules]
 try refine lg_mk ?_
 refine u_ld ?_
 refine lg_nil ?_
 refine at_seq ?_
 simp only [pick_rules, list_rules]
 try refine lg_mk ?_
 have hs := And.intro @insOG.eq_1 @insOG.eq_2
 refine lg_sem (by rfl) (sem_call_putN 5 0 (f := 77) (sp := Spec.gen insOG) rfl (by simp only [map_rules, wB, eq_self, Nat.reduceEqDiff, reduceIte]; rfl)  rfl (by simp only [wB, eq_self, Nat.reduceEqDiff, reduceIte, and_true]) (m1 := ((bB (addK P n u i) vs).take (lbG (addK P n u i) (gr u i)))) (m2 := ((bB (addK P n u i) vs).drop (lbG (addK P n u i) (gr u i)))) (by simp only [wB, eq_self, Nat.reduceEqDiff, reduceIte, callS, rd_rules, pureL, cleanD, pure_rules, hs, sc_rules, heap_rules, wL, Int.toNat_natCast, Int.reduceToNat, Nat.reduceAdd, Nat.reduceMul, Nat.reduceSub, Nat.reduceLeDiff, List.mem_cons, List.not_mem_nil, dI_rows, dB_rows, dU_rows, hx, wG, Nat.reduceAdd, Nat.reduceSub, Nat.reduceLT, Nat.reduceLeDiff, if_true, if_false, ite_self, List.mem_append, true_implies, Option.bind_some, List.set_cons_zero, List.set_cons_succ, or_false, false_or]; rfl) (by first | trivial | ((try dsimp only); (first | (first | trivial | exact ⟨hgi.rise _ (mem_at ht), by have h2 : ts.length ≤ _ := hmi _ (mem_at ht); omega⟩) | exact sd_))) (by simp only [wB, eq_self, Nat.reduceEqDiff, reduceIte, wG, heap_rules, Nat.reduceAdd, Nat.reduceSub, Nat.reduceLT, Nat.reduceLeDiff, kilL, List.cons_append, List.nil_append, List.mem_cons, List.not_mem_nil, or_false, false_or, wL, Int.toNat_natCast, Int.reduceToNat, Nat.reduceAdd, Nat.reduceMul, Nat.reduceSub, Nat.reduceLeDiff, hx]; rfl) (by rfl) (by rfl) (by rfl) (List.take_append_drop _ _).symm (by first | decide | simp) (by first | exact Nat.le_refl _ | (simp [rows]; done) | (first | (first | trivial | exact ⟨hgi.rise _ (mem_at ht), by have h2 : ts.length ≤ _ := hmi _ (mem_at ht); omega⟩) | exact sd_)) fun v1 => ?_)
 simp only [wB, eq_self, Nat.reduceEqDiff, reduceIte, wG, heap_rules, Nat.reduceAdd, Nat.reduceSub, Nat.reduceLT, Nat.reduceLeDiff, kilL, List.cons_append, List.nil_append, List.mem_cons, List.not_mem_nil, or_false, false_or, wL, Int.toNat_natCast, Int.reduceToNat, Nat.reduceAdd, Nat.reduceMul, Nat.reduceSub, Nat.reduceLeDiff, hx]
 iterate 2 refine u_pt ?_
 refine u_st ?_
 refine lg_nil ?_
 refine at_nil ?_
 have hx := hx0
 refine h7 _ ?_; clear h7; try clear N7
 refine u_reg ?_
 try refine lg_mk ?_
 refine u_bn ?_
 refine u_mv ?_
 refine lg_nil ?_
 have e1 := step_new (n := n) hvs hh v1
 have e2 : zR (addK P n u (i + 1)) _ = _ := e1.2.1
 have e6 : bB (addK P n u (i + 1)) _ = _ := e1.2.2
 refine h3 _ ⟨(i + 1, vs.take (lbG (addK P n u i) (gr u i)) ++ v1 :: vs.drop (lbG (addK P n u i) (gr u i))), ?_, ?_, [some 0, some 1, some 2, some 3, some 7, some 9], ?_⟩
 dsimp only
 exact ⟨by omega, (step_new hvs hh v1).1⟩
 dsimp only
 omega
 dsimp only
 refine ⟨by rfl, ?_, ?_⟩
 refine fin_ ?_
 ·(repeat' apply And.intro) <;> (first | (first | rfl | (rw [e2]; simp; omega) | (rw [set_row, new_set (by omega), e2]) | exact congrArg (OB.bag _ _) e6.symm) | exact cl_)
 refine fin_ ?_
 ·(repeat' apply And.intro) <;> (first | (first | rfl | (rw [e2]; simp; omega) | (rw [set_row, new_set (by omega), e2]) | exact congrArg (OB.bag _ _) e6.symm) | exact cl_)
 refine at_alt ?_ ?_
 simp only [pick_rules, list_rules]
 try refine lg_mk ?_
 have hs := And.intro @insOG.eq_1 @insOG.eq_2
 refine lg_sem (by rfl) (sem_call_putN 5 0 (f := 77) (sp := Spec.gen insOG) rfl (by simp only [map_rules, wB, eq_self, Nat.reduceEqDiff, reduceIte]; rfl)  rfl (by simp only [wB, eq_self, Nat.reduceEqDiff, reduceIte, and_true]) (m1 := ((bB (addK P n u i) vs).take (lbG (addK P n u i) (gr u i)))) (m2 := ((bB (addK P n u i) vs).drop (lbG (addK P n u i) (gr u i)))) (by simp only [wB, eq_self, Nat.reduceEqDiff, reduceIte, callS, rd_rules, pureL, cleanD, pure_rules, hs, sc_rules, heap_rules, wL, Int.toNat_natCast, Int.reduceToNat, Nat.reduceAdd, Nat.reduceMul, Nat.reduceSub, Nat.reduceLeDiff, List.mem_cons, List.not_mem_nil, dI_rows, dB_rows, dU_rows, hx, wG, Nat.reduceAdd, Nat.reduceSub, Nat.reduceLT, Nat.reduceLeDiff, if_true, if_false, ite_self, List.mem_append, true_implies, Option.bind_some, List.set_cons_zero, List.set_cons_succ, or_false, false_or]; rfl) (by first | trivial | ((try dsimp only); (first | (first | trivial | exact ⟨hgi.rise _ (mem_at ht), by have h2 : ts.length ≤ _ := hmi _ (mem_at ht); omega⟩) | exact sd_))) (by simp only [wB, eq_self, Nat.reduceEqDiff, reduceIte, wG, heap_rules, Nat.reduceAdd, Nat.reduceSub, Nat.reduceLT, Nat.reduceLeDiff, kilL, List.cons_append, List.nil_append, List.mem_cons, List.not_mem_nil, or_false, false_or, wL, Int.toNat_natCast, Int.reduceToNat, Nat.reduceAdd, Nat.reduceMul, Nat.reduceSub, Nat.reduceLeDiff, hx]; rfl) (by rfl) (by rfl) (by rfl) (List.take_append_drop _ _).symm (by first | decide | simp) (by first | exact Nat.le_refl _ | (simp [rows]; done) | (first | (first | trivial | exact ⟨hgi.rise _ (mem_at ht), by have h2 : ts.length ≤ _ := hmi _ (mem_at ht); omega⟩) | exact sd_)) fun v1 => ?_)
 simp only [wB, eq_self, Nat.reduceEqDiff, reduceIte, wG, heap_rules, Nat.reduceAdd, Nat.reduceSub, Nat.reduceLT, Nat.reduceLeDiff, kilL, List.cons_append, List.nil_append, List.mem_cons, List.not_mem_nil, or_false, false_or, wL, Int.toNat_natCast, Int.reduceToNat, Nat.reduceAdd, Nat.reduceMul, Nat.reduceSub, Nat.reduceLeDiff, hx]
 refine lg_nil ?_
 refine at_seq ?_
 simp only [pick_rules, list_rules]
 try refine lg_mk ?_
 refine u_ld ?_
 iterate 2 refine u_pt ?_
 refine u_st ?_
 refine lg_nil ?_
 refine at_nil ?_
 have hx := hx0
 refine h7 _ ?_; clear h7; try clear N7
 refine u_reg ?_
 try refine lg_mk ?_
 refine u_bn ?_
 refine u_mv ?_
 refine lg_nil ?_
 have e1 := step_new (n := n) hvs hh v1
 have e2 : zR (addK P n u (i + 1)) _ = _ := e1.2.1
 have e6 : bB (addK P n u (i + 1)) _ = _ := e1.2.2
 refine h3 _ ⟨(i + 1, vs.take (lbG (addK P n u i) (gr u i)) ++ v1 :: vs.drop (lbG (addK P n u i) (gr u i))), ?_, ?_, [some 0, some 1, some 2, some 3, some 7, some 9], ?_⟩
 dsimp only
 exact ⟨by omega, (step_new hvs hh v1).1⟩
 dsimp only
 omega
 dsimp only
 refine ⟨by rfl, ?_, ?_⟩
 refine fin_ ?_
 ·(repeat' apply And.intro) <;> (first | (first | rfl | (rw [e2]; simp; omega) | (rw [set_row, new_set (by omega), e2]) | exact congrArg (OB.bag _ _) e6.symm) | exact cl_)
 refine fin_ ?_
 ·(repeat' apply And.intro) <;> (first | (first | rfl | (rw [e2]; simp; omega) | (rw [set_row, new_set (by omega), e2]) | exact congrArg (OB.bag _ _) e6.symm) | exact cl_)
 exact at_end
 refine at_alt ?_ ?_
 simp only [pick_rules, list_rules]
 try refine lg_mk ?_
 have hs := And.intro @insOG.eq_1 @insOG.eq_2
 refine lg_sem (by rfl) (sem_call_putN 5 0 (f := 77) (sp := Spec.gen insOG) rfl (by simp only [map_rules, wB, eq_self, Nat.reduceEqDiff, reduceIte]; rfl)  rfl (by simp only [wB, eq_self, Nat.reduceEqDiff, reduceIte, and_true]) (m1 := ((bB (addK P n u i) vs).take (lbG (addK P n u i) (gr u i)))) (m2 := ((bB (addK P n u i) vs).drop (lbG (addK P n u i) (gr u i)))) (by simp only [wB, eq_self, Nat.reduceEqDiff, reduceIte, callS, rd_rules, pureL, cleanD, pure_rules, hs, sc_rules, heap_rules, wL, Int.toNat_natCast, Int.reduceToNat, Nat.reduceAdd, Nat.reduceMul, Nat.reduceSub, Nat.reduceLeDiff, List.mem_cons, List.not_mem_nil, dI_rows, dB_rows, dU_rows, hx, wG, Nat.reduceAdd, Nat.reduceSub, Nat.reduceLT, Nat.reduceLeDiff, if_true, if_false, ite_self, List.mem_append, true_implies, Option.bind_some, List.set_cons_zero, List.set_cons_succ, or_false, false_or]; rfl) (by first | trivial | ((try dsimp only); (first | (first | trivial | exact ⟨hgi.rise _ (mem_at ht), by have h2 : ts.length ≤ _ := hmi _ (mem_at ht); omega⟩) | exact sd_))) (by simp only [wB, eq_self, Nat.reduceEqDiff, reduceIte, wG, heap_rules, Nat.reduceAdd, Nat.reduceSub, Nat.reduceLT, Nat.reduceLeDiff, kilL, List.cons_append, List.nil_append, List.mem_cons, List.not_mem_nil, or_false, false_or, wL, Int.toNat_natCast, Int.reduceToNat, Nat.reduceAdd, Nat.reduceMul, Nat.reduceSub, Nat.reduceLeDiff, hx]; rfl) (by rfl) (by rfl) (by rfl) (List.take_append_drop _ _).symm (by first | decide | simp) (by first | exact Nat.le_refl _ | (simp [rows]; done) | (first | (first | trivial | exact ⟨hgi.rise _ (mem_at ht), by have h2 : ts.length ≤ _ := hmi _ (mem_at ht); omega⟩) | exact sd_)) fun v1 => ?_)
 simp only [wB, eq_self, Nat.reduceEqDiff, reduceIte, wG, heap_rules, Nat.reduceAdd, Nat.reduceSub, Nat.reduceLT, Nat.reduceLeDiff, kilL, List.cons_append, List.nil_append, List.mem_cons, List.not_mem_nil, or_false, false_or, wL, Int.toNat_natCast, Int.reduceToNat, Nat.reduceAdd, Nat.reduceMul, Nat.reduceSub, Nat.reduceLeDiff, hx]
 refine lg_nil ?_
 refine at_seq ?_
 simp only [pick_rules, list_rules]
 try refine lg_mk ?_
 refine u_pt ?_
 refine u_ld ?_
 iterate 2 refine u_pt ?_
 refine u_st ?_
 refine lg_nil ?_
 refine at_nil ?_
 have hx := hx0
 refine h7 _ ?_; clear h7; try clear N7
 refine u_reg ?_
 try refine lg_mk ?_
 refine u_bn ?_
 refine u_mv ?_
 refine lg_nil ?_
 have e1 := step_new (n := n) hvs hh v1
 have e2 : zR (addK P n u (i + 1)) _ = _ := e1.2.1
 have e6 : bB (addK P n u (i + 1)) _ = _ := e1.2.2
 refine h3 _ ⟨(i + 1, vs.take (lbG (addK P n u i) (gr u i)) ++ v1 :: vs.drop (lbG (addK P n u i) (gr u i))), ?_, ?_, [some 0, some 1, some 2, some 3, some 7, some 9], ?_⟩
 dsimp only
 exact ⟨by omega, (step_new hvs hh v1).1⟩
 dsimp only
 omega
 dsimp only
 refine ⟨by rfl, ?_, ?_⟩
 refine fin_ ?_
 ·(repeat' apply And.intro) <;> (first | (first | rfl | (rw [e2]; simp; omega) | (rw [set_row, new_set (by omega), e2]) | exact congrArg (OB.bag _ _) e6.symm) | exact cl_)
 refine fin_ ?_
 ·(repeat' apply And.intro) <;> (first | (first | rfl | (rw [e2]; simp; omega) | (rw [set_row, new_set (by omega), e2]) | exact congrArg (OB.bag _ _) e6.symm) | exact cl_)
 exact at_end
 refine at_alt ?_ ?_
 simp only [pick_rules, list_rules]
 try refine lg_mk ?_
 have hs := And.intro @insOG.eq_1 @insOG.eq_2
 refine lg_sem (by rfl) (sem_call_putN 5 0 (f := 77) (sp := Spec.gen insOG) rfl (by simp only [map_rules, wB, eq_self, Nat.reduceEqDiff, reduceIte]; rfl)  rfl (by simp only [wB, eq_self, Nat.reduceEqDiff, reduceIte, and_true]) (m1 := ((bB (addK P n u i) vs).take (lbG (addK P n u i) (gr u i)))) (m2 := ((bB (addK P n u i) vs).drop (lbG (addK P n u i) (gr u i)))) (by simp only [wB, eq_self, Nat.reduceEqDiff, reduceIte, callS, rd_rules, pureL, cleanD, pure_rules, hs, sc_rules, heap_rules, wL, Int.toNat_natCast, Int.reduceToNat, Nat.reduceAdd, Nat.reduceMul, Nat.reduceSub, Nat.reduceLeDiff, List.mem_cons, List.not_mem_nil, dI_rows, dB_rows, dU_rows, hx, wG, Nat.reduceAdd, Nat.reduceSub, Nat.reduceLT, Nat.reduceLeDiff, if_true, if_false, ite_self, List.mem_append, true_implies, Option.bind_some, List.set_cons_zero, List.set_cons_succ, or_false, false_or]; rfl) (by first | trivial | ((try dsimp only); (first | (first | trivial | exact ⟨hgi.rise _ (mem_at ht), by have h2 : ts.length ≤ _ := hmi _ (mem_at ht); omega⟩) | exact sd_))) (by simp only [wB, eq_self, Nat.reduceEqDiff, reduceIte, wG, heap_rules, Nat.reduceAdd, Nat.reduceSub, Nat.reduceLT, Nat.reduceLeDiff, kilL, List.cons_append, List.nil_append, List.mem_cons, List.not_mem_nil, or_false, false_or, wL, Int.toNat_natCast, Int.reduceToNat, Nat.reduceAdd, Nat.reduceMul, Nat.reduceSub, Nat.reduceLeDiff, hx]; rfl) (by rfl) (by rfl) (by rfl) (List.take_append_drop _ _).symm (by first | decide | simp) (by first | exact Nat.le_refl _ | (simp [rows]; done) | (first | (first | trivial | exact ⟨hgi.rise _ (mem_at ht), by have h2 : ts.length ≤ _ := hmi _ (mem_at ht); omega⟩) | exact sd_)) fun v1 => ?_)
 simp only [wB, eq_self, Nat.reduceEqDiff, reduceIte, wG, heap_rules, Nat.reduceAdd, Nat.reduceSub, Nat.reduceLT, Nat.reduceLeDiff, kilL, List.cons_append, List.nil_append, List.mem_cons, List.not_mem_nil, or_false, false_or, wL, Int.toNat_natCast, Int.reduceToNat, Nat.reduceAdd, Nat.reduceMul, Nat.reduceSub, Nat.reduceLeDiff, hx]
 refine lg_nil ?_
 refine at_seq ?_
 simp only [pick_rules, list_rules]
 try refine lg_mk ?_
 refine u_nl ?_
 refine u_pt ?_
 refine u_ld ?_
 iterate 2 refine u_pt ?_
 refine u_st ?_
 refine lg_nil ?_
 refine at_nil ?_
 have hx := hx0
 refine h7 _ ?_; clear h7; try clear N7
 refine u_reg ?_
 try refine lg_mk ?_
 refine u_bn ?_
 refine u_mv ?_
 refine lg_nil ?_
 have e1 := step_new (n := n) hvs hh v1
 have e2 : zR (addK P n u (i + 1)) _ = _ := e1.2.1
 have e6 : bB (addK P n u (i + 1)) _ = _ := e1.2.2
 refine h3 _ ⟨(i + 1, vs.take (lbG (addK P n u i) (gr u i)) ++ v1 :: vs.drop (lbG (addK P n u i) (gr u i))), ?_, ?_, [some 0, some 1, some 2, some 3, some 7, some 9], ?_⟩
 dsimp only
 exact ⟨by omega, (step_new hvs hh v1).1⟩
 dsimp only
 omega
 dsimp only
 refine ⟨by rfl, ?_, ?_⟩
 refine fin_ ?_
 ·(repeat' apply And.intro) <;> (first | (first | rfl | (rw [e2]; simp; omega) | (rw [set_row, new_set (by omega), e2]) | exact congrArg (OB.bag _ _) e6.symm) | exact cl_)
 refine fin_ ?_
 ·(repeat' apply And.intro) <;> (first | (first | rfl | (rw [e2]; simp; omega) | (rw [set_row, new_set (by omega), e2]) | exact congrArg (OB.bag _ _) e6.symm) | exact cl_)
 exact at_end
 have hh : hasG' (addK P n u i) (gr u i) = true := by simpa using hb13
 obtain ⟨ts, ht⟩ := has_get hgi.sort hh
 obtain ⟨v0, hv0, hq, hsp⟩ := at_zR hvs ht
 have hklt := (List.getElem?_eq_some_iff.1 ht).1
 refine vc_skip ?_
 try simp only [k_rules]
 refine h11 _ ?_; clear h11; try clear N11
 have hx := And.intro @hq (And.intro @eG.eq_1 hx0)
 refine vc_regT [] (.seq [0, 4, 5, 6, 7, 8, 9, 10, 11, 12, 13] (.alt 1 (.alt 2 (.alt 3 (.seq [14, 15, 16, 17] .nil) (.alt 14 (.seq [3, 15, 16, 17] .nil) .nil)) (.alt 14 (.seq [2, 3, 15, 16, 17] .nil) .nil)) (.alt 14 (.seq [1, 2, 3, 15, 16, 17] .nil) .nil))) hmix (by kernel_rfl) ?_
 refine at_seq ?_
 simp only [pick_rules, list_rules]
 try refine lg_mk ?_
 iterate 3 refine u_mv ?_
 refine u_nl ?_
 refine u_pt ?_
 refine u_ld ?_
 refine u_mv ?_
 iterate 2 refine u_pt ?_
 refine u_ld ?_
 refine u_mv ?_
 refine lg_nil ?_
 refine at_alt ?_ ?_
 simp only [pick_rules, list_rules]
 try refine lg_mk ?_
 refine u_nl ?_
 refine lg_nil ?_
 refine at_alt ?_ ?_
 simp only [pick_rules, list_rules]
 try refine lg_mk ?_
 refine u_pt ?_
 refine lg_nil ?_
 refine at_alt ?_ ?_
 simp only [pick_rules, list_rules]
 try refine lg_mk ?_
 refine u_ld ?_
 refine lg_nil ?_
 refine at_seq ?_
 simp only [pick_rules, list_rules]
 try refine lg_mk ?_
 have hs := And.intro @insOG.eq_1 @insOG.eq_2
 refine lg_sem (by rfl) (sem_call_bag 5 (by rfl) (f := 77) (sp := Spec.gen insOG) rfl (by simp only [map_rules, wB, eq_self, Nat.reduceEqDiff, reduceIte]; rfl)  (by simp only [wB, eq_self, Nat.reduceEqDiff, reduceIte, and_true]) (m1 := ((bB (addK P n u i) vs).take (lbG (addK P n u i) (gr u i)))) (m2 := ((bB (addK P n u i) vs).drop ((lbG (addK P n u i) (gr u i)) + 1))) rfl hsp 0 rfl (by simp only [wB, eq_self, Nat.reduceEqDiff, reduceIte, wG, heap_rules, Nat.reduceAdd, Nat.reduceSub, Nat.reduceLT, Nat.reduceLeDiff, kilL, List.cons_append, List.nil_append, List.mem_cons, List.not_mem_nil, or_false, false_or, wL, Int.toNat_natCast, Int.reduceToNat, Nat.reduceAdd, Nat.reduceMul, Nat.reduceSub, Nat.reduceLeDiff, hx]; rfl) (by simp only [wB, eq_self, Nat.reduceEqDiff, reduceIte, callS, rd_rules, pureL, cleanD, pure_rules, hs, sc_rules, heap_rules, wL, Int.toNat_natCast, Int.reduceToNat, Nat.reduceAdd, Nat.reduceMul, Nat.reduceSub, Nat.reduceLeDiff, List.mem_cons, List.not_mem_nil, dI_rows, dB_rows, dU_rows, hx, wG, Nat.reduceAdd, Nat.reduceSub, Nat.reduceLT, Nat.reduceLeDiff, if_true, if_false, ite_self, List.mem_append, true_implies, Option.bind_some, List.set_cons_zero, List.set_cons_succ, or_false, false_or]; rfl) (by first | trivial | ((try dsimp only); (first | (first | trivial | exact ⟨hgi.rise _ (mem_at ht), by have h2 : ts.length ≤ _ := hmi _ (mem_at ht); omega⟩) | exact sd_))) (by simp only [wB, eq_self, Nat.reduceEqDiff, reduceIte, wG, heap_rules, Nat.reduceAdd, Nat.reduceSub, Nat.reduceLT, Nat.reduceLeDiff, kilL, List.cons_append, List.nil_append, List.mem_cons, List.not_mem_nil, or_false, false_or, wL, Int.toNat_natCast, Int.reduceToNat, Nat.reduceAdd, Nat.reduceMul, Nat.reduceSub, Nat.reduceLeDiff, hx]; rfl) (by rfl) (by rfl) (by rfl) (by first | decide | simp) (by first | exact Nat.le_refl _ | (simp [rows]; done) | (first | (first | trivial | exact ⟨hgi.rise _ (mem_at ht), by have h2 : ts.length ≤ _ := hmi _ (mem_at ht); omega⟩) | exact sd_)) fun v1 => ?_)
 simp only [wB, eq_self, Nat.reduceEqDiff, reduceIte, wG, heap_rules, Nat.reduceAdd, Nat.reduceSub, Nat.reduceLT, Nat.reduceLeDiff, kilL, List.cons_append, List.nil_append, List.mem_cons, List.not_mem_nil, or_false, false_or, wL, Int.toNat_natCast, Int.reduceToNat, Nat.reduceAdd, Nat.reduceMul, Nat.reduceSub, Nat.reduceLeDiff, hx]
 iterate 2 refine u_pt ?_
 refine u_st ?_
 refine lg_nil ?_
 refine at_nil ?_
 have hx := hx0
 refine h7 _ ?_; clear h7; try clear N7
 refine u_reg ?_
 try refine lg_mk ?_
 refine u_bn ?_
 refine u_mv ?_
 refine lg_nil ?_
 have e1 := step_has (n := n) hvs hh ht v1
 have e2 : zR (addK P n u (i + 1)) _ = _ := e1.2.1
 have e6 : bB (addK P n u (i + 1)) _ = _ := e1.2.2
 refine h3 _ ⟨(i + 1, vs.set (lbG (addK P n u i) (gr u i)) v1), ?_, ?_, [some 0, some 1, some 2, some 3, some 4, some 9], ?_⟩
 dsimp only
 exact ⟨by omega, (step_has hvs hh ht v1).1⟩
 dsimp only
 omega
 dsimp only
 refine ⟨by rfl, ?_, ?_⟩
 refine fin_ ?_
 ·(repeat' apply And.intro) <;> (first | (first | rfl | (rw [e2]; simp; done) | (rw [set_row, e2]) | (rw [List.take_length]; exact congrArg (OB.bag _ _) e6.symm)) | exact cl_)
 refine fin_ ?_
 ·(repeat' apply And.intro) <;> (first | (first | rfl | (rw [e2]; simp; done) | (rw [set_row, e2]) | (rw [List.take_length]; exact congrArg (OB.bag _ _) e6.symm)) | exact cl_)
 refine at_alt ?_ ?_
 simp only [pick_rules, list_rules]
 try refine lg_mk ?_
 have hs := And.intro @insOG.eq_1 @insOG.eq_2
 refine lg_sem (by rfl) (sem_call_bag 5 (by rfl) (f := 77) (sp := Spec.gen insOG) rfl (by simp only [map_rules, wB, eq_self, Nat.reduceEqDiff, reduceIte]; rfl)  (by simp only [wB, eq_self, Nat.reduceEqDiff, reduceIte, and_true]) (m1 := ((bB (addK P n u i) vs).take (lbG (addK P n u i) (gr u i)))) (m2 := ((bB (addK P n u i) vs).drop ((lbG (addK P n u i) (gr u i)) + 1))) rfl hsp 0 rfl (by simp only [wB, eq_self, Nat.reduceEqDiff, reduceIte, wG, heap_rules, Nat.reduceAdd, Nat.reduceSub, Nat.reduceLT, Nat.reduceLeDiff, kilL, List.cons_append, List.nil_append, List.mem_cons, List.not_mem_nil, or_false, false_or, wL, Int.toNat_natCast, Int.reduceToNat, Nat.reduceAdd, Nat.reduceMul, Nat.reduceSub, Nat.reduceLeDiff, hx]; rfl) (by simp only [wB, eq_self, Nat.reduceEqDiff, reduceIte, callS, rd_rules, pureL, cleanD, pure_rules, hs, sc_rules, heap_rules, wL, Int.toNat_natCast, Int.reduceToNat, Nat.reduceAdd, Nat.reduceMul, Nat.reduceSub, Nat.reduceLeDiff, List.mem_cons, List.not_mem_nil, dI_rows, dB_rows, dU_rows, hx, wG, Nat.reduceAdd, Nat.reduceSub, Nat.reduceLT, Nat.reduceLeDiff, if_true, if_false, ite_self, List.mem_append, true_implies, Option.bind_some, List.set_cons_zero, List.set_cons_succ, or_false, false_or]; rfl) (by first | trivial | ((try dsimp only); (first | (first | trivial | exact ⟨hgi.rise _ (mem_at ht), by have h2 : ts.length ≤ _ := hmi _ (mem_at ht); omega⟩) | exact sd_))) (by simp only [wB, eq_self, Nat.reduceEqDiff, reduceIte, wG, heap_rules, Nat.reduceAdd, Nat.reduceSub, Nat.reduceLT, Nat.reduceLeDiff, kilL, List.cons_append, List.nil_append, List.mem_cons, List.not_mem_nil, or_false, false_or, wL, Int.toNat_natCast, Int.reduceToNat, Nat.reduceAdd, Nat.reduceMul, Nat.reduceSub, Nat.reduceLeDiff, hx]; rfl) (by rfl) (by rfl) (by rfl) (by first | decide | simp) (by first | exact Nat.le_refl _ | (simp [rows]; done) | (first | (first | trivial | exact ⟨hgi.rise _ (mem_at ht), by have h2 : ts.length ≤ _ := hmi _ (mem_at ht); omega⟩) | exact sd_)) fun v1 => ?_)
 simp only [wB, eq_self, Nat.reduceEqDiff, reduceIte, wG, heap_rules, Nat.reduceAdd, Nat.reduceSub, Nat.reduceLT, Nat.reduceLeDiff, kilL, List.cons_append, List.nil_append, List.mem_cons, List.not_mem_nil, or_false, false_or, wL, Int.toNat_natCast, Int.reduceToNat, Nat.reduceAdd, Nat.reduceMul, Nat.reduceSub, Nat.reduceLeDiff, hx]
 refine lg_nil ?_
 refine at_seq ?_
 simp only [pick_rules, list_rules]
 try refine lg_mk ?_
 refine u_ld ?_
 iterate 2 refine u_pt ?_
 refine u_st ?_
 refine lg_nil ?_
 refine at_nil ?_
 have hx := hx0
 refine h7 _ ?_; clear h7; try clear N7
 refine u_reg ?_
 try refine lg_mk ?_
 refine u_bn ?_
 refine u_mv ?_
 refine lg_nil ?_
 have e1 := step_has (n := n) hvs hh ht v1
 have e2 : zR (addK P n u (i + 1)) _ = _ := e1.2.1
 have e6 : bB (addK P n u (i + 1)) _ = _ := e1.2.2
 refine h3 _ ⟨(i + 1, vs.set (lbG (addK P n u i) (gr u i)) v1), ?_, ?_, [some 0, some 1, some 2, some 3, some 4, some 9], ?_⟩
 dsimp only
 exact ⟨by omega, (step_has hvs hh ht v1).1⟩
 dsimp only
 omega
 dsimp only
 refine ⟨by rfl, ?_, ?_⟩
 refine fin_ ?_
 ·(repeat' apply And.intro) <;> (first | (first | rfl | (rw [e2]; simp; done) | (rw [set_row, e2]) | (rw [List.take_length]; exact congrArg (OB.bag _ _) e6.symm)) | exact cl_)
 refine fin_ ?_
 ·(repeat' apply And.intro) <;> (first | (first | rfl | (rw [e2]; simp; done) | (rw [set_row, e2]) | (rw [List.take_length]; exact congrArg (OB.bag _ _) e6.symm)) | exact cl_)
 exact at_end
 refine at_alt ?_ ?_
 simp only [pick_rules, list_rules]
 try refine lg_mk ?_
 have hs := And.intro @insOG.eq_1 @insOG.eq_2
 refine lg_sem (by rfl) (sem_call_bag 5 (by rfl) (f := 77) (sp := Spec.gen insOG) rfl (by simp only [map_rules, wB, eq_self, Nat.reduceEqDiff, reduceIte]; rfl)  (by simp only [wB, eq_self, Nat.reduceEqDiff, reduceIte, and_true]) (m1 := ((bB (addK P n u i) vs).take (lbG (addK P n u i) (gr u i)))) (m2 := ((bB (addK P n u i) vs).drop ((lbG (addK P n u i) (gr u i)) + 1))) rfl hsp 0 rfl (by simp only [wB, eq_self, Nat.reduceEqDiff, reduceIte, wG, heap_rules, Nat.reduceAdd, Nat.reduceSub, Nat.reduceLT, Nat.reduceLeDiff, kilL, List.cons_append, List.nil_append, List.mem_cons, List.not_mem_nil, or_false, false_or, wL, Int.toNat_natCast, Int.reduceToNat, Nat.reduceAdd, Nat.reduceMul, Nat.reduceSub, Nat.reduceLeDiff, hx]; rfl) (by simp only [wB, eq_self, Nat.reduceEqDiff, reduceIte, callS, rd_rules, pureL, cleanD, pure_rules, hs, sc_rules, heap_rules, wL, Int.toNat_natCast, Int.reduceToNat, Nat.reduceAdd, Nat.reduceMul, Nat.reduceSub, Nat.reduceLeDiff, List.mem_cons, List.not_mem_nil, dI_rows, dB_rows, dU_rows, hx, wG, Nat.reduceAdd, Nat.reduceSub, Nat.reduceLT, Nat.reduceLeDiff, if_true, if_false, ite_self, List.mem_append, true_implies, Option.bind_some, List.set_cons_zero, List.set_cons_succ, or_false, false_or]; rfl) (by first | trivial | ((try dsimp only); (first | (first | trivial | exact ⟨hgi.rise _ (mem_at ht), by have h2 : ts.length ≤ _ := hmi _ (mem_at ht); omega⟩) | exact sd_))) (by simp only [wB, eq_self, Nat.reduceEqDiff, reduceIte, wG, heap_rules, Nat.reduceAdd, Nat.reduceSub, Nat.reduceLT, Nat.reduceLeDiff, kilL, List.cons_append, List.nil_append, List.mem_cons, List.not_mem_nil, or_false, false_or, wL, Int.toNat_natCast, Int.reduceToNat, Nat.reduceAdd, Nat.reduceMul, Nat.reduceSub, Nat.reduceLeDiff, hx]; rfl) (by rfl) (by rfl) (by rfl) (by first | decide | simp) (by first | exact Nat.le_refl _ | (simp [rows]; done) | (first | (first | trivial | exact ⟨hgi.rise _ (mem_at ht), by have h2 : ts.length ≤ _ := hmi _ (mem_at ht); omega⟩) | exact sd_)) fun v1 => ?_)
 simp only [wB, eq_self, Nat.reduceEqDiff, reduceIte, wG, heap_rules, Nat.reduceAdd, Nat.reduceSub, Nat.reduceLT, Nat.reduceLeDiff, kilL, List.cons_append, List.nil_append, List.mem_cons, List.not_mem_nil, or_false, false_or, wL, Int.toNat_natCast, Int.reduceToNat, Nat.reduceAdd, Nat.reduceMul, Nat.reduceSub, Nat.reduceLeDiff, hx]
 refine lg_nil ?_
 refine at_seq ?_
 simp only [pick_rules, list_rules]
 try refine lg_mk ?_
 refine u_pt ?_
 refine u_ld ?_
 iterate 2 refine u_pt ?_
 refine u_st ?_
 refine lg_nil ?_
 refine at_nil ?_
 have hx := hx0
 refine h7 _ ?_; clear h7; try clear N7
 refine u_reg ?_
 try refine lg_mk ?_
 refine u_bn ?_
 refine u_mv ?_
 refine lg_nil ?_
 have e1 := step_has (n := n) hvs hh ht v1
 have e2 : zR (addK P n u (i + 1)) _ = _ := e1.2.1
 have e6 : bB (addK P n u (i + 1)) _ = _ := e1.2.2
 refine h3 _ ⟨(i + 1, vs.set (lbG (addK P n u i) (gr u i)) v1), ?_, ?_, [some 0, some 1, some 2, some 3, some 4, some 9], ?_⟩
 dsimp only
 exact ⟨by omega, (step_has hvs hh ht v1).1⟩
 dsimp only
 omega
 dsimp only
 refine ⟨by rfl, ?_, ?_⟩
 refine fin_ ?_
 ·(repeat' apply And.intro) <;> (first | (first | rfl | (rw [e2]; simp; done) | (rw [set_row, e2]) | (rw [List.take_length]; exact congrArg (OB.bag _ _) e6.symm)) | exact cl_)
 refine fin_ ?_
 ·(repeat' apply And.intro) <;> (first | (first | rfl | (rw [e2]; simp; done) | (rw [set_row, e2]) | (rw [List.take_length]; exact congrArg (OB.bag _ _) e6.symm)) | exact cl_)
 exact at_end
 refine at_alt ?_ ?_
 simp only [pick_rules, list_rules]
 try refine lg_mk ?_
 have hs := And.intro @insOG.eq_1 @insOG.eq_2
 refine lg_sem (by rfl) (sem_call_bag 5 (by rfl) (f := 77) (sp := Spec.gen insOG) rfl (by simp only [map_rules, wB, eq_self, Nat.reduceEqDiff, reduceIte]; rfl)  (by simp only [wB, eq_self, Nat.reduceEqDiff, reduceIte, and_true]) (m1 := ((bB (addK P n u i) vs).take (lbG (addK P n u i) (gr u i)))) (m2 := ((bB (addK P n u i) vs).drop ((lbG (addK P n u i) (gr u i)) + 1))) rfl hsp 0 rfl (by simp only [wB, eq_self, Nat.reduceEqDiff, reduceIte, wG, heap_rules, Nat.reduceAdd, Nat.reduceSub, Nat.reduceLT, Nat.reduceLeDiff, kilL, List.cons_append, List.nil_append, List.mem_cons, List.not_mem_nil, or_false, false_or, wL, Int.toNat_natCast, Int.reduceToNat, Nat.reduceAdd, Nat.reduceMul, Nat.reduceSub, Nat.reduceLeDiff, hx]; rfl) (by simp only [wB, eq_self, Nat.reduceEqDiff, reduceIte, callS, rd_rules, pureL, cleanD, pure_rules, hs, sc_rules, heap_rules, wL, Int.toNat_natCast, Int.reduceToNat, Nat.reduceAdd, Nat.reduceMul, Nat.reduceSub, Nat.reduceLeDiff, List.mem_cons, List.not_mem_nil, dI_rows, dB_rows, dU_rows, hx, wG, Nat.reduceAdd, Nat.reduceSub, Nat.reduceLT, Nat.reduceLeDiff, if_true, if_false, ite_self, List.mem_append, true_implies, Option.bind_some, List.set_cons_zero, List.set_cons_succ, or_false, false_or]; rfl) (by first | trivial | ((try dsimp only); (first | (first | trivial | exact ⟨hgi.rise _ (mem_at ht), by have h2 : ts.length ≤ _ := hmi _ (mem_at ht); omega⟩) | exact sd_))) (by simp only [wB, eq_self, Nat.reduceEqDiff, reduceIte, wG, heap_rules, Nat.reduceAdd, Nat.reduceSub, Nat.reduceLT, Nat.reduceLeDiff, kilL, List.cons_append, List.nil_append, List.mem_cons, List.not_mem_nil, or_false, false_or, wL, Int.toNat_natCast, Int.reduceToNat, Nat.reduceAdd, Nat.reduceMul, Nat.reduceSub, Nat.reduceLeDiff, hx]; rfl) (by rfl) (by rfl) (by rfl) (by first | decide | simp) (by first | exact Nat.le_refl _ | (simp [rows]; done) | (first | (first | trivial | exact ⟨hgi.rise _ (mem_at ht), by have h2 : ts.length ≤ _ := hmi _ (mem_at ht); omega⟩) | exact sd_)) fun v1 => ?_)
 simp only [wB, eq_self, Nat.reduceEqDiff, reduceIte, wG, heap_rules, Nat.reduceAdd, Nat.reduceSub, Nat.reduceLT, Nat.reduceLeDiff, kilL, List.cons_append, List.nil_append, List.mem_cons, List.not_mem_nil, or_false, false_or, wL, Int.toNat_natCast, Int.reduceToNat, Nat.reduceAdd, Nat.reduceMul, Nat.reduceSub, Nat.reduceLeDiff, hx]
 refine lg_nil ?_
 refine at_seq ?_
 simp only [pick_rules, list_rules]
 try refine lg_mk ?_
 refine u_nl ?_
 refine u_pt ?_
 refine u_ld ?_
 iterate 2 refine u_pt ?_
 refine u_st ?_
 refine lg_nil ?_
 refine at_nil ?_
 have hx := hx0
 refine h7 _ ?_; clear h7; try clear N7
 refine u_reg ?_
 try refine lg_mk ?_
 refine u_bn ?_
 refine u_mv ?_
 refine lg_nil ?_
 have e1 := step_has (n := n) hvs hh ht v1
 have e2 : zR (addK P n u (i + 1)) _ = _ := e1.2.1
 have e6 : bB (addK P n u (i + 1)) _ = _ := e1.2.2
 refine h3 _ ⟨(i + 1, vs.set (lbG (addK P n u i) (gr u i)) v1), ?_, ?_, [some 0, some 1, some 2, some 3, some 4, some 9], ?_⟩
 dsimp only
 exact ⟨by omega, (step_has hvs hh ht v1).1⟩
 dsimp only
 omega
 dsimp only
 refine ⟨by rfl, ?_, ?_⟩
 refine fin_ ?_
 ·(repeat' apply And.intro) <;> (first | (first | rfl | (rw [e2]; simp; done) | (rw [set_row, e2]) | (rw [List.take_length]; exact congrArg (OB.bag _ _) e6.symm)) | exact cl_)
 refine fin_ ?_
 ·(repeat' apply And.intro) <;> (first | (first | rfl | (rw [e2]; simp; done) | (rw [set_row, e2]) | (rw [List.take_length]; exact congrArg (OB.bag _ _) e6.symm)) | exact cl_)
 exact at_end
 have hie : i = u.length - 2 := by have := hb6; omega
 subst hie
 refine vc_close1 0 1 5 rfl rfl rfl rfl rfl (by decide) (ps := (addP P n u).map uP) (vs := vs) (by rw [List.length_map]; exact hvs) (by rw [rawR_uP]; rfl) (by rw [rawB_uP]; rfl) ?_
 simp only [kilL, updL, List.set, List.cons_append, List.nil_append, List.mem_cons, List.not_mem_nil, or_false]
 refine vc_exit ?_
 simp only [k_rules, Nat.reduceEqDiff, reduceIte, eq_self]
 refine fin_ ?_
 refine ⟨[some 0, some 1, some 2, some 3, some 6], by rfl, ?_, ?_⟩
 refine fin_ ?_
 exact cl_
 refine fin_ ?_
 exact cl_
 cases hg

def E_addO : Env Tryz.prog := E_insO.add 53 (Spec.gen addOG) addO_meets (by kernel_rfl)
end Go.Proofs.YtmbjnkgpcbpclaaGreat
