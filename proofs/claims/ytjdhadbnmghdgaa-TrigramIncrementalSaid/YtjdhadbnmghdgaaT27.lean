/- Walks, printed by wip/gen/walk.py. -/
import Derived.Test.YtjdhadbnmghdgaaT26
import Derived.Test.YtjdhadbnmghdgaaV5
set_option linter.all false
set_option maxRecDepth 100000
set_option maxHeartbeats 4000000
namespace Go.Proofs.Ytjdhadbnmghdgaa
open Go Go.Vc Go.RowKit
theorem remv_meets : Meets Try.prog 25 (Spec.pure remvG) := by
 refine meets_fun (E_delPF.at_ 58) Try.func25 rfl rfl rfl ?_
 intro args p r hg hp
 unfold remvG at hg
 split at hg
 ·rename_i xs ps n
  simp only [Option.some.injEq, Prod.mk.injEq] at hg
  obtain ⟨rfl, rfl⟩ := hg
  obtain ⟨he, hl, he2, hl2, hsm⟩ := hp
  generalize dI xs = l at *
  generalize dP ps = P at *
  subst he he2
  have hT : (E_delPF).X = T := rfl
  have hx0 := And.intro @ouBox_ob (And.intro @rect_eP (And.intro @rect_eG (And.intro @dI_rows (And.intro @dP_rows (And.intro @dec_t (And.intro @dec_f (And.intro @cleanD_raw @Try.results25)))))))
  have hx := hx0
  refine ⟨by rfl, ?_⟩
  intro F W0 hnp hmk
  refine vc_seq_k fun N1 h1 => ?_
  refine u_reg ?_
  try refine lg_mk ?_
  refine u_bx ?_
  refine u_bx ?_
  refine u_al ?_
  refine u_al ?_
  refine lg_nil ?_
  refine h1 _ ?_; clear h1; try clear N1
  refine vc_seq_k fun N2 h2 => ?_
  refine vc_seq_k fun N3 h3 => ?_
  refine u_reg ?_
  try refine lg_mk ?_
  refine u_ld ?_
  have hc := call_rule (E := (E_delPF.at_ 58)) (f := 15) (sp := Spec.pure valTG) rfl
  have hs := @valTG.eq_1
  refine u_cp ?_
  refine u_al ?_
  refine u_st ?_
  refine lg_nil ?_
  refine h3 _ ?_; clear h3; try clear N3
  refine vc_seq_k fun N4 h4 => ?_
  rcases valF_or l P with hvx | hvx
  ·have hz1 : (valF l P).1 = 0 := by rw [hvx]
   have hz2 : (valF l P).2 = 0 := by rw [hvx]
   have hv := val_of hz1
   have hlen20 := hv.tlen
   have hpl := hv.plen
   refine u_reg ?_
   try refine lg_mk ?_
   refine u_ld ?_
   refine u_bd ?_
   refine u_bn ?_
   refine lg_nil ?_
   refine h4 _ ?_; clear h4; try clear N4
   refine u_cond (fun hb5 => ?_) (fun hb5 => ?_)
   ·exact absurd (And.intro hz1 hz2) (by have := hb5; simpa using this)
   ·refine vc_skip ?_
    try simp only [k_rules]
    refine h2 _ ?_; clear h2; try clear N2
    refine vc_seq_k fun N6 h6 => ?_
    refine vc_seq_k fun N7 h7 => ?_
    refine u_reg ?_
    try refine lg_mk ?_
    refine u_pt ?_
    refine u_ld ?_
    refine u_ld ?_
    have hc := call_rule (E := (E_delPF.at_ 58)) (f := 35) (sp := Spec.pure containsG) rfl
    have hs := @containsG.eq_1
    refine u_cp ?_
    refine u_un ?_
    refine lg_nil ?_
    refine h7 _ ?_; clear h7; try clear N7
    refine u_cond (fun hb8 => ?_) (fun hb8 => ?_)
    ·refine vc_seq_k fun N9 h9 => ?_
     refine u_reg ?_
     try refine lg_mk ?_
     refine u_bd ?_
     refine u_bd ?_
     refine u_st ?_
     refine u_st ?_
     refine lg_nil ?_
     refine h9 _ ?_; clear h9; try clear N9
     refine vc_ret ?_
     try simp only [k_rules]
     have hr : remF l P n = (6, -1) := by unfold remF; rw [if_neg (by rw [hz1]; simp), if_pos (by have := hb8; simpa using this)]
     have hr2 : remTs l P n = [] := by unfold remTs; rw [hr]; first | rfl | exact if_neg hz1
     have hr3 : remPs l P n = [] := by unfold remPs; rw [hr]; first | rfl | exact if_neg hz1
     rw [hr, hr2, hr3]
     refine fin2_ ?_
     exact cl_
    ·have hm : n ∈ l := by have := hb8; simpa using this
     refine vc_skip ?_
     try simp only [k_rules]
     refine h6 _ ?_; clear h6; try clear N6
     refine vc_seq_k fun N10 h10 => ?_
     refine u_reg ?_
     try refine lg_mk ?_
     refine u_mf ?_
     refine u_mv ?_
     refine lg_nil ?_
     refine h10 _ ?_; clear h10; try clear N10
     refine vc_seq_k fun N11 h11 => ?_
     refine u_reg ?_
     try refine lg_mk ?_
     refine u_ld ?_
     have hc := call_rule (E := (E_delPF.at_ 58)) (f := 41) (sp := Spec.fresh copyG) rfl
     have hs := @copyG.eq_1
     refine u_hg (hq := by (first | (exact hv) | exact sd_)) ?_
     refine u_al ?_
     refine u_st ?_
     refine lg_nil ?_
     refine h11 _ ?_; clear h11; try clear N11
     refine vc_seq_k fun N12 h12 => ?_
     refine u_reg ?_
     try refine lg_mk ?_
     refine u_mv ?_
     refine u_pt ?_
     refine u_ld ?_
     have hc := (show ((E_delPF.at_ 58)).Γ 42 = some (Spec.gen rDelG) from rfl)
     have hs := (@rDelG.eq_1)
     refine u_jg (hq := by (first | (first | exact ⟨by omega, by omega⟩ | omega | (simp; omega)) | exact sd_)) ?_
     refine u_pt ?_
     refine u_st ?_
     refine lg_nil ?_
     refine h12 _ ?_; clear h12; try clear N12
     refine vc_seq_k fun N13 h13 => ?_
     refine vc_seq_k fun N14 h14 => ?_
     refine u_reg ?_
     try refine lg_mk ?_
     refine u_pt ?_
     refine u_ld ?_
     refine u_ln ?_
     refine u_mv ?_
     refine lg_nil ?_
     refine h14 _ ?_; clear h14; try clear N14
     refine vc_block ?_
     refine vc_open1 7 1 rfl rfl rfl rfl (fun vs0 hvs0 => ?_)
     rw [List.length_map] at hvs0
     rw [rawR_uP, rawB_uP]
     simp only [kilL, updL, List.set, List.cons_append, List.nil_append, List.mem_cons, List.not_mem_nil, or_false]
     refine vc_loop_mk (σ := Nat × List Value) (fun s => (fun i vs => i ≤ P.length ∧ vs.length = (remK P n i).length) (s.1) (s.2))
      (fun s => (fun i vs => [(2, .ptr 0 0 0), (3, .ptr 1 0 0), (4, .ptr 2 0 0), (5, .ptr 3 0 0), (7, .clo (.func 42) [.ptr 1 0 0]), (8, .ptr 5 0 0), (34, .d (.int .i64 (P.length : Nat))), (35, .d (.int .i64 (i : Nat)))]) (s.1) (s.2))
      (fun s => (fun i vs => [some (.one 27 [.d (.sl (rows eI l)), .d (.sl (rows eP P))]), some (.one 3 [.d (.int .i64 n)]), some (.one 27 [.d .nils, .d .nils]), some (.one 29 [.d (.int .i64 0), .d (.int .i64 0)]), some (.vec 3 1 (rows eI (delI (isN n) l))), some (.one 27 [.sl 4 0 (delI (isN n) l).length, .sl 6 0 P.length]), some (.vec 55 2 (rows eG (zR (remK P n i) vs))), some (.ob (.bag 3 1 (bB (remK P n i) vs)))]) (s.1) (s.2)) (fun s => (fun i vs => P.length - i) (s.1) (s.2)) hnp (0, vs0) ?_ [some 0, some 1, some 2, some 3, some 5, some 7, some 8, some 9] ?_ ?_
     ·dsimp only
      exact ⟨by omega, by rw [remK_0]; exact hvs0⟩
     ·dsimp only
      refine ⟨by rfl, ?_, ?_⟩
      ·refine fin_ ?_
       (repeat' apply And.intro) <;> (first | (first | rfl | trivial | (rw [remK_0]; done)) | exact cl_)
      ·refine fin_ ?_
       (repeat' apply And.intro) <;> (first | (first | rfl | trivial | (rw [remK_0]; done)) | exact cl_)
     ·rintro ⟨i, vs⟩ hinv N15 h15
      dsimp only at hinv ⊢
      obtain ⟨i1, hvs⟩ := hinv
      have hrk := remK_len P n i
      have hzl := zR_len hvs
      refine vc_seq_k fun N16 h16 => ?_
      refine u_reg ?_
      try refine lg_mk ?_
      refine u_bn ?_
      refine lg_nil ?_
      refine h16 _ ?_; clear h16; try clear N16
      refine vc_seq_k fun N17 h17 => ?_
      refine u_cond (fun hb18 => ?_) (fun hb18 => ?_)
      ·obtain ⟨⟨g, t⟩, hxe⟩ := getE (l := P) (i := i) (by omega)
       have htl : t.length ≤ 20 := hv.pmax _ (mem_at hxe)
       obtain ⟨v0, hv0, hq, hsp⟩ := at_zR hvs (remK_at (n := n) hxe)
       refine vc_skip ?_
       try simp only [k_rules]
       refine h17 _ ?_; clear h17; try clear N17
       refine vc_seq_k fun N19 h19 => ?_
       refine vc_block ?_
       refine vc_seq_k fun N20 h20 => ?_
       refine u_reg ?_
       try refine lg_mk ?_
       refine u_mv ?_
       refine u_mv ?_
       refine lg_nil ?_
       refine h20 _ ?_; clear h20; try clear N20
       have hx := And.intro @hq (And.intro @eG.eq_1 hx0)
       refine vc_regT [] (.seq [2, 3, 4, 5, 6, 7, 8, 9] (.alt 0 (.alt 1 (.seq [10, 11, 12, 13] .nil) (.alt 10 (.seq [1, 11, 12, 13] .nil) .nil)) (.alt 10 (.seq [0, 1, 11, 12, 13] .nil) .nil))) hmix (by kernel_rfl) ?_
       refine at_seq ?_
       simp only [pick_rules, list_rules]
       try refine lg_mk ?_
       refine u_mv ?_
       refine u_mv ?_
       refine u_pt ?_
       refine u_ld ?_
       refine u_mv ?_
       refine u_pt ?_
       refine u_pt ?_
       refine u_ld ?_
       refine lg_nil ?_
       refine at_alt ?_ ?_
       ·simp only [pick_rules, list_rules]
        try refine lg_mk ?_
        refine u_pt ?_
        refine lg_nil ?_
        refine at_alt ?_ ?_
        ·simp only [pick_rules, list_rules]
         try refine lg_mk ?_
         refine u_ld ?_
         refine lg_nil ?_
         refine at_seq ?_
         simp only [pick_rules, list_rules]
         try refine lg_mk ?_
         have hs := @rDelG.eq_1
         refine lg_sem (by rfl) (sem_clo_bag 7 [1] (by rfl) (f := 42) (sp := Spec.gen rDelG) rfl (by simp only [wB, eq_self, Nat.reduceEqDiff, reduceIte]; rfl) (by first | trivial | simp only [wB, eq_self, Nat.reduceEqDiff, reduceIte]) (by simp only [map_rules, wB, eq_self, Nat.reduceEqDiff, reduceIte]; rfl) (by simp only [wB, eq_self, Nat.reduceEqDiff, reduceIte, and_true]) rfl (m1 := ((bB (remK P n i) vs).take i)) (m2 := ((bB (remK P n i) vs).drop (i + 1))) hsp 0 rfl (by simp only [wB, eq_self, Nat.reduceEqDiff, reduceIte, wG, heap_rules, Nat.reduceAdd, Nat.reduceSub, Nat.reduceLT, Nat.reduceLeDiff, kilL, List.cons_append, List.nil_append, List.mem_cons, List.not_mem_nil, or_false, false_or, wL, Int.toNat_natCast, Int.reduceToNat, Nat.reduceAdd, Nat.reduceMul, Nat.reduceSub, Nat.reduceLeDiff, hx]; rfl) (by simp only [wB, eq_self, Nat.reduceEqDiff, reduceIte, callS, rd_rules, pureL, cleanD, pure_rules, hs, sc_rules, heap_rules, wL, Int.toNat_natCast, Int.reduceToNat, Nat.reduceAdd, Nat.reduceMul, Nat.reduceSub, Nat.reduceLeDiff, List.mem_cons, List.not_mem_nil, dI_rows, dB_rows, dU_rows, hx, wG, Nat.reduceAdd, Nat.reduceSub, Nat.reduceLT, Nat.reduceLeDiff, if_true, if_false, ite_self, List.mem_append, true_implies, Option.bind_some, List.set_cons_zero, List.set_cons_succ, or_false, false_or]; rfl) (by first | trivial | ((try dsimp only); (first | (first | exact ⟨by simp, by simp; omega⟩ | (simp; omega) | omega) | exact sd_))) (by simp only [wB, eq_self, Nat.reduceEqDiff, reduceIte, wG, heap_rules, Nat.reduceAdd, Nat.reduceSub, Nat.reduceLT, Nat.reduceLeDiff, kilL, List.cons_append, List.nil_append, List.mem_cons, List.not_mem_nil, or_false, false_or, wL, Int.toNat_natCast, Int.reduceToNat, Nat.reduceAdd, Nat.reduceMul, Nat.reduceSub, Nat.reduceLeDiff, hx]; rfl) (by rfl) (by rfl) (by rfl) (by first | decide | simp) (by first | exact Nat.le_refl _ | (simp [rows]; done) | (first | (first | exact ⟨by simp, by simp; omega⟩ | (simp; omega) | omega) | exact sd_)) fun v1 => ?_)
         simp only [wB, eq_self, Nat.reduceEqDiff, reduceIte, wG, heap_rules, Nat.reduceAdd, Nat.reduceSub, Nat.reduceLT, Nat.reduceLeDiff, kilL, List.cons_append, List.nil_append, List.mem_cons, List.not_mem_nil, or_false, false_or, wL, Int.toNat_natCast, Int.reduceToNat, Nat.reduceAdd, Nat.reduceMul, Nat.reduceSub, Nat.reduceLeDiff, hx]
         refine u_pt ?_
         refine u_pt ?_
         refine u_st ?_
         refine lg_nil ?_
         refine at_nil ?_
         have hx := hx0
         refine h19 _ ?_; clear h19; try clear N19
         refine u_reg ?_
         try refine lg_mk ?_
         refine u_bn ?_
         refine u_mv ?_
         refine lg_nil ?_
         have e1 : zR (remK P n (i + 1)) (vs.set i v1) = (zR (remK P n i) vs).set i (g, .raw v1) := by rw [remK_succ hxe]; exact zip_set _ _ _ _ _ _
         have e2 : bB (remK P n (i + 1)) (vs.set i v1) = (bB (remK P n i) vs).take i ++ (v1, rows eI (delI (isN n) t)) :: (bB (remK P n i) vs).drop (i + 1) := by
          rw [remK_succ hxe]
          unfold bB
          rw [zip_set, List.set_eq_take_append_cons_drop, if_pos (by simp [hvs, hrk]; omega)]
          rfl
         refine h15 _ ⟨(i + 1, vs.set i v1), ?_, ?_, [some 0, some 1, some 2, some 3, some 4, some 5, some 6, some 10], ?_⟩
         ·dsimp only
          exact ⟨by omega, by rw [List.length_set, remK_len, hvs, remK_len]⟩
         ·dsimp only
          omega
         ·dsimp only
          refine ⟨by rfl, ?_, ?_⟩
          ·refine fin_ ?_
           (repeat' apply And.intro) <;> (first | (first | rfl | trivial | (rw [set_row, e1]) | (rw [List.take_length]; exact congrArg (OB.bag _ _) e2.symm) | exact congrArg (OB.bag _ _) e2.symm | (rw [e1]; simp; done)) | exact cl_)
          ·refine fin_ ?_
           (repeat' apply And.intro) <;> (first | (first | rfl | trivial | (rw [set_row, e1]) | (rw [List.take_length]; exact congrArg (OB.bag _ _) e2.symm) | exact congrArg (OB.bag _ _) e2.symm | (rw [e1]; simp; done)) | exact cl_)
        refine at_alt ?_ ?_
        ·simp only [pick_rules, list_rules]
         try refine lg_mk ?_
         have hs := @rDelG.eq_1
         refine lg_sem (by rfl) (sem_clo_bag 7 [1] (by rfl) (f := 42) (sp := Spec.gen rDelG) rfl (by simp only [wB, eq_self, Nat.reduceEqDiff, reduceIte]; rfl) (by first | trivial | simp only [wB, eq_self, Nat.reduceEqDiff, reduceIte]) (by simp only [map_rules, wB, eq_self, Nat.reduceEqDiff, reduceIte]; rfl) (by simp only [wB, eq_self, Nat.reduceEqDiff, reduceIte, and_true]) rfl (m1 := ((bB (remK P n i) vs).take i)) (m2 := ((bB (remK P n i) vs).drop (i + 1))) hsp 0 rfl (by simp only [wB, eq_self, Nat.reduceEqDiff, reduceIte, wG, heap_rules, Nat.reduceAdd, Nat.reduceSub, Nat.reduceLT, Nat.reduceLeDiff, kilL, List.cons_append, List.nil_append, List.mem_cons, List.not_mem_nil, or_false, false_or, wL, Int.toNat_natCast, Int.reduceToNat, Nat.reduceAdd, Nat.reduceMul, Nat.reduceSub, Nat.reduceLeDiff, hx]; rfl) (by simp only [wB, eq_self, Nat.reduceEqDiff, reduceIte, callS, rd_rules, pureL, cleanD, pure_rules, hs, sc_rules, heap_rules, wL, Int.toNat_natCast, Int.reduceToNat, Nat.reduceAdd, Nat.reduceMul, Nat.reduceSub, Nat.reduceLeDiff, List.mem_cons, List.not_mem_nil, dI_rows, dB_rows, dU_rows, hx, wG, Nat.reduceAdd, Nat.reduceSub, Nat.reduceLT, Nat.reduceLeDiff, if_true, if_false, ite_self, List.mem_append, true_implies, Option.bind_some, List.set_cons_zero, List.set_cons_succ, or_false, false_or]; rfl) (by first | trivial | ((try dsimp only); (first | (first | exact ⟨by simp, by simp; omega⟩ | (simp; omega) | omega) | exact sd_))) (by simp only [wB, eq_self, Nat.reduceEqDiff, reduceIte, wG, heap_rules, Nat.reduceAdd, Nat.reduceSub, Nat.reduceLT, Nat.reduceLeDiff, kilL, List.cons_append, List.nil_append, List.mem_cons, List.not_mem_nil, or_false, false_or, wL, Int.toNat_natCast, Int.reduceToNat, Nat.reduceAdd, Nat.reduceMul, Nat.reduceSub, Nat.reduceLeDiff, hx]; rfl) (by rfl) (by rfl) (by rfl) (by first | decide | simp) (by first | exact Nat.le_refl _ | (simp [rows]; done) | (first | (first | exact ⟨by simp, by simp; omega⟩ | (simp; omega) | omega) | exact sd_)) fun v1 => ?_)
         simp only [wB, eq_self, Nat.reduceEqDiff, reduceIte, wG, heap_rules, Nat.reduceAdd, Nat.reduceSub, Nat.reduceLT, Nat.reduceLeDiff, kilL, List.cons_append, List.nil_append, List.mem_cons, List.not_mem_nil, or_false, false_or, wL, Int.toNat_natCast, Int.reduceToNat, Nat.reduceAdd, Nat.reduceMul, Nat.reduceSub, Nat.reduceLeDiff, hx]
         refine lg_nil ?_
         refine at_seq ?_
         simp only [pick_rules, list_rules]
         try refine lg_mk ?_
         refine u_ld ?_
         refine u_pt ?_
         refine u_pt ?_
         refine u_st ?_
         refine lg_nil ?_
         refine at_nil ?_
         have hx := hx0
         refine h19 _ ?_; clear h19; try clear N19
         refine u_reg ?_
         try refine lg_mk ?_
         refine u_bn ?_
         refine u_mv ?_
         refine lg_nil ?_
         have e1 : zR (remK P n (i + 1)) (vs.set i v1) = (zR (remK P n i) vs).set i (g, .raw v1) := by rw [remK_succ hxe]; exact zip_set _ _ _ _ _ _
         have e2 : bB (remK P n (i + 1)) (vs.set i v1) = (bB (remK P n i) vs).take i ++ (v1, rows eI (delI (isN n) t)) :: (bB (remK P n i) vs).drop (i + 1) := by
          rw [remK_succ hxe]
          unfold bB
          rw [zip_set, List.set_eq_take_append_cons_drop, if_pos (by simp [hvs, hrk]; omega)]
          rfl
         refine h15 _ ⟨(i + 1, vs.set i v1), ?_, ?_, [some 0, some 1, some 2, some 3, some 4, some 5, some 6, some 10], ?_⟩
         ·dsimp only
          exact ⟨by omega, by rw [List.length_set, remK_len, hvs, remK_len]⟩
         ·dsimp only
          omega
         ·dsimp only
          refine ⟨by rfl, ?_, ?_⟩
          ·refine fin_ ?_
           (repeat' apply And.intro) <;> (first | (first | rfl | trivial | (rw [set_row, e1]) | (rw [List.take_length]; exact congrArg (OB.bag _ _) e2.symm) | exact congrArg (OB.bag _ _) e2.symm | (rw [e1]; simp; done)) | exact cl_)
          ·refine fin_ ?_
           (repeat' apply And.intro) <;> (first | (first | rfl | trivial | (rw [set_row, e1]) | (rw [List.take_length]; exact congrArg (OB.bag _ _) e2.symm) | exact congrArg (OB.bag _ _) e2.symm | (rw [e1]; simp; done)) | exact cl_)
        exact at_end
       refine at_alt ?_ ?_
       ·simp only [pick_rules, list_rules]
        try refine lg_mk ?_
        have hs := @rDelG.eq_1
        refine lg_sem (by rfl) (sem_clo_bag 7 [1] (by rfl) (f := 42) (sp := Spec.gen rDelG) rfl (by simp only [wB, eq_self, Nat.reduceEqDiff, reduceIte]; rfl) (by first | trivial | simp only [wB, eq_self, Nat.reduceEqDiff, reduceIte]) (by simp only [map_rules, wB, eq_self, Nat.reduceEqDiff, reduceIte]; rfl) (by simp only [wB, eq_self, Nat.reduceEqDiff, reduceIte, and_true]) rfl (m1 := ((bB (remK P n i) vs).take i)) (m2 := ((bB (remK P n i) vs).drop (i + 1))) hsp 0 rfl (by simp only [wB, eq_self, Nat.reduceEqDiff, reduceIte, wG, heap_rules, Nat.reduceAdd, Nat.reduceSub, Nat.reduceLT, Nat.reduceLeDiff, kilL, List.cons_append, List.nil_append, List.mem_cons, List.not_mem_nil, or_false, false_or, wL, Int.toNat_natCast, Int.reduceToNat, Nat.reduceAdd, Nat.reduceMul, Nat.reduceSub, Nat.reduceLeDiff, hx]; rfl) (by simp only [wB, eq_self, Nat.reduceEqDiff, reduceIte, callS, rd_rules, pureL, cleanD, pure_rules, hs, sc_rules, heap_rules, wL, Int.toNat_natCast, Int.reduceToNat, Nat.reduceAdd, Nat.reduceMul, Nat.reduceSub, Nat.reduceLeDiff, List.mem_cons, List.not_mem_nil, dI_rows, dB_rows, dU_rows, hx, wG, Nat.reduceAdd, Nat.reduceSub, Nat.reduceLT, Nat.reduceLeDiff, if_true, if_false, ite_self, List.mem_append, true_implies, Option.bind_some, List.set_cons_zero, List.set_cons_succ, or_false, false_or]; rfl) (by first | trivial | ((try dsimp only); (first | (first | exact ⟨by simp, by simp; omega⟩ | (simp; omega) | omega) | exact sd_))) (by simp only [wB, eq_self, Nat.reduceEqDiff, reduceIte, wG, heap_rules, Nat.reduceAdd, Nat.reduceSub, Nat.reduceLT, Nat.reduceLeDiff, kilL, List.cons_append, List.nil_append, List.mem_cons, List.not_mem_nil, or_false, false_or, wL, Int.toNat_natCast, Int.reduceToNat, Nat.reduceAdd, Nat.reduceMul, Nat.reduceSub, Nat.reduceLeDiff, hx]; rfl) (by rfl) (by rfl) (by rfl) (by first | decide | simp) (by first | exact Nat.le_refl _ | (simp [rows]; done) | (first | (first | exact ⟨by simp, by simp; omega⟩ | (simp; omega) | omega) | exact sd_)) fun v1 => ?_)
        simp only [wB, eq_self, Nat.reduceEqDiff, reduceIte, wG, heap_rules, Nat.reduceAdd, Nat.reduceSub, Nat.reduceLT, Nat.reduceLeDiff, kilL, List.cons_append, List.nil_append, List.mem_cons, List.not_mem_nil, or_false, false_or, wL, Int.toNat_natCast, Int.reduceToNat, Nat.reduceAdd, Nat.reduceMul, Nat.reduceSub, Nat.reduceLeDiff, hx]
        refine lg_nil ?_
        refine at_seq ?_
        simp only [pick_rules, list_rules]
        try refine lg_mk ?_
        refine u_pt ?_
        refine u_ld ?_
        refine u_pt ?_
        refine u_pt ?_
        refine u_st ?_
        refine lg_nil ?_
        refine at_nil ?_
        have hx := hx0
        refine h19 _ ?_; clear h19; try clear N19
        refine u_reg ?_
        try refine lg_mk ?_
        refine u_bn ?_
        refine u_mv ?_
        refine lg_nil ?_
        have e1 : zR (remK P n (i + 1)) (vs.set i v1) = (zR (remK P n i) vs).set i (g, .raw v1) := by rw [remK_succ hxe]; exact zip_set _ _ _ _ _ _
        have e2 : bB (remK P n (i + 1)) (vs.set i v1) = (bB (remK P n i) vs).take i ++ (v1, rows eI (delI (isN n) t)) :: (bB (remK P n i) vs).drop (i + 1) := by
         rw [remK_succ hxe]
         unfold bB
         rw [zip_set, List.set_eq_take_append_cons_drop, if_pos (by simp [hvs, hrk]; omega)]
         rfl
        refine h15 _ ⟨(i + 1, vs.set i v1), ?_, ?_, [some 0, some 1, some 2, some 3, some 4, some 5, some 6, some 10], ?_⟩
        ·dsimp only
         exact ⟨by omega, by rw [List.length_set, remK_len, hvs, remK_len]⟩
        ·dsimp only
         omega
        ·dsimp only
         refine ⟨by rfl, ?_, ?_⟩
         ·refine fin_ ?_
          (repeat' apply And.intro) <;> (first | (first | rfl | trivial | (rw [set_row, e1]) | (rw [List.take_length]; exact congrArg (OB.bag _ _) e2.symm) | exact congrArg (OB.bag _ _) e2.symm | (rw [e1]; simp; done)) | exact cl_)
         ·refine fin_ ?_
          (repeat' apply And.intro) <;> (first | (first | rfl | trivial | (rw [set_row, e1]) | (rw [List.take_length]; exact congrArg (OB.bag _ _) e2.symm) | exact congrArg (OB.bag _ _) e2.symm | (rw [e1]; simp; done)) | exact cl_)
       exact at_end
      ·obtain rfl : i = P.length := by omega
       refine vc_close1 5 1 7 rfl rfl rfl rfl rfl (by decide) (ps := (remK P n P.length).map uP) (vs := vs) (by rw [List.length_map]; exact hvs) (by rw [rawR_uP]) (by rw [rawB_uP]) ?_
       simp only [kilL, updL, List.set, List.cons_append, List.nil_append, List.mem_cons, List.not_mem_nil, or_false]
       refine vc_plain1 5 1 rfl rfl rfl rfl ?_
       simp only [kilL, updL, List.set, List.cons_append, List.nil_append, List.mem_cons, List.not_mem_nil, or_false]
       rw [dataR_uP]
       have hrl := remK_len P n P.length
       have hrs : smallP (remK P n P.length) := remK_small hsm
       refine vc_exit ?_
       simp only [k_rules, Nat.reduceEqDiff, reduceIte, eq_self]
       refine h13 _ ?_; clear h13; try clear N13
       refine vc_seq_k fun N21 h21 => ?_
       refine u_reg ?_
       try refine lg_mk ?_
       refine u_pt ?_
       refine u_ld ?_
       have hc := call_rule (E := (E_delPF.at_ 58)) (f := 44) (sp := Spec.gen delPG) rfl
       have hs := @delPG.eq_1
       refine u_hg (hq := by (first | (first | exact ⟨by omega, by omega, hrs⟩ | exact ⟨by simp; omega, by omega, hrs⟩ | exact ⟨by rw [hrl], by omega, hrs⟩ | (refine ⟨?_, ?_, ?_⟩ <;> first | exact hrs | omega | (simp; omega))) | exact sd_)) ?_
       refine u_pt ?_
       refine u_st ?_
       refine lg_nil ?_
       refine h21 _ ?_; clear h21; try clear N21
       refine vc_seq_k fun N22 h22 => ?_
       refine u_reg ?_
       try refine lg_mk ?_
       refine u_ld ?_
       refine u_bd ?_
       refine u_st ?_
       refine u_st ?_
       refine lg_nil ?_
       refine h22 _ ?_; clear h22; try clear N22
       refine vc_ret ?_
       try simp only [k_rules]
       have hr : remF l P n = (0, 0) := by unfold remF; rw [if_neg (by rw [hz1]; simp), if_neg (fun h => h hm)]
       have hr2 : remTs l P n = delI (isN n) l := by unfold remTs; rw [hr]; rfl
       have hr3 : remPs l P n = remP P n := by unfold remPs; rw [hr]; rfl
       rw [hr, hr2, hr3, ← remK_all]
       refine fin2_ ?_
       (repeat' apply And.intro) <;> (first | (first | rfl | exact Or.inl rfl | trivial | (rw [List.take_length]; done) | (simp; done)) | exact cl_)
  ·have hz1 := hvx
   have hz2 := hvx
   refine u_reg ?_
   try refine lg_mk ?_
   refine u_ld ?_
   refine u_bd ?_
   refine u_bn ?_
   refine lg_nil ?_
   refine h4 _ ?_; clear h4; try clear N4
   refine u_cond (fun hb23 => ?_) (fun hb23 => ?_)
   ·refine vc_seq_k fun N24 h24 => ?_
    refine vc_regT [] (.seq [0] (.alt 1 (.seq [2, 3] .nil) (.alt 2 (.seq [1, 3] .nil) .nil))) hmix (by kernel_rfl) ?_
    refine at_seq ?_
    simp only [pick_rules, list_rules]
    try refine lg_mk ?_
    refine u_bd ?_
    refine lg_nil ?_
    refine at_alt ?_ ?_
    ·simp only [pick_rules, list_rules]
     try refine lg_mk ?_
     refine u_ld ?_
     refine lg_nil ?_
     refine at_seq ?_
     simp only [pick_rules, list_rules]
     try refine lg_mk ?_
     refine u_st ?_
     refine u_st ?_
     refine lg_nil ?_
     refine at_nil ?_
     refine h24 _ ?_; clear h24; try clear N24
     refine vc_ret ?_
     try simp only [k_rules]
     have hr : remF l P n = valF l P := by unfold remF; rw [if_pos hz1]
     have hr2 : remTs l P n = [] := by unfold remTs; rw [hr]; first | rfl | exact if_neg hz1
     have hr3 : remPs l P n = [] := by unfold remPs; rw [hr]; first | rfl | exact if_neg hz1
     rw [hr, hr2, hr3]
     refine fin2_ ?_
     exact cl_
    refine at_alt ?_ ?_
    ·simp only [pick_rules, list_rules]
     try refine lg_mk ?_
     refine u_st ?_
     refine lg_nil ?_
     refine at_seq ?_
     simp only [pick_rules, list_rules]
     try refine lg_mk ?_
     refine u_ld ?_
     refine u_st ?_
     refine lg_nil ?_
     refine at_nil ?_
     refine h24 _ ?_; clear h24; try clear N24
     refine vc_ret ?_
     try simp only [k_rules]
     have hr : remF l P n = valF l P := by unfold remF; rw [if_pos hz1]
     have hr2 : remTs l P n = [] := by unfold remTs; rw [hr]; first | rfl | exact if_neg hz1
     have hr3 : remPs l P n = [] := by unfold remPs; rw [hr]; first | rfl | exact if_neg hz1
     rw [hr, hr2, hr3]
     refine fin2_ ?_
     exact cl_
    exact at_end
   ·exact absurd (show (valF l P).1 = 0 by have := hb23; first | exact this.1 | exact (Classical.not_not.1 this).1 | (simp at this; exact this.1)) hz1
 ·cases hg

def E_remv : Env Try.prog := E_delPF.add 25 (Spec.pure remvG) remv_meets (by kernel_rfl)
end Go.Proofs.Ytjdhadbnmghdgaa
