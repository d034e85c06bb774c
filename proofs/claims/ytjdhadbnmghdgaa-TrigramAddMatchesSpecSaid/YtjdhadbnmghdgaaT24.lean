/- Walks, printed by wip/gen/walk.py. -/
import Derived.Test.YtjdhadbnmghdgaaT23
import Derived.Test.YtjdhadbnmghdgaaV5
set_option linter.all false
set_option maxRecDepth 100000
set_option maxHeartbeats 4000000
namespace Go.Proofs.Ytjdhadbnmghdgaa
open Go Go.Vc Go.RowKit
theorem addT_meets : Meets Try.prog 24 (Spec.pure addTG) := by
 refine meets_fun (E_copyI.at_ 46) Try.func24 rfl rfl rfl ?_
 intro args p r hg hp
 unfold addTG at hg
 split at hg
 ·rename_i xs ps n u
  simp only [Option.some.injEq, Prod.mk.injEq] at hg
  obtain ⟨rfl, rfl⟩ := hg
  obtain ⟨he, hl, he2, hl2, hsm, hsl⟩ := hp
  generalize dI xs = l at *
  generalize dP ps = P at *
  subst he he2
  have hT : (E_copyI).X = T := rfl
  have hx0 := And.intro @ouBox_ob (And.intro @rect_eP (And.intro @dI_rows (And.intro @dP_rows (And.intro @dec_t (And.intro @dec_f @Try.results24)))))
  have hx := hx0
  refine ⟨by rfl, ?_⟩
  intro F W0 hnp hmk
  refine vc_seq_k fun N1 h1 => ?_
  refine u_reg ?_
  try refine lg_mk ?_
  refine u_bx ?_
  refine u_al ?_
  refine u_al ?_
  refine lg_nil ?_
  refine h1 _ ?_; clear h1; try clear N1
  refine vc_seq_k fun N2 h2 => ?_
  refine vc_seq_k fun N3 h3 => ?_
  refine u_reg ?_
  try refine lg_mk ?_
  refine u_ld ?_
  have hc := call_rule (E := (E_copyI.at_ 46)) (f := 15) (sp := Spec.pure valTG) rfl
  have hs := @valTG.eq_1
  refine u_cp ?_
  refine u_al ?_
  refine u_st ?_
  refine lg_nil ?_
  refine h3 _ ?_; clear h3; try clear N3
  refine vc_seq_k fun N4 h4 => ?_
  rcases valF_or l P with hvx | hvx
  ·have hz1 : (valF l P).1 = 0 := by rw [hvx]
   have hz2 : (valF l P).2 = 0 := by rw [hvx]
   have hv := val_of hz1
   have hlen20 := hv.tlen
   have hpl := hv.plen
   refine u_reg ?_
   try refine lg_mk ?_
   refine u_ld ?_
   refine u_bd ?_
   refine u_bn ?_
   refine lg_nil ?_
   refine h4 _ ?_; clear h4; try clear N4
   refine u_cond (fun hb5 => ?_) (fun hb5 => ?_)
   ·exact absurd (And.intro hz1 hz2) (by have := hb5; simpa using this)
   ·refine vc_skip ?_
    try simp only [k_rules]
    refine h2 _ ?_; clear h2; try clear N2
    refine vc_seq_k fun N6 h6 => ?_
    refine u_reg ?_
    try refine lg_mk ?_
    refine u_mv ?_
    refine lg_nil ?_
    refine h6 _ ?_; clear h6; try clear N6
    refine vc_seq_k fun N7 h7 => ?_
    refine vc_block ?_
    refine vc_seq_k fun N8 h8 => ?_
    refine u_reg ?_
    try refine lg_mk ?_
    refine u_mv ?_
    refine u_bn ?_
    refine u_mv ?_
    refine g_mv ?_
    refine g_bn ?_
    refine u_pk ?_
    refine u_mv ?_
    refine lg_nil ?_
    refine h8 _ ?_; clear h8; try clear N8
    refine u_cond (fun hb9 => ?_) (fun hb9 => ?_)
    ·refine u_reg ?_
     try refine lg_mk ?_
     refine u_mv ?_
     refine lg_nil ?_
     refine h7 _ ?_; clear h7; try clear N7
     refine vc_seq_k fun N10 h10 => ?_
     refine vc_seq_k fun N11 h11 => ?_
     refine u_reg ?_
     try refine lg_mk ?_
     refine u_mv ?_
     refine u_bn ?_
     refine lg_nil ?_
     refine h11 _ ?_; clear h11; try clear N11
     refine u_cond (fun hb12 => ?_) (fun hb12 => ?_)
     ·refine vc_seq_k fun N13 h13 => ?_
      refine u_reg ?_
      try refine lg_mk ?_
      refine u_bd ?_
      refine u_mv ?_
      refine u_bd ?_
      refine u_st ?_
      refine u_st ?_
      refine lg_nil ?_
      refine h13 _ ?_; clear h13; try clear N13
      refine vc_ret ?_
      try simp only [k_rules]
      have hcd : addF l P n u = (3, -1) := by unfold addF; rw [if_neg (by rw [hz1]; simp), if_pos (by have := hb9; (try simp at this); omega)]
      have hr := hcd
      have hr2 : addTs l P n u = [] := by unfold addTs; rw [hr]; first | rfl | exact if_neg hz1
      have hr3 : addPs l P n u = [] := by unfold addPs; rw [hr]; first | rfl | exact if_neg hz1
      rw [hr, hr2, hr3]
      refine fin2_ ?_
      exact cl_
     ·first | omega | exact absurd trivial hb12 | contradiction | (simp_all; done)
    ·refine vc_seq_k fun N14 h14 => ?_
     refine u_reg ?_
     try refine lg_mk ?_
     refine u_pt ?_
     refine u_ld ?_
     refine u_mv ?_
     have hc := call_rule (E := (E_copyI.at_ 46)) (f := 35) (sp := Spec.pure containsG) rfl
     have hs := @containsG.eq_1
     refine u_cp ?_
     refine u_mv ?_
     refine lg_nil ?_
     refine h14 _ ?_; clear h14; try clear N14
     refine u_cond (fun hb15 => ?_) (fun hb15 => ?_)
     ·refine u_reg ?_
      try refine lg_mk ?_
      refine u_mv ?_
      refine lg_nil ?_
      refine h7 _ ?_; clear h7; try clear N7
      refine vc_seq_k fun N16 h16 => ?_
      refine vc_seq_k fun N17 h17 => ?_
      refine u_reg ?_
      try refine lg_mk ?_
      refine u_mv ?_
      refine u_bn ?_
      refine lg_nil ?_
      refine h17 _ ?_; clear h17; try clear N17
      refine u_cond (fun hb18 => ?_) (fun hb18 => ?_)
      ·refine vc_seq_k fun N19 h19 => ?_
       refine u_reg ?_
       try refine lg_mk ?_
       refine u_bd ?_
       refine u_mv ?_
       refine u_bd ?_
       refine u_st ?_
       refine u_st ?_
       refine lg_nil ?_
       refine h19 _ ?_; clear h19; try clear N19
       refine vc_ret ?_
       try simp only [k_rules]
       have hcd : addF l P n u = (7, -1) := by unfold addF; rw [if_neg (by rw [hz1]; simp), if_neg (by have := hb9; (try simp at this); omega), if_pos (by have := hb15; simpa using this)]
       have hr := hcd
       have hr2 : addTs l P n u = [] := by unfold addTs; rw [hr]; first | rfl | exact if_neg hz1
       have hr3 : addPs l P n u = [] := by unfold addPs; rw [hr]; first | rfl | exact if_neg hz1
       rw [hr, hr2, hr3]
       refine fin2_ ?_
       exact cl_
      ·first | omega | exact absurd trivial hb18 | contradiction | (simp_all; done)
     ·refine vc_seq_k fun N20 h20 => ?_
      refine u_reg ?_
      try refine lg_mk ?_
      refine u_mv ?_
      refine u_ln ?_
      refine u_bn ?_
      refine u_mv ?_
      refine lg_nil ?_
      refine h20 _ ?_; clear h20; try clear N20
      refine u_cond (fun hb21 => ?_) (fun hb21 => ?_)
      ·refine u_reg ?_
       try refine lg_mk ?_
       refine u_mv ?_
       refine lg_nil ?_
       refine h7 _ ?_; clear h7; try clear N7
       refine vc_seq_k fun N22 h22 => ?_
       refine vc_seq_k fun N23 h23 => ?_
       refine u_reg ?_
       try refine lg_mk ?_
       refine u_mv ?_
       refine u_bn ?_
       refine lg_nil ?_
       refine h23 _ ?_; clear h23; try clear N23
       refine u_cond (fun hb24 => ?_) (fun hb24 => ?_)
       ·refine vc_seq_k fun N25 h25 => ?_
        refine u_reg ?_
        try refine lg_mk ?_
        refine u_bd ?_
        refine u_mv ?_
        refine u_bd ?_
        refine u_st ?_
        refine u_st ?_
        refine lg_nil ?_
        refine h25 _ ?_; clear h25; try clear N25
        refine vc_ret ?_
        try simp only [k_rules]
        have hcd : addF l P n u = (10, -1) := by unfold addF; rw [if_neg (by rw [hz1]; simp), if_neg (by have := hb9; (try simp at this); omega), if_neg (by have := hb15; simpa using this), if_pos (by have := hb21; omega)]
        have hr := hcd
        have hr2 : addTs l P n u = [] := by unfold addTs; rw [hr]; first | rfl | exact if_neg hz1
        have hr3 : addPs l P n u = [] := by unfold addPs; rw [hr]; first | rfl | exact if_neg hz1
        rw [hr, hr2, hr3]
        refine fin2_ ?_
        exact cl_
       ·first | omega | exact absurd trivial hb24 | contradiction | (simp_all; done)
      ·have hcd : addF l P n u = (0, 0) := by unfold addF; rw [if_neg (by rw [hz1]; simp), if_neg (by have := hb9; (try simp at this); omega), if_neg (by have := hb15; simpa using this), if_neg (by have := hb21; omega)]
       refine vc_skip ?_
       try simp only [k_rules]
       refine h7 _ ?_; clear h7; try clear N7
       refine vc_seq_k fun N26 h26 => ?_
       refine vc_seq_k fun N27 h27 => ?_
       refine u_reg ?_
       try refine lg_mk ?_
       refine u_mv ?_
       refine u_bn ?_
       refine lg_nil ?_
       refine h27 _ ?_; clear h27; try clear N27
       refine u_cond (fun hb28 => ?_) (fun hb28 => ?_)
       ·first | omega | exact absurd trivial hb28 | contradiction | (simp_all; done)
       ·have hul : u.length ≤ 400 := by have := hb21; omega
        have hsi := ins_len (l := l) (n := n)
        refine vc_skip ?_
        try simp only [k_rules]
        refine h26 _ ?_; clear h26; try clear N26
        refine vc_seq_k fun N29 h29 => ?_
        refine u_reg ?_
        try refine lg_mk ?_
        refine u_ld ?_
        have hc := call_rule (E := (E_copyI.at_ 46)) (f := 41) (sp := Spec.fresh copyG) rfl
        have hs := @copyG.eq_1
        refine u_hg (hq := by (first | (exact hv) | exact sd_)) ?_
        refine u_al ?_
        refine u_st ?_
        refine lg_nil ?_
        refine h29 _ ?_; clear h29; try clear N29
        refine vc_seq_k fun N30 h30 => ?_
        refine u_reg ?_
        try refine lg_mk ?_
        refine u_mv ?_
        refine u_mv ?_
        have hc := call_rule (E := (E_copyI.at_ 46)) (f := 28) (sp := Spec.gen addOG) rfl
        have hs := @addOG.eq_1
        refine u_hg (hq := by (first | (dsimp only; exact ⟨P, rfl, rfl, rfl, (by rw [dI_rows]), (by rw [dI_rows]), (by rw [dI_rows]; exact hv.tsort), (by rw [dI_rows]; omega), rfl, rfl, rfl, rfl, rfl, (by rw [List.length_map]), hv.good, (by omega), (fun p hp => by have := hv.pmax p hp; omega), (by omega)⟩) | exact sd_)) ?_
        refine lg_nil ?_
        rw [unP_uP]
        simp only [op_rules, ev_rules, fr_rules, av_rules, rs_rules, eq_self, Nat.reduceEqDiff, reduceIte, bw, map_rules, dI_rows, gen_rules, gw, gen_heap, gen_heap0, allSome, Nat.reduceAdd, Nat.reduceSub, Nat.reduceLT, Nat.reduceLeDiff, if_true, if_false, ite_self, List.mem_append, true_implies, Option.bind_some, list_rules, opt_rules, map_rules, rows_get, rows_len, rows_drop, rows_take, rows_app, rows_nil, rows_set, Int.toNat_natCast, Int.reduceToNat, Nat.reduceAdd, Nat.reduceMul, Nat.reduceSub, Nat.reduceLeDiff, Nat.zero_add, Nat.add_zero, true_and, and_true, and_assoc, rect_eI, rect_eB, rect_eU, rect_eS, rect_eL, rect_nil, rect_cons, bytes_is, bytes_str, splice_rules, cell_rules, fill_rules, bnd_rules, or_false, false_or, not_true_eq_false, not_false_eq_true, hx]
        refine h30 _ ?_; clear h30; try clear N30
        refine vc_seq_k fun N31 h31 => ?_
        refine vc_data1 6 1 rfl rfl rfl rfl (by rw [List.length_map]) ?_
        simp only [kilL, updL, List.set, List.cons_append, List.nil_append, List.mem_cons, List.not_mem_nil, or_false]
        rw [dataR_uP]
        refine u_reg ?_
        try refine lg_mk ?_
        refine u_ld ?_
        refine u_bd ?_
        refine u_st ?_
        refine u_st ?_
        refine lg_nil ?_
        refine h31 _ ?_; clear h31; try clear N31
        refine vc_ret ?_
        try simp only [k_rules]
        have hr2 : addTs l P n u = ins l n := by unfold addTs; rw [hcd]; rfl
        have hr3 : addPs l P n u = addP P n u := by unfold addPs; rw [hcd]; rfl
        rw [hcd, hr2, hr3]
        refine fin2_ ?_
        (repeat' apply And.intro) <;> (first | (first | rfl | exact Or.inl rfl | trivial | (rw [List.take_length]; done) | (simp; done)) | exact cl_)
  ·have hz1 := hvx
   have hz2 := hvx
   refine u_reg ?_
   try refine lg_mk ?_
   refine u_ld ?_
   refine u_bd ?_
   refine u_bn ?_
   refine lg_nil ?_
   refine h4 _ ?_; clear h4; try clear N4
   refine u_cond (fun hb32 => ?_) (fun hb32 => ?_)
   ·refine vc_seq_k fun N33 h33 => ?_
    refine vc_regT [] (.seq [0] (.alt 1 (.seq [2, 3] .nil) (.alt 2 (.seq [1, 3] .nil) .nil))) hmix (by kernel_rfl) ?_
    refine at_seq ?_
    simp only [pick_rules, list_rules]
    try refine lg_mk ?_
    refine u_bd ?_
    refine lg_nil ?_
    refine at_alt ?_ ?_
    ·simp only [pick_rules, list_rules]
     try refine lg_mk ?_
     refine u_ld ?_
     refine lg_nil ?_
     refine at_seq ?_
     simp only [pick_rules, list_rules]
     try refine lg_mk ?_
     refine u_st ?_
     refine u_st ?_
     refine lg_nil ?_
     refine at_nil ?_
     refine h33 _ ?_; clear h33; try clear N33
     refine vc_ret ?_
     try simp only [k_rules]
     have hr : addF l P n u = valF l P := by unfold addF; rw [if_pos hz1]
     have hr2 : addTs l P n u = [] := by unfold addTs; rw [hr]; first | rfl | exact if_neg hz1
     have hr3 : addPs l P n u = [] := by unfold addPs; rw [hr]; first | rfl | exact if_neg hz1
     rw [hr, hr2, hr3]
     refine fin2_ ?_
     exact cl_
    refine at_alt ?_ ?_
    ·simp only [pick_rules, list_rules]
     try refine lg_mk ?_
     refine u_st ?_
     refine lg_nil ?_
     refine at_seq ?_
     simp only [pick_rules, list_rules]
     try refine lg_mk ?_
     refine u_ld ?_
     refine u_st ?_
     refine lg_nil ?_
     refine at_nil ?_
     refine h33 _ ?_; clear h33; try clear N33
     refine vc_ret ?_
     try simp only [k_rules]
     have hr : addF l P n u = valF l P := by unfold addF; rw [if_pos hz1]
     have hr2 : addTs l P n u = [] := by unfold addTs; rw [hr]; first | rfl | exact if_neg hz1
     have hr3 : addPs l P n u = [] := by unfold addPs; rw [hr]; first | rfl | exact if_neg hz1
     rw [hr, hr2, hr3]
     refine fin2_ ?_
     exact cl_
    exact at_end
   ·exact absurd (show (valF l P).1 = 0 by have := hb32; first | exact this.1 | exact (Classical.not_not.1 this).1 | (simp at this; exact this.1)) hz1
 ·cases hg

def E_addT : Env Try.prog := E_copyI.add 24 (Spec.pure addTG) addT_meets (by kernel_rfl)
end Go.Proofs.Ytjdhadbnmghdgaa
