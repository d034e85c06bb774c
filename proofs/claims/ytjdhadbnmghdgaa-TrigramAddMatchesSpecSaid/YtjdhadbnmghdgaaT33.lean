/- Walks, printed by wip/gen/walk.py. -/
import Derived.Test.YtjdhadbnmghdgaaT28
import Derived.Test.YtjdhadbnmghdgaaV5
set_option linter.all false
set_option maxRecDepth 100000
set_option maxHeartbeats 4000000
namespace Go.Proofs.Ytjdhadbnmghdgaa
open Go Go.Vc Go.RowKit
theorem lawAd_meets : Meets Try.prog 7 (Spec.pure lawXNSG) := by
 refine meets_fun (E_remv.at_ 119) Try.func7 rfl rfl rfl ?_
 intro args p r hg hp
 unfold lawXNSG at hg
 split at hg
 ·rename_i xs ps n u
  simp only [Option.some.injEq, Prod.mk.injEq] at hg
  obtain ⟨rfl, rfl⟩ := hg
  obtain ⟨he, hl, he2, hl2, hsm, hsl, hn64⟩ := hp
  generalize dI xs = l at *
  generalize dP ps = P at *
  subst he he2
  have hT : (E_remv).X = T := rfl
  have hx0 := And.intro @rect_eT (And.intro @rect_eP (And.intro @dI_rows (And.intro @dP_rows (And.intro @dT_rows (And.intro @dI_nil (And.intro @dP_nil (And.intro @dec_t (And.intro @dec_f @Try.results7))))))))
  have hx := hx0
  refine ⟨by rfl, ?_⟩
  intro F W0 hnp hmk
  refine vc_seq_k fun N1 h1 => ?_
  refine u_reg ?_
  try refine lg_mk ?_
  refine u_bx ?_
  refine u_mv ?_
  refine lg_nil ?_
  refine h1 _ ?_; clear h1; try clear N1
  refine vc_seq_k fun N2 h2 => ?_
  refine vc_seq_k fun N3 h3 => ?_
  refine u_reg ?_
  try refine lg_mk ?_
  have hc := call_rule (E := (E_remv.at_ 119)) (f := 9) (sp := Spec.pure exG) rfl
  have hs := @exG.eq_1
  refine u_cp ?_
  refine u_un ?_
  refine lg_nil ?_
  refine h3 _ ?_; clear h3; try clear N3
  refine u_cond (fun hb4 => ?_) (fun hb4 => ?_)
  ·first | omega | exact absurd trivial hb4 | contradiction | (simp_all; done)
  ·refine vc_skip ?_
   try simp only [k_rules]
   refine h2 _ ?_; clear h2; try clear N2
   refine vc_seq_k fun N5 h5 => ?_
   rcases add_cases l P n u with hcs | hcs | hcs | hcs | hcs
   ·have hsn := small_nil
    obtain ⟨hb0, hb1, hb2⟩ := hcs
    obtain ⟨hb3, hb4⟩ := add_1 hb1 hb0
    obtain ⟨hb5, hb6⟩ := rem_1 hb2 hb0
    have hb7 : ¬(valF l P).1 = 0 := hb0
    have hx0 := And.intro @hb1 (And.intro @hb2 (And.intro @hb3 (And.intro @hb4 (And.intro @hb5 (And.intro @hb6 (And.intro @hb7 (hx0)))))))
    have hx := hx0
    refine u_reg ?_
    try refine lg_mk ?_
    refine u_ld ?_
    refine u_mv ?_
    refine u_mv ?_
    have hc := call_rule (E := (E_remv.at_ 119)) (f := 24) (sp := Spec.pure addTG) rfl
    have hs := @addTG.eq_1
    refine u_hp (hq := by (first | (exact ⟨hl, hl2, hsm, hsl⟩) | exact sd_)) ?_
    refine u_mv ?_
    refine u_ex ?_
    refine u_ex ?_
    refine u_al ?_
    refine u_al ?_
    refine u_st ?_
    refine u_st ?_
    refine lg_nil ?_
    refine h5 _ ?_; clear h5; try clear N5
    refine vc_seq_k fun N6 h6 => ?_
    refine u_reg ?_
    try refine lg_mk ?_
    refine u_ld ?_
    refine u_mv ?_
    have hc := call_rule (E := (E_remv.at_ 119)) (f := 25) (sp := Spec.pure remvG) rfl
    have hs := @remvG.eq_1
    refine u_hp (hq := by (first | (exact ⟨hl, hl2, hsm⟩) | exact sd_)) ?_
    refine u_mv ?_
    refine u_ex ?_
    refine u_ex ?_
    refine u_al ?_
    refine u_al ?_
    refine u_st ?_
    refine u_st ?_
    refine lg_nil ?_
    refine h6 _ ?_; clear h6; try clear N6
    refine vc_seq_k fun N7 h7 => ?_
    refine u_reg ?_
    try refine lg_mk ?_
    refine u_ld ?_
    have hc := call_rule (E := (E_remv.at_ 119)) (f := 17) (sp := Spec.pure valTG) rfl
    have hs := @valTG.eq_1
    refine u_cp (hq := by (first | (exact ⟨hl, hl2, hsm⟩) | exact sd_)) ?_
    refine u_al ?_
    refine u_st ?_
    refine lg_nil ?_
    refine h7 _ ?_; clear h7; try clear N7
    refine vc_seq_k fun N8 h8 => ?_
    refine u_reg ?_
    try refine lg_mk ?_
    refine u_bd ?_
    refine u_al ?_
    refine u_st ?_
    refine lg_nil ?_
    refine h8 _ ?_; clear h8; try clear N8
    refine vc_seq_k fun N9 h9 => ?_
    refine vc_seq_k fun N10 h10 => ?_
    refine vc_regT [] (.seq [0] (.alt 1 (.seq [2, 3] .nil) (.alt 2 (.seq [1, 3] .nil) .nil))) hmix (by kernel_rfl) ?_
    refine at_seq ?_
    simp only [pick_rules, list_rules]
    try refine lg_mk ?_
    refine u_ld ?_
    refine lg_nil ?_
    refine at_alt ?_ ?_
    ·simp only [pick_rules, list_rules]
     try refine lg_mk ?_
     have hc := call_rule (E := (E_remv.at_ 119)) (f := 15) (sp := Spec.pure valTG) rfl
     have hs := @valTG.eq_1
     refine u_cp (hq := by (first | (exact ⟨hl, hl2, hsm⟩) | exact sd_)) ?_
     refine lg_nil ?_
     refine at_seq ?_
     simp only [pick_rules, list_rules]
     try refine lg_mk ?_
     refine u_ld ?_
     refine u_bn ?_
     refine lg_nil ?_
     refine at_nil ?_
     refine h10 _ ?_; clear h10; try clear N10
     refine u_cond (fun hb11 => ?_) (fun hb11 => ?_)
     ·first | omega | exact absurd trivial hb11 | contradiction | (simp_all; done)
     ·refine vc_skip ?_
      try simp only [k_rules]
      refine h9 _ ?_; clear h9; try clear N9
      refine vc_seq_k fun N12 h12 => ?_
      refine vc_seq_k fun N13 h13 => ?_
      refine u_reg ?_
      try refine lg_mk ?_
      refine u_pt ?_
      refine u_ld ?_
      refine u_bn ?_
      refine lg_nil ?_
      refine h13 _ ?_; clear h13; try clear N13
      refine u_cond (fun hb14 => ?_) (fun hb14 => ?_)
      ·refine vc_seq_k fun N15 h15 => ?_
       refine u_reg ?_
       try refine lg_mk ?_
       refine u_ld ?_
       refine u_ld ?_
       refine u_bn ?_
       refine u_mv ?_
       refine g_ld ?_
       refine g_ld ?_
       refine g_bn ?_
       refine u_pk ?_
       refine u_mv ?_
       refine g_ld ?_
       refine g_ld ?_
       have hc := call_rule (E := (E_remv.at_ 119)) (f := 12) (sp := Spec.pure idxsG) rfl
       have hs := @idxsG.eq_1
       refine g_cp ?_
       refine u_pk ?_
       refine u_mv ?_
       refine g_ld ?_
       refine g_ld ?_
       have hc := call_rule (E := (E_remv.at_ 119)) (f := 12) (sp := Spec.pure idxsG) rfl
       have hs := @idxsG.eq_1
       refine g_cp ?_
       refine u_pk ?_
       refine u_mv ?_
       refine lg_nil ?_
       refine h15 _ ?_; clear h15; try clear N15
       refine vc_ret ?_
       try simp only [k_rules]
       refine fin2_ ?_
       (repeat' apply And.intro) <;> (first | (first | rfl | (simp; done) | (simp [*]; done) | (left; rfl)) | exact cl_)
      ·first | omega | exact absurd trivial hb14 | contradiction | (simp_all; done)
    refine at_alt ?_ ?_
    ·simp only [pick_rules, list_rules]
     try refine lg_mk ?_
     refine u_ld ?_
     refine lg_nil ?_
     refine at_seq ?_
     simp only [pick_rules, list_rules]
     try refine lg_mk ?_
     have hc := call_rule (E := (E_remv.at_ 119)) (f := 15) (sp := Spec.pure valTG) rfl
     have hs := @valTG.eq_1
     refine u_cp (hq := by (first | (exact ⟨hl, hl2, hsm⟩) | exact sd_)) ?_
     refine u_bn ?_
     refine lg_nil ?_
     refine at_nil ?_
     refine h10 _ ?_; clear h10; try clear N10
     refine u_cond (fun hb16 => ?_) (fun hb16 => ?_)
     ·first | omega | exact absurd trivial hb16 | contradiction | (simp_all; done)
     ·refine vc_skip ?_
      try simp only [k_rules]
      refine h9 _ ?_; clear h9; try clear N9
      refine vc_seq_k fun N17 h17 => ?_
      refine vc_seq_k fun N18 h18 => ?_
      refine u_reg ?_
      try refine lg_mk ?_
      refine u_pt ?_
      refine u_ld ?_
      refine u_bn ?_
      refine lg_nil ?_
      refine h18 _ ?_; clear h18; try clear N18
      refine u_cond (fun hb19 => ?_) (fun hb19 => ?_)
      ·refine vc_seq_k fun N20 h20 => ?_
       refine u_reg ?_
       try refine lg_mk ?_
       refine u_ld ?_
       refine u_ld ?_
       refine u_bn ?_
       refine u_mv ?_
       refine g_ld ?_
       refine g_ld ?_
       refine g_bn ?_
       refine u_pk ?_
       refine u_mv ?_
       refine g_ld ?_
       refine g_ld ?_
       have hc := call_rule (E := (E_remv.at_ 119)) (f := 12) (sp := Spec.pure idxsG) rfl
       have hs := @idxsG.eq_1
       refine g_cp ?_
       refine u_pk ?_
       refine u_mv ?_
       refine g_ld ?_
       refine g_ld ?_
       have hc := call_rule (E := (E_remv.at_ 119)) (f := 12) (sp := Spec.pure idxsG) rfl
       have hs := @idxsG.eq_1
       refine g_cp ?_
       refine u_pk ?_
       refine u_mv ?_
       refine lg_nil ?_
       refine h20 _ ?_; clear h20; try clear N20
       refine vc_ret ?_
       try simp only [k_rules]
       refine fin2_ ?_
       (repeat' apply And.intro) <;> (first | (first | rfl | (simp; done) | (simp [*]; done) | (left; rfl)) | exact cl_)
      ·first | omega | exact absurd trivial hb19 | contradiction | (simp_all; done)
    exact at_end
   ·have hsn := small_nil
    obtain ⟨hb0, hv, hb1, hb7, hb2⟩ := hcs
    obtain ⟨hb3, hb4⟩ := add_1 hb2 (by decide)
    obtain ⟨hb5, hb6, hb9⟩ := rem_0 hv hb1
    have hb8 : decide (n ∈ l) = true := decide_eq_true hb1
    have hvl := hv.plen
    have hvs := smallP_of hv
    have hvn := hv.tlen
    have hm := ins_len (l := l) (n := n)
    have hdl := delI_len (isN n) l
    have hrp := remP_len P n
    have hrs : smallP (remP P n) := fun p hp => by
     obtain ⟨q, hq, rfl⟩ := List.mem_map.1 (List.mem_filter.1 hp).1
     have h1 := hvs q hq
     have h2 := delI_len (isN n) q.2
     exact ⟨h1.1, Nat.le_trans h2 h1.2⟩
    have hx0 := And.intro @hb0 (And.intro @hb2 (And.intro @hb3 (And.intro @hb4 (And.intro @hb5 (And.intro @hb6 (And.intro @hb9 (And.intro @hb8 (hx0))))))))
    have hx := hx0
    refine u_reg ?_
    try refine lg_mk ?_
    refine u_ld ?_
    refine u_mv ?_
    refine u_mv ?_
    have hc := call_rule (E := (E_remv.at_ 119)) (f := 24) (sp := Spec.pure addTG) rfl
    have hs := @addTG.eq_1
    refine u_hp (hq := by (first | (exact ⟨hl, hl2, hsm, hsl⟩) | exact sd_)) ?_
    refine u_mv ?_
    refine u_ex ?_
    refine u_ex ?_
    refine u_al ?_
    refine u_al ?_
    refine u_st ?_
    refine u_st ?_
    refine lg_nil ?_
    refine h5 _ ?_; clear h5; try clear N5
    refine vc_seq_k fun N21 h21 => ?_
    refine u_reg ?_
    try refine lg_mk ?_
    refine u_ld ?_
    refine u_mv ?_
    have hc := call_rule (E := (E_remv.at_ 119)) (f := 25) (sp := Spec.pure remvG) rfl
    have hs := @remvG.eq_1
    refine u_hp (hq := by (first | (exact ⟨hl, hl2, hsm⟩) | exact sd_)) ?_
    refine u_mv ?_
    refine u_ex ?_
    refine u_ex ?_
    refine u_al ?_
    refine u_al ?_
    refine u_st ?_
    refine u_st ?_
    refine lg_nil ?_
    refine h21 _ ?_; clear h21; try clear N21
    refine vc_seq_k fun N22 h22 => ?_
    refine u_reg ?_
    try refine lg_mk ?_
    refine u_ld ?_
    have hc := call_rule (E := (E_remv.at_ 119)) (f := 17) (sp := Spec.pure valTG) rfl
    have hs := @valTG.eq_1
    refine u_cp (hq := by (first | (exact ⟨hl, hl2, hsm⟩) | exact sd_)) ?_
    refine u_al ?_
    refine u_st ?_
    refine lg_nil ?_
    refine h22 _ ?_; clear h22; try clear N22
    refine vc_seq_k fun N23 h23 => ?_
    refine u_reg ?_
    try refine lg_mk ?_
    refine u_bd ?_
    refine u_al ?_
    refine u_st ?_
    refine lg_nil ?_
    refine h23 _ ?_; clear h23; try clear N23
    refine vc_seq_k fun N24 h24 => ?_
    refine vc_seq_k fun N25 h25 => ?_
    refine vc_regT [] (.seq [0] (.alt 1 (.seq [2, 3] .nil) (.alt 2 (.seq [1, 3] .nil) .nil))) hmix (by kernel_rfl) ?_
    refine at_seq ?_
    simp only [pick_rules, list_rules]
    try refine lg_mk ?_
    refine u_ld ?_
    refine lg_nil ?_
    refine at_alt ?_ ?_
    ·simp only [pick_rules, list_rules]
     try refine lg_mk ?_
     have hc := call_rule (E := (E_remv.at_ 119)) (f := 15) (sp := Spec.pure valTG) rfl
     have hs := @valTG.eq_1
     refine u_cp (hq := by (first | (exact ⟨hl, hl2, hsm⟩) | exact sd_)) ?_
     refine lg_nil ?_
     refine at_seq ?_
     simp only [pick_rules, list_rules]
     try refine lg_mk ?_
     refine u_ld ?_
     refine u_bn ?_
     refine lg_nil ?_
     refine at_nil ?_
     refine h25 _ ?_; clear h25; try clear N25
     refine u_cond (fun hb26 => ?_) (fun hb26 => ?_)
     ·first | omega | exact absurd trivial hb26 | contradiction | (simp_all; done)
     ·refine vc_skip ?_
      try simp only [k_rules]
      refine h24 _ ?_; clear h24; try clear N24
      refine vc_seq_k fun N27 h27 => ?_
      refine vc_seq_k fun N28 h28 => ?_
      refine u_reg ?_
      try refine lg_mk ?_
      refine u_pt ?_
      refine u_ld ?_
      refine u_bn ?_
      refine lg_nil ?_
      refine h28 _ ?_; clear h28; try clear N28
      refine u_cond (fun hb29 => ?_) (fun hb29 => ?_)
      ·first | omega | exact absurd trivial hb29 | contradiction | (simp_all; done)
      ·refine vc_skip ?_
       try simp only [k_rules]
       refine h27 _ ?_; clear h27; try clear N27
       refine vc_seq_k fun N30 h30 => ?_
       refine vc_seq_k fun N31 h31 => ?_
       refine u_reg ?_
       try refine lg_mk ?_
       refine u_pt ?_
       refine u_ld ?_
       refine u_mv ?_
       have hc := call_rule (E := (E_remv.at_ 119)) (f := 22) (sp := Spec.pure hasG) rfl
       have hs := @hasG.eq_1
       refine u_cp (hq := by (first | (exact hl) | exact sd_)) ?_
       refine lg_nil ?_
       refine h31 _ ?_; clear h31; try clear N31
       refine u_cond (fun hb32 => ?_) (fun hb32 => ?_)
       ·refine vc_seq_k fun N33 h33 => ?_
        refine vc_regT [26] (.alt 0 (.seq [1, 2, 3, 4, 5, 6, 7, 8, 9, 10, 11, 12, 13, 14, 15, 16, 17, 18, 19, 20] .nil) (.alt 1 (.seq [0, 2, 3, 4, 5, 6, 7, 8, 9, 10, 11, 12, 13, 14, 15, 16, 17, 18, 19, 20] .nil) .nil)) hmix (by kernel_rfl) ?_
        refine at_alt ?_ ?_
        ·simp only [pick_rules, list_rules]
         try refine lg_mk ?_
         refine u_ld ?_
         refine lg_nil ?_
         refine at_seq ?_
         simp only [pick_rules, list_rules]
         try refine lg_mk ?_
         have hc := call_rule (E := (E_remv.at_ 119)) (f := 18) (sp := Spec.pure faultG) rfl
         have hs := @faultG.eq_1
         refine u_cp ?_
         refine u_bn ?_
         refine u_mv ?_
         refine g_ld ?_
         refine g_ld ?_
         have hc := call_rule (E := (E_remv.at_ 119)) (f := 12) (sp := Spec.pure idxsG) rfl
         have hs := @idxsG.eq_1
         refine g_cp ?_
         refine u_pk ?_
         refine u_mv ?_
         refine g_pt ?_
         refine g_ld ?_
         refine g_bn ?_
         refine u_pk ?_
         refine u_mv ?_
         try simp only [Bool.false_eq_true, reduceIte]
         refine g_ld ?_
         refine g_ld ?_
         refine g_mv ?_
         have hc := call_rule (E := (E_remv.at_ 119)) (f := 26) (sp := Spec.pure remTG) rfl
         have hs := @remTG.eq_1
         refine t_hp (hq := by (first | (exact hv) | exact sd_)) ?_
         have hc := call_rule (E := (E_remv.at_ 119)) (f := 12) (sp := Spec.pure idxsG) rfl
         have hs := @idxsG.eq_1
         refine g_cp ?_
         refine u_pk ?_
         refine u_mv ?_
         refine lg_nil ?_
         refine at_nil ?_
         refine h33 _ ?_; clear h33; try clear N33
         refine vc_ret ?_
         try simp only [k_rules]
         refine fin2_ ?_
         (repeat' apply And.intro) <;> (first | (first | rfl | (simp; done) | (simp [*]; done) | (left; rfl)) | exact cl_)
        refine at_alt ?_ ?_
        ·simp only [pick_rules, list_rules]
         try refine lg_mk ?_
         have hc := call_rule (E := (E_remv.at_ 119)) (f := 18) (sp := Spec.pure faultG) rfl
         have hs := @faultG.eq_1
         refine u_cp ?_
         refine lg_nil ?_
         refine at_seq ?_
         simp only [pick_rules, list_rules]
         try refine lg_mk ?_
         refine u_ld ?_
         refine u_bn ?_
         refine u_mv ?_
         refine g_ld ?_
         refine g_ld ?_
         have hc := call_rule (E := (E_remv.at_ 119)) (f := 12) (sp := Spec.pure idxsG) rfl
         have hs := @idxsG.eq_1
         refine g_cp ?_
         refine u_pk ?_
         refine u_mv ?_
         refine g_pt ?_
         refine g_ld ?_
         refine g_bn ?_
         refine u_pk ?_
         refine u_mv ?_
         try simp only [Bool.false_eq_true, reduceIte]
         refine g_ld ?_
         refine g_ld ?_
         refine g_mv ?_
         have hc := call_rule (E := (E_remv.at_ 119)) (f := 26) (sp := Spec.pure remTG) rfl
         have hs := @remTG.eq_1
         refine t_hp (hq := by (first | (exact hv) | exact sd_)) ?_
         have hc := call_rule (E := (E_remv.at_ 119)) (f := 12) (sp := Spec.pure idxsG) rfl
         have hs := @idxsG.eq_1
         refine g_cp ?_
         refine u_pk ?_
         refine u_mv ?_
         refine lg_nil ?_
         refine at_nil ?_
         refine h33 _ ?_; clear h33; try clear N33
         refine vc_ret ?_
         try simp only [k_rules]
         refine fin2_ ?_
         (repeat' apply And.intro) <;> (first | (first | rfl | (simp; done) | (simp [*]; done) | (left; rfl)) | exact cl_)
        exact at_end
       ·first | omega | exact absurd trivial hb32 | contradiction | (simp_all; done)
    refine at_alt ?_ ?_
    ·simp only [pick_rules, list_rules]
     try refine lg_mk ?_
     refine u_ld ?_
     refine lg_nil ?_
     refine at_seq ?_
     simp only [pick_rules, list_rules]
     try refine lg_mk ?_
     have hc := call_rule (E := (E_remv.at_ 119)) (f := 15) (sp := Spec.pure valTG) rfl
     have hs := @valTG.eq_1
     refine u_cp (hq := by (first | (exact ⟨hl, hl2, hsm⟩) | exact sd_)) ?_
     refine u_bn ?_
     refine lg_nil ?_
     refine at_nil ?_
     refine h25 _ ?_; clear h25; try clear N25
     refine u_cond (fun hb34 => ?_) (fun hb34 => ?_)
     ·first | omega | exact absurd trivial hb34 | contradiction | (simp_all; done)
     ·refine vc_skip ?_
      try simp only [k_rules]
      refine h24 _ ?_; clear h24; try clear N24
      refine vc_seq_k fun N35 h35 => ?_
      refine vc_seq_k fun N36 h36 => ?_
      refine u_reg ?_
      try refine lg_mk ?_
      refine u_pt ?_
      refine u_ld ?_
      refine u_bn ?_
      refine lg_nil ?_
      refine h36 _ ?_; clear h36; try clear N36
      refine u_cond (fun hb37 => ?_) (fun hb37 => ?_)
      ·first | omega | exact absurd trivial hb37 | contradiction | (simp_all; done)
      ·refine vc_skip ?_
       try simp only [k_rules]
       refine h35 _ ?_; clear h35; try clear N35
       refine vc_seq_k fun N38 h38 => ?_
       refine vc_seq_k fun N39 h39 => ?_
       refine u_reg ?_
       try refine lg_mk ?_
       refine u_pt ?_
       refine u_ld ?_
       refine u_mv ?_
       have hc := call_rule (E := (E_remv.at_ 119)) (f := 22) (sp := Spec.pure hasG) rfl
       have hs := @hasG.eq_1
       refine u_cp (hq := by (first | (exact hl) | exact sd_)) ?_
       refine lg_nil ?_
       refine h39 _ ?_; clear h39; try clear N39
       refine u_cond (fun hb40 => ?_) (fun hb40 => ?_)
       ·refine vc_seq_k fun N41 h41 => ?_
        refine vc_regT [26] (.alt 0 (.seq [1, 2, 3, 4, 5, 6, 7, 8, 9, 10, 11, 12, 13, 14, 15, 16, 17, 18, 19, 20] .nil) (.alt 1 (.seq [0, 2, 3, 4, 5, 6, 7, 8, 9, 10, 11, 12, 13, 14, 15, 16, 17, 18, 19, 20] .nil) .nil)) hmix (by kernel_rfl) ?_
        refine at_alt ?_ ?_
        ·simp only [pick_rules, list_rules]
         try refine lg_mk ?_
         refine u_ld ?_
         refine lg_nil ?_
         refine at_seq ?_
         simp only [pick_rules, list_rules]
         try refine lg_mk ?_
         have hc := call_rule (E := (E_remv.at_ 119)) (f := 18) (sp := Spec.pure faultG) rfl
         have hs := @faultG.eq_1
         refine u_cp ?_
         refine u_bn ?_
         refine u_mv ?_
         refine g_ld ?_
         refine g_ld ?_
         have hc := call_rule (E := (E_remv.at_ 119)) (f := 12) (sp := Spec.pure idxsG) rfl
         have hs := @idxsG.eq_1
         refine g_cp ?_
         refine u_pk ?_
         refine u_mv ?_
         refine g_pt ?_
         refine g_ld ?_
         refine g_bn ?_
         refine u_pk ?_
         refine u_mv ?_
         try simp only [Bool.false_eq_true, reduceIte]
         refine g_ld ?_
         refine g_ld ?_
         refine g_mv ?_
         have hc := call_rule (E := (E_remv.at_ 119)) (f := 26) (sp := Spec.pure remTG) rfl
         have hs := @remTG.eq_1
         refine t_hp (hq := by (first | (exact hv) | exact sd_)) ?_
         have hc := call_rule (E := (E_remv.at_ 119)) (f := 12) (sp := Spec.pure idxsG) rfl
         have hs := @idxsG.eq_1
         refine g_cp ?_
         refine u_pk ?_
         refine u_mv ?_
         refine lg_nil ?_
         refine at_nil ?_
         refine h41 _ ?_; clear h41; try clear N41
         refine vc_ret ?_
         try simp only [k_rules]
         refine fin2_ ?_
         (repeat' apply And.intro) <;> (first | (first | rfl | (simp; done) | (simp [*]; done) | (left; rfl)) | exact cl_)
        refine at_alt ?_ ?_
        ·simp only [pick_rules, list_rules]
         try refine lg_mk ?_
         have hc := call_rule (E := (E_remv.at_ 119)) (f := 18) (sp := Spec.pure faultG) rfl
         have hs := @faultG.eq_1
         refine u_cp ?_
         refine lg_nil ?_
         refine at_seq ?_
         simp only [pick_rules, list_rules]
         try refine lg_mk ?_
         refine u_ld ?_
         refine u_bn ?_
         refine u_mv ?_
         refine g_ld ?_
         refine g_ld ?_
         have hc := call_rule (E := (E_remv.at_ 119)) (f := 12) (sp := Spec.pure idxsG) rfl
         have hs := @idxsG.eq_1
         refine g_cp ?_
         refine u_pk ?_
         refine u_mv ?_
         refine g_pt ?_
         refine g_ld ?_
         refine g_bn ?_
         refine u_pk ?_
         refine u_mv ?_
         try simp only [Bool.false_eq_true, reduceIte]
         refine g_ld ?_
         refine g_ld ?_
         refine g_mv ?_
         have hc := call_rule (E := (E_remv.at_ 119)) (f := 26) (sp := Spec.pure remTG) rfl
         have hs := @remTG.eq_1
         refine t_hp (hq := by (first | (exact hv) | exact sd_)) ?_
         have hc := call_rule (E := (E_remv.at_ 119)) (f := 12) (sp := Spec.pure idxsG) rfl
         have hs := @idxsG.eq_1
         refine g_cp ?_
         refine u_pk ?_
         refine u_mv ?_
         refine lg_nil ?_
         refine at_nil ?_
         refine h41 _ ?_; clear h41; try clear N41
         refine vc_ret ?_
         try simp only [k_rules]
         refine fin2_ ?_
         (repeat' apply And.intro) <;> (first | (first | rfl | (simp; done) | (simp [*]; done) | (left; rfl)) | exact cl_)
        exact at_end
       ·first | omega | exact absurd trivial hb40 | contradiction | (simp_all; done)
    exact at_end
   ·have hsn := small_nil
    obtain ⟨hb0, hv, hb1, hb7, hb2, hb9⟩ := hcs
    obtain ⟨hb3, hb4⟩ := add_1 hb2 (by decide)
    obtain ⟨hb5, hb6⟩ := rem_1 hb9 (by decide)
    have hb8 : decide (n ∈ l) = false := decide_eq_false hb1
    have hba : (decide (0 ≤ n) && decide (n ≤ 19)) = false := by
     cases h1 : (decide (0 ≤ n) && decide (n ≤ 19)) with
     | false => rfl
     | true => exact absurd (by simpa using h1) hb7
    have hvl := hv.plen
    have hvs := smallP_of hv
    have hvn := hv.tlen
    have hm := ins_len (l := l) (n := n)
    have hdl := delI_len (isN n) l
    have hrp := remP_len P n
    have hx0 := And.intro @hb0 (And.intro @hb2 (And.intro @hb3 (And.intro @hb4 (And.intro @hb5 (And.intro @hb6 (And.intro @hb9 (And.intro @hb8 (And.intro @hba (hx0)))))))))
    have hx := hx0
    refine u_reg ?_
    try refine lg_mk ?_
    refine u_ld ?_
    refine u_mv ?_
    refine u_mv ?_
    have hc := call_rule (E := (E_remv.at_ 119)) (f := 24) (sp := Spec.pure addTG) rfl
    have hs := @addTG.eq_1
    refine u_hp (hq := by (first | (exact ⟨hl, hl2, hsm, hsl⟩) | exact sd_)) ?_
    refine u_mv ?_
    refine u_ex ?_
    refine u_ex ?_
    refine u_al ?_
    refine u_al ?_
    refine u_st ?_
    refine u_st ?_
    refine lg_nil ?_
    refine h5 _ ?_; clear h5; try clear N5
    refine vc_seq_k fun N42 h42 => ?_
    refine u_reg ?_
    try refine lg_mk ?_
    refine u_ld ?_
    refine u_mv ?_
    have hc := call_rule (E := (E_remv.at_ 119)) (f := 25) (sp := Spec.pure remvG) rfl
    have hs := @remvG.eq_1
    refine u_hp (hq := by (first | (exact ⟨hl, hl2, hsm⟩) | exact sd_)) ?_
    refine u_mv ?_
    refine u_ex ?_
    refine u_ex ?_
    refine u_al ?_
    refine u_al ?_
    refine u_st ?_
    refine u_st ?_
    refine lg_nil ?_
    refine h42 _ ?_; clear h42; try clear N42
    refine vc_seq_k fun N43 h43 => ?_
    refine u_reg ?_
    try refine lg_mk ?_
    refine u_ld ?_
    have hc := call_rule (E := (E_remv.at_ 119)) (f := 17) (sp := Spec.pure valTG) rfl
    have hs := @valTG.eq_1
    refine u_cp (hq := by (first | (exact ⟨hl, hl2, hsm⟩) | exact sd_)) ?_
    refine u_al ?_
    refine u_st ?_
    refine lg_nil ?_
    refine h43 _ ?_; clear h43; try clear N43
    refine vc_seq_k fun N44 h44 => ?_
    refine u_reg ?_
    try refine lg_mk ?_
    refine u_bd ?_
    refine u_al ?_
    refine u_st ?_
    refine lg_nil ?_
    refine h44 _ ?_; clear h44; try clear N44
    refine vc_seq_k fun N45 h45 => ?_
    refine vc_seq_k fun N46 h46 => ?_
    refine vc_regT [] (.seq [0] (.alt 1 (.seq [2, 3] .nil) (.alt 2 (.seq [1, 3] .nil) .nil))) hmix (by kernel_rfl) ?_
    refine at_seq ?_
    simp only [pick_rules, list_rules]
    try refine lg_mk ?_
    refine u_ld ?_
    refine lg_nil ?_
    refine at_alt ?_ ?_
    ·simp only [pick_rules, list_rules]
     try refine lg_mk ?_
     have hc := call_rule (E := (E_remv.at_ 119)) (f := 15) (sp := Spec.pure valTG) rfl
     have hs := @valTG.eq_1
     refine u_cp (hq := by (first | (exact ⟨hl, hl2, hsm⟩) | exact sd_)) ?_
     refine lg_nil ?_
     refine at_seq ?_
     simp only [pick_rules, list_rules]
     try refine lg_mk ?_
     refine u_ld ?_
     refine u_bn ?_
     refine lg_nil ?_
     refine at_nil ?_
     refine h46 _ ?_; clear h46; try clear N46
     refine u_cond (fun hb47 => ?_) (fun hb47 => ?_)
     ·first | omega | exact absurd trivial hb47 | contradiction | (simp_all; done)
     ·refine vc_skip ?_
      try simp only [k_rules]
      refine h45 _ ?_; clear h45; try clear N45
      refine vc_seq_k fun N48 h48 => ?_
      refine vc_seq_k fun N49 h49 => ?_
      refine u_reg ?_
      try refine lg_mk ?_
      refine u_pt ?_
      refine u_ld ?_
      refine u_bn ?_
      refine lg_nil ?_
      refine h49 _ ?_; clear h49; try clear N49
      refine u_cond (fun hb50 => ?_) (fun hb50 => ?_)
      ·first | omega | exact absurd trivial hb50 | contradiction | (simp_all; done)
      ·refine vc_skip ?_
       try simp only [k_rules]
       refine h48 _ ?_; clear h48; try clear N48
       refine vc_seq_k fun N51 h51 => ?_
       refine vc_seq_k fun N52 h52 => ?_
       refine u_reg ?_
       try refine lg_mk ?_
       refine u_pt ?_
       refine u_ld ?_
       refine u_mv ?_
       have hc := call_rule (E := (E_remv.at_ 119)) (f := 22) (sp := Spec.pure hasG) rfl
       have hs := @hasG.eq_1
       refine u_cp (hq := by (first | (exact hl) | exact sd_)) ?_
       refine lg_nil ?_
       refine h52 _ ?_; clear h52; try clear N52
       refine u_cond (fun hb53 => ?_) (fun hb53 => ?_)
       ·first | omega | exact absurd trivial hb53 | contradiction | (simp_all; done)
       ·refine vc_skip ?_
        try simp only [k_rules]
        refine h51 _ ?_; clear h51; try clear N51
        refine vc_seq_k fun N54 h54 => ?_
        refine vc_seq_k fun N55 h55 => ?_
        refine vc_regT [] (.alt 0 (.seq [1, 2, 3, 4, 5, 6, 7, 8] .nil) (.alt 1 (.seq [0, 2, 3, 4, 5, 6, 7, 8] .nil) .nil)) hmix (by kernel_rfl) ?_
        refine at_alt ?_ ?_
        ·simp only [pick_rules, list_rules]
         try refine lg_mk ?_
         refine u_ld ?_
         refine lg_nil ?_
         refine at_seq ?_
         simp only [pick_rules, list_rules]
         try refine lg_mk ?_
         have hc := call_rule (E := (E_remv.at_ 119)) (f := 18) (sp := Spec.pure faultG) rfl
         have hs := @faultG.eq_1
         refine u_cp ?_
         refine u_bn ?_
         refine u_mv ?_
         refine g_ld ?_
         refine g_ld ?_
         have hc := call_rule (E := (E_remv.at_ 119)) (f := 12) (sp := Spec.pure idxsG) rfl
         have hs := @idxsG.eq_1
         refine g_cp ?_
         refine g_un ?_
         refine u_pk ?_
         refine lg_nil ?_
         refine at_nil ?_
         refine h55 _ ?_; clear h55; try clear N55
         refine u_cond (fun hb56 => ?_) (fun hb56 => ?_)
         ·first | omega | exact absurd trivial hb56 | contradiction | (simp_all; done)
         ·refine vc_skip ?_
          try simp only [k_rules]
          refine h54 _ ?_; clear h54; try clear N54
          refine vc_seq_k fun N57 h57 => ?_
          refine vc_seq_k fun N58 h58 => ?_
          refine u_reg ?_
          try refine lg_mk ?_
          refine u_mv ?_
          have hc := call_rule (E := (E_remv.at_ 119)) (f := 23) (sp := Spec.pure inG) rfl
          have hs := @inG.eq_1
          refine u_cp ?_
          refine u_un ?_
          refine lg_nil ?_
          refine h58 _ ?_; clear h58; try clear N58
          refine u_cond (fun hb59 => ?_) (fun hb59 => ?_)
          ·refine u_reg ?_
           try refine lg_mk ?_
           have hc := call_rule (E := (E_remv.at_ 119)) (f := 18) (sp := Spec.pure faultG) rfl
           have hs := @faultG.eq_1
           refine u_cp ?_
           refine u_st ?_
           refine lg_nil ?_
           refine h57 _ ?_; clear h57; try clear N57
           refine vc_seq_k fun N60 h60 => ?_
           refine vc_seq_k fun N61 h61 => ?_
           refine u_reg ?_
           try refine lg_mk ?_
           refine u_pt ?_
           refine u_ld ?_
           refine u_bn ?_
           refine lg_nil ?_
           refine h61 _ ?_; clear h61; try clear N61
           refine u_cond (fun hb62 => ?_) (fun hb62 => ?_)
           ·refine vc_seq_k fun N63 h63 => ?_
            refine u_reg ?_
            try refine lg_mk ?_
            refine u_ld ?_
            refine u_ld ?_
            refine u_bn ?_
            refine u_mv ?_
            refine g_ld ?_
            refine g_ld ?_
            have hc := call_rule (E := (E_remv.at_ 119)) (f := 12) (sp := Spec.pure idxsG) rfl
            have hs := @idxsG.eq_1
            refine g_cp ?_
            refine u_pk ?_
            refine u_mv ?_
            refine lg_nil ?_
            refine h63 _ ?_; clear h63; try clear N63
            refine vc_ret ?_
            try simp only [k_rules]
            refine fin2_ ?_
            (repeat' apply And.intro) <;> (first | (first | rfl | (simp; done) | (simp [*]; done) | (left; rfl)) | exact cl_)
           ·first | omega | exact absurd trivial hb62 | contradiction | (simp_all; done)
          ·first | omega | exact absurd trivial hb59 | contradiction | (simp_all; done)
        refine at_alt ?_ ?_
        ·simp only [pick_rules, list_rules]
         try refine lg_mk ?_
         have hc := call_rule (E := (E_remv.at_ 119)) (f := 18) (sp := Spec.pure faultG) rfl
         have hs := @faultG.eq_1
         refine u_cp ?_
         refine lg_nil ?_
         refine at_seq ?_
         simp only [pick_rules, list_rules]
         try refine lg_mk ?_
         refine u_ld ?_
         refine u_bn ?_
         refine u_mv ?_
         refine g_ld ?_
         refine g_ld ?_
         have hc := call_rule (E := (E_remv.at_ 119)) (f := 12) (sp := Spec.pure idxsG) rfl
         have hs := @idxsG.eq_1
         refine g_cp ?_
         refine g_un ?_
         refine u_pk ?_
         refine lg_nil ?_
         refine at_nil ?_
         refine h55 _ ?_; clear h55; try clear N55
         refine u_cond (fun hb64 => ?_) (fun hb64 => ?_)
         ·first | omega | exact absurd trivial hb64 | contradiction | (simp_all; done)
         ·refine vc_skip ?_
          try simp only [k_rules]
          refine h54 _ ?_; clear h54; try clear N54
          refine vc_seq_k fun N65 h65 => ?_
          refine vc_seq_k fun N66 h66 => ?_
          refine u_reg ?_
          try refine lg_mk ?_
          refine u_mv ?_
          have hc := call_rule (E := (E_remv.at_ 119)) (f := 23) (sp := Spec.pure inG) rfl
          have hs := @inG.eq_1
          refine u_cp ?_
          refine u_un ?_
          refine lg_nil ?_
          refine h66 _ ?_; clear h66; try clear N66
          refine u_cond (fun hb67 => ?_) (fun hb67 => ?_)
          ·refine u_reg ?_
           try refine lg_mk ?_
           have hc := call_rule (E := (E_remv.at_ 119)) (f := 18) (sp := Spec.pure faultG) rfl
           have hs := @faultG.eq_1
           refine u_cp ?_
           refine u_st ?_
           refine lg_nil ?_
           refine h65 _ ?_; clear h65; try clear N65
           refine vc_seq_k fun N68 h68 => ?_
           refine vc_seq_k fun N69 h69 => ?_
           refine u_reg ?_
           try refine lg_mk ?_
           refine u_pt ?_
           refine u_ld ?_
           refine u_bn ?_
           refine lg_nil ?_
           refine h69 _ ?_; clear h69; try clear N69
           refine u_cond (fun hb70 => ?_) (fun hb70 => ?_)
           ·refine vc_seq_k fun N71 h71 => ?_
            refine u_reg ?_
            try refine lg_mk ?_
            refine u_ld ?_
            refine u_ld ?_
            refine u_bn ?_
            refine u_mv ?_
            refine g_ld ?_
            refine g_ld ?_
            have hc := call_rule (E := (E_remv.at_ 119)) (f := 12) (sp := Spec.pure idxsG) rfl
            have hs := @idxsG.eq_1
            refine g_cp ?_
            refine u_pk ?_
            refine u_mv ?_
            refine lg_nil ?_
            refine h71 _ ?_; clear h71; try clear N71
            refine vc_ret ?_
            try simp only [k_rules]
            refine fin2_ ?_
            (repeat' apply And.intro) <;> (first | (first | rfl | (simp; done) | (simp [*]; done) | (left; rfl)) | exact cl_)
           ·first | omega | exact absurd trivial hb70 | contradiction | (simp_all; done)
          ·first | omega | exact absurd trivial hb67 | contradiction | (simp_all; done)
        exact at_end
    refine at_alt ?_ ?_
    ·simp only [pick_rules, list_rules]
     try refine lg_mk ?_
     refine u_ld ?_
     refine lg_nil ?_
     refine at_seq ?_
     simp only [pick_rules, list_rules]
     try refine lg_mk ?_
     have hc := call_rule (E := (E_remv.at_ 119)) (f := 15) (sp := Spec.pure valTG) rfl
     have hs := @valTG.eq_1
     refine u_cp (hq := by (first | (exact ⟨hl, hl2, hsm⟩) | exact sd_)) ?_
     refine u_bn ?_
     refine lg_nil ?_
     refine at_nil ?_
     refine h46 _ ?_; clear h46; try clear N46
     refine u_cond (fun hb72 => ?_) (fun hb72 => ?_)
     ·first | omega | exact absurd trivial hb72 | contradiction | (simp_all; done)
     ·refine vc_skip ?_
      try simp only [k_rules]
      refine h45 _ ?_; clear h45; try clear N45
      refine vc_seq_k fun N73 h73 => ?_
      refine vc_seq_k fun N74 h74 => ?_
      refine u_reg ?_
      try refine lg_mk ?_
      refine u_pt ?_
      refine u_ld ?_
      refine u_bn ?_
      refine lg_nil ?_
      refine h74 _ ?_; clear h74; try clear N74
      refine u_cond (fun hb75 => ?_) (fun hb75 => ?_)
      ·first | omega | exact absurd trivial hb75 | contradiction | (simp_all; done)
      ·refine vc_skip ?_
       try simp only [k_rules]
       refine h73 _ ?_; clear h73; try clear N73
       refine vc_seq_k fun N76 h76 => ?_
       refine vc_seq_k fun N77 h77 => ?_
       refine u_reg ?_
       try refine lg_mk ?_
       refine u_pt ?_
       refine u_ld ?_
       refine u_mv ?_
       have hc := call_rule (E := (E_remv.at_ 119)) (f := 22) (sp := Spec.pure hasG) rfl
       have hs := @hasG.eq_1
       refine u_cp (hq := by (first | (exact hl) | exact sd_)) ?_
       refine lg_nil ?_
       refine h77 _ ?_; clear h77; try clear N77
       refine u_cond (fun hb78 => ?_) (fun hb78 => ?_)
       ·first | omega | exact absurd trivial hb78 | contradiction | (simp_all; done)
       ·refine vc_skip ?_
        try simp only [k_rules]
        refine h76 _ ?_; clear h76; try clear N76
        refine vc_seq_k fun N79 h79 => ?_
        refine vc_seq_k fun N80 h80 => ?_
        refine vc_regT [] (.alt 0 (.seq [1, 2, 3, 4, 5, 6, 7, 8] .nil) (.alt 1 (.seq [0, 2, 3, 4, 5, 6, 7, 8] .nil) .nil)) hmix (by kernel_rfl) ?_
        refine at_alt ?_ ?_
        ·simp only [pick_rules, list_rules]
         try refine lg_mk ?_
         refine u_ld ?_
         refine lg_nil ?_
         refine at_seq ?_
         simp only [pick_rules, list_rules]
         try refine lg_mk ?_
         have hc := call_rule (E := (E_remv.at_ 119)) (f := 18) (sp := Spec.pure faultG) rfl
         have hs := @faultG.eq_1
         refine u_cp ?_
         refine u_bn ?_
         refine u_mv ?_
         refine g_ld ?_
         refine g_ld ?_
         have hc := call_rule (E := (E_remv.at_ 119)) (f := 12) (sp := Spec.pure idxsG) rfl
         have hs := @idxsG.eq_1
         refine g_cp ?_
         refine g_un ?_
         refine u_pk ?_
         refine lg_nil ?_
         refine at_nil ?_
         refine h80 _ ?_; clear h80; try clear N80
         refine u_cond (fun hb81 => ?_) (fun hb81 => ?_)
         ·first | omega | exact absurd trivial hb81 | contradiction | (simp_all; done)
         ·refine vc_skip ?_
          try simp only [k_rules]
          refine h79 _ ?_; clear h79; try clear N79
          refine vc_seq_k fun N82 h82 => ?_
          refine vc_seq_k fun N83 h83 => ?_
          refine u_reg ?_
          try refine lg_mk ?_
          refine u_mv ?_
          have hc := call_rule (E := (E_remv.at_ 119)) (f := 23) (sp := Spec.pure inG) rfl
          have hs := @inG.eq_1
          refine u_cp ?_
          refine u_un ?_
          refine lg_nil ?_
          refine h83 _ ?_; clear h83; try clear N83
          refine u_cond (fun hb84 => ?_) (fun hb84 => ?_)
          ·refine u_reg ?_
           try refine lg_mk ?_
           have hc := call_rule (E := (E_remv.at_ 119)) (f := 18) (sp := Spec.pure faultG) rfl
           have hs := @faultG.eq_1
           refine u_cp ?_
           refine u_st ?_
           refine lg_nil ?_
           refine h82 _ ?_; clear h82; try clear N82
           refine vc_seq_k fun N85 h85 => ?_
           refine vc_seq_k fun N86 h86 => ?_
           refine u_reg ?_
           try refine lg_mk ?_
           refine u_pt ?_
           refine u_ld ?_
           refine u_bn ?_
           refine lg_nil ?_
           refine h86 _ ?_; clear h86; try clear N86
           refine u_cond (fun hb87 => ?_) (fun hb87 => ?_)
           ·refine vc_seq_k fun N88 h88 => ?_
            refine u_reg ?_
            try refine lg_mk ?_
            refine u_ld ?_
            refine u_ld ?_
            refine u_bn ?_
            refine u_mv ?_
            refine g_ld ?_
            refine g_ld ?_
            have hc := call_rule (E := (E_remv.at_ 119)) (f := 12) (sp := Spec.pure idxsG) rfl
            have hs := @idxsG.eq_1
            refine g_cp ?_
            refine u_pk ?_
            refine u_mv ?_
            refine lg_nil ?_
            refine h88 _ ?_; clear h88; try clear N88
            refine vc_ret ?_
            try simp only [k_rules]
            refine fin2_ ?_
            (repeat' apply And.intro) <;> (first | (first | rfl | (simp; done) | (simp [*]; done) | (left; rfl)) | exact cl_)
           ·first | omega | exact absurd trivial hb87 | contradiction | (simp_all; done)
          ·first | omega | exact absurd trivial hb84 | contradiction | (simp_all; done)
        refine at_alt ?_ ?_
        ·simp only [pick_rules, list_rules]
         try refine lg_mk ?_
         have hc := call_rule (E := (E_remv.at_ 119)) (f := 18) (sp := Spec.pure faultG) rfl
         have hs := @faultG.eq_1
         refine u_cp ?_
         refine lg_nil ?_
         refine at_seq ?_
         simp only [pick_rules, list_rules]
         try refine lg_mk ?_
         refine u_ld ?_
         refine u_bn ?_
         refine u_mv ?_
         refine g_ld ?_
         refine g_ld ?_
         have hc := call_rule (E := (E_remv.at_ 119)) (f := 12) (sp := Spec.pure idxsG) rfl
         have hs := @idxsG.eq_1
         refine g_cp ?_
         refine g_un ?_
         refine u_pk ?_
         refine lg_nil ?_
         refine at_nil ?_
         refine h80 _ ?_; clear h80; try clear N80
         refine u_cond (fun hb89 => ?_) (fun hb89 => ?_)
         ·first | omega | exact absurd trivial hb89 | contradiction | (simp_all; done)
         ·refine vc_skip ?_
          try simp only [k_rules]
          refine h79 _ ?_; clear h79; try clear N79
          refine vc_seq_k fun N90 h90 => ?_
          refine vc_seq_k fun N91 h91 => ?_
          refine u_reg ?_
          try refine lg_mk ?_
          refine u_mv ?_
          have hc := call_rule (E := (E_remv.at_ 119)) (f := 23) (sp := Spec.pure inG) rfl
          have hs := @inG.eq_1
          refine u_cp ?_
          refine u_un ?_
          refine lg_nil ?_
          refine h91 _ ?_; clear h91; try clear N91
          refine u_cond (fun hb92 => ?_) (fun hb92 => ?_)
          ·refine u_reg ?_
           try refine lg_mk ?_
           have hc := call_rule (E := (E_remv.at_ 119)) (f := 18) (sp := Spec.pure faultG) rfl
           have hs := @faultG.eq_1
           refine u_cp ?_
           refine u_st ?_
           refine lg_nil ?_
           refine h90 _ ?_; clear h90; try clear N90
           refine vc_seq_k fun N93 h93 => ?_
           refine vc_seq_k fun N94 h94 => ?_
           refine u_reg ?_
           try refine lg_mk ?_
           refine u_pt ?_
           refine u_ld ?_
           refine u_bn ?_
           refine lg_nil ?_
           refine h94 _ ?_; clear h94; try clear N94
           refine u_cond (fun hb95 => ?_) (fun hb95 => ?_)
           ·refine vc_seq_k fun N96 h96 => ?_
            refine u_reg ?_
            try refine lg_mk ?_
            refine u_ld ?_
            refine u_ld ?_
            refine u_bn ?_
            refine u_mv ?_
            refine g_ld ?_
            refine g_ld ?_
            have hc := call_rule (E := (E_remv.at_ 119)) (f := 12) (sp := Spec.pure idxsG) rfl
            have hs := @idxsG.eq_1
            refine g_cp ?_
            refine u_pk ?_
            refine u_mv ?_
            refine lg_nil ?_
            refine h96 _ ?_; clear h96; try clear N96
            refine vc_ret ?_
            try simp only [k_rules]
            refine fin2_ ?_
            (repeat' apply And.intro) <;> (first | (first | rfl | (simp; done) | (simp [*]; done) | (left; rfl)) | exact cl_)
           ·first | omega | exact absurd trivial hb95 | contradiction | (simp_all; done)
          ·first | omega | exact absurd trivial hb92 | contradiction | (simp_all; done)
        exact at_end
    exact at_end
   ·have hsn := small_nil
    obtain ⟨hb0, hv, hb1, hb7, hbl, hb2, hb9⟩ := hcs
    obtain ⟨hb3, hb4⟩ := add_1 hb2 (by decide)
    obtain ⟨hb5, hb6⟩ := rem_1 hb9 (by decide)
    have hb8 : decide (n ∈ l) = false := decide_eq_false hb1
    have hba : (decide (0 ≤ n) && decide (n ≤ 19)) = true := by simp [hb7]
    have hbb : ((400 : Int) < (u.length : Int)) = True := eq_true (by omega)
    have hvl := hv.plen
    have hvs := smallP_of hv
    have hvn := hv.tlen
    have hm := ins_len (l := l) (n := n)
    have hdl := delI_len (isN n) l
    have hrp := remP_len P n
    have hx0 := And.intro @hb0 (And.intro @hb2 (And.intro @hb3 (And.intro @hb4 (And.intro @hb5 (And.intro @hb6 (And.intro @hb9 (And.intro @hb8 (And.intro @hba (And.intro @hbb (hx0))))))))))
    have hx := hx0
    refine u_reg ?_
    try refine lg_mk ?_
    refine u_ld ?_
    refine u_mv ?_
    refine u_mv ?_
    have hc := call_rule (E := (E_remv.at_ 119)) (f := 24) (sp := Spec.pure addTG) rfl
    have hs := @addTG.eq_1
    refine u_hp (hq := by (first | (exact ⟨hl, hl2, hsm, hsl⟩) | exact sd_)) ?_
    refine u_mv ?_
    refine u_ex ?_
    refine u_ex ?_
    refine u_al ?_
    refine u_al ?_
    refine u_st ?_
    refine u_st ?_
    refine lg_nil ?_
    refine h5 _ ?_; clear h5; try clear N5
    refine vc_seq_k fun N97 h97 => ?_
    refine u_reg ?_
    try refine lg_mk ?_
    refine u_ld ?_
    refine u_mv ?_
    have hc := call_rule (E := (E_remv.at_ 119)) (f := 25) (sp := Spec.pure remvG) rfl
    have hs := @remvG.eq_1
    refine u_hp (hq := by (first | (exact ⟨hl, hl2, hsm⟩) | exact sd_)) ?_
    refine u_mv ?_
    refine u_ex ?_
    refine u_ex ?_
    refine u_al ?_
    refine u_al ?_
    refine u_st ?_
    refine u_st ?_
    refine lg_nil ?_
    refine h97 _ ?_; clear h97; try clear N97
    refine vc_seq_k fun N98 h98 => ?_
    refine u_reg ?_
    try refine lg_mk ?_
    refine u_ld ?_
    have hc := call_rule (E := (E_remv.at_ 119)) (f := 17) (sp := Spec.pure valTG) rfl
    have hs := @valTG.eq_1
    refine u_cp (hq := by (first | (exact ⟨hl, hl2, hsm⟩) | exact sd_)) ?_
    refine u_al ?_
    refine u_st ?_
    refine lg_nil ?_
    refine h98 _ ?_; clear h98; try clear N98
    refine vc_seq_k fun N99 h99 => ?_
    refine u_reg ?_
    try refine lg_mk ?_
    refine u_bd ?_
    refine u_al ?_
    refine u_st ?_
    refine lg_nil ?_
    refine h99 _ ?_; clear h99; try clear N99
    refine vc_seq_k fun N100 h100 => ?_
    refine vc_seq_k fun N101 h101 => ?_
    refine vc_regT [] (.seq [0] (.alt 1 (.seq [2, 3] .nil) (.alt 2 (.seq [1, 3] .nil) .nil))) hmix (by kernel_rfl) ?_
    refine at_seq ?_
    simp only [pick_rules, list_rules]
    try refine lg_mk ?_
    refine u_ld ?_
    refine lg_nil ?_
    refine at_alt ?_ ?_
    ·simp only [pick_rules, list_rules]
     try refine lg_mk ?_
     have hc := call_rule (E := (E_remv.at_ 119)) (f := 15) (sp := Spec.pure valTG) rfl
     have hs := @valTG.eq_1
     refine u_cp (hq := by (first | (exact ⟨hl, hl2, hsm⟩) | exact sd_)) ?_
     refine lg_nil ?_
     refine at_seq ?_
     simp only [pick_rules, list_rules]
     try refine lg_mk ?_
     refine u_ld ?_
     refine u_bn ?_
     refine lg_nil ?_
     refine at_nil ?_
     refine h101 _ ?_; clear h101; try clear N101
     refine u_cond (fun hb102 => ?_) (fun hb102 => ?_)
     ·first | omega | exact absurd trivial hb102 | contradiction | (simp_all; done)
     ·refine vc_skip ?_
      try simp only [k_rules]
      refine h100 _ ?_; clear h100; try clear N100
      refine vc_seq_k fun N103 h103 => ?_
      refine vc_seq_k fun N104 h104 => ?_
      refine u_reg ?_
      try refine lg_mk ?_
      refine u_pt ?_
      refine u_ld ?_
      refine u_bn ?_
      refine lg_nil ?_
      refine h104 _ ?_; clear h104; try clear N104
      refine u_cond (fun hb105 => ?_) (fun hb105 => ?_)
      ·first | omega | exact absurd trivial hb105 | contradiction | (simp_all; done)
      ·refine vc_skip ?_
       try simp only [k_rules]
       refine h103 _ ?_; clear h103; try clear N103
       refine vc_seq_k fun N106 h106 => ?_
       refine vc_seq_k fun N107 h107 => ?_
       refine u_reg ?_
       try refine lg_mk ?_
       refine u_pt ?_
       refine u_ld ?_
       refine u_mv ?_
       have hc := call_rule (E := (E_remv.at_ 119)) (f := 22) (sp := Spec.pure hasG) rfl
       have hs := @hasG.eq_1
       refine u_cp (hq := by (first | (exact hl) | exact sd_)) ?_
       refine lg_nil ?_
       refine h107 _ ?_; clear h107; try clear N107
       refine u_cond (fun hb108 => ?_) (fun hb108 => ?_)
       ·first | omega | exact absurd trivial hb108 | contradiction | (simp_all; done)
       ·refine vc_skip ?_
        try simp only [k_rules]
        refine h106 _ ?_; clear h106; try clear N106
        refine vc_seq_k fun N109 h109 => ?_
        refine vc_seq_k fun N110 h110 => ?_
        refine vc_regT [] (.alt 0 (.seq [1, 2, 3, 4, 5, 6, 7, 8] .nil) (.alt 1 (.seq [0, 2, 3, 4, 5, 6, 7, 8] .nil) .nil)) hmix (by kernel_rfl) ?_
        refine at_alt ?_ ?_
        ·simp only [pick_rules, list_rules]
         try refine lg_mk ?_
         refine u_ld ?_
         refine lg_nil ?_
         refine at_seq ?_
         simp only [pick_rules, list_rules]
         try refine lg_mk ?_
         have hc := call_rule (E := (E_remv.at_ 119)) (f := 18) (sp := Spec.pure faultG) rfl
         have hs := @faultG.eq_1
         refine u_cp ?_
         refine u_bn ?_
         refine u_mv ?_
         refine g_ld ?_
         refine g_ld ?_
         have hc := call_rule (E := (E_remv.at_ 119)) (f := 12) (sp := Spec.pure idxsG) rfl
         have hs := @idxsG.eq_1
         refine g_cp ?_
         refine g_un ?_
         refine u_pk ?_
         refine lg_nil ?_
         refine at_nil ?_
         refine h110 _ ?_; clear h110; try clear N110
         refine u_cond (fun hb111 => ?_) (fun hb111 => ?_)
         ·first | omega | exact absurd trivial hb111 | contradiction | (simp_all; done)
         ·refine vc_skip ?_
          try simp only [k_rules]
          refine h109 _ ?_; clear h109; try clear N109
          refine vc_seq_k fun N112 h112 => ?_
          refine vc_seq_k fun N113 h113 => ?_
          refine u_reg ?_
          try refine lg_mk ?_
          refine u_mv ?_
          have hc := call_rule (E := (E_remv.at_ 119)) (f := 23) (sp := Spec.pure inG) rfl
          have hs := @inG.eq_1
          refine u_cp ?_
          refine u_un ?_
          refine lg_nil ?_
          refine h113 _ ?_; clear h113; try clear N113
          refine u_cond (fun hb114 => ?_) (fun hb114 => ?_)
          ·first | omega | exact absurd trivial hb114 | contradiction | (simp_all; done)
          ·refine vc_seq_k fun N115 h115 => ?_
           refine u_reg ?_
           try refine lg_mk ?_
           refine u_mv ?_
           refine u_ln ?_
           refine u_bn ?_
           refine lg_nil ?_
           refine h115 _ ?_; clear h115; try clear N115
           refine u_cond (fun hb116 => ?_) (fun hb116 => ?_)
           ·refine u_reg ?_
            try refine lg_mk ?_
            have hc := call_rule (E := (E_remv.at_ 119)) (f := 18) (sp := Spec.pure faultG) rfl
            have hs := @faultG.eq_1
            refine u_cp ?_
            refine u_st ?_
            refine lg_nil ?_
            refine h112 _ ?_; clear h112; try clear N112
            refine vc_seq_k fun N117 h117 => ?_
            refine vc_seq_k fun N118 h118 => ?_
            refine u_reg ?_
            try refine lg_mk ?_
            refine u_pt ?_
            refine u_ld ?_
            refine u_bn ?_
            refine lg_nil ?_
            refine h118 _ ?_; clear h118; try clear N118
            refine u_cond (fun hb119 => ?_) (fun hb119 => ?_)
            ·refine vc_seq_k fun N120 h120 => ?_
             refine u_reg ?_
             try refine lg_mk ?_
             refine u_ld ?_
             refine u_ld ?_
             refine u_bn ?_
             refine u_mv ?_
             refine g_ld ?_
             refine g_ld ?_
             have hc := call_rule (E := (E_remv.at_ 119)) (f := 12) (sp := Spec.pure idxsG) rfl
             have hs := @idxsG.eq_1
             refine g_cp ?_
             refine u_pk ?_
             refine u_mv ?_
             refine lg_nil ?_
             refine h120 _ ?_; clear h120; try clear N120
             refine vc_ret ?_
             try simp only [k_rules]
             refine fin2_ ?_
             (repeat' apply And.intro) <;> (first | (first | rfl | (simp; done) | (simp [*]; done) | (left; rfl)) | exact cl_)
            ·first | omega | exact absurd trivial hb119 | contradiction | (simp_all; done)
           ·first | omega | exact absurd trivial hb116 | contradiction | (simp_all; done)
        refine at_alt ?_ ?_
        ·simp only [pick_rules, list_rules]
         try refine lg_mk ?_
         have hc := call_rule (E := (E_remv.at_ 119)) (f := 18) (sp := Spec.pure faultG) rfl
         have hs := @faultG.eq_1
         refine u_cp ?_
         refine lg_nil ?_
         refine at_seq ?_
         simp only [pick_rules, list_rules]
         try refine lg_mk ?_
         refine u_ld ?_
         refine u_bn ?_
         refine u_mv ?_
         refine g_ld ?_
         refine g_ld ?_
         have hc := call_rule (E := (E_remv.at_ 119)) (f := 12) (sp := Spec.pure idxsG) rfl
         have hs := @idxsG.eq_1
         refine g_cp ?_
         refine g_un ?_
         refine u_pk ?_
         refine lg_nil ?_
         refine at_nil ?_
         refine h110 _ ?_; clear h110; try clear N110
         refine u_cond (fun hb121 => ?_) (fun hb121 => ?_)
         ·first | omega | exact absurd trivial hb121 | contradiction | (simp_all; done)
         ·refine vc_skip ?_
          try simp only [k_rules]
          refine h109 _ ?_; clear h109; try clear N109
          refine vc_seq_k fun N122 h122 => ?_
          refine vc_seq_k fun N123 h123 => ?_
          refine u_reg ?_
          try refine lg_mk ?_
          refine u_mv ?_
          have hc := call_rule (E := (E_remv.at_ 119)) (f := 23) (sp := Spec.pure inG) rfl
          have hs := @inG.eq_1
          refine u_cp ?_
          refine u_un ?_
          refine lg_nil ?_
          refine h123 _ ?_; clear h123; try clear N123
          refine u_cond (fun hb124 => ?_) (fun hb124 => ?_)
          ·first | omega | exact absurd trivial hb124 | contradiction | (simp_all; done)
          ·refine vc_seq_k fun N125 h125 => ?_
           refine u_reg ?_
           try refine lg_mk ?_
           refine u_mv ?_
           refine u_ln ?_
           refine u_bn ?_
           refine lg_nil ?_
           refine h125 _ ?_; clear h125; try clear N125
           refine u_cond (fun hb126 => ?_) (fun hb126 => ?_)
           ·refine u_reg ?_
            try refine lg_mk ?_
            have hc := call_rule (E := (E_remv.at_ 119)) (f := 18) (sp := Spec.pure faultG) rfl
            have hs := @faultG.eq_1
            refine u_cp ?_
            refine u_st ?_
            refine lg_nil ?_
            refine h122 _ ?_; clear h122; try clear N122
            refine vc_seq_k fun N127 h127 => ?_
            refine vc_seq_k fun N128 h128 => ?_
            refine u_reg ?_
            try refine lg_mk ?_
            refine u_pt ?_
            refine u_ld ?_
            refine u_bn ?_
            refine lg_nil ?_
            refine h128 _ ?_; clear h128; try clear N128
            refine u_cond (fun hb129 => ?_) (fun hb129 => ?_)
            ·refine vc_seq_k fun N130 h130 => ?_
             refine u_reg ?_
             try refine lg_mk ?_
             refine u_ld ?_
             refine u_ld ?_
             refine u_bn ?_
             refine u_mv ?_
             refine g_ld ?_
             refine g_ld ?_
             have hc := call_rule (E := (E_remv.at_ 119)) (f := 12) (sp := Spec.pure idxsG) rfl
             have hs := @idxsG.eq_1
             refine g_cp ?_
             refine u_pk ?_
             refine u_mv ?_
             refine lg_nil ?_
             refine h130 _ ?_; clear h130; try clear N130
             refine vc_ret ?_
             try simp only [k_rules]
             refine fin2_ ?_
             (repeat' apply And.intro) <;> (first | (first | rfl | (simp; done) | (simp [*]; done) | (left; rfl)) | exact cl_)
            ·first | omega | exact absurd trivial hb129 | contradiction | (simp_all; done)
           ·first | omega | exact absurd trivial hb126 | contradiction | (simp_all; done)
        exact at_end
    refine at_alt ?_ ?_
    ·simp only [pick_rules, list_rules]
     try refine lg_mk ?_
     refine u_ld ?_
     refine lg_nil ?_
     refine at_seq ?_
     simp only [pick_rules, list_rules]
     try refine lg_mk ?_
     have hc := call_rule (E := (E_remv.at_ 119)) (f := 15) (sp := Spec.pure valTG) rfl
     have hs := @valTG.eq_1
     refine u_cp (hq := by (first | (exact ⟨hl, hl2, hsm⟩) | exact sd_)) ?_
     refine u_bn ?_
     refine lg_nil ?_
     refine at_nil ?_
     refine h101 _ ?_; clear h101; try clear N101
     refine u_cond (fun hb131 => ?_) (fun hb131 => ?_)
     ·first | omega | exact absurd trivial hb131 | contradiction | (simp_all; done)
     ·refine vc_skip ?_
      try simp only [k_rules]
      refine h100 _ ?_; clear h100; try clear N100
      refine vc_seq_k fun N132 h132 => ?_
      refine vc_seq_k fun N133 h133 => ?_
      refine u_reg ?_
      try refine lg_mk ?_
      refine u_pt ?_
      refine u_ld ?_
      refine u_bn ?_
      refine lg_nil ?_
      refine h133 _ ?_; clear h133; try clear N133
      refine u_cond (fun hb134 => ?_) (fun hb134 => ?_)
      ·first | omega | exact absurd trivial hb134 | contradiction | (simp_all; done)
      ·refine vc_skip ?_
       try simp only [k_rules]
       refine h132 _ ?_; clear h132; try clear N132
       refine vc_seq_k fun N135 h135 => ?_
       refine vc_seq_k fun N136 h136 => ?_
       refine u_reg ?_
       try refine lg_mk ?_
       refine u_pt ?_
       refine u_ld ?_
       refine u_mv ?_
       have hc := call_rule (E := (E_remv.at_ 119)) (f := 22) (sp := Spec.pure hasG) rfl
       have hs := @hasG.eq_1
       refine u_cp (hq := by (first | (exact hl) | exact sd_)) ?_
       refine lg_nil ?_
       refine h136 _ ?_; clear h136; try clear N136
       refine u_cond (fun hb137 => ?_) (fun hb137 => ?_)
       ·first | omega | exact absurd trivial hb137 | contradiction | (simp_all; done)
       ·refine vc_skip ?_
        try simp only [k_rules]
        refine h135 _ ?_; clear h135; try clear N135
        refine vc_seq_k fun N138 h138 => ?_
        refine vc_seq_k fun N139 h139 => ?_
        refine vc_regT [] (.alt 0 (.seq [1, 2, 3, 4, 5, 6, 7, 8] .nil) (.alt 1 (.seq [0, 2, 3, 4, 5, 6, 7, 8] .nil) .nil)) hmix (by kernel_rfl) ?_
        refine at_alt ?_ ?_
        ·simp only [pick_rules, list_rules]
         try refine lg_mk ?_
         refine u_ld ?_
         refine lg_nil ?_
         refine at_seq ?_
         simp only [pick_rules, list_rules]
         try refine lg_mk ?_
         have hc := call_rule (E := (E_remv.at_ 119)) (f := 18) (sp := Spec.pure faultG) rfl
         have hs := @faultG.eq_1
         refine u_cp ?_
         refine u_bn ?_
         refine u_mv ?_
         refine g_ld ?_
         refine g_ld ?_
         have hc := call_rule (E := (E_remv.at_ 119)) (f := 12) (sp := Spec.pure idxsG) rfl
         have hs := @idxsG.eq_1
         refine g_cp ?_
         refine g_un ?_
         refine u_pk ?_
         refine lg_nil ?_
         refine at_nil ?_
         refine h139 _ ?_; clear h139; try clear N139
         refine u_cond (fun hb140 => ?_) (fun hb140 => ?_)
         ·first | omega | exact absurd trivial hb140 | contradiction | (simp_all; done)
         ·refine vc_skip ?_
          try simp only [k_rules]
          refine h138 _ ?_; clear h138; try clear N138
          refine vc_seq_k fun N141 h141 => ?_
          refine vc_seq_k fun N142 h142 => ?_
          refine u_reg ?_
          try refine lg_mk ?_
          refine u_mv ?_
          have hc := call_rule (E := (E_remv.at_ 119)) (f := 23) (sp := Spec.pure inG) rfl
          have hs := @inG.eq_1
          refine u_cp ?_
          refine u_un ?_
          refine lg_nil ?_
          refine h142 _ ?_; clear h142; try clear N142
          refine u_cond (fun hb143 => ?_) (fun hb143 => ?_)
          ·first | omega | exact absurd trivial hb143 | contradiction | (simp_all; done)
          ·refine vc_seq_k fun N144 h144 => ?_
           refine u_reg ?_
           try refine lg_mk ?_
           refine u_mv ?_
           refine u_ln ?_
           refine u_bn ?_
           refine lg_nil ?_
           refine h144 _ ?_; clear h144; try clear N144
           refine u_cond (fun hb145 => ?_) (fun hb145 => ?_)
           ·refine u_reg ?_
            try refine lg_mk ?_
            have hc := call_rule (E := (E_remv.at_ 119)) (f := 18) (sp := Spec.pure faultG) rfl
            have hs := @faultG.eq_1
            refine u_cp ?_
            refine u_st ?_
            refine lg_nil ?_
            refine h141 _ ?_; clear h141; try clear N141
            refine vc_seq_k fun N146 h146 => ?_
            refine vc_seq_k fun N147 h147 => ?_
            refine u_reg ?_
            try refine lg_mk ?_
            refine u_pt ?_
            refine u_ld ?_
            refine u_bn ?_
            refine lg_nil ?_
            refine h147 _ ?_; clear h147; try clear N147
            refine u_cond (fun hb148 => ?_) (fun hb148 => ?_)
            ·refine vc_seq_k fun N149 h149 => ?_
             refine u_reg ?_
             try refine lg_mk ?_
             refine u_ld ?_
             refine u_ld ?_
             refine u_bn ?_
             refine u_mv ?_
             refine g_ld ?_
             refine g_ld ?_
             have hc := call_rule (E := (E_remv.at_ 119)) (f := 12) (sp := Spec.pure idxsG) rfl
             have hs := @idxsG.eq_1
             refine g_cp ?_
             refine u_pk ?_
             refine u_mv ?_
             refine lg_nil ?_
             refine h149 _ ?_; clear h149; try clear N149
             refine vc_ret ?_
             try simp only [k_rules]
             refine fin2_ ?_
             (repeat' apply And.intro) <;> (first | (first | rfl | (simp; done) | (simp [*]; done) | (left; rfl)) | exact cl_)
            ·first | omega | exact absurd trivial hb148 | contradiction | (simp_all; done)
           ·first | omega | exact absurd trivial hb145 | contradiction | (simp_all; done)
        refine at_alt ?_ ?_
        ·simp only [pick_rules, list_rules]
         try refine lg_mk ?_
         have hc := call_rule (E := (E_remv.at_ 119)) (f := 18) (sp := Spec.pure faultG) rfl
         have hs := @faultG.eq_1
         refine u_cp ?_
         refine lg_nil ?_
         refine at_seq ?_
         simp only [pick_rules, list_rules]
         try refine lg_mk ?_
         refine u_ld ?_
         refine u_bn ?_
         refine u_mv ?_
         refine g_ld ?_
         refine g_ld ?_
         have hc := call_rule (E := (E_remv.at_ 119)) (f := 12) (sp := Spec.pure idxsG) rfl
         have hs := @idxsG.eq_1
         refine g_cp ?_
         refine g_un ?_
         refine u_pk ?_
         refine lg_nil ?_
         refine at_nil ?_
         refine h139 _ ?_; clear h139; try clear N139
         refine u_cond (fun hb150 => ?_) (fun hb150 => ?_)
         ·first | omega | exact absurd trivial hb150 | contradiction | (simp_all; done)
         ·refine vc_skip ?_
          try simp only [k_rules]
          refine h138 _ ?_; clear h138; try clear N138
          refine vc_seq_k fun N151 h151 => ?_
          refine vc_seq_k fun N152 h152 => ?_
          refine u_reg ?_
          try refine lg_mk ?_
          refine u_mv ?_
          have hc := call_rule (E := (E_remv.at_ 119)) (f := 23) (sp := Spec.pure inG) rfl
          have hs := @inG.eq_1
          refine u_cp ?_
          refine u_un ?_
          refine lg_nil ?_
          refine h152 _ ?_; clear h152; try clear N152
          refine u_cond (fun hb153 => ?_) (fun hb153 => ?_)
          ·first | omega | exact absurd trivial hb153 | contradiction | (simp_all; done)
          ·refine vc_seq_k fun N154 h154 => ?_
           refine u_reg ?_
           try refine lg_mk ?_
           refine u_mv ?_
           refine u_ln ?_
           refine u_bn ?_
           refine lg_nil ?_
           refine h154 _ ?_; clear h154; try clear N154
           refine u_cond (fun hb155 => ?_) (fun hb155 => ?_)
           ·refine u_reg ?_
            try refine lg_mk ?_
            have hc := call_rule (E := (E_remv.at_ 119)) (f := 18) (sp := Spec.pure faultG) rfl
            have hs := @faultG.eq_1
            refine u_cp ?_
            refine u_st ?_
            refine lg_nil ?_
            refine h151 _ ?_; clear h151; try clear N151
            refine vc_seq_k fun N156 h156 => ?_
            refine vc_seq_k fun N157 h157 => ?_
            refine u_reg ?_
            try refine lg_mk ?_
            refine u_pt ?_
            refine u_ld ?_
            refine u_bn ?_
            refine lg_nil ?_
            refine h157 _ ?_; clear h157; try clear N157
            refine u_cond (fun hb158 => ?_) (fun hb158 => ?_)
            ·refine vc_seq_k fun N159 h159 => ?_
             refine u_reg ?_
             try refine lg_mk ?_
             refine u_ld ?_
             refine u_ld ?_
             refine u_bn ?_
             refine u_mv ?_
             refine g_ld ?_
             refine g_ld ?_
             have hc := call_rule (E := (E_remv.at_ 119)) (f := 12) (sp := Spec.pure idxsG) rfl
             have hs := @idxsG.eq_1
             refine g_cp ?_
             refine u_pk ?_
             refine u_mv ?_
             refine lg_nil ?_
             refine h159 _ ?_; clear h159; try clear N159
             refine vc_ret ?_
             try simp only [k_rules]
             refine fin2_ ?_
             (repeat' apply And.intro) <;> (first | (first | rfl | (simp; done) | (simp [*]; done) | (left; rfl)) | exact cl_)
            ·first | omega | exact absurd trivial hb158 | contradiction | (simp_all; done)
           ·first | omega | exact absurd trivial hb155 | contradiction | (simp_all; done)
        exact at_end
    exact at_end
   ·have hsn := small_nil
    obtain ⟨hb0, hv, hb1, hb7, hbl, hb2, hb9⟩ := hcs
    obtain ⟨hbx, hb3, hb4⟩ := add_0 (s := u) hv hb7.1 (by omega) hb1 hbl
    obtain ⟨hb5, hb6⟩ := rem_1 hb9 (by decide)
    have hb8 : decide (n ∈ l) = false := decide_eq_false hb1
    have hba : (decide (0 ≤ n) && decide (n ≤ 19)) = true := by simp [hb7]
    have hbb : ((400 : Int) < (u.length : Int)) = False := eq_false (by omega)
    have hvl := hv.plen
    have hvs := smallP_of hv
    have hvn := hv.tlen
    have hm := ins_len (l := l) (n := n)
    have hdl := delI_len (isN n) l
    have hrp := remP_len P n
    have hva := val_add (s := u) hv hb7.1 (by omega : n < 20)
    have hval := hva.plen
    have hvas := smallP_of hva
    have hvan := hva.tlen
    have hx0 := And.intro @hb0 (And.intro @hb2 (And.intro @hb3 (And.intro @hb4 (And.intro @hb5 (And.intro @hb6 (And.intro @hb9 (And.intro @hb8 (And.intro @hba (And.intro @hbb (hx0))))))))))
    have hx := hx0
    refine u_reg ?_
    try refine lg_mk ?_
    refine u_ld ?_
    refine u_mv ?_
    refine u_mv ?_
    have hc := call_rule (E := (E_remv.at_ 119)) (f := 24) (sp := Spec.pure addTG) rfl
    have hs := @addTG.eq_1
    refine u_hp (hq := by (first | (exact ⟨hl, hl2, hsm, hsl⟩) | exact sd_)) ?_
    refine u_mv ?_
    refine u_ex ?_
    refine u_ex ?_
    refine u_al ?_
    refine u_al ?_
    refine u_st ?_
    refine u_st ?_
    refine lg_nil ?_
    refine h5 _ ?_; clear h5; try clear N5
    refine vc_seq_k fun N160 h160 => ?_
    refine u_reg ?_
    try refine lg_mk ?_
    refine u_ld ?_
    refine u_mv ?_
    have hc := call_rule (E := (E_remv.at_ 119)) (f := 25) (sp := Spec.pure remvG) rfl
    have hs := @remvG.eq_1
    refine u_hp (hq := by (first | (exact ⟨hl, hl2, hsm⟩) | exact sd_)) ?_
    refine u_mv ?_
    refine u_ex ?_
    refine u_ex ?_
    refine u_al ?_
    refine u_al ?_
    refine u_st ?_
    refine u_st ?_
    refine lg_nil ?_
    refine h160 _ ?_; clear h160; try clear N160
    refine vc_seq_k fun N161 h161 => ?_
    refine u_reg ?_
    try refine lg_mk ?_
    refine u_ld ?_
    have hc := call_rule (E := (E_remv.at_ 119)) (f := 17) (sp := Spec.pure valTG) rfl
    have hs := @valTG.eq_1
    refine u_cp (hq := by (first | (exact ⟨hl, hl2, hsm⟩) | exact sd_)) ?_
    refine u_al ?_
    refine u_st ?_
    refine lg_nil ?_
    refine h161 _ ?_; clear h161; try clear N161
    refine vc_seq_k fun N162 h162 => ?_
    refine u_reg ?_
    try refine lg_mk ?_
    refine u_bd ?_
    refine u_al ?_
    refine u_st ?_
    refine lg_nil ?_
    refine h162 _ ?_; clear h162; try clear N162
    refine vc_seq_k fun N163 h163 => ?_
    refine vc_seq_k fun N164 h164 => ?_
    refine vc_regT [] (.seq [0] (.alt 1 (.seq [2, 3] .nil) (.alt 2 (.seq [1, 3] .nil) .nil))) hmix (by kernel_rfl) ?_
    refine at_seq ?_
    simp only [pick_rules, list_rules]
    try refine lg_mk ?_
    refine u_ld ?_
    refine lg_nil ?_
    refine at_alt ?_ ?_
    ·simp only [pick_rules, list_rules]
     try refine lg_mk ?_
     have hc := call_rule (E := (E_remv.at_ 119)) (f := 15) (sp := Spec.pure valTG) rfl
     have hs := @valTG.eq_1
     refine u_cp (hq := by (first | (exact ⟨hl, hl2, hsm⟩) | exact sd_)) ?_
     refine lg_nil ?_
     refine at_seq ?_
     simp only [pick_rules, list_rules]
     try refine lg_mk ?_
     refine u_ld ?_
     refine u_bn ?_
     refine lg_nil ?_
     refine at_nil ?_
     refine h164 _ ?_; clear h164; try clear N164
     refine u_cond (fun hb165 => ?_) (fun hb165 => ?_)
     ·first | omega | exact absurd trivial hb165 | contradiction | (simp_all; done)
     ·refine vc_skip ?_
      try simp only [k_rules]
      refine h163 _ ?_; clear h163; try clear N163
      refine vc_seq_k fun N166 h166 => ?_
      refine vc_seq_k fun N167 h167 => ?_
      refine u_reg ?_
      try refine lg_mk ?_
      refine u_pt ?_
      refine u_ld ?_
      refine u_bn ?_
      refine lg_nil ?_
      refine h167 _ ?_; clear h167; try clear N167
      refine u_cond (fun hb168 => ?_) (fun hb168 => ?_)
      ·first | omega | exact absurd trivial hb168 | contradiction | (simp_all; done)
      ·refine vc_skip ?_
       try simp only [k_rules]
       refine h166 _ ?_; clear h166; try clear N166
       refine vc_seq_k fun N169 h169 => ?_
       refine vc_seq_k fun N170 h170 => ?_
       refine u_reg ?_
       try refine lg_mk ?_
       refine u_pt ?_
       refine u_ld ?_
       refine u_mv ?_
       have hc := call_rule (E := (E_remv.at_ 119)) (f := 22) (sp := Spec.pure hasG) rfl
       have hs := @hasG.eq_1
       refine u_cp (hq := by (first | (exact hl) | exact sd_)) ?_
       refine lg_nil ?_
       refine h170 _ ?_; clear h170; try clear N170
       refine u_cond (fun hb171 => ?_) (fun hb171 => ?_)
       ·first | omega | exact absurd trivial hb171 | contradiction | (simp_all; done)
       ·refine vc_skip ?_
        try simp only [k_rules]
        refine h169 _ ?_; clear h169; try clear N169
        refine vc_seq_k fun N172 h172 => ?_
        refine vc_seq_k fun N173 h173 => ?_
        refine vc_regT [] (.alt 0 (.seq [1, 2, 3, 4, 5, 6, 7, 8] .nil) (.alt 1 (.seq [0, 2, 3, 4, 5, 6, 7, 8] .nil) .nil)) hmix (by kernel_rfl) ?_
        refine at_alt ?_ ?_
        ·simp only [pick_rules, list_rules]
         try refine lg_mk ?_
         refine u_ld ?_
         refine lg_nil ?_
         refine at_seq ?_
         simp only [pick_rules, list_rules]
         try refine lg_mk ?_
         have hc := call_rule (E := (E_remv.at_ 119)) (f := 18) (sp := Spec.pure faultG) rfl
         have hs := @faultG.eq_1
         refine u_cp ?_
         refine u_bn ?_
         refine u_mv ?_
         refine g_ld ?_
         refine g_ld ?_
         have hc := call_rule (E := (E_remv.at_ 119)) (f := 12) (sp := Spec.pure idxsG) rfl
         have hs := @idxsG.eq_1
         refine g_cp ?_
         refine g_un ?_
         refine u_pk ?_
         refine lg_nil ?_
         refine at_nil ?_
         refine h173 _ ?_; clear h173; try clear N173
         refine u_cond (fun hb174 => ?_) (fun hb174 => ?_)
         ·first | omega | exact absurd trivial hb174 | contradiction | (simp_all; done)
         ·refine vc_skip ?_
          try simp only [k_rules]
          refine h172 _ ?_; clear h172; try clear N172
          refine vc_seq_k fun N175 h175 => ?_
          refine vc_seq_k fun N176 h176 => ?_
          refine u_reg ?_
          try refine lg_mk ?_
          refine u_mv ?_
          have hc := call_rule (E := (E_remv.at_ 119)) (f := 23) (sp := Spec.pure inG) rfl
          have hs := @inG.eq_1
          refine u_cp ?_
          refine u_un ?_
          refine lg_nil ?_
          refine h176 _ ?_; clear h176; try clear N176
          refine u_cond (fun hb177 => ?_) (fun hb177 => ?_)
          ·first | omega | exact absurd trivial hb177 | contradiction | (simp_all; done)
          ·refine vc_seq_k fun N178 h178 => ?_
           refine u_reg ?_
           try refine lg_mk ?_
           refine u_mv ?_
           refine u_ln ?_
           refine u_bn ?_
           refine lg_nil ?_
           refine h178 _ ?_; clear h178; try clear N178
           refine u_cond (fun hb179 => ?_) (fun hb179 => ?_)
           ·first | omega | exact absurd trivial hb179 | contradiction | (simp_all; done)
           ·refine vc_skip ?_
            try simp only [k_rules]
            refine h175 _ ?_; clear h175; try clear N175
            refine vc_seq_k fun N180 h180 => ?_
            refine vc_seq_k fun N181 h181 => ?_
            refine u_reg ?_
            try refine lg_mk ?_
            refine u_pt ?_
            refine u_ld ?_
            refine u_bn ?_
            refine lg_nil ?_
            refine h181 _ ?_; clear h181; try clear N181
            refine u_cond (fun hb182 => ?_) (fun hb182 => ?_)
            ·first | omega | exact absurd trivial hb182 | contradiction | (simp_all; done)
            ·refine vc_skip ?_
             try simp only [k_rules]
             refine h180 _ ?_; clear h180; try clear N180
             refine vc_seq_k fun N183 h183 => ?_
             refine vc_regG [27] hmix (by kernel_rfl) ?_
             try refine lg_mk ?_
             refine u_pt ?_
             refine u_ld ?_
             refine u_bn ?_
             refine u_mv ?_
             refine g_ld ?_
             refine g_ld ?_
             refine g_mv ?_
             refine g_mv ?_
             have hc := call_rule (E := (E_remv.at_ 119)) (f := 27) (sp := Spec.pure addRG) rfl
             have hs := @addRG.eq_1
             refine t_hp (hq := by (first | (exact ⟨hv, hbl⟩) | exact sd_)) ?_
             have hc := call_rule (E := (E_remv.at_ 119)) (f := 12) (sp := Spec.pure idxsG) rfl
             have hs := @idxsG.eq_1
             refine g_cp ?_
             refine u_pk ?_
             refine u_mv ?_
             refine lg_nil ?_
             refine h183 _ ?_; clear h183; try clear N183
             refine vc_ret ?_
             try simp only [k_rules]
             refine fin2_ ?_
             (repeat' apply And.intro) <;> (first | (first | rfl | (simp; done) | (simp [*]; done) | (left; rfl)) | exact cl_)
        refine at_alt ?_ ?_
        ·simp only [pick_rules, list_rules]
         try refine lg_mk ?_
         have hc := call_rule (E := (E_remv.at_ 119)) (f := 18) (sp := Spec.pure faultG) rfl
         have hs := @faultG.eq_1
         refine u_cp ?_
         refine lg_nil ?_
         refine at_seq ?_
         simp only [pick_rules, list_rules]
         try refine lg_mk ?_
         refine u_ld ?_
         refine u_bn ?_
         refine u_mv ?_
         refine g_ld ?_
         refine g_ld ?_
         have hc := call_rule (E := (E_remv.at_ 119)) (f := 12) (sp := Spec.pure idxsG) rfl
         have hs := @idxsG.eq_1
         refine g_cp ?_
         refine g_un ?_
         refine u_pk ?_
         refine lg_nil ?_
         refine at_nil ?_
         refine h173 _ ?_; clear h173; try clear N173
         refine u_cond (fun hb184 => ?_) (fun hb184 => ?_)
         ·first | omega | exact absurd trivial hb184 | contradiction | (simp_all; done)
         ·refine vc_skip ?_
          try simp only [k_rules]
          refine h172 _ ?_; clear h172; try clear N172
          refine vc_seq_k fun N185 h185 => ?_
          refine vc_seq_k fun N186 h186 => ?_
          refine u_reg ?_
          try refine lg_mk ?_
          refine u_mv ?_
          have hc := call_rule (E := (E_remv.at_ 119)) (f := 23) (sp := Spec.pure inG) rfl
          have hs := @inG.eq_1
          refine u_cp ?_
          refine u_un ?_
          refine lg_nil ?_
          refine h186 _ ?_; clear h186; try clear N186
          refine u_cond (fun hb187 => ?_) (fun hb187 => ?_)
          ·first | omega | exact absurd trivial hb187 | contradiction | (simp_all; done)
          ·refine vc_seq_k fun N188 h188 => ?_
           refine u_reg ?_
           try refine lg_mk ?_
           refine u_mv ?_
           refine u_ln ?_
           refine u_bn ?_
           refine lg_nil ?_
           refine h188 _ ?_; clear h188; try clear N188
           refine u_cond (fun hb189 => ?_) (fun hb189 => ?_)
           ·first | omega | exact absurd trivial hb189 | contradiction | (simp_all; done)
           ·refine vc_skip ?_
            try simp only [k_rules]
            refine h185 _ ?_; clear h185; try clear N185
            refine vc_seq_k fun N190 h190 => ?_
            refine vc_seq_k fun N191 h191 => ?_
            refine u_reg ?_
            try refine lg_mk ?_
            refine u_pt ?_
            refine u_ld ?_
            refine u_bn ?_
            refine lg_nil ?_
            refine h191 _ ?_; clear h191; try clear N191
            refine u_cond (fun hb192 => ?_) (fun hb192 => ?_)
            ·first | omega | exact absurd trivial hb192 | contradiction | (simp_all; done)
            ·refine vc_skip ?_
             try simp only [k_rules]
             refine h190 _ ?_; clear h190; try clear N190
             refine vc_seq_k fun N193 h193 => ?_
             refine vc_regG [27] hmix (by kernel_rfl) ?_
             try refine lg_mk ?_
             refine u_pt ?_
             refine u_ld ?_
             refine u_bn ?_
             refine u_mv ?_
             refine g_ld ?_
             refine g_ld ?_
             refine g_mv ?_
             refine g_mv ?_
             have hc := call_rule (E := (E_remv.at_ 119)) (f := 27) (sp := Spec.pure addRG) rfl
             have hs := @addRG.eq_1
             refine t_hp (hq := by (first | (exact ⟨hv, hbl⟩) | exact sd_)) ?_
             have hc := call_rule (E := (E_remv.at_ 119)) (f := 12) (sp := Spec.pure idxsG) rfl
             have hs := @idxsG.eq_1
             refine g_cp ?_
             refine u_pk ?_
             refine u_mv ?_
             refine lg_nil ?_
             refine h193 _ ?_; clear h193; try clear N193
             refine vc_ret ?_
             try simp only [k_rules]
             refine fin2_ ?_
             (repeat' apply And.intro) <;> (first | (first | rfl | (simp; done) | (simp [*]; done) | (left; rfl)) | exact cl_)
        exact at_end
    refine at_alt ?_ ?_
    ·simp only [pick_rules, list_rules]
     try refine lg_mk ?_
     refine u_ld ?_
     refine lg_nil ?_
     refine at_seq ?_
     simp only [pick_rules, list_rules]
     try refine lg_mk ?_
     have hc := call_rule (E := (E_remv.at_ 119)) (f := 15) (sp := Spec.pure valTG) rfl
     have hs := @valTG.eq_1
     refine u_cp (hq := by (first | (exact ⟨hl, hl2, hsm⟩) | exact sd_)) ?_
     refine u_bn ?_
     refine lg_nil ?_
     refine at_nil ?_
     refine h164 _ ?_; clear h164; try clear N164
     refine u_cond (fun hb194 => ?_) (fun hb194 => ?_)
     ·first | omega | exact absurd trivial hb194 | contradiction | (simp_all; done)
     ·refine vc_skip ?_
      try simp only [k_rules]
      refine h163 _ ?_; clear h163; try clear N163
      refine vc_seq_k fun N195 h195 => ?_
      refine vc_seq_k fun N196 h196 => ?_
      refine u_reg ?_
      try refine lg_mk ?_
      refine u_pt ?_
      refine u_ld ?_
      refine u_bn ?_
      refine lg_nil ?_
      refine h196 _ ?_; clear h196; try clear N196
      refine u_cond (fun hb197 => ?_) (fun hb197 => ?_)
      ·first | omega | exact absurd trivial hb197 | contradiction | (simp_all; done)
      ·refine vc_skip ?_
       try simp only [k_rules]
       refine h195 _ ?_; clear h195; try clear N195
       refine vc_seq_k fun N198 h198 => ?_
       refine vc_seq_k fun N199 h199 => ?_
       refine u_reg ?_
       try refine lg_mk ?_
       refine u_pt ?_
       refine u_ld ?_
       refine u_mv ?_
       have hc := call_rule (E := (E_remv.at_ 119)) (f := 22) (sp := Spec.pure hasG) rfl
       have hs := @hasG.eq_1
       refine u_cp (hq := by (first | (exact hl) | exact sd_)) ?_
       refine lg_nil ?_
       refine h199 _ ?_; clear h199; try clear N199
       refine u_cond (fun hb200 => ?_) (fun hb200 => ?_)
       ·first | omega | exact absurd trivial hb200 | contradiction | (simp_all; done)
       ·refine vc_skip ?_
        try simp only [k_rules]
        refine h198 _ ?_; clear h198; try clear N198
        refine vc_seq_k fun N201 h201 => ?_
        refine vc_seq_k fun N202 h202 => ?_
        refine vc_regT [] (.alt 0 (.seq [1, 2, 3, 4, 5, 6, 7, 8] .nil) (.alt 1 (.seq [0, 2, 3, 4, 5, 6, 7, 8] .nil) .nil)) hmix (by kernel_rfl) ?_
        refine at_alt ?_ ?_
        ·simp only [pick_rules, list_rules]
         try refine lg_mk ?_
         refine u_ld ?_
         refine lg_nil ?_
         refine at_seq ?_
         simp only [pick_rules, list_rules]
         try refine lg_mk ?_
         have hc := call_rule (E := (E_remv.at_ 119)) (f := 18) (sp := Spec.pure faultG) rfl
         have hs := @faultG.eq_1
         refine u_cp ?_
         refine u_bn ?_
         refine u_mv ?_
         refine g_ld ?_
         refine g_ld ?_
         have hc := call_rule (E := (E_remv.at_ 119)) (f := 12) (sp := Spec.pure idxsG) rfl
         have hs := @idxsG.eq_1
         refine g_cp ?_
         refine g_un ?_
         refine u_pk ?_
         refine lg_nil ?_
         refine at_nil ?_
         refine h202 _ ?_; clear h202; try clear N202
         refine u_cond (fun hb203 => ?_) (fun hb203 => ?_)
         ·first | omega | exact absurd trivial hb203 | contradiction | (simp_all; done)
         ·refine vc_skip ?_
          try simp only [k_rules]
          refine h201 _ ?_; clear h201; try clear N201
          refine vc_seq_k fun N204 h204 => ?_
          refine vc_seq_k fun N205 h205 => ?_
          refine u_reg ?_
          try refine lg_mk ?_
          refine u_mv ?_
          have hc := call_rule (E := (E_remv.at_ 119)) (f := 23) (sp := Spec.pure inG) rfl
          have hs := @inG.eq_1
          refine u_cp ?_
          refine u_un ?_
          refine lg_nil ?_
          refine h205 _ ?_; clear h205; try clear N205
          refine u_cond (fun hb206 => ?_) (fun hb206 => ?_)
          ·first | omega | exact absurd trivial hb206 | contradiction | (simp_all; done)
          ·refine vc_seq_k fun N207 h207 => ?_
           refine u_reg ?_
           try refine lg_mk ?_
           refine u_mv ?_
           refine u_ln ?_
           refine u_bn ?_
           refine lg_nil ?_
           refine h207 _ ?_; clear h207; try clear N207
           refine u_cond (fun hb208 => ?_) (fun hb208 => ?_)
           ·first | omega | exact absurd trivial hb208 | contradiction | (simp_all; done)
           ·refine vc_skip ?_
            try simp only [k_rules]
            refine h204 _ ?_; clear h204; try clear N204
            refine vc_seq_k fun N209 h209 => ?_
            refine vc_seq_k fun N210 h210 => ?_
            refine u_reg ?_
            try refine lg_mk ?_
            refine u_pt ?_
            refine u_ld ?_
            refine u_bn ?_
            refine lg_nil ?_
            refine h210 _ ?_; clear h210; try clear N210
            refine u_cond (fun hb211 => ?_) (fun hb211 => ?_)
            ·first | omega | exact absurd trivial hb211 | contradiction | (simp_all; done)
            ·refine vc_skip ?_
             try simp only [k_rules]
             refine h209 _ ?_; clear h209; try clear N209
             refine vc_seq_k fun N212 h212 => ?_
             refine vc_regG [27] hmix (by kernel_rfl) ?_
             try refine lg_mk ?_
             refine u_pt ?_
             refine u_ld ?_
             refine u_bn ?_
             refine u_mv ?_
             refine g_ld ?_
             refine g_ld ?_
             refine g_mv ?_
             refine g_mv ?_
             have hc := call_rule (E := (E_remv.at_ 119)) (f := 27) (sp := Spec.pure addRG) rfl
             have hs := @addRG.eq_1
             refine t_hp (hq := by (first | (exact ⟨hv, hbl⟩) | exact sd_)) ?_
             have hc := call_rule (E := (E_remv.at_ 119)) (f := 12) (sp := Spec.pure idxsG) rfl
             have hs := @idxsG.eq_1
             refine g_cp ?_
             refine u_pk ?_
             refine u_mv ?_
             refine lg_nil ?_
             refine h212 _ ?_; clear h212; try clear N212
             refine vc_ret ?_
             try simp only [k_rules]
             refine fin2_ ?_
             (repeat' apply And.intro) <;> (first | (first | rfl | (simp; done) | (simp [*]; done) | (left; rfl)) | exact cl_)
        refine at_alt ?_ ?_
        ·simp only [pick_rules, list_rules]
         try refine lg_mk ?_
         have hc := call_rule (E := (E_remv.at_ 119)) (f := 18) (sp := Spec.pure faultG) rfl
         have hs := @faultG.eq_1
         refine u_cp ?_
         refine lg_nil ?_
         refine at_seq ?_
         simp only [pick_rules, list_rules]
         try refine lg_mk ?_
         refine u_ld ?_
         refine u_bn ?_
         refine u_mv ?_
         refine g_ld ?_
         refine g_ld ?_
         have hc := call_rule (E := (E_remv.at_ 119)) (f := 12) (sp := Spec.pure idxsG) rfl
         have hs := @idxsG.eq_1
         refine g_cp ?_
         refine g_un ?_
         refine u_pk ?_
         refine lg_nil ?_
         refine at_nil ?_
         refine h202 _ ?_; clear h202; try clear N202
         refine u_cond (fun hb213 => ?_) (fun hb213 => ?_)
         ·first | omega | exact absurd trivial hb213 | contradiction | (simp_all; done)
         ·refine vc_skip ?_
          try simp only [k_rules]
          refine h201 _ ?_; clear h201; try clear N201
          refine vc_seq_k fun N214 h214 => ?_
          refine vc_seq_k fun N215 h215 => ?_
          refine u_reg ?_
          try refine lg_mk ?_
          refine u_mv ?_
          have hc := call_rule (E := (E_remv.at_ 119)) (f := 23) (sp := Spec.pure inG) rfl
          have hs := @inG.eq_1
          refine u_cp ?_
          refine u_un ?_
          refine lg_nil ?_
          refine h215 _ ?_; clear h215; try clear N215
          refine u_cond (fun hb216 => ?_) (fun hb216 => ?_)
          ·first | omega | exact absurd trivial hb216 | contradiction | (simp_all; done)
          ·refine vc_seq_k fun N217 h217 => ?_
           refine u_reg ?_
           try refine lg_mk ?_
           refine u_mv ?_
           refine u_ln ?_
           refine u_bn ?_
           refine lg_nil ?_
           refine h217 _ ?_; clear h217; try clear N217
           refine u_cond (fun hb218 => ?_) (fun hb218 => ?_)
           ·first | omega | exact absurd trivial hb218 | contradiction | (simp_all; done)
           ·refine vc_skip ?_
            try simp only [k_rules]
            refine h214 _ ?_; clear h214; try clear N214
            refine vc_seq_k fun N219 h219 => ?_
            refine vc_seq_k fun N220 h220 => ?_
            refine u_reg ?_
            try refine lg_mk ?_
            refine u_pt ?_
            refine u_ld ?_
            refine u_bn ?_
            refine lg_nil ?_
            refine h220 _ ?_; clear h220; try clear N220
            refine u_cond (fun hb221 => ?_) (fun hb221 => ?_)
            ·first | omega | exact absurd trivial hb221 | contradiction | (simp_all; done)
            ·refine vc_skip ?_
             try simp only [k_rules]
             refine h219 _ ?_; clear h219; try clear N219
             refine vc_seq_k fun N222 h222 => ?_
             refine vc_regG [27] hmix (by kernel_rfl) ?_
             try refine lg_mk ?_
             refine u_pt ?_
             refine u_ld ?_
             refine u_bn ?_
             refine u_mv ?_
             refine g_ld ?_
             refine g_ld ?_
             refine g_mv ?_
             refine g_mv ?_
             have hc := call_rule (E := (E_remv.at_ 119)) (f := 27) (sp := Spec.pure addRG) rfl
             have hs := @addRG.eq_1
             refine t_hp (hq := by (first | (exact ⟨hv, hbl⟩) | exact sd_)) ?_
             have hc := call_rule (E := (E_remv.at_ 119)) (f := 12) (sp := Spec.pure idxsG) rfl
             have hs := @idxsG.eq_1
             refine g_cp ?_
             refine u_pk ?_
             refine u_mv ?_
             refine lg_nil ?_
             refine h222 _ ?_; clear h222; try clear N222
             refine vc_ret ?_
             try simp only [k_rules]
             refine fin2_ ?_
             (repeat' apply And.intro) <;> (first | (first | rfl | (simp; done) | (simp [*]; done) | (left; rfl)) | exact cl_)
        exact at_end
    exact at_end
 ·cases hg
end Go.Proofs.Ytjdhadbnmghdgaa
