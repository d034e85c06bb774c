/- Walks, printed by wip/gen/walk.py. -/
import Derived.Test.YtoagbjhlpfepkaaGreatDoorT25
import Derived.Test.YtoagbjhlpfepkaaGreatDoorV5
set_option linter.all false
set_option maxRecDepth 100000
set_option maxHeartbeats 4000000
namespace Go.Proofs.YtoagbjhlpfepkaaGreatDoor
open Go Go.Vc Go.RowKit
theorem lawGM_meets : Meets Tryz.prog 3 (Spec.pure lawMG) := by
 refine meets_fun (E_exG.at_ 78) Tryz.func3 rfl rfl rfl ?_
 intro args p r hg hp
 unfold lawMG at hg
 split at hg
 ·rename_i xs rs
  simp only [Option.some.injEq, Prod.mk.injEq] at hg
  obtain ⟨rfl, rfl⟩ := hg
  obtain ⟨he, hl, hsm, he2, hrl⟩ := hp
  generalize dO xs = S at *
  generalize dI rs = R at *
  subst he he2
  have hT : (E_exG).X = T := rfl
  have hx0 := And.intro @rect_eO (And.intro @dI_rows (And.intro @dU_rows (And.intro @dO_rows (And.intro @dB_rows (And.intro @dec_t (And.intro @dec_f @Tryz.results3))))))
  have hx := hx0
  refine ⟨by rfl, ?_⟩
  intro F W0 hnp hmk
  refine vc_seq_k fun N1 h1 => ?_
  refine u_reg ?_
  try refine lg_mk ?_
  refine u_bx ?_
  refine u_mv ?_
  refine lg_nil ?_
  refine h1 _ ?_; clear h1; try clear N1
  refine vc_seq_k fun N2 h2 => ?_
  refine vc_seq_k fun N3 h3 => ?_
  refine u_reg ?_
  try refine lg_mk ?_
  have hc := call_rule (E := (E_exG.at_ 78)) (f := 4) (sp := Spec.pure exG) rfl
  have hs := @exG.eq_1
  refine u_cp ?_
  refine u_un ?_
  refine lg_nil ?_
  refine h3 _ ?_; clear h3; try clear N3
  refine u_cond (fun hb4 => ?_) (fun hb4 => ?_)
  ·first | omega | exact absurd trivial hb4 | contradiction | (simp_all; done)
  ·refine vc_skip ?_
   try simp only [k_rules]
   refine h2 _ ?_; clear h2; try clear N2
   refine vc_seq_k fun N5 h5 => ?_
   rcases mrk_or S R with hcs | hcs | hcs
   ·obtain ⟨p1, p2, p3, p4⟩ := hcs
    have p5 : ¬(stF S).1 = 0 := p1
    have hx0 := And.intro @p2 (And.intro @p3 (And.intro @p4 (And.intro @p5 (hx0))))
    have hx := hx0
    refine u_reg ?_
    try refine lg_mk ?_
    refine u_ld ?_
    refine u_mv ?_
    have hc := call_rule (E := (E_exG.at_ 78)) (f := 5) (sp := Spec.pure markG) rfl
    have hs := @markG.eq_1
    refine u_hp (hq := by (first | (exact ⟨hl, hsm, hrl⟩) | exact sd_)) ?_
    refine u_mv ?_
    refine u_ex ?_
    refine u_ex ?_
    refine u_al ?_
    refine u_mv ?_
    refine u_st ?_
    refine lg_nil ?_
    refine h5 _ ?_; clear h5; try clear N5
    refine vc_seq_k fun N6 h6 => ?_
    refine u_reg ?_
    try refine lg_mk ?_
    refine u_ld ?_
    have hc := call_rule (E := (E_exG.at_ 78)) (f := 6) (sp := Spec.pure misG) rfl
    have hs := @misG.eq_1
    refine u_hp (hq := by (first | (exact ⟨hl, hsm⟩) | exact sd_)) ?_
    refine u_mv ?_
    refine u_ex ?_
    refine u_ex ?_
    refine u_al ?_
    refine u_mv ?_
    refine u_st ?_
    refine lg_nil ?_
    refine h6 _ ?_; clear h6; try clear N6
    refine vc_seq_k fun N7 h7 => ?_
    refine u_reg ?_
    try refine lg_mk ?_
    refine u_ld ?_
    have hc := call_rule (E := (E_exG.at_ 78)) (f := 7) (sp := Spec.pure valG) rfl
    have hs := @valG.eq_1
    refine u_cp (hq := by (first | (exact ⟨hl, hsm⟩) | exact sd_)) ?_
    refine u_al ?_
    refine u_st ?_
    refine lg_nil ?_
    refine h7 _ ?_; clear h7; try clear N7
    refine vc_seq_k fun N8 h8 => ?_
    refine vc_seq_k fun N9 h9 => ?_
    refine u_reg ?_
    try refine lg_mk ?_
    refine u_pt ?_
    refine u_ld ?_
    refine u_bn ?_
    refine lg_nil ?_
    refine h9 _ ?_; clear h9; try clear N9
    refine u_cond (fun hb10 => ?_) (fun hb10 => ?_)
    ·refine vc_seq_k fun N11 h11 => ?_
     refine u_reg ?_
     try refine lg_mk ?_
     refine u_ld ?_
     refine u_ld ?_
     refine u_bn ?_
     refine u_mv ?_
     refine g_ld ?_
     refine g_ld ?_
     refine g_bn ?_
     refine u_pk ?_
     refine u_mv ?_
     refine g_mv ?_
     refine g_ln ?_
     refine g_mv ?_
     refine g_ln ?_
     refine g_bn ?_
     refine g_bn ?_
     refine u_pk ?_
     refine u_mv ?_
     refine lg_nil ?_
     refine h11 _ ?_; clear h11; try clear N11
     refine vc_ret ?_
     try simp only [k_rules]
     refine fin2_ ?_
     (repeat' apply And.intro) <;> (first | (first | rfl | (simp; done) | (simp [*]; done) | (left; rfl)) | exact cl_)
    ·first | omega | exact absurd trivial hb10 | contradiction | (simp_all; done)
   ·obtain ⟨p1, hv, p2, hml, p3, p4, p5⟩ := hcs
    have hlen := hv.len
    have q1 := insA_len (misA S)
    have q2 := mkV_len S R
    have p6 : ((50 : Int) < (R.length : Int)) = True := eq_true (by omega)
    have hx0 := And.intro @p1 (And.intro @p2 (And.intro @p4 (And.intro @p5 (And.intro @p6 (hx0)))))
    have hx := hx0
    refine u_reg ?_
    try refine lg_mk ?_
    refine u_ld ?_
    refine u_mv ?_
    have hc := call_rule (E := (E_exG.at_ 78)) (f := 5) (sp := Spec.pure markG) rfl
    have hs := @markG.eq_1
    refine u_hp (hq := by (first | (exact ⟨hl, hsm, hrl⟩) | exact sd_)) ?_
    refine u_mv ?_
    refine u_ex ?_
    refine u_ex ?_
    refine u_al ?_
    refine u_mv ?_
    refine u_st ?_
    refine lg_nil ?_
    refine h5 _ ?_; clear h5; try clear N5
    refine vc_seq_k fun N12 h12 => ?_
    refine u_reg ?_
    try refine lg_mk ?_
    refine u_ld ?_
    have hc := call_rule (E := (E_exG.at_ 78)) (f := 6) (sp := Spec.pure misG) rfl
    have hs := @misG.eq_1
    refine u_hp (hq := by (first | (exact ⟨hl, hsm⟩) | exact sd_)) ?_
    refine u_mv ?_
    refine u_ex ?_
    refine u_ex ?_
    refine u_al ?_
    refine u_mv ?_
    refine u_st ?_
    refine lg_nil ?_
    refine h12 _ ?_; clear h12; try clear N12
    refine vc_seq_k fun N13 h13 => ?_
    refine u_reg ?_
    try refine lg_mk ?_
    refine u_ld ?_
    have hc := call_rule (E := (E_exG.at_ 78)) (f := 7) (sp := Spec.pure valG) rfl
    have hs := @valG.eq_1
    refine u_cp (hq := by (first | (exact ⟨hl, hsm⟩) | exact sd_)) ?_
    refine u_al ?_
    refine u_st ?_
    refine lg_nil ?_
    refine h13 _ ?_; clear h13; try clear N13
    refine vc_seq_k fun N14 h14 => ?_
    refine vc_seq_k fun N15 h15 => ?_
    refine u_reg ?_
    try refine lg_mk ?_
    refine u_pt ?_
    refine u_ld ?_
    refine u_bn ?_
    refine lg_nil ?_
    refine h15 _ ?_; clear h15; try clear N15
    refine u_cond (fun hb16 => ?_) (fun hb16 => ?_)
    ·first | omega | exact absurd trivial hb16 | contradiction | (simp_all; done)
    ·refine vc_skip ?_
     try simp only [k_rules]
     refine h14 _ ?_; clear h14; try clear N14
     refine vc_seq_k fun N17 h17 => ?_
     refine vc_seq_k fun N18 h18 => ?_
     refine u_reg ?_
     try refine lg_mk ?_
     refine u_pt ?_
     refine u_ld ?_
     refine u_bn ?_
     refine u_mv ?_
     refine g_mv ?_
     refine g_ld ?_
     have hc := call_rule (E := (E_exG.at_ 78)) (f := 9) (sp := Spec.pure misRG) rfl
     have hs := @misRG.eq_1
     refine t_hp (hq := by (first | (exact hv) | exact sd_)) ?_
     have hc := call_rule (E := (E_exG.at_ 78)) (f := 8) (sp := Spec.pure intsG) rfl
     have hs := @intsG.eq_1
     refine s_cp (hq := by (intro hg; (try simp only [b_rules, bif_and, bif_or] at hg); (first | ((repeat' apply And.intro) <;> omega) | exact sd_))) ?_
     refine g_un ?_
     refine u_pk ?_
     refine lg_nil ?_
     refine h18 _ ?_; clear h18; try clear N18
     refine u_cond (fun hb19 => ?_) (fun hb19 => ?_)
     ·first | omega | exact absurd trivial hb19 | contradiction | (simp_all; done)
     ·refine vc_skip ?_
      try simp only [k_rules]
      refine h17 _ ?_; clear h17; try clear N17
      refine vc_seq_k fun N20 h20 => ?_
      refine vc_seq_k fun N21 h21 => ?_
      refine u_reg ?_
      try refine lg_mk ?_
      refine u_mv ?_
      refine u_ln ?_
      refine u_bn ?_
      refine lg_nil ?_
      refine h21 _ ?_; clear h21; try clear N21
      refine u_cond (fun hb22 => ?_) (fun hb22 => ?_)
      ·refine vc_seq_k fun N23 h23 => ?_
       refine vc_regT [] (.alt 0 (.seq [1, 2, 3, 4, 5, 6, 7, 8] .nil) (.alt 1 (.seq [0, 2, 3, 4, 5, 6, 7, 8] .nil) .nil)) hmix (by kernel_rfl) ?_
       refine at_alt ?_ ?_
       ·simp only [pick_rules, list_rules]
        try refine lg_mk ?_
        refine u_ld ?_
        refine lg_nil ?_
        refine at_seq ?_
        simp only [pick_rules, list_rules]
        try refine lg_mk ?_
        have hc := call_rule (E := (E_exG.at_ 78)) (f := 10) (sp := Spec.pure faultG) rfl
        have hs := @faultG.eq_1
        refine u_cp ?_
        refine u_bn ?_
        refine u_mv ?_
        refine g_mv ?_
        refine g_ln ?_
        refine g_bn ?_
        refine u_pk ?_
        refine u_mv ?_
        refine lg_nil ?_
        refine at_nil ?_
        refine h23 _ ?_; clear h23; try clear N23
        refine vc_ret ?_
        try simp only [k_rules]
        refine fin2_ ?_
        (repeat' apply And.intro) <;> (first | (first | rfl | (simp; done) | (simp [*]; done) | (left; rfl)) | exact cl_)
       refine at_alt ?_ ?_
       ·simp only [pick_rules, list_rules]
        try refine lg_mk ?_
        have hc := call_rule (E := (E_exG.at_ 78)) (f := 10) (sp := Spec.pure faultG) rfl
        have hs := @faultG.eq_1
        refine u_cp ?_
        refine lg_nil ?_
        refine at_seq ?_
        simp only [pick_rules, list_rules]
        try refine lg_mk ?_
        refine u_ld ?_
        refine u_bn ?_
        refine u_mv ?_
        refine g_mv ?_
        refine g_ln ?_
        refine g_bn ?_
        refine u_pk ?_
        refine u_mv ?_
        refine lg_nil ?_
        refine at_nil ?_
        refine h23 _ ?_; clear h23; try clear N23
        refine vc_ret ?_
        try simp only [k_rules]
        refine fin2_ ?_
        (repeat' apply And.intro) <;> (first | (first | rfl | (simp; done) | (simp [*]; done) | (left; rfl)) | exact cl_)
       exact at_end
      ·first | omega | exact absurd trivial hb22 | contradiction | (simp_all; done)
   ·obtain ⟨p1, hv, p2, hml, p3, p4, p5⟩ := hcs
    have hlen := hv.len
    have q1 := insA_len (misA S)
    have q2 := mkV_len S R
    have p6 : ((50 : Int) < (R.length : Int)) = False := eq_false (by omega)
    have q3 : (chs S (mkV S R) true).length ≤ 40 := by have := chs_len S (mkV S R) true S.length; rw [takeS_len, List.take_of_length_le (by omega)] at this; omega
    have q4 := dgs_len (chs S (mkV S R) true)
    have hx0 := And.intro @p1 (And.intro @p2 (And.intro @p4 (And.intro @p5 (And.intro @p6 (hx0)))))
    have hx := hx0
    refine u_reg ?_
    try refine lg_mk ?_
    refine u_ld ?_
    refine u_mv ?_
    have hc := call_rule (E := (E_exG.at_ 78)) (f := 5) (sp := Spec.pure markG) rfl
    have hs := @markG.eq_1
    refine u_hp (hq := by (first | (exact ⟨hl, hsm, hrl⟩) | exact sd_)) ?_
    refine u_mv ?_
    refine u_ex ?_
    refine u_ex ?_
    refine u_al ?_
    refine u_mv ?_
    refine u_st ?_
    refine lg_nil ?_
    refine h5 _ ?_; clear h5; try clear N5
    refine vc_seq_k fun N24 h24 => ?_
    refine u_reg ?_
    try refine lg_mk ?_
    refine u_ld ?_
    have hc := call_rule (E := (E_exG.at_ 78)) (f := 6) (sp := Spec.pure misG) rfl
    have hs := @misG.eq_1
    refine u_hp (hq := by (first | (exact ⟨hl, hsm⟩) | exact sd_)) ?_
    refine u_mv ?_
    refine u_ex ?_
    refine u_ex ?_
    refine u_al ?_
    refine u_mv ?_
    refine u_st ?_
    refine lg_nil ?_
    refine h24 _ ?_; clear h24; try clear N24
    refine vc_seq_k fun N25 h25 => ?_
    refine u_reg ?_
    try refine lg_mk ?_
    refine u_ld ?_
    have hc := call_rule (E := (E_exG.at_ 78)) (f := 7) (sp := Spec.pure valG) rfl
    have hs := @valG.eq_1
    refine u_cp (hq := by (first | (exact ⟨hl, hsm⟩) | exact sd_)) ?_
    refine u_al ?_
    refine u_st ?_
    refine lg_nil ?_
    refine h25 _ ?_; clear h25; try clear N25
    refine vc_seq_k fun N26 h26 => ?_
    refine vc_seq_k fun N27 h27 => ?_
    refine u_reg ?_
    try refine lg_mk ?_
    refine u_pt ?_
    refine u_ld ?_
    refine u_bn ?_
    refine lg_nil ?_
    refine h27 _ ?_; clear h27; try clear N27
    refine u_cond (fun hb28 => ?_) (fun hb28 => ?_)
    ·first | omega | exact absurd trivial hb28 | contradiction | (simp_all; done)
    ·refine vc_skip ?_
     try simp only [k_rules]
     refine h26 _ ?_; clear h26; try clear N26
     refine vc_seq_k fun N29 h29 => ?_
     refine vc_seq_k fun N30 h30 => ?_
     refine u_reg ?_
     try refine lg_mk ?_
     refine u_pt ?_
     refine u_ld ?_
     refine u_bn ?_
     refine u_mv ?_
     refine g_mv ?_
     refine g_ld ?_
     have hc := call_rule (E := (E_exG.at_ 78)) (f := 9) (sp := Spec.pure misRG) rfl
     have hs := @misRG.eq_1
     refine t_hp (hq := by (first | (exact hv) | exact sd_)) ?_
     have hc := call_rule (E := (E_exG.at_ 78)) (f := 8) (sp := Spec.pure intsG) rfl
     have hs := @intsG.eq_1
     refine s_cp (hq := by (intro hg; (try simp only [b_rules, bif_and, bif_or] at hg); (first | ((repeat' apply And.intro) <;> omega) | exact sd_))) ?_
     refine g_un ?_
     refine u_pk ?_
     refine lg_nil ?_
     refine h30 _ ?_; clear h30; try clear N30
     refine u_cond (fun hb31 => ?_) (fun hb31 => ?_)
     ·first | omega | exact absurd trivial hb31 | contradiction | (simp_all; done)
     ·refine vc_skip ?_
      try simp only [k_rules]
      refine h29 _ ?_; clear h29; try clear N29
      refine vc_seq_k fun N32 h32 => ?_
      refine vc_seq_k fun N33 h33 => ?_
      refine u_reg ?_
      try refine lg_mk ?_
      refine u_mv ?_
      refine u_ln ?_
      refine u_bn ?_
      refine lg_nil ?_
      refine h33 _ ?_; clear h33; try clear N33
      refine u_cond (fun hb34 => ?_) (fun hb34 => ?_)
      ·first | omega | exact absurd trivial hb34 | contradiction | (simp_all; done)
      ·refine vc_skip ?_
       try simp only [k_rules]
       refine h32 _ ?_; clear h32; try clear N32
       refine vc_seq_k fun N35 h35 => ?_
       refine vc_regG [13, 12, 11, 8] hmix (by kernel_rfl) ?_
       try refine lg_mk ?_
       refine u_pt ?_
       refine u_ld ?_
       refine u_bn ?_
       refine u_mv ?_
       refine g_mv ?_
       refine g_ld ?_
       refine g_ld ?_
       refine g_mv ?_
       have hc := call_rule (E := (E_exG.at_ 78)) (f := 13) (sp := Spec.pure markedG) rfl
       have hs := @markedG.eq_1
       refine t_hp (hq := by (first | (exact ⟨hv, by omega⟩) | exact sd_)) ?_
       have hc := call_rule (E := (E_exG.at_ 78)) (f := 12) (sp := Spec.pure chsG) rfl
       have hs := @chsG.eq_1
       refine t_hp (hq := by (first | (exact ⟨q2, by omega⟩) | exact sd_)) ?_
       have hc := call_rule (E := (E_exG.at_ 78)) (f := 11) (sp := Spec.pure dgsG) rfl
       have hs := @dgsG.eq_1
       refine t_hp (hq := by (first | (omega) | exact sd_)) ?_
       have hc := call_rule (E := (E_exG.at_ 78)) (f := 8) (sp := Spec.pure intsG) rfl
       have hs := @intsG.eq_1
       refine s_cp (hq := by (intro hg; (try simp only [b_rules, bif_and, bif_or] at hg); (first | ((repeat' apply And.intro) <;> omega) | exact sd_))) ?_
       refine u_pk ?_
       refine u_mv ?_
       refine lg_nil ?_
       refine h35 _ ?_; clear h35; try clear N35
       refine vc_ret ?_
       try simp only [k_rules]
       refine fin2_ ?_
       (repeat' apply And.intro) <;> (first | (first | rfl | (simp; done) | (simp [*]; done) | (left; rfl)) | exact cl_)
 ·cases hg
end Go.Proofs.YtoagbjhlpfepkaaGreatDoor
