/- Walks, printed by wip/gen/walk.py. -/
import Derived.Test.YtjpkgmmmmcgmeaaT14
import Derived.Test.YtjpkgmmmmcgmeaaV6
import Derived.Test.YtjpkgmmmmcgmeaaV5
set_option linter.all false
set_option maxRecDepth 100000
set_option maxHeartbeats 4000000
namespace Go.Proofs.Ytjpkgmmmmcgmeaa
open Go Go.Vc Go.RowKit
theorem lawSu_meets : Meets Try.prog 5 (Spec.pure lawLNG) := by
 refine meets_fun (E_exO.at_ 79) Try.func5 rfl rfl rfl ?_
 intro args p r hg hp
 unfold lawLNG at hg
 split at hg
 ·rename_i xs n
  simp only [Option.some.injEq, Prod.mk.injEq] at hg
  obtain ⟨rfl, rfl⟩ := hg
  obtain ⟨he, hl, hsm⟩ := hp
  generalize dM xs = l at *
  subst he
  have hT : (E_exO).X = T := rfl
  have hx0 := And.intro @rect_eM (And.intro @dI_rows (And.intro @dM_rows (And.intro @dC_rows (And.intro @dI_nil (And.intro @dM_nil (And.intro @rI_nil (And.intro @rM_nil (And.intro @dI_one (And.intro @rI_one (And.intro @dec_t (And.intro @dec_f @Try.results5)))))))))))
  have hx := hx0
  refine ⟨by rfl, ?_⟩
  intro F W0 hnp hmk
  refine vc_seq_k fun N1 h1 => ?_
  refine u_reg ?_
  try refine lg_mk ?_
  refine u_mv ?_
  refine lg_nil ?_
  refine h1 _ ?_; clear h1; try clear N1
  refine vc_seq_k fun N2 h2 => ?_
  refine vc_seq_k fun N3 h3 => ?_
  refine u_reg ?_
  try refine lg_mk ?_
  have hc := call_rule (E := (E_exO.at_ 79)) (f := 9) (sp := Spec.pure exG) rfl
  have hs := @exG.eq_1
  refine u_cp ?_
  refine u_un ?_
  refine lg_nil ?_
  refine h3 _ ?_; clear h3; try clear N3
  refine u_cond (fun hb4 => ?_) (fun hb4 => ?_)
  ·first | omega | exact absurd trivial hb4 | contradiction | (simp_all; done)
  ·refine vc_skip ?_
   try simp only [k_rules]
   refine h2 _ ?_; clear h2; try clear N2
   refine vc_seq_k fun N5 h5 => ?_
   rcases suc_or l n with hcs | hcs | hcs
   ·obtain ⟨p1, p2, p3, p4, p5⟩ := hcs
    have hx0 := And.intro @p1 (And.intro @p2 (And.intro @p3 (And.intro @p4 (And.intro @p5 (hx0)))))
    have hx := hx0
    refine u_reg ?_
    try refine lg_mk ?_
    refine u_mv ?_
    refine u_mv ?_
    have hc := call_rule (E := (E_exO.at_ 79)) (f := 16) (sp := Spec.pure sucG) rfl
    have hs := @sucG.eq_1
    refine u_hp ?_
    refine u_mv ?_
    refine u_ex ?_
    refine u_ex ?_
    refine u_al ?_
    refine u_mv ?_
    refine u_st ?_
    refine lg_nil ?_
    refine h5 _ ?_; clear h5; try clear N5
    refine vc_seq_k fun N6 h6 => ?_
    refine u_reg ?_
    try refine lg_mk ?_
    refine u_mv ?_
    have hc := call_rule (E := (E_exO.at_ 79)) (f := 17) (sp := Spec.pure divG) rfl
    have hs := @divG.eq_1
    refine u_hp ?_
    refine u_mv ?_
    refine u_ex ?_
    refine u_ex ?_
    refine u_al ?_
    refine u_mv ?_
    refine u_st ?_
    refine lg_nil ?_
    refine h6 _ ?_; clear h6; try clear N6
    refine vc_seq_k fun N7 h7 => ?_
    refine u_reg ?_
    try refine lg_mk ?_
    refine u_mv ?_
    have hc := call_rule (E := (E_exO.at_ 79)) (f := 11) (sp := Spec.pure valKG) rfl
    have hs := @valKG.eq_1
    refine u_cp ?_
    refine u_al ?_
    refine u_st ?_
    refine lg_nil ?_
    refine h7 _ ?_; clear h7; try clear N7
    refine vc_seq_k fun N8 h8 => ?_
    refine vc_seq_k fun N9 h9 => ?_
    refine vc_regT [] (.seq [0] (.alt 1 (.seq [2, 3] .nil) (.alt 2 (.seq [1, 3] .nil) .nil))) hmix (by kernel_rfl) ?_
    refine at_seq ?_
    simp only [pick_rules, list_rules]
    try refine lg_mk ?_
    refine u_mv ?_
    refine lg_nil ?_
    refine at_alt ?_ ?_
    ·simp only [pick_rules, list_rules]
     try refine lg_mk ?_
     have hc := call_rule (E := (E_exO.at_ 79)) (f := 18) (sp := Spec.pure valKG) rfl
     have hs := @valKG.eq_1
     refine u_cp ?_
     refine lg_nil ?_
     refine at_seq ?_
     simp only [pick_rules, list_rules]
     try refine lg_mk ?_
     refine u_ld ?_
     refine u_bn ?_
     refine lg_nil ?_
     refine at_nil ?_
     refine h9 _ ?_; clear h9; try clear N9
     refine u_cond (fun hb10 => ?_) (fun hb10 => ?_)
     ·first | omega | exact absurd trivial hb10 | contradiction | (simp_all; done)
     ·refine vc_skip ?_
      try simp only [k_rules]
      refine h8 _ ?_; clear h8; try clear N8
      refine vc_seq_k fun N11 h11 => ?_
      refine vc_seq_k fun N12 h12 => ?_
      refine u_reg ?_
      try refine lg_mk ?_
      refine u_pt ?_
      refine u_ld ?_
      refine u_bn ?_
      refine lg_nil ?_
      refine h12 _ ?_; clear h12; try clear N12
      refine u_cond (fun hb13 => ?_) (fun hb13 => ?_)
      ·refine vc_seq_k fun N14 h14 => ?_
       refine u_reg ?_
       try refine lg_mk ?_
       refine u_ld ?_
       refine u_ld ?_
       refine u_bn ?_
       refine u_mv ?_
       refine g_ld ?_
       refine g_ld ?_
       refine g_bn ?_
       refine u_pk ?_
       refine u_mv ?_
       refine g_mv ?_
       refine g_ln ?_
       refine g_mv ?_
       refine g_ln ?_
       refine g_bn ?_
       refine g_bn ?_
       refine u_pk ?_
       refine u_mv ?_
       refine lg_nil ?_
       refine h14 _ ?_; clear h14; try clear N14
       refine vc_ret ?_
       try simp only [k_rules]
       refine fin2_ ?_
       (repeat' apply And.intro) <;> (first | (first | rfl | (simp; done) | (simp [*]; done) | (left; rfl)) | exact cl_)
      ·first | omega | exact absurd trivial hb13 | contradiction | (simp_all; done)
    refine at_alt ?_ ?_
    ·simp only [pick_rules, list_rules]
     try refine lg_mk ?_
     refine u_ld ?_
     refine lg_nil ?_
     refine at_seq ?_
     simp only [pick_rules, list_rules]
     try refine lg_mk ?_
     have hc := call_rule (E := (E_exO.at_ 79)) (f := 18) (sp := Spec.pure valKG) rfl
     have hs := @valKG.eq_1
     refine u_cp ?_
     refine u_bn ?_
     refine lg_nil ?_
     refine at_nil ?_
     refine h9 _ ?_; clear h9; try clear N9
     refine u_cond (fun hb15 => ?_) (fun hb15 => ?_)
     ·first | omega | exact absurd trivial hb15 | contradiction | (simp_all; done)
     ·refine vc_skip ?_
      try simp only [k_rules]
      refine h8 _ ?_; clear h8; try clear N8
      refine vc_seq_k fun N16 h16 => ?_
      refine vc_seq_k fun N17 h17 => ?_
      refine u_reg ?_
      try refine lg_mk ?_
      refine u_pt ?_
      refine u_ld ?_
      refine u_bn ?_
      refine lg_nil ?_
      refine h17 _ ?_; clear h17; try clear N17
      refine u_cond (fun hb18 => ?_) (fun hb18 => ?_)
      ·refine vc_seq_k fun N19 h19 => ?_
       refine u_reg ?_
       try refine lg_mk ?_
       refine u_ld ?_
       refine u_ld ?_
       refine u_bn ?_
       refine u_mv ?_
       refine g_ld ?_
       refine g_ld ?_
       refine g_bn ?_
       refine u_pk ?_
       refine u_mv ?_
       refine g_mv ?_
       refine g_ln ?_
       refine g_mv ?_
       refine g_ln ?_
       refine g_bn ?_
       refine g_bn ?_
       refine u_pk ?_
       refine u_mv ?_
       refine lg_nil ?_
       refine h19 _ ?_; clear h19; try clear N19
       refine vc_ret ?_
       try simp only [k_rules]
       refine fin2_ ?_
       (repeat' apply And.intro) <;> (first | (first | rfl | (simp; done) | (simp [*]; done) | (left; rfl)) | exact cl_)
      ·first | omega | exact absurd trivial hb18 | contradiction | (simp_all; done)
    exact at_end
   ·obtain ⟨⟨hv, hrn⟩, p1, p2, p3, p4, p5, p6⟩ := hcs
    have hlen := hv.len
    have hdl := dvI_len2 l hlen
    have hin : (decide (0 ≤ n) && decide (n ≤ 59)) = false := hrn
    have hx0 := And.intro @p1 (And.intro @p2 (And.intro @p3 (And.intro @p4 (And.intro @p5 (And.intro @p6 (And.intro @hin (hx0)))))))
    have hx := hx0
    refine u_reg ?_
    try refine lg_mk ?_
    refine u_mv ?_
    refine u_mv ?_
    have hc := call_rule (E := (E_exO.at_ 79)) (f := 16) (sp := Spec.pure sucG) rfl
    have hs := @sucG.eq_1
    refine u_hp ?_
    refine u_mv ?_
    refine u_ex ?_
    refine u_ex ?_
    refine u_al ?_
    refine u_mv ?_
    refine u_st ?_
    refine lg_nil ?_
    refine h5 _ ?_; clear h5; try clear N5
    refine vc_seq_k fun N20 h20 => ?_
    refine u_reg ?_
    try refine lg_mk ?_
    refine u_mv ?_
    have hc := call_rule (E := (E_exO.at_ 79)) (f := 17) (sp := Spec.pure divG) rfl
    have hs := @divG.eq_1
    refine u_hp ?_
    refine u_mv ?_
    refine u_ex ?_
    refine u_ex ?_
    refine u_al ?_
    refine u_mv ?_
    refine u_st ?_
    refine lg_nil ?_
    refine h20 _ ?_; clear h20; try clear N20
    refine vc_seq_k fun N21 h21 => ?_
    refine u_reg ?_
    try refine lg_mk ?_
    refine u_mv ?_
    have hc := call_rule (E := (E_exO.at_ 79)) (f := 11) (sp := Spec.pure valKG) rfl
    have hs := @valKG.eq_1
    refine u_cp ?_
    refine u_al ?_
    refine u_st ?_
    refine lg_nil ?_
    refine h21 _ ?_; clear h21; try clear N21
    refine vc_seq_k fun N22 h22 => ?_
    refine vc_seq_k fun N23 h23 => ?_
    refine vc_regT [] (.seq [0] (.alt 1 (.seq [2, 3] .nil) (.alt 2 (.seq [1, 3] .nil) .nil))) hmix (by kernel_rfl) ?_
    refine at_seq ?_
    simp only [pick_rules, list_rules]
    try refine lg_mk ?_
    refine u_mv ?_
    refine lg_nil ?_
    refine at_alt ?_ ?_
    ·simp only [pick_rules, list_rules]
     try refine lg_mk ?_
     have hc := call_rule (E := (E_exO.at_ 79)) (f := 18) (sp := Spec.pure valKG) rfl
     have hs := @valKG.eq_1
     refine u_cp ?_
     refine lg_nil ?_
     refine at_seq ?_
     simp only [pick_rules, list_rules]
     try refine lg_mk ?_
     refine u_ld ?_
     refine u_bn ?_
     refine lg_nil ?_
     refine at_nil ?_
     refine h23 _ ?_; clear h23; try clear N23
     refine u_cond (fun hb24 => ?_) (fun hb24 => ?_)
     ·first | omega | exact absurd trivial hb24 | contradiction | (simp_all; done)
     ·refine vc_skip ?_
      try simp only [k_rules]
      refine h22 _ ?_; clear h22; try clear N22
      refine vc_seq_k fun N25 h25 => ?_
      refine vc_seq_k fun N26 h26 => ?_
      refine u_reg ?_
      try refine lg_mk ?_
      refine u_pt ?_
      refine u_ld ?_
      refine u_bn ?_
      refine lg_nil ?_
      refine h26 _ ?_; clear h26; try clear N26
      refine u_cond (fun hb27 => ?_) (fun hb27 => ?_)
      ·first | omega | exact absurd trivial hb27 | contradiction | (simp_all; done)
      ·refine vc_skip ?_
       try simp only [k_rules]
       refine h25 _ ?_; clear h25; try clear N25
       refine vc_seq_k fun N28 h28 => ?_
       refine vc_seq_k fun N29 h29 => ?_
       refine u_reg ?_
       try refine lg_mk ?_
       refine u_pt ?_
       refine u_ld ?_
       refine u_bn ?_
       refine u_mv ?_
       refine g_mv ?_
       refine g_mv ?_
       have hc := call_rule (E := (E_exO.at_ 79)) (f := 20) (sp := Spec.pure divRG) rfl
       have hs := @divRG.eq_1
       refine t_hp ?_
       have hc := call_rule (E := (E_exO.at_ 79)) (f := 19) (sp := Spec.pure intsG) rfl
       have hs := @intsG.eq_1
       refine g_cp ?_
       refine g_un ?_
       refine u_pk ?_
       refine lg_nil ?_
       refine h29 _ ?_; clear h29; try clear N29
       refine u_cond (fun hb30 => ?_) (fun hb30 => ?_)
       ·first | omega | exact absurd trivial hb30 | contradiction | (simp_all; done)
       ·refine vc_skip ?_
        try simp only [k_rules]
        refine h28 _ ?_; clear h28; try clear N28
        refine vc_seq_k fun N31 h31 => ?_
        refine vc_seq_k fun N32 h32 => ?_
        refine u_reg ?_
        try refine lg_mk ?_
        refine u_mv ?_
        have hc := call_rule (E := (E_exO.at_ 79)) (f := 21) (sp := Spec.pure inG) rfl
        have hs := @inG.eq_1
        refine u_cp ?_
        refine u_un ?_
        refine lg_nil ?_
        refine h32 _ ?_; clear h32; try clear N32
        refine u_cond (fun hb33 => ?_) (fun hb33 => ?_)
        ·refine vc_seq_k fun N34 h34 => ?_
         refine vc_regT [] (.alt 0 (.seq [1, 2, 3, 4, 5, 6, 7, 8] .nil) (.alt 1 (.seq [0, 2, 3, 4, 5, 6, 7, 8] .nil) .nil)) hmix (by kernel_rfl) ?_
         refine at_alt ?_ ?_
         ·simp only [pick_rules, list_rules]
          try refine lg_mk ?_
          refine u_ld ?_
          refine lg_nil ?_
          refine at_seq ?_
          simp only [pick_rules, list_rules]
          try refine lg_mk ?_
          have hc := call_rule (E := (E_exO.at_ 79)) (f := 12) (sp := Spec.pure faultG) rfl
          have hs := @faultG.eq_1
          refine u_cp ?_
          refine u_bn ?_
          refine u_mv ?_
          refine g_mv ?_
          refine g_ln ?_
          refine g_bn ?_
          refine u_pk ?_
          refine u_mv ?_
          refine lg_nil ?_
          refine at_nil ?_
          refine h34 _ ?_; clear h34; try clear N34
          refine vc_ret ?_
          try simp only [k_rules]
          refine fin2_ ?_
          (repeat' apply And.intro) <;> (first | (first | rfl | (simp; done) | (simp [*]; done) | (left; rfl)) | exact cl_)
         refine at_alt ?_ ?_
         ·simp only [pick_rules, list_rules]
          try refine lg_mk ?_
          have hc := call_rule (E := (E_exO.at_ 79)) (f := 12) (sp := Spec.pure faultG) rfl
          have hs := @faultG.eq_1
          refine u_cp ?_
          refine lg_nil ?_
          refine at_seq ?_
          simp only [pick_rules, list_rules]
          try refine lg_mk ?_
          refine u_ld ?_
          refine u_bn ?_
          refine u_mv ?_
          refine g_mv ?_
          refine g_ln ?_
          refine g_bn ?_
          refine u_pk ?_
          refine u_mv ?_
          refine lg_nil ?_
          refine at_nil ?_
          refine h34 _ ?_; clear h34; try clear N34
          refine vc_ret ?_
          try simp only [k_rules]
          refine fin2_ ?_
          (repeat' apply And.intro) <;> (first | (first | rfl | (simp; done) | (simp [*]; done) | (left; rfl)) | exact cl_)
         exact at_end
        ·first | omega | exact absurd trivial hb33 | contradiction | (simp_all; done)
    refine at_alt ?_ ?_
    ·simp only [pick_rules, list_rules]
     try refine lg_mk ?_
     refine u_ld ?_
     refine lg_nil ?_
     refine at_seq ?_
     simp only [pick_rules, list_rules]
     try refine lg_mk ?_
     have hc := call_rule (E := (E_exO.at_ 79)) (f := 18) (sp := Spec.pure valKG) rfl
     have hs := @valKG.eq_1
     refine u_cp ?_
     refine u_bn ?_
     refine lg_nil ?_
     refine at_nil ?_
     refine h23 _ ?_; clear h23; try clear N23
     refine u_cond (fun hb35 => ?_) (fun hb35 => ?_)
     ·first | omega | exact absurd trivial hb35 | contradiction | (simp_all; done)
     ·refine vc_skip ?_
      try simp only [k_rules]
      refine h22 _ ?_; clear h22; try clear N22
      refine vc_seq_k fun N36 h36 => ?_
      refine vc_seq_k fun N37 h37 => ?_
      refine u_reg ?_
      try refine lg_mk ?_
      refine u_pt ?_
      refine u_ld ?_
      refine u_bn ?_
      refine lg_nil ?_
      refine h37 _ ?_; clear h37; try clear N37
      refine u_cond (fun hb38 => ?_) (fun hb38 => ?_)
      ·first | omega | exact absurd trivial hb38 | contradiction | (simp_all; done)
      ·refine vc_skip ?_
       try simp only [k_rules]
       refine h36 _ ?_; clear h36; try clear N36
       refine vc_seq_k fun N39 h39 => ?_
       refine vc_seq_k fun N40 h40 => ?_
       refine u_reg ?_
       try refine lg_mk ?_
       refine u_pt ?_
       refine u_ld ?_
       refine u_bn ?_
       refine u_mv ?_
       refine g_mv ?_
       refine g_mv ?_
       have hc := call_rule (E := (E_exO.at_ 79)) (f := 20) (sp := Spec.pure divRG) rfl
       have hs := @divRG.eq_1
       refine t_hp ?_
       have hc := call_rule (E := (E_exO.at_ 79)) (f := 19) (sp := Spec.pure intsG) rfl
       have hs := @intsG.eq_1
       refine g_cp ?_
       refine g_un ?_
       refine u_pk ?_
       refine lg_nil ?_
       refine h40 _ ?_; clear h40; try clear N40
       refine u_cond (fun hb41 => ?_) (fun hb41 => ?_)
       ·first | omega | exact absurd trivial hb41 | contradiction | (simp_all; done)
       ·refine vc_skip ?_
        try simp only [k_rules]
        refine h39 _ ?_; clear h39; try clear N39
        refine vc_seq_k fun N42 h42 => ?_
        refine vc_seq_k fun N43 h43 => ?_
        refine u_reg ?_
        try refine lg_mk ?_
        refine u_mv ?_
        have hc := call_rule (E := (E_exO.at_ 79)) (f := 21) (sp := Spec.pure inG) rfl
        have hs := @inG.eq_1
        refine u_cp ?_
        refine u_un ?_
        refine lg_nil ?_
        refine h43 _ ?_; clear h43; try clear N43
        refine u_cond (fun hb44 => ?_) (fun hb44 => ?_)
        ·refine vc_seq_k fun N45 h45 => ?_
         refine vc_regT [] (.alt 0 (.seq [1, 2, 3, 4, 5, 6, 7, 8] .nil) (.alt 1 (.seq [0, 2, 3, 4, 5, 6, 7, 8] .nil) .nil)) hmix (by kernel_rfl) ?_
         refine at_alt ?_ ?_
         ·simp only [pick_rules, list_rules]
          try refine lg_mk ?_
          refine u_ld ?_
          refine lg_nil ?_
          refine at_seq ?_
          simp only [pick_rules, list_rules]
          try refine lg_mk ?_
          have hc := call_rule (E := (E_exO.at_ 79)) (f := 12) (sp := Spec.pure faultG) rfl
          have hs := @faultG.eq_1
          refine u_cp ?_
          refine u_bn ?_
          refine u_mv ?_
          refine g_mv ?_
          refine g_ln ?_
          refine g_bn ?_
          refine u_pk ?_
          refine u_mv ?_
          refine lg_nil ?_
          refine at_nil ?_
          refine h45 _ ?_; clear h45; try clear N45
          refine vc_ret ?_
          try simp only [k_rules]
          refine fin2_ ?_
          (repeat' apply And.intro) <;> (first | (first | rfl | (simp; done) | (simp [*]; done) | (left; rfl)) | exact cl_)
         refine at_alt ?_ ?_
         ·simp only [pick_rules, list_rules]
          try refine lg_mk ?_
          have hc := call_rule (E := (E_exO.at_ 79)) (f := 12) (sp := Spec.pure faultG) rfl
          have hs := @faultG.eq_1
          refine u_cp ?_
          refine lg_nil ?_
          refine at_seq ?_
          simp only [pick_rules, list_rules]
          try refine lg_mk ?_
          refine u_ld ?_
          refine u_bn ?_
          refine u_mv ?_
          refine g_mv ?_
          refine g_ln ?_
          refine g_bn ?_
          refine u_pk ?_
          refine u_mv ?_
          refine lg_nil ?_
          refine at_nil ?_
          refine h45 _ ?_; clear h45; try clear N45
          refine vc_ret ?_
          try simp only [k_rules]
          refine fin2_ ?_
          (repeat' apply And.intro) <;> (first | (first | rfl | (simp; done) | (simp [*]; done) | (left; rfl)) | exact cl_)
         exact at_end
        ·first | omega | exact absurd trivial hb44 | contradiction | (simp_all; done)
    exact at_end
   ·obtain ⟨⟨hv, hrn⟩, p1, p2, p3, p4, p5, p6⟩ := hcs
    have hlen := hv.len
    have hok := hv.okM
    have hdl := dvI_len2 l hlen
    have hsl : (sucK l n).length ≤ 60 := numK_len _ _
    have hin : (decide (0 ≤ n) && decide (n ≤ 59)) = true := hrn
    have hx0 := And.intro @p1 (And.intro @p2 (And.intro @p3 (And.intro @p4 (And.intro @p5 (And.intro @p6 (And.intro @hin (hx0)))))))
    have hx := hx0
    refine u_reg ?_
    try refine lg_mk ?_
    refine u_mv ?_
    refine u_mv ?_
    have hc := call_rule (E := (E_exO.at_ 79)) (f := 16) (sp := Spec.pure sucG) rfl
    have hs := @sucG.eq_1
    refine u_hp ?_
    refine u_mv ?_
    refine u_ex ?_
    refine u_ex ?_
    refine u_al ?_
    refine u_mv ?_
    refine u_st ?_
    refine lg_nil ?_
    refine h5 _ ?_; clear h5; try clear N5
    refine vc_seq_k fun N46 h46 => ?_
    refine u_reg ?_
    try refine lg_mk ?_
    refine u_mv ?_
    have hc := call_rule (E := (E_exO.at_ 79)) (f := 17) (sp := Spec.pure divG) rfl
    have hs := @divG.eq_1
    refine u_hp ?_
    refine u_mv ?_
    refine u_ex ?_
    refine u_ex ?_
    refine u_al ?_
    refine u_mv ?_
    refine u_st ?_
    refine lg_nil ?_
    refine h46 _ ?_; clear h46; try clear N46
    refine vc_seq_k fun N47 h47 => ?_
    refine u_reg ?_
    try refine lg_mk ?_
    refine u_mv ?_
    have hc := call_rule (E := (E_exO.at_ 79)) (f := 11) (sp := Spec.pure valKG) rfl
    have hs := @valKG.eq_1
    refine u_cp ?_
    refine u_al ?_
    refine u_st ?_
    refine lg_nil ?_
    refine h47 _ ?_; clear h47; try clear N47
    refine vc_seq_k fun N48 h48 => ?_
    refine vc_seq_k fun N49 h49 => ?_
    refine vc_regT [] (.seq [0] (.alt 1 (.seq [2, 3] .nil) (.alt 2 (.seq [1, 3] .nil) .nil))) hmix (by kernel_rfl) ?_
    refine at_seq ?_
    simp only [pick_rules, list_rules]
    try refine lg_mk ?_
    refine u_mv ?_
    refine lg_nil ?_
    refine at_alt ?_ ?_
    ·simp only [pick_rules, list_rules]
     try refine lg_mk ?_
     have hc := call_rule (E := (E_exO.at_ 79)) (f := 18) (sp := Spec.pure valKG) rfl
     have hs := @valKG.eq_1
     refine u_cp ?_
     refine lg_nil ?_
     refine at_seq ?_
     simp only [pick_rules, list_rules]
     try refine lg_mk ?_
     refine u_ld ?_
     refine u_bn ?_
     refine lg_nil ?_
     refine at_nil ?_
     refine h49 _ ?_; clear h49; try clear N49
     refine u_cond (fun hb50 => ?_) (fun hb50 => ?_)
     ·first | omega | exact absurd trivial hb50 | contradiction | (simp_all; done)
     ·refine vc_skip ?_
      try simp only [k_rules]
      refine h48 _ ?_; clear h48; try clear N48
      refine vc_seq_k fun N51 h51 => ?_
      refine vc_seq_k fun N52 h52 => ?_
      refine u_reg ?_
      try refine lg_mk ?_
      refine u_pt ?_
      refine u_ld ?_
      refine u_bn ?_
      refine lg_nil ?_
      refine h52 _ ?_; clear h52; try clear N52
      refine u_cond (fun hb53 => ?_) (fun hb53 => ?_)
      ·first | omega | exact absurd trivial hb53 | contradiction | (simp_all; done)
      ·refine vc_skip ?_
       try simp only [k_rules]
       refine h51 _ ?_; clear h51; try clear N51
       refine vc_seq_k fun N54 h54 => ?_
       refine vc_seq_k fun N55 h55 => ?_
       refine u_reg ?_
       try refine lg_mk ?_
       refine u_pt ?_
       refine u_ld ?_
       refine u_bn ?_
       refine u_mv ?_
       refine g_mv ?_
       refine g_mv ?_
       have hc := call_rule (E := (E_exO.at_ 79)) (f := 20) (sp := Spec.pure divRG) rfl
       have hs := @divRG.eq_1
       refine t_hp ?_
       have hc := call_rule (E := (E_exO.at_ 79)) (f := 19) (sp := Spec.pure intsG) rfl
       have hs := @intsG.eq_1
       refine g_cp ?_
       refine g_un ?_
       refine u_pk ?_
       refine lg_nil ?_
       refine h55 _ ?_; clear h55; try clear N55
       refine u_cond (fun hb56 => ?_) (fun hb56 => ?_)
       ·first | omega | exact absurd trivial hb56 | contradiction | (simp_all; done)
       ·refine vc_skip ?_
        try simp only [k_rules]
        refine h54 _ ?_; clear h54; try clear N54
        refine vc_seq_k fun N57 h57 => ?_
        refine vc_seq_k fun N58 h58 => ?_
        refine u_reg ?_
        try refine lg_mk ?_
        refine u_mv ?_
        have hc := call_rule (E := (E_exO.at_ 79)) (f := 21) (sp := Spec.pure inG) rfl
        have hs := @inG.eq_1
        refine u_cp ?_
        refine u_un ?_
        refine lg_nil ?_
        refine h58 _ ?_; clear h58; try clear N58
        refine u_cond (fun hb59 => ?_) (fun hb59 => ?_)
        ·first | omega | exact absurd trivial hb59 | contradiction | (simp_all; done)
        ·refine vc_skip ?_
         try simp only [k_rules]
         refine h57 _ ?_; clear h57; try clear N57
         refine vc_seq_k fun N60 h60 => ?_
         refine u_reg ?_
         try refine lg_mk ?_
         refine u_pt ?_
         refine u_ld ?_
         refine u_bn ?_
         refine u_mv ?_
         refine g_mv ?_
         refine g_mv ?_
         refine g_mv ?_
         have hc := call_rule (E := (E_exO.at_ 79)) (f := 22) (sp := Spec.pure sucRG) rfl
         have hs := @sucRG.eq_1
         refine t_hp ?_
         have hc := call_rule (E := (E_exO.at_ 79)) (f := 19) (sp := Spec.pure intsG) rfl
         have hs := @intsG.eq_1
         refine g_cp ?_
         refine u_pk ?_
         refine u_mv ?_
         refine lg_nil ?_
         refine h60 _ ?_; clear h60; try clear N60
         refine vc_ret ?_
         try simp only [k_rules]
         refine fin2_ ?_
         (repeat' apply And.intro) <;> (first | (first | rfl | (simp; done) | (simp [*]; done) | (left; rfl)) | exact cl_)
    refine at_alt ?_ ?_
    ·simp only [pick_rules, list_rules]
     try refine lg_mk ?_
     refine u_ld ?_
     refine lg_nil ?_
     refine at_seq ?_
     simp only [pick_rules, list_rules]
     try refine lg_mk ?_
     have hc := call_rule (E := (E_exO.at_ 79)) (f := 18) (sp := Spec.pure valKG) rfl
     have hs := @valKG.eq_1
     refine u_cp ?_
     refine u_bn ?_
     refine lg_nil ?_
     refine at_nil ?_
     refine h49 _ ?_; clear h49; try clear N49
     refine u_cond (fun hb61 => ?_) (fun hb61 => ?_)
     ·first | omega | exact absurd trivial hb61 | contradiction | (simp_all; done)
     ·refine vc_skip ?_
      try simp only [k_rules]
      refine h48 _ ?_; clear h48; try clear N48
      refine vc_seq_k fun N62 h62 => ?_
      refine vc_seq_k fun N63 h63 => ?_
      refine u_reg ?_
      try refine lg_mk ?_
      refine u_pt ?_
      refine u_ld ?_
      refine u_bn ?_
      refine lg_nil ?_
      refine h63 _ ?_; clear h63; try clear N63
      refine u_cond (fun hb64 => ?_) (fun hb64 => ?_)
      ·first | omega | exact absurd trivial hb64 | contradiction | (simp_all; done)
      ·refine vc_skip ?_
       try simp only [k_rules]
       refine h62 _ ?_; clear h62; try clear N62
       refine vc_seq_k fun N65 h65 => ?_
       refine vc_seq_k fun N66 h66 => ?_
       refine u_reg ?_
       try refine lg_mk ?_
       refine u_pt ?_
       refine u_ld ?_
       refine u_bn ?_
       refine u_mv ?_
       refine g_mv ?_
       refine g_mv ?_
       have hc := call_rule (E := (E_exO.at_ 79)) (f := 20) (sp := Spec.pure divRG) rfl
       have hs := @divRG.eq_1
       refine t_hp ?_
       have hc := call_rule (E := (E_exO.at_ 79)) (f := 19) (sp := Spec.pure intsG) rfl
       have hs := @intsG.eq_1
       refine g_cp ?_
       refine g_un ?_
       refine u_pk ?_
       refine lg_nil ?_
       refine h66 _ ?_; clear h66; try clear N66
       refine u_cond (fun hb67 => ?_) (fun hb67 => ?_)
       ·first | omega | exact absurd trivial hb67 | contradiction | (simp_all; done)
       ·refine vc_skip ?_
        try simp only [k_rules]
        refine h65 _ ?_; clear h65; try clear N65
        refine vc_seq_k fun N68 h68 => ?_
        refine vc_seq_k fun N69 h69 => ?_
        refine u_reg ?_
        try refine lg_mk ?_
        refine u_mv ?_
        have hc := call_rule (E := (E_exO.at_ 79)) (f := 21) (sp := Spec.pure inG) rfl
        have hs := @inG.eq_1
        refine u_cp ?_
        refine u_un ?_
        refine lg_nil ?_
        refine h69 _ ?_; clear h69; try clear N69
        refine u_cond (fun hb70 => ?_) (fun hb70 => ?_)
        ·first | omega | exact absurd trivial hb70 | contradiction | (simp_all; done)
        ·refine vc_skip ?_
         try simp only [k_rules]
         refine h68 _ ?_; clear h68; try clear N68
         refine vc_seq_k fun N71 h71 => ?_
         refine u_reg ?_
         try refine lg_mk ?_
         refine u_pt ?_
         refine u_ld ?_
         refine u_bn ?_
         refine u_mv ?_
         refine g_mv ?_
         refine g_mv ?_
         refine g_mv ?_
         have hc := call_rule (E := (E_exO.at_ 79)) (f := 22) (sp := Spec.pure sucRG) rfl
         have hs := @sucRG.eq_1
         refine t_hp ?_
         have hc := call_rule (E := (E_exO.at_ 79)) (f := 19) (sp := Spec.pure intsG) rfl
         have hs := @intsG.eq_1
         refine g_cp ?_
         refine u_pk ?_
         refine u_mv ?_
         refine lg_nil ?_
         refine h71 _ ?_; clear h71; try clear N71
         refine vc_ret ?_
         try simp only [k_rules]
         refine fin2_ ?_
         (repeat' apply And.intro) <;> (first | (first | rfl | (simp; done) | (simp [*]; done) | (left; rfl)) | exact cl_)
    exact at_end
 ·cases hg
end Go.Proofs.Ytjpkgmmmmcgmeaa
