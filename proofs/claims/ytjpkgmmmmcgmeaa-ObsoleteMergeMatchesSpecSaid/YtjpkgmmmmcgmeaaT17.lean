/- Walks, printed by wip/gen/walk.py. -/
import Derived.Test.YtjpkgmmmmcgmeaaT14
import Derived.Test.YtjpkgmmmmcgmeaaV6
import Derived.Test.YtjpkgmmmmcgmeaaV5
set_option linter.all false
set_option maxRecDepth 100000
set_option maxHeartbeats 4000000
namespace Go.Proofs.Ytjpkgmmmmcgmeaa
open Go Go.Vc Go.RowKit
theorem lawMm_meets : Meets Try.prog 3 (Spec.pure lawMMG) := by
 refine meets_fun (E_exO.at_ 64) Try.func3 rfl rfl rfl ?_
 intro args p r hg hp
 unfold lawMMG at hg
 split at hg
 ·rename_i xs ys
  simp only [Option.some.injEq, Prod.mk.injEq] at hg
  obtain ⟨rfl, rfl⟩ := hg
  obtain ⟨he, he2, hl, hl2, hsa, hsb⟩ := hp
  generalize dM xs = a at *
  generalize dM ys = b at *
  subst he he2
  have hms := mrg_small hsa hsb
  have hml := mrgK_len a b
  have hT : (E_exO).X = T := rfl
  have hx0 := And.intro @rect_eM (And.intro @dI_rows (And.intro @dM_rows (And.intro @dC_rows (And.intro @dI_nil (And.intro @dM_nil (And.intro @rI_nil (And.intro @rM_nil (And.intro @dI_one (And.intro @rI_one (And.intro @dec_t (And.intro @dec_f @Try.results3)))))))))))
  have hx := hx0
  refine ⟨by rfl, ?_⟩
  intro F W0 hnp hmk
  refine vc_seq_k fun N1 h1 => ?_
  refine u_reg ?_
  try refine lg_mk ?_
  refine u_mv ?_
  refine lg_nil ?_
  refine h1 _ ?_; clear h1; try clear N1
  refine vc_seq_k fun N2 h2 => ?_
  refine vc_seq_k fun N3 h3 => ?_
  refine u_reg ?_
  try refine lg_mk ?_
  have hc := call_rule (E := (E_exO.at_ 64)) (f := 9) (sp := Spec.pure exG) rfl
  have hs := @exG.eq_1
  refine u_cp ?_
  refine u_un ?_
  refine lg_nil ?_
  refine h3 _ ?_; clear h3; try clear N3
  refine u_cond (fun hb4 => ?_) (fun hb4 => ?_)
  ·first | omega | exact absurd trivial hb4 | contradiction | (simp_all; done)
  ·refine vc_skip ?_
   try simp only [k_rules]
   refine h2 _ ?_; clear h2; try clear N2
   refine vc_seq_k fun N5 h5 => ?_
   rcases mm_or a b with hcs | hcs | hcs | hcs | hcs
   ·obtain ⟨p1, p2, p3, p4⟩ := hcs
    have hx0 := And.intro @p1 (And.intro @p2 (And.intro @p3 (And.intro @p4 (hx0))))
    have hx := hx0
    refine u_reg ?_
    try refine lg_mk ?_
    refine u_mv ?_
    refine u_mv ?_
    have hc := call_rule (E := (E_exO.at_ 64)) (f := 10) (sp := Spec.pure mgG) rfl
    have hs := @mgG.eq_1
    refine u_hp ?_
    refine u_mv ?_
    refine u_ex ?_
    refine u_ex ?_
    refine u_al ?_
    refine u_mv ?_
    refine u_st ?_
    refine lg_nil ?_
    refine h5 _ ?_; clear h5; try clear N5
    refine vc_seq_k fun N6 h6 => ?_
    refine u_reg ?_
    try refine lg_mk ?_
    refine u_mv ?_
    have hc := call_rule (E := (E_exO.at_ 64)) (f := 11) (sp := Spec.pure valKG) rfl
    have hs := @valKG.eq_1
    refine u_cp ?_
    refine u_al ?_
    refine u_st ?_
    refine lg_nil ?_
    refine h6 _ ?_; clear h6; try clear N6
    refine vc_seq_k fun N7 h7 => ?_
    refine vc_seq_k fun N8 h8 => ?_
    refine u_reg ?_
    try refine lg_mk ?_
    refine u_pt ?_
    refine u_ld ?_
    refine u_bn ?_
    refine u_mv ?_
    refine g_mv ?_
    have hc := call_rule (E := (E_exO.at_ 64)) (f := 11) (sp := Spec.pure valKG) rfl
    have hs := @valKG.eq_1
    refine g_cp ?_
    refine g_pt ?_
    refine g_bn ?_
    refine u_pk ?_
    refine lg_nil ?_
    refine h8 _ ?_; clear h8; try clear N8
    refine u_cond (fun hb9 => ?_) (fun hb9 => ?_)
    ·first | omega | exact absurd trivial hb9 | contradiction | (simp_all; done)
    ·refine vc_skip ?_
     try simp only [k_rules]
     refine h7 _ ?_; clear h7; try clear N7
     refine vc_seq_k fun N10 h10 => ?_
     refine u_reg ?_
     try refine lg_mk ?_
     refine u_mv ?_
     refine lg_nil ?_
     refine h10 _ ?_; clear h10; try clear N10
     refine vc_seq_k fun N11 h11 => ?_
     refine vc_seq_k fun N12 h12 => ?_
     refine u_reg ?_
     try refine lg_mk ?_
     refine u_pt ?_
     refine u_ld ?_
     refine u_bn ?_
     refine lg_nil ?_
     refine h12 _ ?_; clear h12; try clear N12
     refine u_cond (fun hb13 => ?_) (fun hb13 => ?_)
     ·first | omega | exact absurd trivial hb13 | contradiction | (simp_all; done)
     ·refine vc_skip ?_
      try simp only [k_rules]
      refine h11 _ ?_; clear h11; try clear N11
      refine vc_seq_k fun N14 h14 => ?_
      refine vc_seq_k fun N15 h15 => ?_
      refine u_reg ?_
      try refine lg_mk ?_
      refine u_pt ?_
      refine u_ld ?_
      refine u_bn ?_
      refine lg_nil ?_
      refine h15 _ ?_; clear h15; try clear N15
      refine u_cond (fun hb16 => ?_) (fun hb16 => ?_)
      ·refine vc_seq_k fun N17 h17 => ?_
       refine u_reg ?_
       try refine lg_mk ?_
       refine u_ld ?_
       refine u_ld ?_
       refine u_bn ?_
       refine u_mv ?_
       refine g_mv ?_
       refine g_ln ?_
       refine g_bn ?_
       refine u_pk ?_
       refine u_mv ?_
       refine lg_nil ?_
       refine h17 _ ?_; clear h17; try clear N17
       refine vc_ret ?_
       try simp only [k_rules]
       refine fin2_ ?_
       (repeat' apply And.intro) <;> (first | (first | rfl | (simp; done) | (simp [*]; done) | (left; rfl)) | exact cl_)
      ·first | omega | exact absurd trivial hb16 | contradiction | (simp_all; done)
   ·obtain ⟨p1, p2, p3, p4, p5, p6⟩ := hcs
    have hx0 := And.intro @p1 (And.intro @p2 (And.intro @p3 (And.intro @p4 (And.intro @p5 (And.intro @p6 (hx0))))))
    have hx := hx0
    refine u_reg ?_
    try refine lg_mk ?_
    refine u_mv ?_
    refine u_mv ?_
    have hc := call_rule (E := (E_exO.at_ 64)) (f := 10) (sp := Spec.pure mgG) rfl
    have hs := @mgG.eq_1
    refine u_hp ?_
    refine u_mv ?_
    refine u_ex ?_
    refine u_ex ?_
    refine u_al ?_
    refine u_mv ?_
    refine u_st ?_
    refine lg_nil ?_
    refine h5 _ ?_; clear h5; try clear N5
    refine vc_seq_k fun N18 h18 => ?_
    refine u_reg ?_
    try refine lg_mk ?_
    refine u_mv ?_
    have hc := call_rule (E := (E_exO.at_ 64)) (f := 11) (sp := Spec.pure valKG) rfl
    have hs := @valKG.eq_1
    refine u_cp ?_
    refine u_al ?_
    refine u_st ?_
    refine lg_nil ?_
    refine h18 _ ?_; clear h18; try clear N18
    refine vc_seq_k fun N19 h19 => ?_
    refine vc_seq_k fun N20 h20 => ?_
    refine u_reg ?_
    try refine lg_mk ?_
    refine u_pt ?_
    refine u_ld ?_
    refine u_bn ?_
    refine u_mv ?_
    refine g_mv ?_
    have hc := call_rule (E := (E_exO.at_ 64)) (f := 11) (sp := Spec.pure valKG) rfl
    have hs := @valKG.eq_1
    refine g_cp ?_
    refine g_pt ?_
    refine g_bn ?_
    refine u_pk ?_
    refine lg_nil ?_
    refine h20 _ ?_; clear h20; try clear N20
    refine u_cond (fun hb21 => ?_) (fun hb21 => ?_)
    ·refine u_reg ?_
     try refine lg_mk ?_
     refine u_mv ?_
     have hc := call_rule (E := (E_exO.at_ 64)) (f := 11) (sp := Spec.pure valKG) rfl
     have hs := @valKG.eq_1
     refine u_cp ?_
     refine u_pt ?_
     have hc := call_rule (E := (E_exO.at_ 64)) (f := 12) (sp := Spec.pure faultG) rfl
     have hs := @faultG.eq_1
     refine u_cp ?_
     refine u_st ?_
     refine lg_nil ?_
     refine h19 _ ?_; clear h19; try clear N19
     refine vc_seq_k fun N22 h22 => ?_
     refine u_reg ?_
     try refine lg_mk ?_
     refine u_mv ?_
     refine lg_nil ?_
     refine h22 _ ?_; clear h22; try clear N22
     refine vc_seq_k fun N23 h23 => ?_
     refine vc_seq_k fun N24 h24 => ?_
     refine u_reg ?_
     try refine lg_mk ?_
     refine u_pt ?_
     refine u_ld ?_
     refine u_bn ?_
     refine lg_nil ?_
     refine h24 _ ?_; clear h24; try clear N24
     refine u_cond (fun hb25 => ?_) (fun hb25 => ?_)
     ·first | omega | exact absurd trivial hb25 | contradiction | (simp_all; done)
     ·refine vc_skip ?_
      try simp only [k_rules]
      refine h23 _ ?_; clear h23; try clear N23
      refine vc_seq_k fun N26 h26 => ?_
      refine vc_seq_k fun N27 h27 => ?_
      refine u_reg ?_
      try refine lg_mk ?_
      refine u_pt ?_
      refine u_ld ?_
      refine u_bn ?_
      refine lg_nil ?_
      refine h27 _ ?_; clear h27; try clear N27
      refine u_cond (fun hb28 => ?_) (fun hb28 => ?_)
      ·refine vc_seq_k fun N29 h29 => ?_
       refine u_reg ?_
       try refine lg_mk ?_
       refine u_ld ?_
       refine u_ld ?_
       refine u_bn ?_
       refine u_mv ?_
       refine g_mv ?_
       refine g_ln ?_
       refine g_bn ?_
       refine u_pk ?_
       refine u_mv ?_
       refine lg_nil ?_
       refine h29 _ ?_; clear h29; try clear N29
       refine vc_ret ?_
       try simp only [k_rules]
       refine fin2_ ?_
       (repeat' apply And.intro) <;> (first | (first | rfl | (simp; done) | (simp [*]; done) | (left; rfl)) | exact cl_)
      ·first | omega | exact absurd trivial hb28 | contradiction | (simp_all; done)
    ·first | omega | exact absurd trivial hb21 | contradiction | (simp_all; done)
   ·obtain ⟨⟨hva, hvb, hl40⟩, p1, p2, p3, p4, p5, p6⟩ := hcs
    have hla := hva.len
    have hlb := hvb.len
    have hmo := mrg_ok hva hvb
    have hx0 := And.intro @p1 (And.intro @p2 (And.intro @p3 (And.intro @p4 (And.intro @p5 (And.intro @p6 (hx0))))))
    have hx := hx0
    refine u_reg ?_
    try refine lg_mk ?_
    refine u_mv ?_
    refine u_mv ?_
    have hc := call_rule (E := (E_exO.at_ 64)) (f := 10) (sp := Spec.pure mgG) rfl
    have hs := @mgG.eq_1
    refine u_hp ?_
    refine u_mv ?_
    refine u_ex ?_
    refine u_ex ?_
    refine u_al ?_
    refine u_mv ?_
    refine u_st ?_
    refine lg_nil ?_
    refine h5 _ ?_; clear h5; try clear N5
    refine vc_seq_k fun N30 h30 => ?_
    refine u_reg ?_
    try refine lg_mk ?_
    refine u_mv ?_
    have hc := call_rule (E := (E_exO.at_ 64)) (f := 11) (sp := Spec.pure valKG) rfl
    have hs := @valKG.eq_1
    refine u_cp ?_
    refine u_al ?_
    refine u_st ?_
    refine lg_nil ?_
    refine h30 _ ?_; clear h30; try clear N30
    refine vc_seq_k fun N31 h31 => ?_
    refine vc_seq_k fun N32 h32 => ?_
    refine u_reg ?_
    try refine lg_mk ?_
    refine u_pt ?_
    refine u_ld ?_
    refine u_bn ?_
    refine u_mv ?_
    refine g_mv ?_
    have hc := call_rule (E := (E_exO.at_ 64)) (f := 11) (sp := Spec.pure valKG) rfl
    have hs := @valKG.eq_1
    refine g_cp ?_
    refine g_pt ?_
    refine g_bn ?_
    refine u_pk ?_
    refine lg_nil ?_
    refine h32 _ ?_; clear h32; try clear N32
    refine u_cond (fun hb33 => ?_) (fun hb33 => ?_)
    ·first | omega | exact absurd trivial hb33 | contradiction | (simp_all; done)
    ·refine vc_skip ?_
     try simp only [k_rules]
     refine h31 _ ?_; clear h31; try clear N31
     refine vc_seq_k fun N34 h34 => ?_
     refine u_reg ?_
     try refine lg_mk ?_
     refine u_mv ?_
     refine lg_nil ?_
     refine h34 _ ?_; clear h34; try clear N34
     refine vc_seq_k fun N35 h35 => ?_
     refine vc_seq_k fun N36 h36 => ?_
     refine u_reg ?_
     try refine lg_mk ?_
     refine u_pt ?_
     refine u_ld ?_
     refine u_bn ?_
     refine lg_nil ?_
     refine h36 _ ?_; clear h36; try clear N36
     refine u_cond (fun hb37 => ?_) (fun hb37 => ?_)
     ·refine vc_seq_k fun N38 h38 => ?_
      refine u_reg ?_
      try refine lg_mk ?_
      refine u_mv ?_
      refine u_mv ?_
      have hc := call_rule (E := (E_exO.at_ 64)) (f := 13) (sp := Spec.pure mrgG) rfl
      have hs := @mrgG.eq_1
      refine u_hp ?_
      refine u_mv ?_
      refine lg_nil ?_
      refine h38 _ ?_; clear h38; try clear N38
      refine vc_seq_k fun N39 h39 => ?_
      refine u_reg ?_
      try refine lg_mk ?_
      refine u_mv ?_
      refine u_ln ?_
      refine u_bn ?_
      refine lg_nil ?_
      refine h39 _ ?_; clear h39; try clear N39
      refine u_cond (fun hb40 => ?_) (fun hb40 => ?_)
      ·refine u_reg ?_
       try refine lg_mk ?_
       have hc := call_rule (E := (E_exO.at_ 64)) (f := 12) (sp := Spec.pure faultG) rfl
       have hs := @faultG.eq_1
       refine u_cp ?_
       refine u_st ?_
       refine lg_nil ?_
       refine h35 _ ?_; clear h35; try clear N35
       refine vc_seq_k fun N41 h41 => ?_
       refine vc_seq_k fun N42 h42 => ?_
       refine u_reg ?_
       try refine lg_mk ?_
       refine u_pt ?_
       refine u_ld ?_
       refine u_bn ?_
       refine lg_nil ?_
       refine h42 _ ?_; clear h42; try clear N42
       refine u_cond (fun hb43 => ?_) (fun hb43 => ?_)
       ·refine vc_seq_k fun N44 h44 => ?_
        refine u_reg ?_
        try refine lg_mk ?_
        refine u_ld ?_
        refine u_ld ?_
        refine u_bn ?_
        refine u_mv ?_
        refine g_mv ?_
        refine g_ln ?_
        refine g_bn ?_
        refine u_pk ?_
        refine u_mv ?_
        refine lg_nil ?_
        refine h44 _ ?_; clear h44; try clear N44
        refine vc_ret ?_
        try simp only [k_rules]
        refine fin2_ ?_
        (repeat' apply And.intro) <;> (first | (first | rfl | (simp; done) | (simp [*]; done) | (left; rfl)) | exact cl_)
       ·first | omega | exact absurd trivial hb43 | contradiction | (simp_all; done)
      ·first | omega | exact absurd trivial hb40 | contradiction | (simp_all; done)
     ·first | omega | exact absurd trivial hb37 | contradiction | (simp_all; done)
   ·obtain ⟨⟨hva, hvb, hl40⟩, p1, p2, p3, p4, p5, p6, p7⟩ := hcs
    have hla := hva.len
    have hlb := hvb.len
    have hmo := mrg_ok hva hvb
    have hx0 := And.intro @p1 (And.intro @p2 (And.intro @p3 (And.intro @p4 (And.intro @p5 (And.intro @p6 (And.intro @p7 (hx0)))))))
    have hx := hx0
    refine u_reg ?_
    try refine lg_mk ?_
    refine u_mv ?_
    refine u_mv ?_
    have hc := call_rule (E := (E_exO.at_ 64)) (f := 10) (sp := Spec.pure mgG) rfl
    have hs := @mgG.eq_1
    refine u_hp ?_
    refine u_mv ?_
    refine u_ex ?_
    refine u_ex ?_
    refine u_al ?_
    refine u_mv ?_
    refine u_st ?_
    refine lg_nil ?_
    refine h5 _ ?_; clear h5; try clear N5
    refine vc_seq_k fun N45 h45 => ?_
    refine u_reg ?_
    try refine lg_mk ?_
    refine u_mv ?_
    have hc := call_rule (E := (E_exO.at_ 64)) (f := 11) (sp := Spec.pure valKG) rfl
    have hs := @valKG.eq_1
    refine u_cp ?_
    refine u_al ?_
    refine u_st ?_
    refine lg_nil ?_
    refine h45 _ ?_; clear h45; try clear N45
    refine vc_seq_k fun N46 h46 => ?_
    refine vc_seq_k fun N47 h47 => ?_
    refine u_reg ?_
    try refine lg_mk ?_
    refine u_pt ?_
    refine u_ld ?_
    refine u_bn ?_
    refine u_mv ?_
    refine g_mv ?_
    have hc := call_rule (E := (E_exO.at_ 64)) (f := 11) (sp := Spec.pure valKG) rfl
    have hs := @valKG.eq_1
    refine g_cp ?_
    refine g_pt ?_
    refine g_bn ?_
    refine u_pk ?_
    refine lg_nil ?_
    refine h47 _ ?_; clear h47; try clear N47
    refine u_cond (fun hb48 => ?_) (fun hb48 => ?_)
    ·first | omega | exact absurd trivial hb48 | contradiction | (simp_all; done)
    ·refine vc_skip ?_
     try simp only [k_rules]
     refine h46 _ ?_; clear h46; try clear N46
     refine vc_seq_k fun N49 h49 => ?_
     refine u_reg ?_
     try refine lg_mk ?_
     refine u_mv ?_
     refine lg_nil ?_
     refine h49 _ ?_; clear h49; try clear N49
     refine vc_seq_k fun N50 h50 => ?_
     refine vc_seq_k fun N51 h51 => ?_
     refine u_reg ?_
     try refine lg_mk ?_
     refine u_pt ?_
     refine u_ld ?_
     refine u_bn ?_
     refine lg_nil ?_
     refine h51 _ ?_; clear h51; try clear N51
     refine u_cond (fun hb52 => ?_) (fun hb52 => ?_)
     ·refine vc_seq_k fun N53 h53 => ?_
      refine u_reg ?_
      try refine lg_mk ?_
      refine u_mv ?_
      refine u_mv ?_
      have hc := call_rule (E := (E_exO.at_ 64)) (f := 13) (sp := Spec.pure mrgG) rfl
      have hs := @mrgG.eq_1
      refine u_hp ?_
      refine u_mv ?_
      refine lg_nil ?_
      refine h53 _ ?_; clear h53; try clear N53
      refine vc_seq_k fun N54 h54 => ?_
      refine u_reg ?_
      try refine lg_mk ?_
      refine u_mv ?_
      refine u_ln ?_
      refine u_bn ?_
      refine lg_nil ?_
      refine h54 _ ?_; clear h54; try clear N54
      refine u_cond (fun hb55 => ?_) (fun hb55 => ?_)
      ·first | omega | exact absurd trivial hb55 | contradiction | (simp_all; done)
      ·refine vc_seq_k fun N56 h56 => ?_
       refine u_reg ?_
       try refine lg_mk ?_
       refine u_mv ?_
       have hc := call_rule (E := (E_exO.at_ 64)) (f := 14) (sp := Spec.pure cycG) rfl
       have hs := @cycG.eq_1
       refine u_cp ?_
       refine lg_nil ?_
       refine h56 _ ?_; clear h56; try clear N56
       refine u_cond (fun hb57 => ?_) (fun hb57 => ?_)
       ·refine u_reg ?_
        try refine lg_mk ?_
        have hc := call_rule (E := (E_exO.at_ 64)) (f := 12) (sp := Spec.pure faultG) rfl
        have hs := @faultG.eq_1
        refine u_cp ?_
        refine u_st ?_
        refine lg_nil ?_
        refine h50 _ ?_; clear h50; try clear N50
        refine vc_seq_k fun N58 h58 => ?_
        refine vc_seq_k fun N59 h59 => ?_
        refine u_reg ?_
        try refine lg_mk ?_
        refine u_pt ?_
        refine u_ld ?_
        refine u_bn ?_
        refine lg_nil ?_
        refine h59 _ ?_; clear h59; try clear N59
        refine u_cond (fun hb60 => ?_) (fun hb60 => ?_)
        ·refine vc_seq_k fun N61 h61 => ?_
         refine u_reg ?_
         try refine lg_mk ?_
         refine u_ld ?_
         refine u_ld ?_
         refine u_bn ?_
         refine u_mv ?_
         refine g_mv ?_
         refine g_ln ?_
         refine g_bn ?_
         refine u_pk ?_
         refine u_mv ?_
         refine lg_nil ?_
         refine h61 _ ?_; clear h61; try clear N61
         refine vc_ret ?_
         try simp only [k_rules]
         refine fin2_ ?_
         (repeat' apply And.intro) <;> (first | (first | rfl | (simp; done) | (simp [*]; done) | (left; rfl)) | exact cl_)
        ·first | omega | exact absurd trivial hb60 | contradiction | (simp_all; done)
       ·first | omega | exact absurd trivial hb57 | contradiction | (simp_all; done)
     ·first | omega | exact absurd trivial hb52 | contradiction | (simp_all; done)
   ·obtain ⟨⟨hva, hvb, hl40⟩, p1, p2, p3, p4, p5, p6, p7⟩ := hcs
    have hla := hva.len
    have hlb := hvb.len
    have hmo := mrg_ok hva hvb
    have hx0 := And.intro @p1 (And.intro @p2 (And.intro @p3 (And.intro @p4 (And.intro @p5 (And.intro @p6 (And.intro @p7 (hx0)))))))
    have hx := hx0
    refine u_reg ?_
    try refine lg_mk ?_
    refine u_mv ?_
    refine u_mv ?_
    have hc := call_rule (E := (E_exO.at_ 64)) (f := 10) (sp := Spec.pure mgG) rfl
    have hs := @mgG.eq_1
    refine u_hp ?_
    refine u_mv ?_
    refine u_ex ?_
    refine u_ex ?_
    refine u_al ?_
    refine u_mv ?_
    refine u_st ?_
    refine lg_nil ?_
    refine h5 _ ?_; clear h5; try clear N5
    refine vc_seq_k fun N62 h62 => ?_
    refine u_reg ?_
    try refine lg_mk ?_
    refine u_mv ?_
    have hc := call_rule (E := (E_exO.at_ 64)) (f := 11) (sp := Spec.pure valKG) rfl
    have hs := @valKG.eq_1
    refine u_cp ?_
    refine u_al ?_
    refine u_st ?_
    refine lg_nil ?_
    refine h62 _ ?_; clear h62; try clear N62
    refine vc_seq_k fun N63 h63 => ?_
    refine vc_seq_k fun N64 h64 => ?_
    refine u_reg ?_
    try refine lg_mk ?_
    refine u_pt ?_
    refine u_ld ?_
    refine u_bn ?_
    refine u_mv ?_
    refine g_mv ?_
    have hc := call_rule (E := (E_exO.at_ 64)) (f := 11) (sp := Spec.pure valKG) rfl
    have hs := @valKG.eq_1
    refine g_cp ?_
    refine g_pt ?_
    refine g_bn ?_
    refine u_pk ?_
    refine lg_nil ?_
    refine h64 _ ?_; clear h64; try clear N64
    refine u_cond (fun hb65 => ?_) (fun hb65 => ?_)
    ·first | omega | exact absurd trivial hb65 | contradiction | (simp_all; done)
    ·refine vc_skip ?_
     try simp only [k_rules]
     refine h63 _ ?_; clear h63; try clear N63
     refine vc_seq_k fun N66 h66 => ?_
     refine u_reg ?_
     try refine lg_mk ?_
     refine u_mv ?_
     refine lg_nil ?_
     refine h66 _ ?_; clear h66; try clear N66
     refine vc_seq_k fun N67 h67 => ?_
     refine vc_seq_k fun N68 h68 => ?_
     refine u_reg ?_
     try refine lg_mk ?_
     refine u_pt ?_
     refine u_ld ?_
     refine u_bn ?_
     refine lg_nil ?_
     refine h68 _ ?_; clear h68; try clear N68
     refine u_cond (fun hb69 => ?_) (fun hb69 => ?_)
     ·refine vc_seq_k fun N70 h70 => ?_
      refine u_reg ?_
      try refine lg_mk ?_
      refine u_mv ?_
      refine u_mv ?_
      have hc := call_rule (E := (E_exO.at_ 64)) (f := 13) (sp := Spec.pure mrgG) rfl
      have hs := @mrgG.eq_1
      refine u_hp ?_
      refine u_mv ?_
      refine lg_nil ?_
      refine h70 _ ?_; clear h70; try clear N70
      refine vc_seq_k fun N71 h71 => ?_
      refine u_reg ?_
      try refine lg_mk ?_
      refine u_mv ?_
      refine u_ln ?_
      refine u_bn ?_
      refine lg_nil ?_
      refine h71 _ ?_; clear h71; try clear N71
      refine u_cond (fun hb72 => ?_) (fun hb72 => ?_)
      ·first | omega | exact absurd trivial hb72 | contradiction | (simp_all; done)
      ·refine vc_seq_k fun N73 h73 => ?_
       refine u_reg ?_
       try refine lg_mk ?_
       refine u_mv ?_
       have hc := call_rule (E := (E_exO.at_ 64)) (f := 14) (sp := Spec.pure cycG) rfl
       have hs := @cycG.eq_1
       refine u_cp ?_
       refine lg_nil ?_
       refine h73 _ ?_; clear h73; try clear N73
       refine u_cond (fun hb74 => ?_) (fun hb74 => ?_)
       ·first | omega | exact absurd trivial hb74 | contradiction | (simp_all; done)
       ·refine vc_skip ?_
        try simp only [k_rules]
        refine h67 _ ?_; clear h67; try clear N67
        refine vc_seq_k fun N75 h75 => ?_
        refine vc_seq_k fun N76 h76 => ?_
        refine u_reg ?_
        try refine lg_mk ?_
        refine u_pt ?_
        refine u_ld ?_
        refine u_bn ?_
        refine lg_nil ?_
        refine h76 _ ?_; clear h76; try clear N76
        refine u_cond (fun hb77 => ?_) (fun hb77 => ?_)
        ·first | omega | exact absurd trivial hb77 | contradiction | (simp_all; done)
        ·refine vc_skip ?_
         try simp only [k_rules]
         refine h75 _ ?_; clear h75; try clear N75
         refine vc_seq_k fun N78 h78 => ?_
         refine u_reg ?_
         try refine lg_mk ?_
         refine u_pt ?_
         refine u_ld ?_
         refine u_bn ?_
         refine u_mv ?_
         refine g_mv ?_
         refine g_mv ?_
         have hc := call_rule (E := (E_exO.at_ 64)) (f := 15) (sp := Spec.pure mksG) rfl
         have hs := @mksG.eq_1
         refine g_cp ?_
         refine u_pk ?_
         refine u_mv ?_
         refine lg_nil ?_
         refine h78 _ ?_; clear h78; try clear N78
         refine vc_ret ?_
         try simp only [k_rules]
         refine fin2_ ?_
         (repeat' apply And.intro) <;> (first | (first | rfl | (simp; done) | (simp [*]; done) | (left; rfl)) | exact cl_)
     ·first | omega | exact absurd trivial hb69 | contradiction | (simp_all; done)
 ·cases hg
end Go.Proofs.Ytjpkgmmmmcgmeaa
