/- Walks, printed by wip/gen/walk.py. -/
import Derived.Test.YtgnahopdiljikaaT27
import Derived.Test.YtgnahopdiljikaaV5
set_option linter.all false
set_option maxRecDepth 100000
set_option maxHeartbeats 4000000
namespace Go.Proofs.Ytgnahopdiljikaa
open Go Go.Vc Go.RowKit
theorem lawNe_meets : Meets Try.prog 4 (Spec.pure lawNG) := by
 refine meets_fun (E_exP.at_ 65) Try.func4 rfl rfl rfl ?_
 intro args p r hg hp
 unfold lawNG at hg
 split at hg
 ·rename_i xs ps rs
  simp only [Option.some.injEq, Prod.mk.injEq] at hg
  obtain ⟨rfl, rfl⟩ := hg
  obtain ⟨he, hl, hsm, he2, hpl, he3, hrl⟩ := hp
  generalize dO xs = S at *
  generalize dI ps = P at *
  generalize dI rs = R at *
  subst he he2 he3
  have hT : (E_exP).X = T := rfl
  have hx0 := And.intro @rect_eO (And.intro @dI_rows (And.intro @dU_rows (And.intro @dO_rows (And.intro @dB_rows (And.intro @dec_t (And.intro @dec_f @Try.results4))))))
  have hx := hx0
  refine ⟨by rfl, ?_⟩
  intro F W0 hnp hmk
  refine vc_seq_k fun N1 h1 => ?_
  refine u_reg ?_
  try refine lg_mk ?_
  refine u_bx ?_
  refine u_mv ?_
  refine lg_nil ?_
  refine h1 _ ?_; clear h1; try clear N1
  refine vc_seq_k fun N2 h2 => ?_
  refine vc_seq_k fun N3 h3 => ?_
  refine u_reg ?_
  try refine lg_mk ?_
  have hc := call_rule (E := (E_exP.at_ 65)) (f := 9) (sp := Spec.pure exG) rfl
  have hs := @exG.eq_1
  refine u_cp ?_
  refine u_un ?_
  refine lg_nil ?_
  refine h3 _ ?_; clear h3; try clear N3
  refine u_cond (fun hb4 => ?_) (fun hb4 => ?_)
  ·first | omega | exact absurd trivial hb4 | contradiction | (simp_all; done)
  ·refine vc_skip ?_
   try simp only [k_rules]
   refine h2 _ ?_; clear h2; try clear N2
   refine vc_seq_k fun N5 h5 => ?_
   rcases ned_or S P R with hcs | hcs | hcs | hcs
   ·obtain ⟨p1, p2, p3⟩ := hcs
    have hx0 := And.intro @p1 (And.intro @p2 (And.intro @p3 (hx0)))
    have hx := hx0
    refine u_reg ?_
    try refine lg_mk ?_
    refine u_ld ?_
    refine u_mv ?_
    refine u_mv ?_
    have hc := call_rule (E := (E_exP.at_ 65)) (f := 18) (sp := Spec.pure needG) rfl
    have hs := @needG.eq_1
    refine u_hp (hq := by (first | (exact ⟨hl, hsm, hpl, hrl⟩) | exact sd_)) ?_
    refine u_mv ?_
    refine u_ex ?_
    refine u_ex ?_
    refine u_al ?_
    refine u_mv ?_
    refine u_st ?_
    refine lg_nil ?_
    refine h5 _ ?_; clear h5; try clear N5
    refine vc_seq_k fun N6 h6 => ?_
    refine u_reg ?_
    try refine lg_mk ?_
    refine u_ld ?_
    refine u_mv ?_
    have hc := call_rule (E := (E_exP.at_ 65)) (f := 19) (sp := Spec.pure proG) rfl
    have hs := @proG.eq_1
    refine u_cp (hq := by (first | (exact ⟨hl, hsm, hpl⟩) | exact sd_)) ?_
    refine u_al ?_
    refine u_st ?_
    refine lg_nil ?_
    refine h6 _ ?_; clear h6; try clear N6
    refine vc_seq_k fun N7 h7 => ?_
    refine vc_seq_k fun N8 h8 => ?_
    refine u_reg ?_
    try refine lg_mk ?_
    refine u_pt ?_
    refine u_ld ?_
    refine u_bn ?_
    refine u_mv ?_
    refine g_mv ?_
    refine g_ln ?_
    refine g_bn ?_
    refine u_pk ?_
    refine lg_nil ?_
    refine h8 _ ?_; clear h8; try clear N8
    refine u_cond (fun hb9 => ?_) (fun hb9 => ?_)
    ·first | omega | exact absurd trivial hb9 | contradiction | (simp_all; done)
    ·refine vc_skip ?_
     try simp only [k_rules]
     refine h7 _ ?_; clear h7; try clear N7
     refine vc_seq_k fun N10 h10 => ?_
     refine u_reg ?_
     try refine lg_mk ?_
     refine u_mv ?_
     refine lg_nil ?_
     refine h10 _ ?_; clear h10; try clear N10
     refine vc_seq_k fun N11 h11 => ?_
     refine vc_seq_k fun N12 h12 => ?_
     refine u_reg ?_
     try refine lg_mk ?_
     refine u_pt ?_
     refine u_ld ?_
     refine u_bn ?_
     refine lg_nil ?_
     refine h12 _ ?_; clear h12; try clear N12
     refine u_cond (fun hb13 => ?_) (fun hb13 => ?_)
     ·first | omega | exact absurd trivial hb13 | contradiction | (simp_all; done)
     ·refine vc_skip ?_
      try simp only [k_rules]
      refine h11 _ ?_; clear h11; try clear N11
      refine vc_seq_k fun N14 h14 => ?_
      refine vc_seq_k fun N15 h15 => ?_
      refine u_reg ?_
      try refine lg_mk ?_
      refine u_pt ?_
      refine u_ld ?_
      refine u_bn ?_
      refine lg_nil ?_
      refine h15 _ ?_; clear h15; try clear N15
      refine u_cond (fun hb16 => ?_) (fun hb16 => ?_)
      ·refine vc_seq_k fun N17 h17 => ?_
       refine u_reg ?_
       try refine lg_mk ?_
       refine u_ld ?_
       refine u_ld ?_
       refine u_bn ?_
       refine u_mv ?_
       refine g_mv ?_
       refine g_ln ?_
       refine g_bn ?_
       refine u_pk ?_
       refine u_mv ?_
       refine lg_nil ?_
       refine h17 _ ?_; clear h17; try clear N17
       refine vc_ret ?_
       try simp only [k_rules]
       refine fin2_ ?_
       (repeat' apply And.intro) <;> (first | (first | rfl | (simp; done) | (simp [*]; done) | (left; rfl)) | exact cl_)
      ·first | omega | exact absurd trivial hb16 | contradiction | (simp_all; done)
   ·obtain ⟨p1, hvp, h40, p2, p3⟩ := hcs
    have p6 : ((40 : Int) < (R.length : Int)) = True := eq_true (by omega)
    have hx0 := And.intro @p1 (And.intro @p2 (And.intro @p3 (And.intro @p6 (hx0))))
    have hx := hx0
    refine u_reg ?_
    try refine lg_mk ?_
    refine u_ld ?_
    refine u_mv ?_
    refine u_mv ?_
    have hc := call_rule (E := (E_exP.at_ 65)) (f := 18) (sp := Spec.pure needG) rfl
    have hs := @needG.eq_1
    refine u_hp (hq := by (first | (exact ⟨hl, hsm, hpl, hrl⟩) | exact sd_)) ?_
    refine u_mv ?_
    refine u_ex ?_
    refine u_ex ?_
    refine u_al ?_
    refine u_mv ?_
    refine u_st ?_
    refine lg_nil ?_
    refine h5 _ ?_; clear h5; try clear N5
    refine vc_seq_k fun N18 h18 => ?_
    refine u_reg ?_
    try refine lg_mk ?_
    refine u_ld ?_
    refine u_mv ?_
    have hc := call_rule (E := (E_exP.at_ 65)) (f := 19) (sp := Spec.pure proG) rfl
    have hs := @proG.eq_1
    refine u_cp (hq := by (first | (exact ⟨hl, hsm, hpl⟩) | exact sd_)) ?_
    refine u_al ?_
    refine u_st ?_
    refine lg_nil ?_
    refine h18 _ ?_; clear h18; try clear N18
    refine vc_seq_k fun N19 h19 => ?_
    refine vc_seq_k fun N20 h20 => ?_
    refine u_reg ?_
    try refine lg_mk ?_
    refine u_pt ?_
    refine u_ld ?_
    refine u_bn ?_
    refine u_mv ?_
    refine g_mv ?_
    refine g_ln ?_
    refine g_bn ?_
    refine u_pk ?_
    refine lg_nil ?_
    refine h20 _ ?_; clear h20; try clear N20
    refine u_cond (fun hb21 => ?_) (fun hb21 => ?_)
    ·refine u_reg ?_
     try refine lg_mk ?_
     have hc := call_rule (E := (E_exP.at_ 65)) (f := 13) (sp := Spec.pure faultG) rfl
     have hs := @faultG.eq_1
     refine u_cp ?_
     refine u_st ?_
     refine lg_nil ?_
     refine h19 _ ?_; clear h19; try clear N19
     refine vc_seq_k fun N22 h22 => ?_
     refine u_reg ?_
     try refine lg_mk ?_
     refine u_mv ?_
     refine lg_nil ?_
     refine h22 _ ?_; clear h22; try clear N22
     refine vc_seq_k fun N23 h23 => ?_
     refine vc_seq_k fun N24 h24 => ?_
     refine u_reg ?_
     try refine lg_mk ?_
     refine u_pt ?_
     refine u_ld ?_
     refine u_bn ?_
     refine lg_nil ?_
     refine h24 _ ?_; clear h24; try clear N24
     refine u_cond (fun hb25 => ?_) (fun hb25 => ?_)
     ·first | omega | exact absurd trivial hb25 | contradiction | (simp_all; done)
     ·refine vc_skip ?_
      try simp only [k_rules]
      refine h23 _ ?_; clear h23; try clear N23
      refine vc_seq_k fun N26 h26 => ?_
      refine vc_seq_k fun N27 h27 => ?_
      refine u_reg ?_
      try refine lg_mk ?_
      refine u_pt ?_
      refine u_ld ?_
      refine u_bn ?_
      refine lg_nil ?_
      refine h27 _ ?_; clear h27; try clear N27
      refine u_cond (fun hb28 => ?_) (fun hb28 => ?_)
      ·refine vc_seq_k fun N29 h29 => ?_
       refine u_reg ?_
       try refine lg_mk ?_
       refine u_ld ?_
       refine u_ld ?_
       refine u_bn ?_
       refine u_mv ?_
       refine g_mv ?_
       refine g_ln ?_
       refine g_bn ?_
       refine u_pk ?_
       refine u_mv ?_
       refine lg_nil ?_
       refine h29 _ ?_; clear h29; try clear N29
       refine vc_ret ?_
       try simp only [k_rules]
       refine fin2_ ?_
       (repeat' apply And.intro) <;> (first | (first | rfl | (simp; done) | (simp [*]; done) | (left; rfl)) | exact cl_)
      ·first | omega | exact absurd trivial hb28 | contradiction | (simp_all; done)
    ·first | omega | exact absurd trivial hb21 | contradiction | (simp_all; done)
   ·obtain ⟨p1, hvp, h40, p7, p2, p3⟩ := hcs
    have hpn := hvp.len
    have hnl : (nedL S P R).length ≤ P.length := List.length_filter_le ..
    have p6 : ((40 : Int) < (R.length : Int)) = False := eq_false (by omega)
    have hx0 := And.intro @p1 (And.intro @p2 (And.intro @p3 (And.intro @p6 (And.intro @p7 (hx0)))))
    have hx := hx0
    refine u_reg ?_
    try refine lg_mk ?_
    refine u_ld ?_
    refine u_mv ?_
    refine u_mv ?_
    have hc := call_rule (E := (E_exP.at_ 65)) (f := 18) (sp := Spec.pure needG) rfl
    have hs := @needG.eq_1
    refine u_hp (hq := by (first | (exact ⟨hl, hsm, hpl, hrl⟩) | exact sd_)) ?_
    refine u_mv ?_
    refine u_ex ?_
    refine u_ex ?_
    refine u_al ?_
    refine u_mv ?_
    refine u_st ?_
    refine lg_nil ?_
    refine h5 _ ?_; clear h5; try clear N5
    refine vc_seq_k fun N30 h30 => ?_
    refine u_reg ?_
    try refine lg_mk ?_
    refine u_ld ?_
    refine u_mv ?_
    have hc := call_rule (E := (E_exP.at_ 65)) (f := 19) (sp := Spec.pure proG) rfl
    have hs := @proG.eq_1
    refine u_cp (hq := by (first | (exact ⟨hl, hsm, hpl⟩) | exact sd_)) ?_
    refine u_al ?_
    refine u_st ?_
    refine lg_nil ?_
    refine h30 _ ?_; clear h30; try clear N30
    refine vc_seq_k fun N31 h31 => ?_
    refine vc_seq_k fun N32 h32 => ?_
    refine u_reg ?_
    try refine lg_mk ?_
    refine u_pt ?_
    refine u_ld ?_
    refine u_bn ?_
    refine u_mv ?_
    refine g_mv ?_
    refine g_ln ?_
    refine g_bn ?_
    refine u_pk ?_
    refine lg_nil ?_
    refine h32 _ ?_; clear h32; try clear N32
    refine u_cond (fun hb33 => ?_) (fun hb33 => ?_)
    ·first | omega | exact absurd trivial hb33 | contradiction | (simp_all; done)
    ·refine vc_skip ?_
     try simp only [k_rules]
     refine h31 _ ?_; clear h31; try clear N31
     refine vc_seq_k fun N34 h34 => ?_
     refine u_reg ?_
     try refine lg_mk ?_
     refine u_mv ?_
     refine lg_nil ?_
     refine h34 _ ?_; clear h34; try clear N34
     refine vc_seq_k fun N35 h35 => ?_
     refine vc_seq_k fun N36 h36 => ?_
     refine u_reg ?_
     try refine lg_mk ?_
     refine u_pt ?_
     refine u_ld ?_
     refine u_bn ?_
     refine lg_nil ?_
     refine h36 _ ?_; clear h36; try clear N36
     refine u_cond (fun hb37 => ?_) (fun hb37 => ?_)
     ·refine vc_seq_k fun N38 h38 => ?_
      refine u_reg ?_
      try refine lg_mk ?_
      refine u_mv ?_
      refine lg_nil ?_
      refine h38 _ ?_; clear h38; try clear N38
      refine vc_seq_k fun N39 h39 => ?_
      refine u_reg ?_
      try refine lg_mk ?_
      refine u_ld ?_
      refine u_mv ?_
      refine u_mv ?_
      have hc := call_rule (E := (E_exP.at_ 65)) (f := 20) (sp := Spec.pure nedRG) rfl
      have hs := @nedRG.eq_1
      refine u_hp (hq := by (first | (exact ⟨hvp, by omega⟩) | exact sd_)) ?_
      refine u_mv ?_
      refine u_ex ?_
      refine u_ex ?_
      refine u_mv ?_
      refine u_mv ?_
      refine lg_nil ?_
      refine h39 _ ?_; clear h39; try clear N39
      refine vc_seq_k fun N40 h40 => ?_
      refine u_reg ?_
      try refine lg_mk ?_
      refine u_mv ?_
      refine u_un ?_
      refine lg_nil ?_
      refine h40 _ ?_; clear h40; try clear N40
      refine u_cond (fun hb41 => ?_) (fun hb41 => ?_)
      ·refine u_reg ?_
       try refine lg_mk ?_
       have hc := call_rule (E := (E_exP.at_ 65)) (f := 13) (sp := Spec.pure faultG) rfl
       have hs := @faultG.eq_1
       refine u_cp ?_
       refine u_st ?_
       refine lg_nil ?_
       refine h35 _ ?_; clear h35; try clear N35
       refine vc_seq_k fun N42 h42 => ?_
       refine vc_seq_k fun N43 h43 => ?_
       refine u_reg ?_
       try refine lg_mk ?_
       refine u_pt ?_
       refine u_ld ?_
       refine u_bn ?_
       refine lg_nil ?_
       refine h43 _ ?_; clear h43; try clear N43
       refine u_cond (fun hb44 => ?_) (fun hb44 => ?_)
       ·refine vc_seq_k fun N45 h45 => ?_
        refine u_reg ?_
        try refine lg_mk ?_
        refine u_ld ?_
        refine u_ld ?_
        refine u_bn ?_
        refine u_mv ?_
        refine g_mv ?_
        refine g_ln ?_
        refine g_bn ?_
        refine u_pk ?_
        refine u_mv ?_
        refine lg_nil ?_
        refine h45 _ ?_; clear h45; try clear N45
        refine vc_ret ?_
        try simp only [k_rules]
        refine fin2_ ?_
        (repeat' apply And.intro) <;> (first | (first | rfl | (simp; done) | (simp [*]; done) | (left; rfl)) | exact cl_)
       ·first | omega | exact absurd trivial hb44 | contradiction | (simp_all; done)
      ·first | omega | exact absurd trivial hb41 | contradiction | (simp_all; done)
     ·first | omega | exact absurd trivial hb37 | contradiction | (simp_all; done)
   ·obtain ⟨p1, hvp, h40, p7, p2, p3⟩ := hcs
    have hpn := hvp.len
    have hnl : (nedL S P R).length ≤ P.length := List.length_filter_le ..
    have p6 : ((40 : Int) < (R.length : Int)) = False := eq_false (by omega)
    have hx0 := And.intro @p1 (And.intro @p2 (And.intro @p3 (And.intro @p6 (And.intro @p7 (hx0)))))
    have hx := hx0
    refine u_reg ?_
    try refine lg_mk ?_
    refine u_ld ?_
    refine u_mv ?_
    refine u_mv ?_
    have hc := call_rule (E := (E_exP.at_ 65)) (f := 18) (sp := Spec.pure needG) rfl
    have hs := @needG.eq_1
    refine u_hp (hq := by (first | (exact ⟨hl, hsm, hpl, hrl⟩) | exact sd_)) ?_
    refine u_mv ?_
    refine u_ex ?_
    refine u_ex ?_
    refine u_al ?_
    refine u_mv ?_
    refine u_st ?_
    refine lg_nil ?_
    refine h5 _ ?_; clear h5; try clear N5
    refine vc_seq_k fun N46 h46 => ?_
    refine u_reg ?_
    try refine lg_mk ?_
    refine u_ld ?_
    refine u_mv ?_
    have hc := call_rule (E := (E_exP.at_ 65)) (f := 19) (sp := Spec.pure proG) rfl
    have hs := @proG.eq_1
    refine u_cp (hq := by (first | (exact ⟨hl, hsm, hpl⟩) | exact sd_)) ?_
    refine u_al ?_
    refine u_st ?_
    refine lg_nil ?_
    refine h46 _ ?_; clear h46; try clear N46
    refine vc_seq_k fun N47 h47 => ?_
    refine vc_seq_k fun N48 h48 => ?_
    refine u_reg ?_
    try refine lg_mk ?_
    refine u_pt ?_
    refine u_ld ?_
    refine u_bn ?_
    refine u_mv ?_
    refine g_mv ?_
    refine g_ln ?_
    refine g_bn ?_
    refine u_pk ?_
    refine lg_nil ?_
    refine h48 _ ?_; clear h48; try clear N48
    refine u_cond (fun hb49 => ?_) (fun hb49 => ?_)
    ·first | omega | exact absurd trivial hb49 | contradiction | (simp_all; done)
    ·refine vc_skip ?_
     try simp only [k_rules]
     refine h47 _ ?_; clear h47; try clear N47
     refine vc_seq_k fun N50 h50 => ?_
     refine u_reg ?_
     try refine lg_mk ?_
     refine u_mv ?_
     refine lg_nil ?_
     refine h50 _ ?_; clear h50; try clear N50
     refine vc_seq_k fun N51 h51 => ?_
     refine vc_seq_k fun N52 h52 => ?_
     refine u_reg ?_
     try refine lg_mk ?_
     refine u_pt ?_
     refine u_ld ?_
     refine u_bn ?_
     refine lg_nil ?_
     refine h52 _ ?_; clear h52; try clear N52
     refine u_cond (fun hb53 => ?_) (fun hb53 => ?_)
     ·refine vc_seq_k fun N54 h54 => ?_
      refine u_reg ?_
      try refine lg_mk ?_
      refine u_mv ?_
      refine lg_nil ?_
      refine h54 _ ?_; clear h54; try clear N54
      refine vc_seq_k fun N55 h55 => ?_
      refine u_reg ?_
      try refine lg_mk ?_
      refine u_ld ?_
      refine u_mv ?_
      refine u_mv ?_
      have hc := call_rule (E := (E_exP.at_ 65)) (f := 20) (sp := Spec.pure nedRG) rfl
      have hs := @nedRG.eq_1
      refine u_hp (hq := by (first | (exact ⟨hvp, by omega⟩) | exact sd_)) ?_
      refine u_mv ?_
      refine u_ex ?_
      refine u_ex ?_
      refine u_mv ?_
      refine u_mv ?_
      refine lg_nil ?_
      refine h55 _ ?_; clear h55; try clear N55
      refine vc_seq_k fun N56 h56 => ?_
      refine u_reg ?_
      try refine lg_mk ?_
      refine u_mv ?_
      refine u_un ?_
      refine lg_nil ?_
      refine h56 _ ?_; clear h56; try clear N56
      refine u_cond (fun hb57 => ?_) (fun hb57 => ?_)
      ·first | omega | exact absurd trivial hb57 | contradiction | (simp_all; done)
      ·refine vc_skip ?_
       try simp only [k_rules]
       refine h51 _ ?_; clear h51; try clear N51
       refine vc_seq_k fun N58 h58 => ?_
       refine vc_seq_k fun N59 h59 => ?_
       refine u_reg ?_
       try refine lg_mk ?_
       refine u_pt ?_
       refine u_ld ?_
       refine u_bn ?_
       refine lg_nil ?_
       refine h59 _ ?_; clear h59; try clear N59
       refine u_cond (fun hb60 => ?_) (fun hb60 => ?_)
       ·first | omega | exact absurd trivial hb60 | contradiction | (simp_all; done)
       ·refine vc_skip ?_
        try simp only [k_rules]
        refine h58 _ ?_; clear h58; try clear N58
        refine vc_seq_k fun N61 h61 => ?_
        refine u_reg ?_
        try refine lg_mk ?_
        refine u_pt ?_
        refine u_ld ?_
        refine u_bn ?_
        refine u_mv ?_
        refine g_mv ?_
        refine g_mv ?_
        have hc := call_rule (E := (E_exP.at_ 65)) (f := 16) (sp := Spec.pure intsG) rfl
        have hs := @intsG.eq_1
        refine s_cp (hq := by (intro hg; (try simp only [b_rules, bif_and, bif_or] at hg); (first | (first | omega | exact ⟨by omega, by omega⟩) | exact sd_))) ?_
        refine u_pk ?_
        refine u_mv ?_
        refine lg_nil ?_
        refine h61 _ ?_; clear h61; try clear N61
        refine vc_ret ?_
        try simp only [k_rules]
        refine fin2_ ?_
        (repeat' apply And.intro) <;> (first | (first | rfl | (simp; done) | (simp [*]; done) | (left; rfl)) | exact cl_)
     ·first | omega | exact absurd trivial hb53 | contradiction | (simp_all; done)
 ·cases hg
end Go.Proofs.Ytgnahopdiljikaa
