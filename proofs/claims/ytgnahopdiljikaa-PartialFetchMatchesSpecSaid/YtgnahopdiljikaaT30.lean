/- Walks, printed by wip/gen/walk.py. -/
import Derived.Test.YtgnahopdiljikaaT27
import Derived.Test.YtgnahopdiljikaaV5
set_option linter.all false
set_option maxRecDepth 100000
set_option maxHeartbeats 4000000
namespace Go.Proofs.Ytgnahopdiljikaa
open Go Go.Vc Go.RowKit
theorem lawFe_meets : Meets Try.prog 5 (Spec.pure lawTG) := by
 refine meets_fun (E_exP.at_ 92) Try.func5 rfl rfl rfl ?_
 intro args p r hg hp
 unfold lawTG at hg
 split at hg
 ·rename_i xs ps ys ws
  simp only [Option.some.injEq, Prod.mk.injEq] at hg
  obtain ⟨rfl, rfl⟩ := hg
  obtain ⟨he, hl, hsm, he2, hpl, he3, hl2, hsm2, he4, hwl⟩ := hp
  generalize dO xs = S at *
  generalize dI ps = P at *
  generalize dO ys = Rm at *
  generalize dI ws = W at *
  subst he he2 he3 he4
  have hT : (E_exP).X = T := rfl
  have hx0 := And.intro @rect_eO (And.intro @dI_rows (And.intro @dU_rows (And.intro @dO_rows (And.intro @dB_rows (And.intro @dec_t (And.intro @dec_f @Try.results5))))))
  have hx := hx0
  refine ⟨by rfl, ?_⟩
  intro F W0 hnp hmk
  refine vc_seq_k fun N1 h1 => ?_
  refine u_reg ?_
  try refine lg_mk ?_
  refine u_bx ?_
  refine u_bx ?_
  refine u_mv ?_
  refine lg_nil ?_
  refine h1 _ ?_; clear h1; try clear N1
  refine vc_seq_k fun N2 h2 => ?_
  refine vc_seq_k fun N3 h3 => ?_
  refine u_reg ?_
  try refine lg_mk ?_
  have hc := call_rule (E := (E_exP.at_ 92)) (f := 9) (sp := Spec.pure exG) rfl
  have hs := @exG.eq_1
  refine u_cp ?_
  refine u_un ?_
  refine lg_nil ?_
  refine h3 _ ?_; clear h3; try clear N3
  refine u_cond (fun hb4 => ?_) (fun hb4 => ?_)
  ·first | omega | exact absurd trivial hb4 | contradiction | (simp_all; done)
  ·refine vc_skip ?_
   try simp only [k_rules]
   refine h2 _ ?_; clear h2; try clear N2
   refine vc_seq_k fun N5 h5 => ?_
   rcases fet_or S P Rm W with hcs | hcs | hcs | hcs | hcs
   ·obtain ⟨p1, p2, p3, p4⟩ := hcs
    have hx0 := And.intro @p1 (And.intro @p2 (And.intro @p3 (And.intro @p4 (And.intro @hl2 (And.intro @hsm2 (hx0))))))
    have hx := hx0
    refine u_reg ?_
    try refine lg_mk ?_
    refine u_ld ?_
    refine u_mv ?_
    refine u_ld ?_
    refine u_mv ?_
    have hc := call_rule (E := (E_exP.at_ 92)) (f := 21) (sp := Spec.pure fetG) rfl
    have hs := @fetG.eq_1
    refine u_hp (hq := by (first | (exact ⟨hl, hsm, hpl, hl2, hsm2, hwl⟩) | exact sd_)) ?_
    refine u_mv ?_
    refine u_ex ?_
    refine u_ex ?_
    refine u_ex ?_
    refine u_al ?_
    refine u_al ?_
    refine u_st ?_
    refine u_mv ?_
    refine u_st ?_
    refine lg_nil ?_
    refine h5 _ ?_; clear h5; try clear N5
    refine vc_seq_k fun N6 h6 => ?_
    refine u_reg ?_
    try refine lg_mk ?_
    refine u_ld ?_
    refine u_mv ?_
    have hc := call_rule (E := (E_exP.at_ 92)) (f := 19) (sp := Spec.pure proG) rfl
    have hs := @proG.eq_1
    refine u_cp (hq := by (first | (exact ⟨hl, hsm, hpl⟩) | exact sd_)) ?_
    refine u_al ?_
    refine u_st ?_
    refine lg_nil ?_
    refine h6 _ ?_; clear h6; try clear N6
    refine vc_seq_k fun N7 h7 => ?_
    refine vc_seq_k fun N8 h8 => ?_
    refine u_reg ?_
    try refine lg_mk ?_
    refine u_pt ?_
    refine u_ld ?_
    refine u_bn ?_
    refine u_mv ?_
    refine g_ld ?_
    have hc := call_rule (E := (E_exP.at_ 92)) (f := 11) (sp := Spec.pure valG) rfl
    have hs := @valG.eq_1
    refine g_cp ?_
    refine g_pt ?_
    refine g_bn ?_
    refine u_pk ?_
    refine lg_nil ?_
    refine h8 _ ?_; clear h8; try clear N8
    refine u_cond (fun hb9 => ?_) (fun hb9 => ?_)
    ·first | omega | exact absurd trivial hb9 | contradiction | (simp_all; done)
    ·refine vc_skip ?_
     try simp only [k_rules]
     refine h7 _ ?_; clear h7; try clear N7
     refine vc_seq_k fun N10 h10 => ?_
     refine vc_seq_k fun N11 h11 => ?_
     refine u_reg ?_
     try refine lg_mk ?_
     refine u_pt ?_
     refine u_ld ?_
     refine u_bn ?_
     refine u_mv ?_
     refine g_mv ?_
     refine g_ln ?_
     refine g_bn ?_
     refine u_pk ?_
     refine lg_nil ?_
     refine h11 _ ?_; clear h11; try clear N11
     refine u_cond (fun hb12 => ?_) (fun hb12 => ?_)
     ·first | omega | exact absurd trivial hb12 | contradiction | (simp_all; done)
     ·refine vc_skip ?_
      try simp only [k_rules]
      refine h10 _ ?_; clear h10; try clear N10
      refine vc_seq_k fun N13 h13 => ?_
      refine u_reg ?_
      try refine lg_mk ?_
      refine u_bd ?_
      refine u_al ?_
      refine u_st ?_
      refine lg_nil ?_
      refine h13 _ ?_; clear h13; try clear N13
      refine vc_seq_k fun N14 h14 => ?_
      refine u_reg ?_
      try refine lg_mk ?_
      refine u_mv ?_
      refine lg_nil ?_
      refine h14 _ ?_; clear h14; try clear N14
      refine vc_seq_k fun N15 h15 => ?_
      refine vc_seq_k fun N16 h16 => ?_
      refine u_reg ?_
      try refine lg_mk ?_
      refine u_pt ?_
      refine u_ld ?_
      refine u_bn ?_
      refine lg_nil ?_
      refine h16 _ ?_; clear h16; try clear N16
      refine u_cond (fun hb17 => ?_) (fun hb17 => ?_)
      ·first | omega | exact absurd trivial hb17 | contradiction | (simp_all; done)
      ·refine vc_skip ?_
       try simp only [k_rules]
       refine h15 _ ?_; clear h15; try clear N15
       refine vc_seq_k fun N18 h18 => ?_
       refine vc_seq_k fun N19 h19 => ?_
       refine u_reg ?_
       try refine lg_mk ?_
       refine u_pt ?_
       refine u_ld ?_
       refine u_bn ?_
       refine lg_nil ?_
       refine h19 _ ?_; clear h19; try clear N19
       refine u_cond (fun hb20 => ?_) (fun hb20 => ?_)
       ·refine vc_seq_k fun N21 h21 => ?_
        refine u_reg ?_
        try refine lg_mk ?_
        refine u_ld ?_
        refine u_ld ?_
        refine u_bn ?_
        refine u_mv ?_
        refine g_pt ?_
        refine g_ld ?_
        refine g_ln ?_
        refine g_mv ?_
        refine g_ln ?_
        refine g_bn ?_
        refine g_bn ?_
        refine u_pk ?_
        refine u_mv ?_
        refine lg_nil ?_
        refine h21 _ ?_; clear h21; try clear N21
        refine vc_ret ?_
        try simp only [k_rules]
        refine fin2_ ?_
        (repeat' apply And.intro) <;> (first | (first | rfl | (simp; done) | (simp [*]; done) | (left; rfl)) | exact cl_)
       ·first | omega | exact absurd trivial hb20 | contradiction | (simp_all; done)
   ·obtain ⟨p1, p5, p2, p3, p4⟩ := hcs
    have hx0 := And.intro @p1 (And.intro @p2 (And.intro @p3 (And.intro @p4 (And.intro @p5 (And.intro @hl2 (And.intro @hsm2 (hx0)))))))
    have hx := hx0
    refine u_reg ?_
    try refine lg_mk ?_
    refine u_ld ?_
    refine u_mv ?_
    refine u_ld ?_
    refine u_mv ?_
    have hc := call_rule (E := (E_exP.at_ 92)) (f := 21) (sp := Spec.pure fetG) rfl
    have hs := @fetG.eq_1
    refine u_hp (hq := by (first | (exact ⟨hl, hsm, hpl, hl2, hsm2, hwl⟩) | exact sd_)) ?_
    refine u_mv ?_
    refine u_ex ?_
    refine u_ex ?_
    refine u_ex ?_
    refine u_al ?_
    refine u_al ?_
    refine u_st ?_
    refine u_mv ?_
    refine u_st ?_
    refine lg_nil ?_
    refine h5 _ ?_; clear h5; try clear N5
    refine vc_seq_k fun N22 h22 => ?_
    refine u_reg ?_
    try refine lg_mk ?_
    refine u_ld ?_
    refine u_mv ?_
    have hc := call_rule (E := (E_exP.at_ 92)) (f := 19) (sp := Spec.pure proG) rfl
    have hs := @proG.eq_1
    refine u_cp (hq := by (first | (exact ⟨hl, hsm, hpl⟩) | exact sd_)) ?_
    refine u_al ?_
    refine u_st ?_
    refine lg_nil ?_
    refine h22 _ ?_; clear h22; try clear N22
    refine vc_seq_k fun N23 h23 => ?_
    refine vc_seq_k fun N24 h24 => ?_
    refine u_reg ?_
    try refine lg_mk ?_
    refine u_pt ?_
    refine u_ld ?_
    refine u_bn ?_
    refine u_mv ?_
    refine g_ld ?_
    have hc := call_rule (E := (E_exP.at_ 92)) (f := 11) (sp := Spec.pure valG) rfl
    have hs := @valG.eq_1
    refine g_cp ?_
    refine g_pt ?_
    refine g_bn ?_
    refine u_pk ?_
    refine lg_nil ?_
    refine h24 _ ?_; clear h24; try clear N24
    refine u_cond (fun hb25 => ?_) (fun hb25 => ?_)
    ·refine u_reg ?_
     try refine lg_mk ?_
     refine u_ld ?_
     have hc := call_rule (E := (E_exP.at_ 92)) (f := 11) (sp := Spec.pure valG) rfl
     have hs := @valG.eq_1
     refine u_cp (hq := by (first | (exact ⟨hl2, hsm2⟩) | exact sd_)) ?_
     refine u_pt ?_
     have hc := call_rule (E := (E_exP.at_ 92)) (f := 13) (sp := Spec.pure faultG) rfl
     have hs := @faultG.eq_1
     refine u_cp ?_
     refine u_st ?_
     refine lg_nil ?_
     refine h23 _ ?_; clear h23; try clear N23
     refine vc_seq_k fun N26 h26 => ?_
     refine vc_seq_k fun N27 h27 => ?_
     refine u_reg ?_
     try refine lg_mk ?_
     refine u_pt ?_
     refine u_ld ?_
     refine u_bn ?_
     refine u_mv ?_
     refine g_mv ?_
     refine g_ln ?_
     refine g_bn ?_
     refine u_pk ?_
     refine lg_nil ?_
     refine h27 _ ?_; clear h27; try clear N27
     refine u_cond (fun hb28 => ?_) (fun hb28 => ?_)
     ·first | omega | exact absurd trivial hb28 | contradiction | (simp_all; done)
     ·refine vc_skip ?_
      try simp only [k_rules]
      refine h26 _ ?_; clear h26; try clear N26
      refine vc_seq_k fun N29 h29 => ?_
      refine u_reg ?_
      try refine lg_mk ?_
      refine u_bd ?_
      refine u_al ?_
      refine u_st ?_
      refine lg_nil ?_
      refine h29 _ ?_; clear h29; try clear N29
      refine vc_seq_k fun N30 h30 => ?_
      refine u_reg ?_
      try refine lg_mk ?_
      refine u_mv ?_
      refine lg_nil ?_
      refine h30 _ ?_; clear h30; try clear N30
      refine vc_seq_k fun N31 h31 => ?_
      refine vc_seq_k fun N32 h32 => ?_
      refine u_reg ?_
      try refine lg_mk ?_
      refine u_pt ?_
      refine u_ld ?_
      refine u_bn ?_
      refine lg_nil ?_
      refine h32 _ ?_; clear h32; try clear N32
      refine u_cond (fun hb33 => ?_) (fun hb33 => ?_)
      ·first | omega | exact absurd trivial hb33 | contradiction | (simp_all; done)
      ·refine vc_skip ?_
       try simp only [k_rules]
       refine h31 _ ?_; clear h31; try clear N31
       refine vc_seq_k fun N34 h34 => ?_
       refine vc_seq_k fun N35 h35 => ?_
       refine u_reg ?_
       try refine lg_mk ?_
       refine u_pt ?_
       refine u_ld ?_
       refine u_bn ?_
       refine lg_nil ?_
       refine h35 _ ?_; clear h35; try clear N35
       refine u_cond (fun hb36 => ?_) (fun hb36 => ?_)
       ·refine vc_seq_k fun N37 h37 => ?_
        refine u_reg ?_
        try refine lg_mk ?_
        refine u_ld ?_
        refine u_ld ?_
        refine u_bn ?_
        refine u_mv ?_
        refine g_pt ?_
        refine g_ld ?_
        refine g_ln ?_
        refine g_mv ?_
        refine g_ln ?_
        refine g_bn ?_
        refine g_bn ?_
        refine u_pk ?_
        refine u_mv ?_
        refine lg_nil ?_
        refine h37 _ ?_; clear h37; try clear N37
        refine vc_ret ?_
        try simp only [k_rules]
        refine fin2_ ?_
        (repeat' apply And.intro) <;> (first | (first | rfl | (simp; done) | (simp [*]; done) | (left; rfl)) | exact cl_)
       ·first | omega | exact absurd trivial hb36 | contradiction | (simp_all; done)
    ·first | omega | exact absurd trivial hb25 | contradiction | (simp_all; done)
   ·obtain ⟨p1, p5, h40, p2, p3, p4⟩ := hcs
    have p6 : ((40 : Int) < (W.length : Int)) = True := eq_true (by omega)
    have hx0 := And.intro @p1 (And.intro @p2 (And.intro @p3 (And.intro @p4 (And.intro @p5 (And.intro @p6 (And.intro @hl2 (And.intro @hsm2 (hx0))))))))
    have hx := hx0
    refine u_reg ?_
    try refine lg_mk ?_
    refine u_ld ?_
    refine u_mv ?_
    refine u_ld ?_
    refine u_mv ?_
    have hc := call_rule (E := (E_exP.at_ 92)) (f := 21) (sp := Spec.pure fetG) rfl
    have hs := @fetG.eq_1
    refine u_hp (hq := by (first | (exact ⟨hl, hsm, hpl, hl2, hsm2, hwl⟩) | exact sd_)) ?_
    refine u_mv ?_
    refine u_ex ?_
    refine u_ex ?_
    refine u_ex ?_
    refine u_al ?_
    refine u_al ?_
    refine u_st ?_
    refine u_mv ?_
    refine u_st ?_
    refine lg_nil ?_
    refine h5 _ ?_; clear h5; try clear N5
    refine vc_seq_k fun N38 h38 => ?_
    refine u_reg ?_
    try refine lg_mk ?_
    refine u_ld ?_
    refine u_mv ?_
    have hc := call_rule (E := (E_exP.at_ 92)) (f := 19) (sp := Spec.pure proG) rfl
    have hs := @proG.eq_1
    refine u_cp (hq := by (first | (exact ⟨hl, hsm, hpl⟩) | exact sd_)) ?_
    refine u_al ?_
    refine u_st ?_
    refine lg_nil ?_
    refine h38 _ ?_; clear h38; try clear N38
    refine vc_seq_k fun N39 h39 => ?_
    refine vc_seq_k fun N40 h40 => ?_
    refine u_reg ?_
    try refine lg_mk ?_
    refine u_pt ?_
    refine u_ld ?_
    refine u_bn ?_
    refine u_mv ?_
    refine g_ld ?_
    have hc := call_rule (E := (E_exP.at_ 92)) (f := 11) (sp := Spec.pure valG) rfl
    have hs := @valG.eq_1
    refine g_cp ?_
    refine g_pt ?_
    refine g_bn ?_
    refine u_pk ?_
    refine lg_nil ?_
    refine h40 _ ?_; clear h40; try clear N40
    refine u_cond (fun hb41 => ?_) (fun hb41 => ?_)
    ·first | omega | exact absurd trivial hb41 | contradiction | (simp_all; done)
    ·refine vc_skip ?_
     try simp only [k_rules]
     refine h39 _ ?_; clear h39; try clear N39
     refine vc_seq_k fun N42 h42 => ?_
     refine vc_seq_k fun N43 h43 => ?_
     refine u_reg ?_
     try refine lg_mk ?_
     refine u_pt ?_
     refine u_ld ?_
     refine u_bn ?_
     refine u_mv ?_
     refine g_mv ?_
     refine g_ln ?_
     refine g_bn ?_
     refine u_pk ?_
     refine lg_nil ?_
     refine h43 _ ?_; clear h43; try clear N43
     refine u_cond (fun hb44 => ?_) (fun hb44 => ?_)
     ·refine u_reg ?_
      try refine lg_mk ?_
      have hc := call_rule (E := (E_exP.at_ 92)) (f := 13) (sp := Spec.pure faultG) rfl
      have hs := @faultG.eq_1
      refine u_cp ?_
      refine u_st ?_
      refine lg_nil ?_
      refine h42 _ ?_; clear h42; try clear N42
      refine vc_seq_k fun N45 h45 => ?_
      refine u_reg ?_
      try refine lg_mk ?_
      refine u_bd ?_
      refine u_al ?_
      refine u_st ?_
      refine lg_nil ?_
      refine h45 _ ?_; clear h45; try clear N45
      refine vc_seq_k fun N46 h46 => ?_
      refine u_reg ?_
      try refine lg_mk ?_
      refine u_mv ?_
      refine lg_nil ?_
      refine h46 _ ?_; clear h46; try clear N46
      refine vc_seq_k fun N47 h47 => ?_
      refine vc_seq_k fun N48 h48 => ?_
      refine u_reg ?_
      try refine lg_mk ?_
      refine u_pt ?_
      refine u_ld ?_
      refine u_bn ?_
      refine lg_nil ?_
      refine h48 _ ?_; clear h48; try clear N48
      refine u_cond (fun hb49 => ?_) (fun hb49 => ?_)
      ·first | omega | exact absurd trivial hb49 | contradiction | (simp_all; done)
      ·refine vc_skip ?_
       try simp only [k_rules]
       refine h47 _ ?_; clear h47; try clear N47
       refine vc_seq_k fun N50 h50 => ?_
       refine vc_seq_k fun N51 h51 => ?_
       refine u_reg ?_
       try refine lg_mk ?_
       refine u_pt ?_
       refine u_ld ?_
       refine u_bn ?_
       refine lg_nil ?_
       refine h51 _ ?_; clear h51; try clear N51
       refine u_cond (fun hb52 => ?_) (fun hb52 => ?_)
       ·refine vc_seq_k fun N53 h53 => ?_
        refine u_reg ?_
        try refine lg_mk ?_
        refine u_ld ?_
        refine u_ld ?_
        refine u_bn ?_
        refine u_mv ?_
        refine g_pt ?_
        refine g_ld ?_
        refine g_ln ?_
        refine g_mv ?_
        refine g_ln ?_
        refine g_bn ?_
        refine g_bn ?_
        refine u_pk ?_
        refine u_mv ?_
        refine lg_nil ?_
        refine h53 _ ?_; clear h53; try clear N53
        refine vc_ret ?_
        try simp only [k_rules]
        refine fin2_ ?_
        (repeat' apply And.intro) <;> (first | (first | rfl | (simp; done) | (simp [*]; done) | (left; rfl)) | exact cl_)
       ·first | omega | exact absurd trivial hb52 | contradiction | (simp_all; done)
     ·first | omega | exact absurd trivial hb44 | contradiction | (simp_all; done)
   ·obtain ⟨p1, p5, hvp, hvr, h40, p7, p2, p3, p4⟩ := hcs
    have p6 : ((40 : Int) < (W.length : Int)) = False := eq_false (by omega)
    have hx0 := And.intro @p1 (And.intro @p2 (And.intro @p3 (And.intro @p4 (And.intro @p5 (And.intro @p6 (And.intro @p7 (And.intro @hl2 (And.intro @hsm2 (hx0)))))))))
    have hx := hx0
    refine u_reg ?_
    try refine lg_mk ?_
    refine u_ld ?_
    refine u_mv ?_
    refine u_ld ?_
    refine u_mv ?_
    have hc := call_rule (E := (E_exP.at_ 92)) (f := 21) (sp := Spec.pure fetG) rfl
    have hs := @fetG.eq_1
    refine u_hp (hq := by (first | (exact ⟨hl, hsm, hpl, hl2, hsm2, hwl⟩) | exact sd_)) ?_
    refine u_mv ?_
    refine u_ex ?_
    refine u_ex ?_
    refine u_ex ?_
    refine u_al ?_
    refine u_al ?_
    refine u_st ?_
    refine u_mv ?_
    refine u_st ?_
    refine lg_nil ?_
    refine h5 _ ?_; clear h5; try clear N5
    refine vc_seq_k fun N54 h54 => ?_
    refine u_reg ?_
    try refine lg_mk ?_
    refine u_ld ?_
    refine u_mv ?_
    have hc := call_rule (E := (E_exP.at_ 92)) (f := 19) (sp := Spec.pure proG) rfl
    have hs := @proG.eq_1
    refine u_cp (hq := by (first | (exact ⟨hl, hsm, hpl⟩) | exact sd_)) ?_
    refine u_al ?_
    refine u_st ?_
    refine lg_nil ?_
    refine h54 _ ?_; clear h54; try clear N54
    refine vc_seq_k fun N55 h55 => ?_
    refine vc_seq_k fun N56 h56 => ?_
    refine u_reg ?_
    try refine lg_mk ?_
    refine u_pt ?_
    refine u_ld ?_
    refine u_bn ?_
    refine u_mv ?_
    refine g_ld ?_
    have hc := call_rule (E := (E_exP.at_ 92)) (f := 11) (sp := Spec.pure valG) rfl
    have hs := @valG.eq_1
    refine g_cp ?_
    refine g_pt ?_
    refine g_bn ?_
    refine u_pk ?_
    refine lg_nil ?_
    refine h56 _ ?_; clear h56; try clear N56
    refine u_cond (fun hb57 => ?_) (fun hb57 => ?_)
    ·first | omega | exact absurd trivial hb57 | contradiction | (simp_all; done)
    ·refine vc_skip ?_
     try simp only [k_rules]
     refine h55 _ ?_; clear h55; try clear N55
     refine vc_seq_k fun N58 h58 => ?_
     refine vc_seq_k fun N59 h59 => ?_
     refine u_reg ?_
     try refine lg_mk ?_
     refine u_pt ?_
     refine u_ld ?_
     refine u_bn ?_
     refine u_mv ?_
     refine g_mv ?_
     refine g_ln ?_
     refine g_bn ?_
     refine u_pk ?_
     refine lg_nil ?_
     refine h59 _ ?_; clear h59; try clear N59
     refine u_cond (fun hb60 => ?_) (fun hb60 => ?_)
     ·first | omega | exact absurd trivial hb60 | contradiction | (simp_all; done)
     ·refine vc_skip ?_
      try simp only [k_rules]
      refine h58 _ ?_; clear h58; try clear N58
      refine vc_seq_k fun N61 h61 => ?_
      refine u_reg ?_
      try refine lg_mk ?_
      refine u_bd ?_
      refine u_al ?_
      refine u_st ?_
      refine lg_nil ?_
      refine h61 _ ?_; clear h61; try clear N61
      refine vc_seq_k fun N62 h62 => ?_
      refine u_reg ?_
      try refine lg_mk ?_
      refine u_mv ?_
      refine lg_nil ?_
      refine h62 _ ?_; clear h62; try clear N62
      refine vc_seq_k fun N63 h63 => ?_
      refine vc_seq_k fun N64 h64 => ?_
      refine u_reg ?_
      try refine lg_mk ?_
      refine u_pt ?_
      refine u_ld ?_
      refine u_bn ?_
      refine lg_nil ?_
      refine h64 _ ?_; clear h64; try clear N64
      refine u_cond (fun hb65 => ?_) (fun hb65 => ?_)
      ·refine u_reg ?_
       try refine lg_mk ?_
       refine u_ld ?_
       refine u_mv ?_
       refine u_ld ?_
       refine u_mv ?_
       have hc := call_rule (E := (E_exP.at_ 92)) (f := 22) (sp := Spec.pure fetRG) rfl
       have hs := @fetRG.eq_1
       refine u_hp (hq := by (first | (exact ⟨hvp, hvr, by omega⟩) | exact sd_)) ?_
       refine u_mv ?_
       refine u_ex ?_
       refine u_ex ?_
       refine u_ex ?_
       refine u_st ?_
       refine u_mv ?_
       refine u_st ?_
       refine lg_nil ?_
       refine h63 _ ?_; clear h63; try clear N63
       refine vc_seq_k fun N66 h66 => ?_
       refine vc_seq_k fun N67 h67 => ?_
       refine u_reg ?_
       try refine lg_mk ?_
       refine u_pt ?_
       refine u_ld ?_
       refine u_bn ?_
       refine lg_nil ?_
       refine h67 _ ?_; clear h67; try clear N67
       refine u_cond (fun hb68 => ?_) (fun hb68 => ?_)
       ·refine vc_seq_k fun N69 h69 => ?_
        refine u_reg ?_
        try refine lg_mk ?_
        refine u_ld ?_
        refine u_ld ?_
        refine u_bn ?_
        refine u_mv ?_
        refine g_pt ?_
        refine g_ld ?_
        refine g_ln ?_
        refine g_mv ?_
        refine g_ln ?_
        refine g_bn ?_
        refine g_bn ?_
        refine u_pk ?_
        refine u_mv ?_
        refine lg_nil ?_
        refine h69 _ ?_; clear h69; try clear N69
        refine vc_ret ?_
        try simp only [k_rules]
        refine fin2_ ?_
        (repeat' apply And.intro) <;> (first | (first | rfl | (simp; done) | (simp [*]; done) | (left; rfl)) | exact cl_)
       ·first | omega | exact absurd trivial hb68 | contradiction | (simp_all; done)
      ·first | omega | exact absurd trivial hb65 | contradiction | (simp_all; done)
   ·obtain ⟨p1, p5, hvp, hvr, h40, p7, p2, hvf, hll⟩ := hcs
    have hfl := hvf.len
    have hfs := small_of hvf
    have p6 : ((40 : Int) < (W.length : Int)) = False := eq_false (by omega)
    have hx0 := And.intro @p1 (And.intro @p2 (And.intro @p5 (And.intro @p6 (And.intro @p7 (And.intro @hl2 (And.intro @hsm2 (hx0)))))))
    have hx := hx0
    refine u_reg ?_
    try refine lg_mk ?_
    refine u_ld ?_
    refine u_mv ?_
    refine u_ld ?_
    refine u_mv ?_
    have hc := call_rule (E := (E_exP.at_ 92)) (f := 21) (sp := Spec.pure fetG) rfl
    have hs := @fetG.eq_1
    refine u_hp (hq := by (first | (exact ⟨hl, hsm, hpl, hl2, hsm2, hwl⟩) | exact sd_)) ?_
    refine u_mv ?_
    refine u_ex ?_
    refine u_ex ?_
    refine u_ex ?_
    refine u_al ?_
    refine u_al ?_
    refine u_st ?_
    refine u_mv ?_
    refine u_st ?_
    refine lg_nil ?_
    refine h5 _ ?_; clear h5; try clear N5
    refine vc_seq_k fun N70 h70 => ?_
    refine u_reg ?_
    try refine lg_mk ?_
    refine u_ld ?_
    refine u_mv ?_
    have hc := call_rule (E := (E_exP.at_ 92)) (f := 19) (sp := Spec.pure proG) rfl
    have hs := @proG.eq_1
    refine u_cp (hq := by (first | (exact ⟨hl, hsm, hpl⟩) | exact sd_)) ?_
    refine u_al ?_
    refine u_st ?_
    refine lg_nil ?_
    refine h70 _ ?_; clear h70; try clear N70
    refine vc_seq_k fun N71 h71 => ?_
    refine vc_seq_k fun N72 h72 => ?_
    refine u_reg ?_
    try refine lg_mk ?_
    refine u_pt ?_
    refine u_ld ?_
    refine u_bn ?_
    refine u_mv ?_
    refine g_ld ?_
    have hc := call_rule (E := (E_exP.at_ 92)) (f := 11) (sp := Spec.pure valG) rfl
    have hs := @valG.eq_1
    refine g_cp ?_
    refine g_pt ?_
    refine g_bn ?_
    refine u_pk ?_
    refine lg_nil ?_
    refine h72 _ ?_; clear h72; try clear N72
    refine u_cond (fun hb73 => ?_) (fun hb73 => ?_)
    ·first | omega | exact absurd trivial hb73 | contradiction | (simp_all; done)
    ·refine vc_skip ?_
     try simp only [k_rules]
     refine h71 _ ?_; clear h71; try clear N71
     refine vc_seq_k fun N74 h74 => ?_
     refine vc_seq_k fun N75 h75 => ?_
     refine u_reg ?_
     try refine lg_mk ?_
     refine u_pt ?_
     refine u_ld ?_
     refine u_bn ?_
     refine u_mv ?_
     refine g_mv ?_
     refine g_ln ?_
     refine g_bn ?_
     refine u_pk ?_
     refine lg_nil ?_
     refine h75 _ ?_; clear h75; try clear N75
     refine u_cond (fun hb76 => ?_) (fun hb76 => ?_)
     ·first | omega | exact absurd trivial hb76 | contradiction | (simp_all; done)
     ·refine vc_skip ?_
      try simp only [k_rules]
      refine h74 _ ?_; clear h74; try clear N74
      refine vc_seq_k fun N77 h77 => ?_
      refine u_reg ?_
      try refine lg_mk ?_
      refine u_bd ?_
      refine u_al ?_
      refine u_st ?_
      refine lg_nil ?_
      refine h77 _ ?_; clear h77; try clear N77
      refine vc_seq_k fun N78 h78 => ?_
      refine u_reg ?_
      try refine lg_mk ?_
      refine u_mv ?_
      refine lg_nil ?_
      refine h78 _ ?_; clear h78; try clear N78
      refine vc_seq_k fun N79 h79 => ?_
      refine vc_seq_k fun N80 h80 => ?_
      refine u_reg ?_
      try refine lg_mk ?_
      refine u_pt ?_
      refine u_ld ?_
      refine u_bn ?_
      refine lg_nil ?_
      refine h80 _ ?_; clear h80; try clear N80
      refine u_cond (fun hb81 => ?_) (fun hb81 => ?_)
      ·refine u_reg ?_
       try refine lg_mk ?_
       refine u_ld ?_
       refine u_mv ?_
       refine u_ld ?_
       refine u_mv ?_
       have hc := call_rule (E := (E_exP.at_ 92)) (f := 22) (sp := Spec.pure fetRG) rfl
       have hs := @fetRG.eq_1
       refine u_hp (hq := by (first | (exact ⟨hvp, hvr, by omega⟩) | exact sd_)) ?_
       refine u_mv ?_
       refine u_ex ?_
       refine u_ex ?_
       refine u_ex ?_
       refine u_st ?_
       refine u_mv ?_
       refine u_st ?_
       refine lg_nil ?_
       refine h79 _ ?_; clear h79; try clear N79
       refine vc_seq_k fun N82 h82 => ?_
       refine vc_seq_k fun N83 h83 => ?_
       refine u_reg ?_
       try refine lg_mk ?_
       refine u_pt ?_
       refine u_ld ?_
       refine u_bn ?_
       refine lg_nil ?_
       refine h83 _ ?_; clear h83; try clear N83
       refine u_cond (fun hb84 => ?_) (fun hb84 => ?_)
       ·first | omega | exact absurd trivial hb84 | contradiction | (simp_all; done)
       ·refine vc_skip ?_
        try simp only [k_rules]
        refine h82 _ ?_; clear h82; try clear N82
        refine vc_seq_k fun N85 h85 => ?_
        refine u_reg ?_
        try refine lg_mk ?_
        refine u_pt ?_
        refine u_ld ?_
        refine u_bn ?_
        refine u_mv ?_
        refine g_ld ?_
        refine g_ld ?_
        have hc := call_rule (E := (E_exP.at_ 92)) (f := 14) (sp := Spec.pure storesG) rfl
        have hs := @storesG.eq_1
        refine s_cp (hq := by (intro hg; (try simp only [b_rules, bif_and, bif_or] at hg); (first | (first | exact ⟨by omega, hfs⟩ | exact ⟨by omega, by omega, hfs, hfs⟩) | exact sd_))) ?_
        refine u_pk ?_
        refine u_mv ?_
        refine g_mv ?_
        refine g_mv ?_
        have hc := call_rule (E := (E_exP.at_ 92)) (f := 16) (sp := Spec.pure intsG) rfl
        have hs := @intsG.eq_1
        refine s_cp (hq := by (intro hg; (try simp only [b_rules, bif_and, bif_or] at hg); (first | (first | omega | exact ⟨by omega, by omega⟩) | exact sd_))) ?_
        refine u_pk ?_
        refine u_mv ?_
        refine lg_nil ?_
        refine h85 _ ?_; clear h85; try clear N85
        refine vc_ret ?_
        try simp only [k_rules]
        refine fin2_ ?_
        (repeat' apply And.intro) <;> (first | (first | rfl | (simp; done) | (simp [*]; done) | (left; rfl)) | exact cl_)
      ·first | omega | exact absurd trivial hb81 | contradiction | (simp_all; done)
 ·cases hg
end Go.Proofs.Ytgnahopdiljikaa
