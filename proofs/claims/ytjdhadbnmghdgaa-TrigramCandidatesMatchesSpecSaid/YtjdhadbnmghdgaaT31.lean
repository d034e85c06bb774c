/- Walks, printed by wip/gen/walk.py. -/
import Derived.Test.YtjdhadbnmghdgaaT29
import Derived.Test.YtjdhadbnmghdgaaV5
set_option linter.all false
set_option maxRecDepth 100000
set_option maxHeartbeats 4000000
namespace Go.Proofs.Ytjdhadbnmghdgaa
open Go Go.Vc Go.RowKit
theorem lawCa_meets : Meets Try.prog 4 (Spec.pure lawXSG) := by
 refine meets_fun (E_exT.at_ 48) Try.func4 rfl rfl rfl ?_
 intro args p r hg hp
 unfold lawXSG at hg
 split at hg
 ·rename_i xs ps u
  simp only [Option.some.injEq, Prod.mk.injEq] at hg
  obtain ⟨rfl, rfl⟩ := hg
  obtain ⟨he, hl, he2, hl2, hsm, hsl⟩ := hp
  generalize dI xs = l at *
  generalize dP ps = P at *
  subst he he2
  have hT : (E_exT).X = T := rfl
  have hx0 := And.intro @rect_eT (And.intro @rect_eP (And.intro @dI_rows (And.intro @dP_rows (And.intro @dT_rows (And.intro @dI_nil (And.intro @dP_nil (And.intro @dec_t (And.intro @dec_f @Try.results4))))))))
  have hx := hx0
  refine ⟨by rfl, ?_⟩
  intro F W0 hnp hmk
  refine vc_seq_k fun N1 h1 => ?_
  refine u_reg ?_
  try refine lg_mk ?_
  refine u_bx ?_
  refine u_mv ?_
  refine lg_nil ?_
  refine h1 _ ?_; clear h1; try clear N1
  refine vc_seq_k fun N2 h2 => ?_
  refine vc_seq_k fun N3 h3 => ?_
  refine u_reg ?_
  try refine lg_mk ?_
  have hc := call_rule (E := (E_exT.at_ 48)) (f := 9) (sp := Spec.pure exG) rfl
  have hs := @exG.eq_1
  refine u_cp ?_
  refine u_un ?_
  refine lg_nil ?_
  refine h3 _ ?_; clear h3; try clear N3
  refine u_cond (fun hb4 => ?_) (fun hb4 => ?_)
  ·first | omega | exact absurd trivial hb4 | contradiction | (simp_all; done)
  ·refine vc_skip ?_
   try simp only [k_rules]
   refine h2 _ ?_; clear h2; try clear N2
   refine vc_seq_k fun N5 h5 => ?_
   rcases candF_or l P u with hcs | hcs | hcs
   ·obtain ⟨hb1, hb2, hb3⟩ := hcs
    have hb4 : ¬(valF l P).1 = 0 := hb1
    have hx0 := And.intro @hb2 (And.intro @hb3 (And.intro @hb4 (hx0)))
    have hx := hx0
    refine u_reg ?_
    try refine lg_mk ?_
    refine u_ld ?_
    refine u_mv ?_
    have hc := call_rule (E := (E_exT.at_ 48)) (f := 16) (sp := Spec.pure candTG) rfl
    have hs := @candTG.eq_1
    refine u_hp (hq := by (first | (exact ⟨hl, hl2, hsm, hsl⟩) | (first | trivial | omega | assumption | (unfold inI64; omega) | ((repeat' apply And.intro) <;> first | rfl | trivial | omega | assumption | (unfold inI64; omega)) | (simp; done) | (simp; omega)))) ?_
    refine u_mv ?_
    refine u_ex ?_
    refine u_ex ?_
    refine u_al ?_
    refine u_mv ?_
    refine u_st ?_
    refine lg_nil ?_
    refine h5 _ ?_; clear h5; try clear N5
    refine vc_seq_k fun N6 h6 => ?_
    refine u_reg ?_
    try refine lg_mk ?_
    refine u_ld ?_
    have hc := call_rule (E := (E_exT.at_ 48)) (f := 17) (sp := Spec.pure valTG) rfl
    have hs := @valTG.eq_1
    refine u_cp (hq := by (first | (exact ⟨hl, hl2, hsm⟩) | (first | trivial | omega | assumption | (unfold inI64; omega) | ((repeat' apply And.intro) <;> first | rfl | trivial | omega | assumption | (unfold inI64; omega)) | (simp; done) | (simp; omega)))) ?_
    refine u_al ?_
    refine u_st ?_
    refine lg_nil ?_
    refine h6 _ ?_; clear h6; try clear N6
    refine vc_seq_k fun N7 h7 => ?_
    refine vc_seq_k fun N8 h8 => ?_
    refine u_reg ?_
    try refine lg_mk ?_
    refine u_pt ?_
    refine u_ld ?_
    refine u_bn ?_
    refine u_mv ?_
    refine g_mv ?_
    refine g_ln ?_
    refine g_bn ?_
    refine u_pk ?_
    refine lg_nil ?_
    refine h8 _ ?_; clear h8; try clear N8
    refine u_cond (fun hb9 => ?_) (fun hb9 => ?_)
    ·first | omega | exact absurd trivial hb9 | contradiction | (simp_all; done)
    ·refine vc_skip ?_
     try simp only [k_rules]
     refine h7 _ ?_; clear h7; try clear N7
     refine vc_seq_k fun N10 h10 => ?_
     refine vc_seq_k fun N11 h11 => ?_
     refine u_reg ?_
     try refine lg_mk ?_
     refine u_pt ?_
     refine u_ld ?_
     refine u_bn ?_
     refine lg_nil ?_
     refine h11 _ ?_; clear h11; try clear N11
     refine u_cond (fun hb12 => ?_) (fun hb12 => ?_)
     ·refine vc_seq_k fun N13 h13 => ?_
      refine u_reg ?_
      try refine lg_mk ?_
      refine u_ld ?_
      refine u_ld ?_
      refine u_bn ?_
      refine u_mv ?_
      refine g_mv ?_
      refine g_ln ?_
      refine g_bn ?_
      refine u_pk ?_
      refine u_mv ?_
      refine lg_nil ?_
      refine h13 _ ?_; clear h13; try clear N13
      refine vc_ret ?_
      try simp only [k_rules]
      refine fin2_ ?_
      (repeat' apply And.intro) <;> (first | (first | rfl | (simp; done) | (simp [*]; done) | (left; rfl)) | (first | rfl | exact Or.inr rfl | exact Or.inl rfl | trivial | omega | assumption | (simp; done) | (simp; omega)))
     ·first | omega | exact absurd trivial hb12 | contradiction | (simp_all; done)
   ·obtain ⟨hb1, hb0, hb2, hb3⟩ := hcs
    have hb5 : ((400 : Int) < (u.length : Int)) = True := eq_true (by omega)
    have hx0 := And.intro @hb1 (And.intro @hb2 (And.intro @hb3 (And.intro @hb5 (hx0))))
    have hx := hx0
    refine u_reg ?_
    try refine lg_mk ?_
    refine u_ld ?_
    refine u_mv ?_
    have hc := call_rule (E := (E_exT.at_ 48)) (f := 16) (sp := Spec.pure candTG) rfl
    have hs := @candTG.eq_1
    refine u_hp (hq := by (first | (exact ⟨hl, hl2, hsm, hsl⟩) | (first | trivial | omega | assumption | (unfold inI64; omega) | ((repeat' apply And.intro) <;> first | rfl | trivial | omega | assumption | (unfold inI64; omega)) | (simp; done) | (simp; omega)))) ?_
    refine u_mv ?_
    refine u_ex ?_
    refine u_ex ?_
    refine u_al ?_
    refine u_mv ?_
    refine u_st ?_
    refine lg_nil ?_
    refine h5 _ ?_; clear h5; try clear N5
    refine vc_seq_k fun N14 h14 => ?_
    refine u_reg ?_
    try refine lg_mk ?_
    refine u_ld ?_
    have hc := call_rule (E := (E_exT.at_ 48)) (f := 17) (sp := Spec.pure valTG) rfl
    have hs := @valTG.eq_1
    refine u_cp (hq := by (first | (exact ⟨hl, hl2, hsm⟩) | (first | trivial | omega | assumption | (unfold inI64; omega) | ((repeat' apply And.intro) <;> first | rfl | trivial | omega | assumption | (unfold inI64; omega)) | (simp; done) | (simp; omega)))) ?_
    refine u_al ?_
    refine u_st ?_
    refine lg_nil ?_
    refine h14 _ ?_; clear h14; try clear N14
    refine vc_seq_k fun N15 h15 => ?_
    refine vc_seq_k fun N16 h16 => ?_
    refine u_reg ?_
    try refine lg_mk ?_
    refine u_pt ?_
    refine u_ld ?_
    refine u_bn ?_
    refine u_mv ?_
    refine g_mv ?_
    refine g_ln ?_
    refine g_bn ?_
    refine u_pk ?_
    refine lg_nil ?_
    refine h16 _ ?_; clear h16; try clear N16
    refine u_cond (fun hb17 => ?_) (fun hb17 => ?_)
    ·refine u_reg ?_
     try refine lg_mk ?_
     have hc := call_rule (E := (E_exT.at_ 48)) (f := 18) (sp := Spec.pure faultG) rfl
     have hs := @faultG.eq_1
     refine u_cp ?_
     refine u_st ?_
     refine lg_nil ?_
     refine h15 _ ?_; clear h15; try clear N15
     refine vc_seq_k fun N18 h18 => ?_
     refine vc_seq_k fun N19 h19 => ?_
     refine u_reg ?_
     try refine lg_mk ?_
     refine u_pt ?_
     refine u_ld ?_
     refine u_bn ?_
     refine lg_nil ?_
     refine h19 _ ?_; clear h19; try clear N19
     refine u_cond (fun hb20 => ?_) (fun hb20 => ?_)
     ·refine vc_seq_k fun N21 h21 => ?_
      refine u_reg ?_
      try refine lg_mk ?_
      refine u_ld ?_
      refine u_ld ?_
      refine u_bn ?_
      refine u_mv ?_
      refine g_mv ?_
      refine g_ln ?_
      refine g_bn ?_
      refine u_pk ?_
      refine u_mv ?_
      refine lg_nil ?_
      refine h21 _ ?_; clear h21; try clear N21
      refine vc_ret ?_
      try simp only [k_rules]
      refine fin2_ ?_
      (repeat' apply And.intro) <;> (first | (first | rfl | (simp; done) | (simp [*]; done) | (left; rfl)) | (first | rfl | exact Or.inr rfl | exact Or.inl rfl | trivial | omega | assumption | (simp; done) | (simp; omega)))
     ·first | omega | exact absurd trivial hb20 | contradiction | (simp_all; done)
    ·first | omega | exact absurd trivial hb17 | contradiction | (simp_all; done)
   ·obtain ⟨hb1, hv, hul, hb2, hb3⟩ := hcs
    have hlen20 := hv.tlen
    have hb5 : ((400 : Int) < (u.length : Int)) = False := eq_false (by omega)
    have hck := candK_len l P u (u.length - 2)
    have hx0 := And.intro @hb1 (And.intro @hb2 (And.intro @hb3 (And.intro @hb5 (hx0))))
    have hx := hx0
    refine u_reg ?_
    try refine lg_mk ?_
    refine u_ld ?_
    refine u_mv ?_
    have hc := call_rule (E := (E_exT.at_ 48)) (f := 16) (sp := Spec.pure candTG) rfl
    have hs := @candTG.eq_1
    refine u_hp (hq := by (first | (exact ⟨hl, hl2, hsm, hsl⟩) | (first | trivial | omega | assumption | (unfold inI64; omega) | ((repeat' apply And.intro) <;> first | rfl | trivial | omega | assumption | (unfold inI64; omega)) | (simp; done) | (simp; omega)))) ?_
    refine u_mv ?_
    refine u_ex ?_
    refine u_ex ?_
    refine u_al ?_
    refine u_mv ?_
    refine u_st ?_
    refine lg_nil ?_
    refine h5 _ ?_; clear h5; try clear N5
    refine vc_seq_k fun N22 h22 => ?_
    refine u_reg ?_
    try refine lg_mk ?_
    refine u_ld ?_
    have hc := call_rule (E := (E_exT.at_ 48)) (f := 17) (sp := Spec.pure valTG) rfl
    have hs := @valTG.eq_1
    refine u_cp (hq := by (first | (exact ⟨hl, hl2, hsm⟩) | (first | trivial | omega | assumption | (unfold inI64; omega) | ((repeat' apply And.intro) <;> first | rfl | trivial | omega | assumption | (unfold inI64; omega)) | (simp; done) | (simp; omega)))) ?_
    refine u_al ?_
    refine u_st ?_
    refine lg_nil ?_
    refine h22 _ ?_; clear h22; try clear N22
    refine vc_seq_k fun N23 h23 => ?_
    refine vc_seq_k fun N24 h24 => ?_
    refine u_reg ?_
    try refine lg_mk ?_
    refine u_pt ?_
    refine u_ld ?_
    refine u_bn ?_
    refine u_mv ?_
    refine g_mv ?_
    refine g_ln ?_
    refine g_bn ?_
    refine u_pk ?_
    refine lg_nil ?_
    refine h24 _ ?_; clear h24; try clear N24
    refine u_cond (fun hb25 => ?_) (fun hb25 => ?_)
    ·first | omega | exact absurd trivial hb25 | contradiction | (simp_all; done)
    ·refine vc_skip ?_
     try simp only [k_rules]
     refine h23 _ ?_; clear h23; try clear N23
     refine vc_seq_k fun N26 h26 => ?_
     refine vc_seq_k fun N27 h27 => ?_
     refine u_reg ?_
     try refine lg_mk ?_
     refine u_pt ?_
     refine u_ld ?_
     refine u_bn ?_
     refine lg_nil ?_
     refine h27 _ ?_; clear h27; try clear N27
     refine u_cond (fun hb28 => ?_) (fun hb28 => ?_)
     ·first | omega | exact absurd trivial hb28 | contradiction | (simp_all; done)
     ·refine vc_skip ?_
      try simp only [k_rules]
      refine h26 _ ?_; clear h26; try clear N26
      refine vc_seq_k fun N29 h29 => ?_
      refine u_reg ?_
      try refine lg_mk ?_
      refine u_pt ?_
      refine u_ld ?_
      refine u_bn ?_
      refine u_mv ?_
      refine g_mv ?_
      refine g_ld ?_
      refine g_mv ?_
      have hc := call_rule (E := (E_exT.at_ 48)) (f := 20) (sp := Spec.pure cForG) rfl
      have hs := @cForG.eq_1
      refine t_hp (hq := by (first | (exact ⟨hv, by omega⟩) | (first | trivial | omega | assumption | (unfold inI64; omega) | ((repeat' apply And.intro) <;> first | rfl | trivial | omega | assumption | (unfold inI64; omega)) | (simp; done) | (simp; omega)))) ?_
      have hc := call_rule (E := (E_exT.at_ 48)) (f := 19) (sp := Spec.pure intsG) rfl
      have hs := @intsG.eq_1
      refine g_cp ?_
      refine u_pk ?_
      refine u_mv ?_
      refine lg_nil ?_
      refine h29 _ ?_; clear h29; try clear N29
      refine vc_ret ?_
      try simp only [k_rules]
      refine fin2_ ?_
      (repeat' apply And.intro) <;> (first | (first | rfl | (simp; done) | (simp [*]; done) | (left; rfl)) | (first | rfl | exact Or.inr rfl | exact Or.inl rfl | trivial | omega | assumption | (simp; done) | (simp; omega)))
 ·cases hg
end Go.Proofs.Ytjdhadbnmghdgaa
