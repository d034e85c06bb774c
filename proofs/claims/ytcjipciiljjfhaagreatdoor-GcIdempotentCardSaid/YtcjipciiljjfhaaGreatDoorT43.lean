/- Walks, printed by wip/gen/walk.py. -/
import Derived.Test.YtcjipciiljjfhaaGreatDoorT41
import Derived.Test.YtcjipciiljjfhaaGreatDoorV5
set_option linter.all false
set_option maxRecDepth 100000
set_option maxHeartbeats 4000000
namespace Go.Proofs.YtcjipciiljjfhaaGreatDoor
open Go Go.Vc Go.RowKit
theorem lawGI_meets : Meets Tryz.prog 4 (Spec.pure lawCG) := by
 refine meets_fun (E_exG.at_ 70) Tryz.func4 rfl rfl rfl ?_
 intro args p r hg hp
 unfold lawCG at hg
 split at hg
 ·rename_i xs zs ys t
  simp only [Option.some.injEq, Prod.mk.injEq] at hg
  obtain ⟨rfl, rfl⟩ := hg
  obtain ⟨he, hl, hsm, he2, hl2, hsm2, he3, hl3⟩ := hp
  generalize dO xs = S at *
  generalize dR zs = l at *
  generalize dW ys = L at *
  subst he he2 he3
  have hT : (E_exG).X = T := rfl
  have hx0 := And.intro @rect_eO (And.intro @dI_rows (And.intro @dU_rows (And.intro @dO_rows (And.intro @dB_rows (And.intro @dec_t (And.intro @dec_f (And.intro @rect_eR (And.intro @rect_eW (And.intro @dR_rows (And.intro @dW_rows @Tryz.results4))))))))))
  have hx := hx0
  refine ⟨by rfl, ?_⟩
  intro F W0 hnp hmk
  refine vc_seq_k fun N1 h1 => ?_
  refine u_reg ?_
  try refine lg_mk ?_
  refine u_bx ?_
  refine u_bx ?_
  refine u_mv ?_
  refine lg_nil ?_
  refine h1 _ ?_; clear h1; try clear N1
  refine vc_seq_k fun N2 h2 => ?_
  refine vc_seq_k fun N3 h3 => ?_
  refine u_reg ?_
  try refine lg_mk ?_
  have hc := call_rule (E := (E_exG.at_ 70)) (f := 7) (sp := Spec.pure exG) rfl
  have hs := @exG.eq_1
  refine u_cp ?_
  refine u_un ?_
  refine lg_nil ?_
  refine h3 _ ?_; clear h3; try clear N3
  refine u_cond (fun hb4 => ?_) (fun hb4 => ?_)
  ·first | omega | exact absurd trivial hb4 | contradiction | (simp_all; done)
  ·refine vc_skip ?_
   try simp only [k_rules]
   refine h2 _ ?_; clear h2; try clear N2
   refine vc_seq_k fun N5 h5 => ?_
   rcases col_or S l L t with ⟨p1, p2, p3⟩ | ⟨p1, hv, hl30, hL20, p2, p3⟩
   ·have p5 : ((colF S l L t).1 = 0) = False := eq_false p1
    have hx0 := And.intro @p2 (And.intro @p3 (And.intro @p5 (hx0)))
    have hx := hx0
    refine u_reg ?_
    try refine lg_mk ?_
    refine u_ld ?_
    refine u_ld ?_
    refine u_mv ?_
    refine u_mv ?_
    have hc := call_rule (E := (E_exG.at_ 70)) (f := 8) (sp := Spec.pure colG) rfl
    have hs := @colG.eq_1
    refine u_hp (hq := by (first | ((repeat' apply And.intro) <;> first | rfl | trivial | omega | exact hsm | exact hsm2) | exact sd_)) ?_
    refine u_mv ?_
    refine u_ex ?_
    refine u_ex ?_
    refine u_ex ?_
    refine u_al ?_
    refine u_al ?_
    refine u_st ?_
    refine u_mv ?_
    refine u_st ?_
    refine lg_nil ?_
    refine h5 _ ?_; clear h5; try clear N5
    refine vc_seq_k fun N6 h6 => ?_
    refine vc_seq_k fun N7 h7 => ?_
    refine u_reg ?_
    try refine lg_mk ?_
    refine u_pt ?_
    refine u_ld ?_
    refine u_bn ?_
    refine lg_nil ?_
    refine h7 _ ?_; clear h7; try clear N7
    refine u_cond (fun hb8 => ?_) (fun hb8 => ?_)
    ·refine vc_seq_k fun N9 h9 => ?_
     refine u_reg ?_
     try refine lg_mk ?_
     refine u_pt ?_
     refine u_ld ?_
     refine u_ln ?_
     refine u_mv ?_
     refine u_ln ?_
     refine u_bn ?_
     refine u_bn ?_
     refine u_mv ?_
     refine lg_nil ?_
     refine h9 _ ?_; clear h9; try clear N9
     refine vc_ret ?_
     try simp only [k_rules]
     refine fin2_ ?_
     (repeat' apply And.intro) <;> (first | (first | rfl | (simp; done) | (simp [*]; done) | (left; rfl)) | exact cl_)
    ·first | omega | exact absurd trivial hb8 | contradiction | (simp_all; done)
   ·have hR50 := held50 (t := t) hl30 hL20
    have hkv := ke_val hv (held l L t)
    have hkl := ke_len S (held l L t)
    have hlen := hv.len
    have hdl := dgs_len (goS S (held l L t))
    obtain ⟨r1, r2, r3⟩ := col_again p1 hv
    have hks := small_of hkv
    have hx0 := And.intro @r1 (And.intro @r2 (And.intro @r3 (hx0)))
    have hx := hx0
    have hx0 := And.intro @p1 (And.intro @p2 (And.intro @p3 (hx0)))
    have hx := hx0
    refine u_reg ?_
    try refine lg_mk ?_
    refine u_ld ?_
    refine u_ld ?_
    refine u_mv ?_
    refine u_mv ?_
    have hc := call_rule (E := (E_exG.at_ 70)) (f := 8) (sp := Spec.pure colG) rfl
    have hs := @colG.eq_1
    refine u_hp (hq := by (first | ((repeat' apply And.intro) <;> first | rfl | trivial | omega | exact hsm | exact hsm2) | exact sd_)) ?_
    refine u_mv ?_
    refine u_ex ?_
    refine u_ex ?_
    refine u_ex ?_
    refine u_al ?_
    refine u_al ?_
    refine u_st ?_
    refine u_mv ?_
    refine u_st ?_
    refine lg_nil ?_
    refine h5 _ ?_; clear h5; try clear N5
    refine vc_seq_k fun N10 h10 => ?_
    refine vc_seq_k fun N11 h11 => ?_
    refine u_reg ?_
    try refine lg_mk ?_
    refine u_pt ?_
    refine u_ld ?_
    refine u_bn ?_
    refine lg_nil ?_
    refine h11 _ ?_; clear h11; try clear N11
    refine u_cond (fun hb12 => ?_) (fun hb12 => ?_)
    ·first | omega | exact absurd trivial hb12 | contradiction | (simp_all; done)
    ·refine vc_skip ?_
     try simp only [k_rules]
     refine h10 _ ?_; clear h10; try clear N10
     refine vc_seq_k fun N13 h13 => ?_
     refine u_reg ?_
     try refine lg_mk ?_
     refine u_ld ?_
     refine u_ld ?_
     refine u_mv ?_
     refine u_mv ?_
     have hc := call_rule (E := (E_exG.at_ 70)) (f := 8) (sp := Spec.pure colG) rfl
     have hs := @colG.eq_1
     refine u_hp (hq := by (first | ((repeat' apply And.intro) <;> first | rfl | trivial | omega | exact hsm | exact hsm2 | exact hks) | exact sd_)) ?_
     refine u_mv ?_
     refine u_ex ?_
     refine u_ex ?_
     refine u_ex ?_
     refine u_al ?_
     refine u_al ?_
     refine u_st ?_
     refine u_mv ?_
     refine u_st ?_
     refine lg_nil ?_
     refine h13 _ ?_; clear h13; try clear N13
     refine vc_seq_k fun N14 h14 => ?_
     refine u_reg ?_
     try refine lg_mk ?_
     refine u_pt ?_
     refine u_ld ?_
     refine u_bn ?_
     refine u_mv ?_
     refine g_mv ?_
     refine g_ln ?_
     refine g_bn ?_
     refine u_pk ?_
     refine u_mv ?_
     refine g_ld ?_
     refine g_ld ?_
     have hc := call_rule (E := (E_exG.at_ 70)) (f := 12) (sp := Spec.pure storesG) rfl
     have hs := @storesG.eq_1
     refine s_cp (hq := by (intro hg; (try simp only [b_rules, bif_and, bif_or] at hg); (first | ((repeat' apply And.intro) <;> first | rfl | omega | exact hks) | exact sd_))) ?_
     refine u_pk ?_
     refine u_mv ?_
     refine g_pt ?_
     refine g_ld ?_
     refine g_ln ?_
     refine g_mv ?_
     refine g_ln ?_
     refine g_bn ?_
     refine g_pt ?_
     refine g_ld ?_
     refine g_ln ?_
     refine g_bn ?_
     refine u_pk ?_
     refine u_mv ?_
     refine lg_nil ?_
     refine h14 _ ?_; clear h14; try clear N14
     refine vc_ret ?_
     try simp only [k_rules]
     refine fin2_ ?_
     (repeat' apply And.intro) <;> (first | (first | rfl | (simp; done) | (simp [*]; done) | (left; rfl)) | exact cl_)
 ·cases hg
end Go.Proofs.YtcjipciiljjfhaaGreatDoor
