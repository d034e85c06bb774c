/- Walks, printed by wip/gen/walk.py. -/
import Derived.Test.YtgnahopdiljikaaT27
import Derived.Test.YtgnahopdiljikaaV5
set_option linter.all false
set_option maxRecDepth 100000
set_option maxHeartbeats 4000000
namespace Go.Proofs.Ytgnahopdiljikaa
open Go Go.Vc Go.RowKit
theorem lawRe_meets : Meets Try.prog 6 (Spec.pure lawFG) := by
 refine meets_fun (E_exP.at_ 52) Try.func6 rfl rfl rfl ?_
 intro args p r hg hp
 unfold lawFG at hg
 split at hg
 ·rename_i xs n
  simp only [Option.some.injEq, Prod.mk.injEq] at hg
  obtain ⟨rfl, rfl⟩ := hg
  obtain ⟨he, hl, hsm, hnn⟩ := hp
  generalize dO xs = S at *
  subst he
  have hT : (E_exP).X = T := rfl
  have hx0 := And.intro @rect_eO (And.intro @dI_rows (And.intro @dU_rows (And.intro @dO_rows (And.intro @dB_rows (And.intro @dec_t (And.intro @dec_f @Try.results6))))))
  have hx := hx0
  refine ⟨by rfl, ?_⟩
  intro F W0 hnp hmk
  refine vc_seq_k fun N1 h1 => ?_
  refine u_reg ?_
  try refine lg_mk ?_
  refine u_bx ?_
  refine u_mv ?_
  refine lg_nil ?_
  refine h1 _ ?_; clear h1; try clear N1
  refine vc_seq_k fun N2 h2 => ?_
  refine vc_seq_k fun N3 h3 => ?_
  refine u_reg ?_
  try refine lg_mk ?_
  have hc := call_rule (E := (E_exP.at_ 52)) (f := 9) (sp := Spec.pure exG) rfl
  have hs := @exG.eq_1
  refine u_cp ?_
  refine u_un ?_
  refine lg_nil ?_
  refine h3 _ ?_; clear h3; try clear N3
  refine u_cond (fun hb4 => ?_) (fun hb4 => ?_)
  ·first | omega | exact absurd trivial hb4 | contradiction | (simp_all; done)
  ·refine vc_skip ?_
   try simp only [k_rules]
   refine h2 _ ?_; clear h2; try clear N2
   refine vc_seq_k fun N5 h5 => ?_
   rcases fil_or S n with hcs | hcs | hcs
   ·obtain ⟨p1, p2, p3, p4⟩ := hcs
    have p5 : ¬(stF S).1 = 0 := p1
    have hx0 := And.intro @p2 (And.intro @p3 (And.intro @p4 (And.intro @p5 (hx0))))
    have hx := hx0
    refine u_reg ?_
    try refine lg_mk ?_
    refine u_ld ?_
    refine u_mv ?_
    have hc := call_rule (E := (E_exP.at_ 52)) (f := 10) (sp := Spec.pure filG) rfl
    have hs := @filG.eq_1
    refine u_hp (hq := by (first | (exact ⟨hl, hsm⟩) | exact sd_)) ?_
    refine u_mv ?_
    refine u_ex ?_
    refine u_ex ?_
    refine u_ex ?_
    refine u_al ?_
    refine u_al ?_
    refine u_st ?_
    refine u_mv ?_
    refine u_st ?_
    refine lg_nil ?_
    refine h5 _ ?_; clear h5; try clear N5
    refine vc_seq_k fun N6 h6 => ?_
    refine vc_seq_k fun N7 h7 => ?_
    refine u_reg ?_
    try refine lg_mk ?_
    refine u_pt ?_
    refine u_ld ?_
    refine u_bn ?_
    refine lg_nil ?_
    refine h7 _ ?_; clear h7; try clear N7
    refine u_cond (fun hb8 => ?_) (fun hb8 => ?_)
    ·refine vc_seq_k fun N9 h9 => ?_
     refine u_reg ?_
     try refine lg_mk ?_
     refine u_pt ?_
     refine u_ld ?_
     refine u_ln ?_
     refine u_mv ?_
     refine u_ln ?_
     refine u_bn ?_
     refine u_bn ?_
     refine u_mv ?_
     refine lg_nil ?_
     refine h9 _ ?_; clear h9; try clear N9
     refine vc_ret ?_
     try simp only [k_rules]
     refine fin2_ ?_
     (repeat' apply And.intro) <;> (first | (first | rfl | (simp; done) | (simp [*]; done) | (left; rfl)) | exact cl_)
    ·first | omega | exact absurd trivial hb8 | contradiction | (simp_all; done)
   ·obtain ⟨p1, p5, p2, p3, p4⟩ := hcs
    have hx0 := And.intro @p1 (And.intro @p2 (And.intro @p3 (And.intro @p4 (And.intro @p5 (hx0)))))
    have hx := hx0
    refine u_reg ?_
    try refine lg_mk ?_
    refine u_ld ?_
    refine u_mv ?_
    have hc := call_rule (E := (E_exP.at_ 52)) (f := 10) (sp := Spec.pure filG) rfl
    have hs := @filG.eq_1
    refine u_hp (hq := by (first | (exact ⟨hl, hsm⟩) | exact sd_)) ?_
    refine u_mv ?_
    refine u_ex ?_
    refine u_ex ?_
    refine u_ex ?_
    refine u_al ?_
    refine u_al ?_
    refine u_st ?_
    refine u_mv ?_
    refine u_st ?_
    refine lg_nil ?_
    refine h5 _ ?_; clear h5; try clear N5
    refine vc_seq_k fun N10 h10 => ?_
    refine vc_seq_k fun N11 h11 => ?_
    refine u_reg ?_
    try refine lg_mk ?_
    refine u_pt ?_
    refine u_ld ?_
    refine u_bn ?_
    refine lg_nil ?_
    refine h11 _ ?_; clear h11; try clear N11
    refine u_cond (fun hb12 => ?_) (fun hb12 => ?_)
    ·refine vc_seq_k fun N13 h13 => ?_
     refine u_reg ?_
     try refine lg_mk ?_
     refine u_pt ?_
     refine u_ld ?_
     refine u_ln ?_
     refine u_mv ?_
     refine u_ln ?_
     refine u_bn ?_
     refine u_bn ?_
     refine u_mv ?_
     refine lg_nil ?_
     refine h13 _ ?_; clear h13; try clear N13
     refine vc_ret ?_
     try simp only [k_rules]
     refine fin2_ ?_
     (repeat' apply And.intro) <;> (first | (first | rfl | (simp; done) | (simp [*]; done) | (left; rfl)) | exact cl_)
    ·first | omega | exact absurd trivial hb12 | contradiction | (simp_all; done)
   ·obtain ⟨p1, hv, p5, p2, p3, p4⟩ := hcs
    have hlen := hv.len
    have hpt := part_len S n
    have hsT : smallS (sml S n) := small_filter hsm _
    obtain ⟨q1, q2, q3⟩ := fet_back hv n
    have hx0 := And.intro @p2 (And.intro @p3 (And.intro @p4 (And.intro @q1 (And.intro @q2 (And.intro @q3 (hx0))))))
    have hx := hx0
    refine u_reg ?_
    try refine lg_mk ?_
    refine u_ld ?_
    refine u_mv ?_
    have hc := call_rule (E := (E_exP.at_ 52)) (f := 10) (sp := Spec.pure filG) rfl
    have hs := @filG.eq_1
    refine u_hp (hq := by (first | (exact ⟨hl, hsm⟩) | exact sd_)) ?_
    refine u_mv ?_
    refine u_ex ?_
    refine u_ex ?_
    refine u_ex ?_
    refine u_al ?_
    refine u_al ?_
    refine u_st ?_
    refine u_mv ?_
    refine u_st ?_
    refine lg_nil ?_
    refine h5 _ ?_; clear h5; try clear N5
    refine vc_seq_k fun N14 h14 => ?_
    refine vc_seq_k fun N15 h15 => ?_
    refine u_reg ?_
    try refine lg_mk ?_
    refine u_pt ?_
    refine u_ld ?_
    refine u_bn ?_
    refine lg_nil ?_
    refine h15 _ ?_; clear h15; try clear N15
    refine u_cond (fun hb16 => ?_) (fun hb16 => ?_)
    ·first | omega | exact absurd trivial hb16 | contradiction | (simp_all; done)
    ·refine vc_skip ?_
     try simp only [k_rules]
     refine h14 _ ?_; clear h14; try clear N14
     refine vc_seq_k fun N17 h17 => ?_
     refine u_reg ?_
     try refine lg_mk ?_
     refine u_ld ?_
     refine u_mv ?_
     refine u_ld ?_
     refine u_mv ?_
     have hc := call_rule (E := (E_exP.at_ 52)) (f := 21) (sp := Spec.pure fetG) rfl
     have hs := @fetG.eq_1
     refine u_hp (hq := by (first | ((repeat' apply And.intro) <;> first | assumption | omega) | exact sd_)) ?_
     refine u_mv ?_
     refine u_ex ?_
     refine u_ex ?_
     refine u_ex ?_
     refine u_al ?_
     refine u_al ?_
     refine u_st ?_
     refine u_mv ?_
     refine u_st ?_
     refine lg_nil ?_
     refine h17 _ ?_; clear h17; try clear N17
     refine vc_seq_k fun N18 h18 => ?_
     refine u_reg ?_
     try refine lg_mk ?_
     refine u_pt ?_
     refine u_ld ?_
     refine u_bn ?_
     refine u_mv ?_
     refine g_mv ?_
     refine g_ln ?_
     refine g_bn ?_
     refine u_pk ?_
     refine u_mv ?_
     refine g_ld ?_
     refine g_ld ?_
     have hc := call_rule (E := (E_exP.at_ 52)) (f := 14) (sp := Spec.pure storesG) rfl
     have hs := @storesG.eq_1
     refine s_cp (hq := by (intro hg; (try simp only [b_rules, bif_and, bif_or] at hg); (first | ((repeat' apply And.intro) <;> first | assumption | omega) | exact sd_))) ?_
     refine u_pk ?_
     refine u_mv ?_
     refine lg_nil ?_
     refine h18 _ ?_; clear h18; try clear N18
     refine vc_ret ?_
     try simp only [k_rules]
     refine fin2_ ?_
     (repeat' apply And.intro) <;> (first | (first | rfl | (simp; done) | (simp [*]; done) | (left; rfl)) | exact cl_)
 ·cases hg
end Go.Proofs.Ytgnahopdiljikaa
