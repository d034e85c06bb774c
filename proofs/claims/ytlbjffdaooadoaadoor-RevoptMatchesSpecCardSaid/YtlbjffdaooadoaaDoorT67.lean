/- Walks, printed by wip/gen/walk.py. -/
import Derived.Test.YtlbjffdaooadoaaDoorT65
import Derived.Test.YtlbjffdaooadoaaDoorV5
set_option linter.all false
set_option maxRecDepth 100000
set_option maxHeartbeats 4000000
namespace Go.Proofs.YtlbjffdaooadoaaDoor
open Go Go.Vc Go.RowKit
theorem srv_all : ∀ n, Meets Tryd.prog 20 (Spec.pure (srvG n))
  | 0 => meets_voidP fun a p r h hp => by
    unfold srvG at h
    split at h
    · simp only [Option.some.injEq, Prod.mk.injEq] at h
      obtain ⟨rfl, _⟩ := h
      have := hp.2.2.1
      have := hp.2.2.2.1
      omega
    · cases h
  | n + 1 => srv_step n (srv_all n)
theorem ms_cases (q : List Nd) : (∃ c i : Int, c ≠ 0 ∧ refQ q = (c, i) ∧ optQ q = (c, i, []) ∧ cstQ q = (c, i, 0)) ∨ ∃ R, refQ q = (0, 0) ∧ optQ q = (0, 0, lsT 0 (simT R)) ∧ cstQ q = (0, 0, costK q q.length) ∧ okQ q ∧ (opnT q 41 (q.length - 1)).getD .nil = R ∧ (lsT 0 (simT R)).length ≤ 40 := by
  by_cases hv : valQ q = (0, 0)
  · obtain ⟨R, g1, g2, g3, g4⟩ := q_ls hv
    have h40 := (ok_of_val hv).1.2.1
    have := (sim_ok g2).2
    exact .inr ⟨R, by rw [refQ_is, hv], by unfold optQ; rw [if_neg (by rw [hv]; simp), g1], by unfold cstQ; rw [if_neg (by rw [hv]; simp)], (ok_of_val hv).1, g1, by rw [lsT_len]; omega⟩
  · exact .inl ⟨(valQ q).1, (valQ q).2, val_code hv, by rw [refQ_is], by unfold optQ; rw [if_pos hv], by unfold cstQ; rw [if_pos hv]⟩

def E_srvA : Env Tryd.prog := E_stwo.add 20 (Spec.pure (srvG 41)) (srv_all 41) (by kernel_rfl)

theorem lawM_meets : Meets Tryd.prog 3 (Spec.pure lawOG) := by
 refine meets_fun (E_srvA.at_ 68) Tryd.func3 rfl rfl rfl ?_
 intro args p r hg hp
 unfold lawOG at hg
 split at hg
 ·rename_i ys
  simp only [Option.some.injEq, Prod.mk.injEq] at hg
  obtain ⟨rfl, rfl⟩ := hg
  obtain ⟨he2, hl2⟩ := hp
  generalize dN ys = q at *
  subst he2
  have hT : (E_srvA).X = T := rfl
  have hx0 := And.intro @rect_eN (And.intro @dN_rows (And.intro @dec_t (And.intro @dec_f @Tryd.results3)))
  have hx := hx0
  refine ⟨by rfl, ?_⟩
  intro F W0 hnp hmk
  refine vc_seq_k fun N1 h1 => ?_
  refine u_reg ?_
  try refine lg_mk ?_
  refine u_bx ?_
  refine u_mv ?_
  refine lg_nil ?_
  refine h1 _ ?_; clear h1; try clear N1
  refine vc_seq_k fun N2 h2 => ?_
  refine vc_seq_k fun N3 h3 => ?_
  refine u_reg ?_
  try refine lg_mk ?_
  have hc := call_rule (E := (E_srvA.at_ 68)) (f := 14) (sp := Spec.pure oexG) rfl
  have hs := @oexG.eq_1
  refine u_cp ?_
  refine u_un ?_
  refine lg_nil ?_
  refine h3 _ ?_; clear h3; try clear N3
  refine u_cond (fun hb4 => ?_) (fun hb4 => ?_)
  ·first | omega | exact absurd trivial hb4 | contradiction | (simp_all; done)
  ·refine vc_skip ?_
   try simp only [k_rules]
   refine h2 _ ?_; clear h2; try clear N2
   refine vc_seq_k fun N5 h5 => ?_
   rcases ms_cases q with ⟨c, i, hc0, hrf, hev, hcq⟩ | ⟨R, hrf, hev, hcq, hok, hR, hlS⟩
   ·have c1 : (c = 0) = False := eq_false hc0
    have hR := True.intro
    have hqm := True.intro
    have hx := And.intro @hev hx0
    refine u_reg ?_
    try refine lg_mk ?_
    refine u_ld ?_
    have hc := call_rule (E := (E_srvA.at_ 68)) (f := 15) (sp := Spec.pure optG) rfl
    have hs := @optG.eq_1
    refine u_hp ?_
    refine u_mv ?_
    refine u_ex ?_
    refine u_ex ?_
    refine u_al ?_
    refine u_al ?_
    refine u_st ?_
    refine u_st ?_
    refine lg_nil ?_
    have hx := hx0
    refine h5 _ ?_; clear h5; try clear N5
    refine vc_seq_k fun N6 h6 => ?_
    have hx := And.intro @hcq hx0
    refine u_reg ?_
    try refine lg_mk ?_
    refine u_ld ?_
    have hc := call_rule (E := (E_srvA.at_ 68)) (f := 16) (sp := Spec.pure cstG) rfl
    have hs := @cstG.eq_1
    refine u_cp ?_
    refine u_mv ?_
    refine u_ex ?_
    refine u_ex ?_
    refine u_al ?_
    refine u_mv ?_
    refine u_st ?_
    refine lg_nil ?_
    have hx := hx0
    refine h6 _ ?_; clear h6; try clear N6
    refine vc_seq_k fun N7 h7 => ?_
    refine vc_seq_k fun N8 h8 => ?_
    have hx := And.intro @hrf hx0
    refine u_reg ?_
    try refine lg_mk ?_
    refine u_ld ?_
    have hc := call_rule (E := (E_srvA.at_ 68)) (f := 17) (sp := Spec.pure refQG) rfl
    have hs := @refQG.eq_1
    refine u_cp ?_
    refine u_al ?_
    refine u_st ?_
    refine lg_nil ?_
    have hx := hx0
    refine h8 _ ?_; clear h8; try clear N8
    refine vc_seq_k fun N9 h9 => ?_
    have hx := And.intro @c1 hx0
    refine u_reg ?_
    try refine lg_mk ?_
    refine u_pt ?_
    refine u_ld ?_
    refine u_bn ?_
    refine lg_nil ?_
    have hx := hx0
    refine h9 _ ?_; clear h9; try clear N9
    refine u_cond (fun hb10 => ?_) (fun hb10 => ?_)
    ·refine vc_seq_k fun N11 h11 => ?_
     have hx := And.intro @c1 hx0
     refine u_reg ?_
     try refine lg_mk ?_
     refine u_ld ?_
     refine u_ld ?_
     refine u_bn ?_
     refine u_mv ?_
     refine g_ld ?_
     refine g_ld ?_
     refine g_bn ?_
     refine u_pk ?_
     refine u_mv ?_
     refine g_pt ?_
     refine g_ld ?_
     refine g_ln ?_
     refine g_bn ?_
     refine u_pk ?_
     refine u_mv ?_
     refine g_mv ?_
     refine g_bn ?_
     refine u_pk ?_
     refine u_mv ?_
     refine lg_nil ?_
     have hx := hx0
     refine h11 _ ?_; clear h11; try clear N11
     refine vc_ret ?_
     try simp only [k_rules]
     refine fin2_ ?_
     (repeat' apply And.intro) <;> (first | (first | rfl | trivial | (simp; done)) | exact cl_)
    ·first | omega | exact absurd trivial hb10 | contradiction | (simp_all; done)
   ·have c1 := True.intro
    have h1q := hok.1
    have h40 := hok.2.1
    have hqm : ((q.length : Int) - 1).toNat = q.length - 1 := by omega
    have hx := And.intro @hev hx0
    refine u_reg ?_
    try refine lg_mk ?_
    refine u_ld ?_
    have hc := call_rule (E := (E_srvA.at_ 68)) (f := 15) (sp := Spec.pure optG) rfl
    have hs := @optG.eq_1
    refine u_hp ?_
    refine u_mv ?_
    refine u_ex ?_
    refine u_ex ?_
    refine u_al ?_
    refine u_al ?_
    refine u_st ?_
    refine u_st ?_
    refine lg_nil ?_
    have hx := hx0
    refine h5 _ ?_; clear h5; try clear N5
    refine vc_seq_k fun N12 h12 => ?_
    have hx := And.intro @hcq hx0
    refine u_reg ?_
    try refine lg_mk ?_
    refine u_ld ?_
    have hc := call_rule (E := (E_srvA.at_ 68)) (f := 16) (sp := Spec.pure cstG) rfl
    have hs := @cstG.eq_1
    refine u_cp ?_
    refine u_mv ?_
    refine u_ex ?_
    refine u_ex ?_
    refine u_al ?_
    refine u_mv ?_
    refine u_st ?_
    refine lg_nil ?_
    have hx := hx0
    refine h12 _ ?_; clear h12; try clear N12
    refine vc_seq_k fun N13 h13 => ?_
    refine vc_seq_k fun N14 h14 => ?_
    have hx := And.intro @hrf hx0
    refine u_reg ?_
    try refine lg_mk ?_
    refine u_ld ?_
    have hc := call_rule (E := (E_srvA.at_ 68)) (f := 17) (sp := Spec.pure refQG) rfl
    have hs := @refQG.eq_1
    refine u_cp ?_
    refine u_al ?_
    refine u_st ?_
    refine lg_nil ?_
    have hx := hx0
    refine h14 _ ?_; clear h14; try clear N14
    refine vc_seq_k fun N15 h15 => ?_
    have hx := And.intro @c1 hx0
    refine u_reg ?_
    try refine lg_mk ?_
    refine u_pt ?_
    refine u_ld ?_
    refine u_bn ?_
    refine lg_nil ?_
    have hx := hx0
    refine h15 _ ?_; clear h15; try clear N15
    refine u_cond (fun hb16 => ?_) (fun hb16 => ?_)
    ·first | omega | exact absurd trivial hb16 | contradiction | (simp_all; done)
    ·refine vc_skip ?_
     try simp only [k_rules]
     refine h13 _ ?_; clear h13; try clear N13
     refine vc_seq_k fun N17 h17 => ?_
     have hx := And.intro @hqm (And.intro @hR hx0)
     refine vc_regG [20] hmix (by kernel_rfl) ?_
     try refine lg_mk ?_
     refine u_pt (hq := by (first | ((repeat' apply And.intro) <;> first | rfl | omega) | exact sd_)) ?_
     refine u_ld (hq := by (first | ((repeat' apply And.intro) <;> first | rfl | omega) | exact sd_)) ?_
     refine u_bn (hq := by (first | ((repeat' apply And.intro) <;> first | rfl | omega) | exact sd_)) ?_
     refine u_mv (hq := by (first | ((repeat' apply And.intro) <;> first | rfl | omega) | exact sd_)) ?_
     refine s_pt (hq := by (intro hg; (try simp only [b_rules, bif_and, bif_or] at hg); (first | ((repeat' apply And.intro) <;> first | rfl | omega) | exact sd_))) ?_
     refine s_ld (hq := by (intro hg; (try simp only [b_rules, bif_and, bif_or] at hg); (first | ((repeat' apply And.intro) <;> first | rfl | omega) | exact sd_))) ?_
     refine s_bn (hq := by (intro hg; (try simp only [b_rules, bif_and, bif_or] at hg); (first | ((repeat' apply And.intro) <;> first | rfl | omega) | exact sd_))) ?_
     refine u_pk (hq := by (first | ((repeat' apply And.intro) <;> first | rfl | omega) | exact sd_)) ?_
     refine u_mv (hq := by (first | ((repeat' apply And.intro) <;> first | rfl | omega) | exact sd_)) ?_
     refine s_mv (hq := by (intro hg; (try simp only [b_rules, bif_and, bif_or] at hg); (first | ((repeat' apply And.intro) <;> first | rfl | omega) | exact sd_))) ?_
     refine s_ld (hq := by (intro hg; (try simp only [b_rules, bif_and, bif_or] at hg); (first | ((repeat' apply And.intro) <;> first | rfl | omega) | exact sd_))) ?_
     have hc := call_rule (E := (E_srvA.at_ 68)) (f := 18) (sp := Spec.pure rcostG) rfl
     have hs := @rcostG.eq_1
     refine s_cp (hq := by (intro hg; (try simp only [b_rules, bif_and, bif_or] at hg); (first | ((repeat' apply And.intro) <;> first | rfl | omega) | exact sd_))) ?_
     refine s_bn (hq := by (intro hg; (try simp only [b_rules, bif_and, bif_or] at hg); (first | ((repeat' apply And.intro) <;> first | rfl | omega) | exact sd_))) ?_
     refine u_pk (hq := by (first | ((repeat' apply And.intro) <;> first | rfl | omega) | exact sd_)) ?_
     refine u_mv (hq := by (first | ((repeat' apply And.intro) <;> first | rfl | omega) | exact sd_)) ?_
     refine s_ld (hq := by (intro hg; (try simp only [b_rules, bif_and, bif_or] at hg); (first | ((repeat' apply And.intro) <;> first | rfl | omega) | exact sd_))) ?_
     refine s_ld (hq := by (intro hg; (try simp only [b_rules, bif_and, bif_or] at hg); (first | ((repeat' apply And.intro) <;> first | rfl | omega) | exact sd_))) ?_
     refine s_pt (hq := by (intro hg; (try simp only [b_rules, bif_and, bif_or] at hg); (first | ((repeat' apply And.intro) <;> first | rfl | omega) | exact sd_))) ?_
     refine s_ld (hq := by (intro hg; (try simp only [b_rules, bif_and, bif_or] at hg); (first | ((repeat' apply And.intro) <;> first | rfl | omega) | exact sd_))) ?_
     refine s_ln (hq := by (intro hg; (try simp only [b_rules, bif_and, bif_or] at hg); (first | ((repeat' apply And.intro) <;> first | rfl | omega) | exact sd_))) ?_
     refine s_bn (hq := by (intro hg; (try simp only [b_rules, bif_and, bif_or] at hg); (first | ((repeat' apply And.intro) <;> first | rfl | omega) | exact sd_))) ?_
     have hc := call_rule (E := (E_srvA.at_ 68)) (f := 20) (sp := Spec.pure (srvG 41)) rfl
     have hs := @srvG.eq_1
     refine t_hp (hq := by (first | (exact ⟨hok, by omega, by omega, by omega⟩) | exact sd_)) ?_
     refine s_bd (hq := by (intro hg; (try simp only [b_rules, bif_and, bif_or] at hg); (first | ((repeat' apply And.intro) <;> first | rfl | omega) | exact sd_))) ?_
     have hc := call_rule (E := (E_srvA.at_ 68)) (f := 19) (sp := Spec.pure qeqG) rfl
     have hs := @qeqG.eq_1
     refine s_cp (hq := by (intro hg; (try simp only [b_rules, bif_and, bif_or] at hg); (first | ((repeat' apply And.intro) <;> first | rfl | omega) | exact sd_))) ?_
     refine u_pk (hq := by (first | ((repeat' apply And.intro) <;> first | rfl | omega) | exact sd_)) ?_
     refine u_mv (hq := by (first | ((repeat' apply And.intro) <;> first | rfl | omega) | exact sd_)) ?_
     refine lg_nil ?_
     have hx := hx0
     refine h17 _ ?_; clear h17; try clear N17
     refine vc_ret ?_
     try simp only [k_rules]
     refine fin2_ ?_
     (repeat' apply And.intro) <;> (first | (first | rfl | trivial | (simp; done)) | exact cl_)
 ·cases hg
end Go.Proofs.YtlbjffdaooadoaaDoor
