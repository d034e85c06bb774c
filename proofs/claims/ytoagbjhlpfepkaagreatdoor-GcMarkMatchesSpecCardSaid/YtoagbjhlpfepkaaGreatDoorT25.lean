/- Walks, printed by wip/gen/walk.py. -/
import Derived.Test.YtoagbjhlpfepkaaGreatDoorT24
import Derived.Test.YtoagbjhlpfepkaaGreatDoorV5
set_option linter.all false
set_option maxRecDepth 100000
set_option maxHeartbeats 4000000
namespace Go.Proofs.YtoagbjhlpfepkaaGreatDoor
open Go Go.Vc Go.RowKit
theorem small_meets : Meets Tryz.prog 14 (Spec.pure smallG) := by
 refine meets_fun (E_collect0.at_ 48) Tryz.func14 rfl rfl rfl ?_
 intro args p r hg hp
 unfold smallG at hg
 split at hg
 ·skip
  simp only [Option.some.injEq, Prod.mk.injEq] at hg
  obtain ⟨rfl, rfl⟩ := hg
  have hT : (E_collect0).X = T := rfl
  have hx0 := And.intro @ex_0 (And.intro @ex_1 (And.intro @ex_2 (And.intro @rect_eO (And.intro @dI_rows (And.intro @dU_rows (And.intro @dO_rows (And.intro @dec_t (And.intro @dec_f @Tryz.results14))))))))
  have hx := hx0
  refine ⟨by rfl, ?_⟩
  intro F W0 hnp hmk
  refine vc_seq_k fun N1 h1 => ?_
  refine u_reg ?_
  try refine lg_mk ?_
  refine u_al ?_
  refine u_mv ?_
  refine u_mv ?_
  refine u_mv ?_
  refine lg_nil ?_
  refine h1 _ ?_; clear h1; try clear N1
  refine vc_seq_k fun N2 h2 => ?_
  refine u_reg ?_
  try refine lg_mk ?_
  refine u_bd ?_
  refine u_bs ?_
  refine u_bd ?_
  have hc := call_rule (E := (E_collect0.at_ 48)) (f := 25) (sp := Spec.pure putG) rfl
  have hs := @putG.eq_1
  refine u_hp (hq := by (first | ((repeat' apply And.intro) <;> first | rfl | exact ⟨by decide, by decide⟩ | exact ex_s.1 | exact ex_s.2.1 | exact ex_s.2.2.1 | exact ex_s.2.2.2 | decide | omega | (simp; done)) | exact sd_)) ?_
  refine u_mv ?_
  refine u_ex ?_
  refine u_ex ?_
  refine u_ex ?_
  refine u_al ?_
  refine u_al ?_
  refine u_st ?_
  refine u_mv ?_
  refine u_st ?_
  refine lg_nil ?_
  refine h2 _ ?_; clear h2; try clear N2
  refine vc_seq_k fun N3 h3 => ?_
  refine u_reg ?_
  try refine lg_mk ?_
  refine u_ld ?_
  refine u_mv ?_
  refine u_bs ?_
  refine u_bd ?_
  have hc := call_rule (E := (E_collect0.at_ 48)) (f := 25) (sp := Spec.pure putG) rfl
  have hs := @putG.eq_1
  refine u_hp (hq := by (first | ((repeat' apply And.intro) <;> first | rfl | exact ⟨by decide, by decide⟩ | exact ex_s.1 | exact ex_s.2.1 | exact ex_s.2.2.1 | exact ex_s.2.2.2 | decide | omega | (simp; done)) | exact sd_)) ?_
  refine u_mv ?_
  refine u_ex ?_
  refine u_ex ?_
  refine u_ex ?_
  refine u_al ?_
  refine u_st ?_
  refine u_mv ?_
  refine u_st ?_
  refine lg_nil ?_
  refine h3 _ ?_; clear h3; try clear N3
  refine vc_seq_k fun N4 h4 => ?_
  refine vc_regT [] (.seq [0, 1, 2, 3, 4, 5, 6, 7, 8, 9, 10, 11, 12, 13, 14, 15, 16] (.alt 17 (.alt 18 (.alt 19 (.seq [20, 21, 22, 23, 24, 25] .nil) (.alt 22 (.seq [19, 20, 21, 23, 24, 25] .nil) .nil)) (.alt 22 (.seq [18, 19, 20, 21, 23, 24, 25] .nil) .nil)) (.alt 22 (.seq [17, 18, 19, 20, 21, 23, 24, 25] .nil) .nil))) hmix (by kernel_rfl) ?_
  refine at_seq ?_
  simp only [pick_rules, list_rules]
  try refine lg_mk ?_
  refine u_ld ?_
  refine u_mv ?_
  refine u_mv ?_
  refine u_pt ?_
  refine u_ld ?_
  refine u_bn ?_
  refine u_mv ?_
  refine g_pt ?_
  refine g_ld ?_
  refine g_bn ?_
  refine u_pk ?_
  refine u_mv ?_
  refine g_mv ?_
  refine g_mv ?_
  refine g_bn ?_
  refine u_pk ?_
  refine u_mv ?_
  refine lg_nil ?_
  refine at_alt ?_ ?_
  ·simp only [pick_rules, list_rules]
   try refine lg_mk ?_
   refine g_pt ?_
   refine lg_nil ?_
   refine at_alt ?_ ?_
   ·simp only [pick_rules, list_rules]
    try refine lg_mk ?_
    refine g_ld ?_
    refine lg_nil ?_
    refine at_alt ?_ ?_
    ·simp only [pick_rules, list_rules]
     try refine lg_mk ?_
     refine g_ln ?_
     refine lg_nil ?_
     refine at_seq ?_
     simp only [pick_rules, list_rules]
     try refine lg_mk ?_
     refine g_bn ?_
     refine u_pk ?_
     refine u_st ?_
     refine u_mv ?_
     refine u_mv ?_
     refine u_mv ?_
     refine lg_nil ?_
     refine at_nil ?_
     refine h4 _ ?_; clear h4; try clear N4
     refine vc_ret ?_
     try simp only [k_rules]
     refine fin2_ ?_
     (repeat' apply And.intro) <;> (first | (first | rfl | trivial | (simp; done) | (left; rfl)) | exact cl_)
    refine at_alt ?_ ?_
    ·simp only [pick_rules, list_rules]
     try refine lg_mk ?_
     refine u_st ?_
     refine lg_nil ?_
     refine at_seq ?_
     simp only [pick_rules, list_rules]
     try refine lg_mk ?_
     refine g_ln ?_
     refine g_bn ?_
     refine u_pk ?_
     refine u_mv ?_
     refine u_mv ?_
     refine u_mv ?_
     refine lg_nil ?_
     refine at_nil ?_
     refine h4 _ ?_; clear h4; try clear N4
     refine vc_ret ?_
     try simp only [k_rules]
     refine fin2_ ?_
     (repeat' apply And.intro) <;> (first | (first | rfl | trivial | (simp; done) | (left; rfl)) | exact cl_)
    exact at_end
   refine at_alt ?_ ?_
   ·simp only [pick_rules, list_rules]
    try refine lg_mk ?_
    refine u_st ?_
    refine lg_nil ?_
    refine at_seq ?_
    simp only [pick_rules, list_rules]
    try refine lg_mk ?_
    refine g_ld ?_
    refine g_ln ?_
    refine g_bn ?_
    refine u_pk ?_
    refine u_mv ?_
    refine u_mv ?_
    refine u_mv ?_
    refine lg_nil ?_
    refine at_nil ?_
    refine h4 _ ?_; clear h4; try clear N4
    refine vc_ret ?_
    try simp only [k_rules]
    refine fin2_ ?_
    (repeat' apply And.intro) <;> (first | (first | rfl | trivial | (simp; done) | (left; rfl)) | exact cl_)
   exact at_end
  refine at_alt ?_ ?_
  ·simp only [pick_rules, list_rules]
   try refine lg_mk ?_
   refine u_st ?_
   refine lg_nil ?_
   refine at_seq ?_
   simp only [pick_rules, list_rules]
   try refine lg_mk ?_
   refine g_pt ?_
   refine g_ld ?_
   refine g_ln ?_
   refine g_bn ?_
   refine u_pk ?_
   refine u_mv ?_
   refine u_mv ?_
   refine u_mv ?_
   refine lg_nil ?_
   refine at_nil ?_
   refine h4 _ ?_; clear h4; try clear N4
   refine vc_ret ?_
   try simp only [k_rules]
   refine fin2_ ?_
   (repeat' apply And.intro) <;> (first | (first | rfl | trivial | (simp; done) | (left; rfl)) | exact cl_)
  exact at_end
 ·cases hg

def E_small : Env Tryz.prog := E_collect0.add 14 (Spec.pure smallG) small_meets (by kernel_rfl)

theorem exG_meets : Meets Tryz.prog 4 (Spec.pure exG) := by
 refine meets_fun (E_small.at_ 77) Tryz.func4 rfl rfl rfl ?_
 intro args p r hg hp
 unfold exG at hg
 split at hg
 ·skip
  simp only [Option.some.injEq, Prod.mk.injEq] at hg
  obtain ⟨rfl, rfl⟩ := hg
  have hT : (E_small).X = T := rfl
  have hx0 := And.intro @ex_6 (And.intro @ex_7 (And.intro @ex_0 (And.intro @gex_1 (And.intro @gex_2 (And.intro @gex_3 (And.intro @rect_eO (And.intro @dI_rows (And.intro @dU_rows (And.intro @dO_rows (And.intro @dec_t (And.intro @dec_f @Tryz.results4)))))))))))
  have hx := hx0
  refine ⟨by rfl, ?_⟩
  intro F W0 hnp hmk
  refine vc_seq_k fun N1 h1 => ?_
  refine u_reg ?_
  try refine lg_mk ?_
  refine u_mv ?_
  refine lg_nil ?_
  refine h1 _ ?_; clear h1; try clear N1
  refine vc_seq_k fun N2 h2 => ?_
  refine u_reg ?_
  try refine lg_mk ?_
  have hc := call_rule (E := (E_small.at_ 77)) (f := 14) (sp := Spec.pure smallG) rfl
  have hs := @smallG.eq_1
  refine u_hp ?_
  refine u_mv ?_
  refine u_ex ?_
  refine u_ex ?_
  refine u_ex ?_
  refine u_ex ?_
  refine u_al ?_
  refine u_st ?_
  refine u_mv ?_
  refine u_mv ?_
  refine u_mv ?_
  refine lg_nil ?_
  refine h2 _ ?_; clear h2; try clear N2
  refine vc_seq_k fun N3 h3 => ?_
  refine u_reg ?_
  try refine lg_mk ?_
  refine u_ld ?_
  refine u_mv ?_
  refine u_bs ?_
  have hc := call_rule (E := (E_small.at_ 77)) (f := 5) (sp := Spec.pure markG) rfl
  have hs := @markG.eq_1
  refine u_hp (hq := by (first | ((repeat' apply And.intro) <;> first | rfl | exact ⟨by decide, by decide⟩ | exact ex_s.1 | exact ex_s.2.1 | exact ex_s.2.2.1 | exact ex_s.2.2.2 | exact ex_v | decide | omega | (simp; done)) | exact sd_)) ?_
  refine u_mv ?_
  refine u_ex ?_
  refine u_ex ?_
  refine u_al ?_
  refine u_mv ?_
  refine u_st ?_
  refine lg_nil ?_
  refine h3 _ ?_; clear h3; try clear N3
  refine vc_seq_k fun N4 h4 => ?_
  refine u_reg ?_
  try refine lg_mk ?_
  refine u_ld ?_
  refine u_mv ?_
  refine u_bs ?_
  have hc := call_rule (E := (E_small.at_ 77)) (f := 5) (sp := Spec.pure markG) rfl
  have hs := @markG.eq_1
  refine u_hp (hq := by (first | ((repeat' apply And.intro) <;> first | rfl | exact ⟨by decide, by decide⟩ | exact ex_s.1 | exact ex_s.2.1 | exact ex_s.2.2.1 | exact ex_s.2.2.2 | exact ex_v | decide | omega | (simp; done)) | exact sd_)) ?_
  refine u_mv ?_
  refine u_ex ?_
  refine u_ex ?_
  refine u_al ?_
  refine u_mv ?_
  refine u_st ?_
  refine lg_nil ?_
  refine h4 _ ?_; clear h4; try clear N4
  refine vc_seq_k fun N5 h5 => ?_
  refine u_reg ?_
  try refine lg_mk ?_
  refine u_ld ?_
  refine u_bd ?_
  have hc := call_rule (E := (E_small.at_ 77)) (f := 15) (sp := Spec.pure col0G) rfl
  have hs := @col0G.eq_1
  refine u_hp (hq := by (first | ((repeat' apply And.intro) <;> first | rfl | exact ⟨by decide, by decide⟩ | exact ex_s.1 | exact ex_s.2.1 | exact ex_s.2.2.1 | exact ex_s.2.2.2 | exact ex_v | decide | omega | (simp; done)) | exact sd_)) ?_
  refine u_mv ?_
  refine u_ex ?_
  refine u_ex ?_
  refine u_ex ?_
  refine u_al ?_
  refine u_al ?_
  refine u_st ?_
  refine u_mv ?_
  refine u_st ?_
  refine lg_nil ?_
  refine h5 _ ?_; clear h5; try clear N5
  refine vc_seq_k fun N6 h6 => ?_
  refine u_reg ?_
  try refine lg_mk ?_
  refine u_mv (hq := by (first | ((repeat' apply And.intro) <;> first | rfl | exact ⟨by decide, by decide⟩ | exact ex_s.1 | exact ex_s.2.1 | exact ex_s.2.2.1 | exact ex_s.2.2.2 | exact ex_v | decide | omega | (simp; done)) | exact sd_)) ?_
  refine u_mv (hq := by (first | ((repeat' apply And.intro) <;> first | rfl | exact ⟨by decide, by decide⟩ | exact ex_s.1 | exact ex_s.2.1 | exact ex_s.2.2.1 | exact ex_s.2.2.2 | exact ex_v | decide | omega | (simp; done)) | exact sd_)) ?_
  refine s_pt (hq := by (intro hg; (try simp only [b_rules, bif_and, bif_or] at hg); (first | ((repeat' apply And.intro) <;> first | rfl | exact ⟨by decide, by decide⟩ | exact ex_s.1 | exact ex_s.2.1 | exact ex_s.2.2.1 | exact ex_s.2.2.2 | exact ex_v | decide | omega | (simp; done)) | exact sd_))) ?_
  refine s_ld (hq := by (intro hg; (try simp only [b_rules, bif_and, bif_or] at hg); (first | ((repeat' apply And.intro) <;> first | rfl | exact ⟨by decide, by decide⟩ | exact ex_s.1 | exact ex_s.2.1 | exact ex_s.2.2.1 | exact ex_s.2.2.2 | exact ex_v | decide | omega | (simp; done)) | exact sd_))) ?_
  refine s_bn (hq := by (intro hg; (try simp only [b_rules, bif_and, bif_or] at hg); (first | ((repeat' apply And.intro) <;> first | rfl | exact ⟨by decide, by decide⟩ | exact ex_s.1 | exact ex_s.2.1 | exact ex_s.2.2.1 | exact ex_s.2.2.2 | exact ex_v | decide | omega | (simp; done)) | exact sd_))) ?_
  refine u_pk (hq := by (first | ((repeat' apply And.intro) <;> first | rfl | exact ⟨by decide, by decide⟩ | exact ex_s.1 | exact ex_s.2.1 | exact ex_s.2.2.1 | exact ex_s.2.2.2 | exact ex_v | decide | omega | (simp; done)) | exact sd_)) ?_
  refine u_mv (hq := by (first | ((repeat' apply And.intro) <;> first | rfl | exact ⟨by decide, by decide⟩ | exact ex_s.1 | exact ex_s.2.1 | exact ex_s.2.2.1 | exact ex_s.2.2.2 | exact ex_v | decide | omega | (simp; done)) | exact sd_)) ?_
  refine s_pt (hq := by (intro hg; (try simp only [b_rules, bif_and, bif_or] at hg); (first | ((repeat' apply And.intro) <;> first | rfl | exact ⟨by decide, by decide⟩ | exact ex_s.1 | exact ex_s.2.1 | exact ex_s.2.2.1 | exact ex_s.2.2.2 | exact ex_v | decide | omega | (simp; done)) | exact sd_))) ?_
  refine s_ld (hq := by (intro hg; (try simp only [b_rules, bif_and, bif_or] at hg); (first | ((repeat' apply And.intro) <;> first | rfl | exact ⟨by decide, by decide⟩ | exact ex_s.1 | exact ex_s.2.1 | exact ex_s.2.2.1 | exact ex_s.2.2.2 | exact ex_v | decide | omega | (simp; done)) | exact sd_))) ?_
  refine s_bn (hq := by (intro hg; (try simp only [b_rules, bif_and, bif_or] at hg); (first | ((repeat' apply And.intro) <;> first | rfl | exact ⟨by decide, by decide⟩ | exact ex_s.1 | exact ex_s.2.1 | exact ex_s.2.2.1 | exact ex_s.2.2.2 | exact ex_v | decide | omega | (simp; done)) | exact sd_))) ?_
  refine u_pk (hq := by (first | ((repeat' apply And.intro) <;> first | rfl | exact ⟨by decide, by decide⟩ | exact ex_s.1 | exact ex_s.2.1 | exact ex_s.2.2.1 | exact ex_s.2.2.2 | exact ex_v | decide | omega | (simp; done)) | exact sd_)) ?_
  refine u_mv (hq := by (first | ((repeat' apply And.intro) <;> first | rfl | exact ⟨by decide, by decide⟩ | exact ex_s.1 | exact ex_s.2.1 | exact ex_s.2.2.1 | exact ex_s.2.2.2 | exact ex_v | decide | omega | (simp; done)) | exact sd_)) ?_
  refine s_pt (hq := by (intro hg; (try simp only [b_rules, bif_and, bif_or] at hg); (first | ((repeat' apply And.intro) <;> first | rfl | exact ⟨by decide, by decide⟩ | exact ex_s.1 | exact ex_s.2.1 | exact ex_s.2.2.1 | exact ex_s.2.2.2 | exact ex_v | decide | omega | (simp; done)) | exact sd_))) ?_
  refine s_ld (hq := by (intro hg; (try simp only [b_rules, bif_and, bif_or] at hg); (first | ((repeat' apply And.intro) <;> first | rfl | exact ⟨by decide, by decide⟩ | exact ex_s.1 | exact ex_s.2.1 | exact ex_s.2.2.1 | exact ex_s.2.2.2 | exact ex_v | decide | omega | (simp; done)) | exact sd_))) ?_
  refine s_bn (hq := by (intro hg; (try simp only [b_rules, bif_and, bif_or] at hg); (first | ((repeat' apply And.intro) <;> first | rfl | exact ⟨by decide, by decide⟩ | exact ex_s.1 | exact ex_s.2.1 | exact ex_s.2.2.1 | exact ex_s.2.2.2 | exact ex_v | decide | omega | (simp; done)) | exact sd_))) ?_
  refine u_pk (hq := by (first | ((repeat' apply And.intro) <;> first | rfl | exact ⟨by decide, by decide⟩ | exact ex_s.1 | exact ex_s.2.1 | exact ex_s.2.2.1 | exact ex_s.2.2.2 | exact ex_v | decide | omega | (simp; done)) | exact sd_)) ?_
  refine u_mv (hq := by (first | ((repeat' apply And.intro) <;> first | rfl | exact ⟨by decide, by decide⟩ | exact ex_s.1 | exact ex_s.2.1 | exact ex_s.2.2.1 | exact ex_s.2.2.2 | exact ex_v | decide | omega | (simp; done)) | exact sd_)) ?_
  refine s_mv (hq := by (intro hg; (try simp only [b_rules, bif_and, bif_or] at hg); (first | ((repeat' apply And.intro) <;> first | rfl | exact ⟨by decide, by decide⟩ | exact ex_s.1 | exact ex_s.2.1 | exact ex_s.2.2.1 | exact ex_s.2.2.2 | exact ex_v | decide | omega | (simp; done)) | exact sd_))) ?_
  refine s_ln (hq := by (intro hg; (try simp only [b_rules, bif_and, bif_or] at hg); (first | ((repeat' apply And.intro) <;> first | rfl | exact ⟨by decide, by decide⟩ | exact ex_s.1 | exact ex_s.2.1 | exact ex_s.2.2.1 | exact ex_s.2.2.2 | exact ex_v | decide | omega | (simp; done)) | exact sd_))) ?_
  refine s_bn (hq := by (intro hg; (try simp only [b_rules, bif_and, bif_or] at hg); (first | ((repeat' apply And.intro) <;> first | rfl | exact ⟨by decide, by decide⟩ | exact ex_s.1 | exact ex_s.2.1 | exact ex_s.2.2.1 | exact ex_s.2.2.2 | exact ex_v | decide | omega | (simp; done)) | exact sd_))) ?_
  refine u_pk (hq := by (first | ((repeat' apply And.intro) <;> first | rfl | exact ⟨by decide, by decide⟩ | exact ex_s.1 | exact ex_s.2.1 | exact ex_s.2.2.1 | exact ex_s.2.2.2 | exact ex_v | decide | omega | (simp; done)) | exact sd_)) ?_
  refine u_mv (hq := by (first | ((repeat' apply And.intro) <;> first | rfl | exact ⟨by decide, by decide⟩ | exact ex_s.1 | exact ex_s.2.1 | exact ex_s.2.2.1 | exact ex_s.2.2.2 | exact ex_v | decide | omega | (simp; done)) | exact sd_)) ?_
  refine s_mv (hq := by (intro hg; (try simp only [b_rules, bif_and, bif_or] at hg); (first | ((repeat' apply And.intro) <;> first | rfl | exact ⟨by decide, by decide⟩ | exact ex_s.1 | exact ex_s.2.1 | exact ex_s.2.2.1 | exact ex_s.2.2.2 | exact ex_v | decide | omega | (simp; done)) | exact sd_))) ?_
  refine s_mv (hq := by (intro hg; (try simp only [b_rules, bif_and, bif_or] at hg); (first | ((repeat' apply And.intro) <;> first | rfl | exact ⟨by decide, by decide⟩ | exact ex_s.1 | exact ex_s.2.1 | exact ex_s.2.2.1 | exact ex_s.2.2.2 | exact ex_v | decide | omega | (simp; done)) | exact sd_))) ?_
  refine t_bs (hq := by (first | ((repeat' apply And.intro) <;> first | rfl | exact ⟨by decide, by decide⟩ | exact ex_s.1 | exact ex_s.2.1 | exact ex_s.2.2.1 | exact ex_s.2.2.2 | exact ex_v | decide | omega | (simp; done)) | exact sd_)) ?_
  have hc := call_rule (E := (E_small.at_ 77)) (f := 8) (sp := Spec.pure intsG) rfl
  have hs := @intsG.eq_1
  refine s_cp (hq := by (intro hg; (try simp only [b_rules, bif_and, bif_or] at hg); (first | ((repeat' apply And.intro) <;> first | rfl | exact ⟨by decide, by decide⟩ | exact ex_s.1 | exact ex_s.2.1 | exact ex_s.2.2.1 | exact ex_s.2.2.2 | exact ex_v | decide | omega | (simp; done)) | exact sd_))) ?_
  refine u_pk (hq := by (first | ((repeat' apply And.intro) <;> first | rfl | exact ⟨by decide, by decide⟩ | exact ex_s.1 | exact ex_s.2.1 | exact ex_s.2.2.1 | exact ex_s.2.2.2 | exact ex_v | decide | omega | (simp; done)) | exact sd_)) ?_
  refine u_mv (hq := by (first | ((repeat' apply And.intro) <;> first | rfl | exact ⟨by decide, by decide⟩ | exact ex_s.1 | exact ex_s.2.1 | exact ex_s.2.2.1 | exact ex_s.2.2.2 | exact ex_v | decide | omega | (simp; done)) | exact sd_)) ?_
  refine s_pt (hq := by (intro hg; (try simp only [b_rules, bif_and, bif_or] at hg); (first | ((repeat' apply And.intro) <;> first | rfl | exact ⟨by decide, by decide⟩ | exact ex_s.1 | exact ex_s.2.1 | exact ex_s.2.2.1 | exact ex_s.2.2.2 | exact ex_v | decide | omega | (simp; done)) | exact sd_))) ?_
  refine s_ld (hq := by (intro hg; (try simp only [b_rules, bif_and, bif_or] at hg); (first | ((repeat' apply And.intro) <;> first | rfl | exact ⟨by decide, by decide⟩ | exact ex_s.1 | exact ex_s.2.1 | exact ex_s.2.2.1 | exact ex_s.2.2.2 | exact ex_v | decide | omega | (simp; done)) | exact sd_))) ?_
  refine s_ln (hq := by (intro hg; (try simp only [b_rules, bif_and, bif_or] at hg); (first | ((repeat' apply And.intro) <;> first | rfl | exact ⟨by decide, by decide⟩ | exact ex_s.1 | exact ex_s.2.1 | exact ex_s.2.2.1 | exact ex_s.2.2.2 | exact ex_v | decide | omega | (simp; done)) | exact sd_))) ?_
  refine s_bn (hq := by (intro hg; (try simp only [b_rules, bif_and, bif_or] at hg); (first | ((repeat' apply And.intro) <;> first | rfl | exact ⟨by decide, by decide⟩ | exact ex_s.1 | exact ex_s.2.1 | exact ex_s.2.2.1 | exact ex_s.2.2.2 | exact ex_v | decide | omega | (simp; done)) | exact sd_))) ?_
  refine u_pk (hq := by (first | ((repeat' apply And.intro) <;> first | rfl | exact ⟨by decide, by decide⟩ | exact ex_s.1 | exact ex_s.2.1 | exact ex_s.2.2.1 | exact ex_s.2.2.2 | exact ex_v | decide | omega | (simp; done)) | exact sd_)) ?_
  refine u_mv (hq := by (first | ((repeat' apply And.intro) <;> first | rfl | exact ⟨by decide, by decide⟩ | exact ex_s.1 | exact ex_s.2.1 | exact ex_s.2.2.1 | exact ex_s.2.2.2 | exact ex_v | decide | omega | (simp; done)) | exact sd_)) ?_
  refine s_mv (hq := by (intro hg; (try simp only [b_rules, bif_and, bif_or] at hg); (first | ((repeat' apply And.intro) <;> first | rfl | exact ⟨by decide, by decide⟩ | exact ex_s.1 | exact ex_s.2.1 | exact ex_s.2.2.1 | exact ex_s.2.2.2 | exact ex_v | decide | omega | (simp; done)) | exact sd_))) ?_
  refine s_ln (hq := by (intro hg; (try simp only [b_rules, bif_and, bif_or] at hg); (first | ((repeat' apply And.intro) <;> first | rfl | exact ⟨by decide, by decide⟩ | exact ex_s.1 | exact ex_s.2.1 | exact ex_s.2.2.1 | exact ex_s.2.2.2 | exact ex_v | decide | omega | (simp; done)) | exact sd_))) ?_
  refine s_bn (hq := by (intro hg; (try simp only [b_rules, bif_and, bif_or] at hg); (first | ((repeat' apply And.intro) <;> first | rfl | exact ⟨by decide, by decide⟩ | exact ex_s.1 | exact ex_s.2.1 | exact ex_s.2.2.1 | exact ex_s.2.2.2 | exact ex_v | decide | omega | (simp; done)) | exact sd_))) ?_
  refine u_pk (hq := by (first | ((repeat' apply And.intro) <;> first | rfl | exact ⟨by decide, by decide⟩ | exact ex_s.1 | exact ex_s.2.1 | exact ex_s.2.2.1 | exact ex_s.2.2.2 | exact ex_v | decide | omega | (simp; done)) | exact sd_)) ?_
  refine u_mv (hq := by (first | ((repeat' apply And.intro) <;> first | rfl | exact ⟨by decide, by decide⟩ | exact ex_s.1 | exact ex_s.2.1 | exact ex_s.2.2.1 | exact ex_s.2.2.2 | exact ex_v | decide | omega | (simp; done)) | exact sd_)) ?_
  refine lg_nil ?_
  refine h6 _ ?_; clear h6; try clear N6
  refine vc_ret ?_
  try simp only [k_rules]
  refine fin2_ ?_
  (repeat' apply And.intro) <;> (first | (first | rfl | trivial | (simp; done) | (left; rfl)) | exact cl_)
 ·cases hg

def E_exG : Env Tryz.prog := E_small.add 4 (Spec.pure exG) exG_meets (by kernel_rfl)
end Go.Proofs.YtoagbjhlpfepkaaGreatDoor
