/- Walks, printed by wip/gen/walk.py. -/
import Derived.Test.YtaoifpmifpmhmaaT12
import Derived.Test.YtaoifpmifpmhmaaV4
set_option linter.all false
set_option maxRecDepth 100000
set_option maxHeartbeats 4000000
namespace Go.Proofs.Ytaoifpmifpmhmaa
open Go Go.Vc Go.RowKit
theorem example_meets : Meets Try.prog 22 (Spec.pure exampleG) := by
 refine meets_fun (E_chain.at_ 87) Try.func22 rfl rfl rfl ?_
 intro args p r hg hp
 unfold exampleG at hg
 split at hg
 ·skip
  simp only [Option.some.injEq, Prod.mk.injEq] at hg
  obtain ⟨rfl, rfl⟩ := hg
  have hT : (E_chain).X = T := rfl
  have hx0 := And.intro @dec_t (And.intro @dec_f (And.intro @dC_rows (And.intro @dI1 (And.intro @dI2 (And.intro @dI3 (And.intro @ex_cut.1 (And.intro @ex_cut.2 (And.intro @ex_sel.1 (And.intro @ex_sel.2 (And.intro @ex_del.1 (And.intro @ex_del.2 (And.intro @ex_ex (And.intro @eI.eq_1 (And.intro @eC.eq_1 (And.intro @rows_cons (And.intro @rows_nil @Try.results22))))))))))))))))
  have hx := hx0
  refine ⟨by rfl, ?_⟩
  intro F W0 hnp hmk
  refine vc_seq_k fun N1 h1 => ?_
  refine u_reg ?_
  try refine lg_mk ?_
  refine u_mv ?_
  refine lg_nil ?_
  refine h1 _ ?_; clear h1; try clear N1
  refine vc_seq_k fun N2 h2 => ?_
  refine u_reg ?_
  try refine lg_mk ?_
  have hc := call_rule (E := (E_chain.at_ 87)) (f := 34) (sp := Spec.pure chainG) rfl
  have hs := @chainG.eq_1
  refine u_hp ?_
  refine u_bs ?_
  have hc := call_rule (E := (E_chain.at_ 87)) (f := 23) (sp := Spec.pure cutG) rfl
  have hs := @cutG.eq_1
  refine u_hp (hq := by (first | (exact ⟨by rw [chain_len]; omega, small_chain _, by unfold inI64; omega⟩) | (first | trivial | omega | assumption | (unfold inI64; omega) | ((repeat' apply And.intro) <;> first | rfl | trivial | omega | assumption | (unfold inI64; omega)) | (simp; done) | (simp; omega)))) ?_
  refine u_mv ?_
  refine u_ex ?_
  refine u_ex ?_
  refine u_al ?_
  refine u_mv ?_
  refine u_st ?_
  refine lg_nil ?_
  refine h2 _ ?_; clear h2; try clear N2
  refine vc_seq_k fun N3 h3 => ?_
  refine u_reg ?_
  try refine lg_mk ?_
  have hc := call_rule (E := (E_chain.at_ 87)) (f := 34) (sp := Spec.pure chainG) rfl
  have hs := @chainG.eq_1
  refine u_hp ?_
  refine u_bs ?_
  have hc := call_rule (E := (E_chain.at_ 87)) (f := 27) (sp := Spec.pure bndG) rfl
  have hs := @bndG.eq_1
  refine u_hp (hq := by (first | (exact ⟨by rw [chain_len]; omega, small_chain _⟩) | (first | trivial | omega | assumption | (unfold inI64; omega) | ((repeat' apply And.intro) <;> first | rfl | trivial | omega | assumption | (unfold inI64; omega)) | (simp; done) | (simp; omega)))) ?_
  refine u_mv ?_
  refine u_ex ?_
  refine u_ex ?_
  refine u_al ?_
  refine u_mv ?_
  refine u_st ?_
  refine lg_nil ?_
  refine h3 _ ?_; clear h3; try clear N3
  refine vc_seq_k fun N4 h4 => ?_
  refine u_reg ?_
  try refine lg_mk ?_
  have hc := call_rule (E := (E_chain.at_ 87)) (f := 34) (sp := Spec.pure chainG) rfl
  have hs := @chainG.eq_1
  refine u_hp ?_
  refine u_bs ?_
  have hc := call_rule (E := (E_chain.at_ 87)) (f := 28) (sp := Spec.pure delG) rfl
  have hs := @delG.eq_1
  refine u_hp (hq := by (first | (exact ⟨by rw [chain_len]; omega, small_chain _, by unfold inI64; omega⟩) | (first | trivial | omega | assumption | (unfold inI64; omega) | ((repeat' apply And.intro) <;> first | rfl | trivial | omega | assumption | (unfold inI64; omega)) | (simp; done) | (simp; omega)))) ?_
  refine u_mv ?_
  refine u_ex ?_
  refine u_ex ?_
  refine u_al ?_
  refine u_mv ?_
  refine u_st ?_
  refine lg_nil ?_
  refine h4 _ ?_; clear h4; try clear N4
  refine vc_seq_k fun N5 h5 => ?_
  refine u_reg ?_
  try refine lg_mk ?_
  have hc := call_rule (E := (E_chain.at_ 87)) (f := 34) (sp := Spec.pure chainG) rfl
  have hs := @chainG.eq_1
  refine u_hp ?_
  refine u_bs ?_
  have hc := call_rule (E := (E_chain.at_ 87)) (f := 29) (sp := Spec.pure exG) rfl
  have hs := @exG.eq_1
  refine u_hp (hq := by (first | (exact ⟨by rw [chain_len]; omega, small_chain _⟩) | (first | trivial | omega | assumption | (unfold inI64; omega) | ((repeat' apply And.intro) <;> first | rfl | trivial | omega | assumption | (unfold inI64; omega)) | (simp; done) | (simp; omega)))) ?_
  refine u_mv ?_
  refine u_ex ?_
  refine u_ex ?_
  refine u_al ?_
  refine u_mv ?_
  refine u_st ?_
  refine lg_nil ?_
  refine h5 _ ?_; clear h5; try clear N5
  refine vc_seq_k fun N6 h6 => ?_
  refine u_reg ?_
  try refine lg_mk ?_
  refine u_pt ?_
  refine u_ld ?_
  refine u_bn ?_
  refine u_mv ?_
  refine g_pt ?_
  refine g_ld ?_
  refine g_bn ?_
  refine u_pk ?_
  refine u_mv ?_
  refine g_pt ?_
  refine g_ld ?_
  refine g_bn ?_
  refine u_pk ?_
  refine u_mv ?_
  refine g_pt ?_
  refine g_ld ?_
  refine g_bn ?_
  refine u_pk ?_
  refine u_mv ?_
  refine g_mv ?_
  refine t_bs ?_
  have hc := call_rule (E := (E_chain.at_ 87)) (f := 17) (sp := Spec.pure intsG) rfl
  have hs := @intsG.eq_1
  refine g_cp ?_
  refine u_pk ?_
  refine u_mv ?_
  refine g_mv ?_
  refine t_bs ?_
  have hc := call_rule (E := (E_chain.at_ 87)) (f := 17) (sp := Spec.pure intsG) rfl
  have hs := @intsG.eq_1
  refine g_cp ?_
  refine u_pk ?_
  refine u_mv ?_
  refine g_mv ?_
  refine t_bs ?_
  have hc := call_rule (E := (E_chain.at_ 87)) (f := 17) (sp := Spec.pure intsG) rfl
  have hs := @intsG.eq_1
  refine g_cp ?_
  refine u_pk ?_
  refine u_mv ?_
  refine g_mv ?_
  refine g_ln ?_
  refine g_bn ?_
  refine u_pk ?_
  refine u_mv ?_
  refine g_mv ?_
  refine g_pt ?_
  refine g_pt ?_
  refine g_ld ?_
  refine g_ln ?_
  refine g_bn ?_
  refine u_pk ?_
  refine u_mv ?_
  refine g_mv ?_
  refine g_pt ?_
  refine g_pt ?_
  refine g_ld ?_
  refine t_bs ?_
  have hc := call_rule (E := (E_chain.at_ 87)) (f := 17) (sp := Spec.pure intsG) rfl
  have hs := @intsG.eq_1
  refine g_cp ?_
  refine u_pk ?_
  refine u_mv ?_
  refine lg_nil ?_
  refine h6 _ ?_; clear h6; try clear N6
  refine vc_ret ?_
  try simp only [k_rules]
  refine fin2_ ?_
  exact cl_
 ·cases hg

def E_example : Env Try.prog := E_chain.add 22 (Spec.pure exampleG) example_meets (by kernel_rfl)
end Go.Proofs.Ytaoifpmifpmhmaa
