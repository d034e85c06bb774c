/- Walks, printed by wip/gen/walk.py. -/
import Derived.Test.YtlbjffdaooadoaaDoorT56
import Derived.Test.YtlbjffdaooadoaaDoorV5
set_option linter.all false
set_option maxRecDepth 100000
set_option maxHeartbeats 4000000
namespace Go.Proofs.YtlbjffdaooadoaaDoor
open Go Go.Vc Go.RowKit
def oxN : List Nd := [⟨1, 0, 0, 0⟩, ⟨2, 0, 0, 0⟩, ⟨3, 1, 0, 0⟩, ⟨14, 0, 1, 2⟩, ⟨16, 0, 0, 3⟩]
def oxS : List Nd := [⟨3, 1, 0, 0⟩, ⟨7, 0, 0, 0⟩]
theorem ox_parse : parsQ [97, 108, 108, 32, 45, 32, 40, 110, 111, 110, 101, 32, 124, 32, 35, 49, 41] = (0, 0, oxN) := by kernel_rfl
theorem ox_opt : optQ oxN = (0, 0, oxS) := by kernel_rfl
theorem ox_fmt : fmtQ oxS = (0, 0, [33, 35, 49]) := by kernel_rfl
theorem ox_cst : cstQ oxN = (0, 0, 5) := by kernel_rfl
def oexG : List AV → Option (Prop × AV)
  | [] => some (True, .d (.bool true))
  | _ => none

theorem oex_meets : Meets Tryd.prog 14 (Spec.pure oexG) := by
 refine meets_fun (E_cst.at_ 54) Tryd.func14 rfl rfl rfl ?_
 intro args p r hg hp
 unfold oexG at hg
 split at hg
 skip
 simp only [Option.some.injEq, Prod.mk.injEq] at hg
 obtain ⟨rfl, rfl⟩ := hg
 have hT : (E_cst).X = T := rfl
 have hx0 := And.intro @rect_eN (And.intro @dN_rows (And.intro @ox_parse (And.intro @ox_opt (And.intro @ox_fmt (And.intro @ox_cst (And.intro @dec_t (And.intro @dec_f @Tryd.results14)))))))
 have hx := hx0
 refine ⟨by rfl, ?_⟩
 intro F W0 hnp hmk
 refine vc_seq_k fun N1 h1 => ?_
 refine u_reg ?_
 try refine lg_mk ?_
 refine u_mv ?_
 refine lg_nil ?_
 refine h1 _ ?_; clear h1; try clear N1
 refine vc_seq_k fun N2 h2 => ?_
 refine u_reg ?_
 try refine lg_mk ?_
 have hc := call_rule (E := (E_cst.at_ 54)) (f := 29) (sp := Spec.pure parsG) rfl
 have hs := @parsG.eq_1
 refine u_hp (hq := by (first | ((repeat' apply And.intro) <;> first | rfl | decide | omega) | exact sd_)) ?_
 refine u_mv (hq := by (first | ((repeat' apply And.intro) <;> first | rfl | decide | omega) | exact sd_)) ?_
 refine u_ex (hq := by (first | ((repeat' apply And.intro) <;> first | rfl | decide | omega) | exact sd_)) ?_
 refine u_ex (hq := by (first | ((repeat' apply And.intro) <;> first | rfl | decide | omega) | exact sd_)) ?_
 refine u_al (hq := by (first | ((repeat' apply And.intro) <;> first | rfl | decide | omega) | exact sd_)) ?_
 refine u_al (hq := by (first | ((repeat' apply And.intro) <;> first | rfl | decide | omega) | exact sd_)) ?_
 refine u_st (hq := by (first | ((repeat' apply And.intro) <;> first | rfl | decide | omega) | exact sd_)) ?_
 refine u_st (hq := by (first | ((repeat' apply And.intro) <;> first | rfl | decide | omega) | exact sd_)) ?_
 refine lg_nil ?_
 refine h2 _ ?_; clear h2; try clear N2
 refine vc_seq_k fun N3 h3 => ?_
 refine u_reg ?_
 try refine lg_mk ?_
 refine u_ld (hq := by (first | ((repeat' apply And.intro) <;> first | rfl | decide | omega) | exact sd_)) ?_
 have hc := call_rule (E := (E_cst.at_ 54)) (f := 15) (sp := Spec.pure optG) rfl
 have hs := @optG.eq_1
 refine u_hp (hq := by (first | ((repeat' apply And.intro) <;> first | rfl | decide | omega) | exact sd_)) ?_
 refine u_mv (hq := by (first | ((repeat' apply And.intro) <;> first | rfl | decide | omega) | exact sd_)) ?_
 refine u_ex (hq := by (first | ((repeat' apply And.intro) <;> first | rfl | decide | omega) | exact sd_)) ?_
 refine u_ex (hq := by (first | ((repeat' apply And.intro) <;> first | rfl | decide | omega) | exact sd_)) ?_
 refine u_al (hq := by (first | ((repeat' apply And.intro) <;> first | rfl | decide | omega) | exact sd_)) ?_
 refine u_al (hq := by (first | ((repeat' apply And.intro) <;> first | rfl | decide | omega) | exact sd_)) ?_
 refine u_st (hq := by (first | ((repeat' apply And.intro) <;> first | rfl | decide | omega) | exact sd_)) ?_
 refine u_st (hq := by (first | ((repeat' apply And.intro) <;> first | rfl | decide | omega) | exact sd_)) ?_
 refine lg_nil ?_
 refine h3 _ ?_; clear h3; try clear N3
 refine vc_seq_k fun N4 h4 => ?_
 refine u_reg ?_
 try refine lg_mk ?_
 refine u_ld (hq := by (first | ((repeat' apply And.intro) <;> first | rfl | decide | omega) | exact sd_)) ?_
 have hc := call_rule (E := (E_cst.at_ 54)) (f := 31) (sp := Spec.pure fmtG) rfl
 have hs := @fmtG.eq_1
 refine u_cp (hq := by (first | ((repeat' apply And.intro) <;> first | rfl | decide | omega) | exact sd_)) ?_
 refine u_mv (hq := by (first | ((repeat' apply And.intro) <;> first | rfl | decide | omega) | exact sd_)) ?_
 refine u_ex (hq := by (first | ((repeat' apply And.intro) <;> first | rfl | decide | omega) | exact sd_)) ?_
 refine u_ex (hq := by (first | ((repeat' apply And.intro) <;> first | rfl | decide | omega) | exact sd_)) ?_
 refine u_al (hq := by (first | ((repeat' apply And.intro) <;> first | rfl | decide | omega) | exact sd_)) ?_
 refine u_mv (hq := by (first | ((repeat' apply And.intro) <;> first | rfl | decide | omega) | exact sd_)) ?_
 refine u_st (hq := by (first | ((repeat' apply And.intro) <;> first | rfl | decide | omega) | exact sd_)) ?_
 refine lg_nil ?_
 refine h4 _ ?_; clear h4; try clear N4
 refine vc_seq_k fun N5 h5 => ?_
 refine u_reg ?_
 try refine lg_mk ?_
 refine u_ld (hq := by (first | ((repeat' apply And.intro) <;> first | rfl | decide | omega) | exact sd_)) ?_
 have hc := call_rule (E := (E_cst.at_ 54)) (f := 16) (sp := Spec.pure cstG) rfl
 have hs := @cstG.eq_1
 refine u_cp (hq := by (first | ((repeat' apply And.intro) <;> first | rfl | decide | omega) | exact sd_)) ?_
 refine u_mv (hq := by (first | ((repeat' apply And.intro) <;> first | rfl | decide | omega) | exact sd_)) ?_
 refine u_ex (hq := by (first | ((repeat' apply And.intro) <;> first | rfl | decide | omega) | exact sd_)) ?_
 refine u_ex (hq := by (first | ((repeat' apply And.intro) <;> first | rfl | decide | omega) | exact sd_)) ?_
 refine u_al (hq := by (first | ((repeat' apply And.intro) <;> first | rfl | decide | omega) | exact sd_)) ?_
 refine u_mv (hq := by (first | ((repeat' apply And.intro) <;> first | rfl | decide | omega) | exact sd_)) ?_
 refine u_st (hq := by (first | ((repeat' apply And.intro) <;> first | rfl | decide | omega) | exact sd_)) ?_
 refine lg_nil ?_
 refine h5 _ ?_; clear h5; try clear N5
 refine vc_seq_k fun N6 h6 => ?_
 refine u_reg ?_
 try refine lg_mk ?_
 refine u_pt ?_
 refine u_ld ?_
 refine u_bn ?_
 refine u_mv ?_
 refine g_pt ?_
 refine g_ld ?_
 refine g_bn ?_
 refine u_pk ?_
 refine u_mv ?_
 refine g_pt ?_
 refine g_ld ?_
 refine g_bn ?_
 refine u_pk ?_
 refine u_mv ?_
 refine g_pt ?_
 refine g_ld ?_
 refine g_bn ?_
 refine u_pk ?_
 refine u_mv ?_
 refine g_mv ?_
 refine g_bn ?_
 refine u_pk ?_
 refine u_mv ?_
 refine g_mv ?_
 refine g_bn ?_
 refine u_pk ?_
 refine u_mv ?_
 refine lg_nil ?_
 refine h6 _ ?_; clear h6; try clear N6
 refine vc_ret ?_
 try simp only [k_rules]
 refine fin2_ ?_
 exact cl_
 cases hg

def E_oex : Env Tryd.prog := E_cst.add 14 (Spec.pure oexG) oex_meets (by kernel_rfl)
end Go.Proofs.YtlbjffdaooadoaaDoor
