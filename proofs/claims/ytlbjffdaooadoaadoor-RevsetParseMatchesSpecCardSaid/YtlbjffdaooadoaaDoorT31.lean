/- Walks, printed by wip/gen/walk.py. -/
import Derived.Test.YtlbjffdaooadoaaDoorT30
import Derived.Test.YtlbjffdaooadoaaDoorV5
set_option linter.all false
set_option maxRecDepth 100000
set_option maxHeartbeats 4000000
namespace Go.Proofs.YtlbjffdaooadoaaDoor
open Go Go.Vc Go.RowKit
def exN : List Nd := [⟨3, 1, 0, 0⟩, ⟨8, 0, 0, 0⟩]
def exL : List Cm := [⟨[], 0, 0, 0, []⟩, ⟨[0], 0, 0, 0, []⟩, ⟨[], 0, 0, 0, []⟩]
theorem ex_parse : parsQ [97, 110, 99, 40, 35, 49, 41] = (0, 0, exN) := by kernel_rfl
theorem ex_eval : evV exL exN = (0, 0, [true, true, false]) := by kernel_rfl
theorem ex_fmt : fmtQ exN = (0, 0, [97, 110, 99, 40, 35, 49, 41]) := by kernel_rfl

def exG : List AV → Option (Prop × AV)
  | [] => some (True, .d (.bool true))
  | _ => none
def exR : List (List D) := [[.sl [], .int .i64 0, .int .i64 0, .int .i64 0, .str []], [.sl [[.int .i64 0]], .int .i64 0, .int .i64 0, .int .i64 0, .str []], [.sl [], .int .i64 0, .int .i64 0, .int .i64 0, .str []]]
theorem ex_dC2 : dC [[.sl [], .int .i64 0, .int .i64 0, .int .i64 0, .str []], [.sl [[.int .i64 0]], .int .i64 0, .int .i64 0, .int .i64 0, .str []], [.sl [], .int .i64 0, .int .i64 0, .int .i64 0, .str []]] = exL := by kernel_rfl
theorem ex_len : exN.length = 2 := rfl
theorem ex_rows : exR = rows eC exL := by kernel_rfl
theorem ex_small : smallC exL := by
  intro c hc
  have : exL.all (fun c => decide (c.par.length ≤ 9223372036854775807 ∧ c.ms.length ≤ 9223372036854775807)) = true := by kernel_rfl
  simpa using List.all_eq_true.1 this c hc

theorem exq_meets : Meets Tryd.prog 22 (Spec.pure exG) := by
 refine meets_fun (E_ev.at_ 56) Tryd.func22 rfl rfl rfl ?_
 intro args p r hg hp
 unfold exG at hg
 split at hg
 skip
 simp only [Option.some.injEq, Prod.mk.injEq] at hg
 obtain ⟨rfl, rfl⟩ := hg
 have hT : (E_ev).X = T := rfl
 have hx0 := And.intro @rect_eC (And.intro @rect_eN (And.intro @dN_rows (And.intro @dB_rows (And.intro @ex_parse (And.intro @ex_dC2 (And.intro @ex_eval (And.intro @ex_fmt (And.intro @ex_len (And.intro @dec_t (And.intro @dec_f @Tryd.results22))))))))))
 have hx := hx0
 refine ⟨by rfl, ?_⟩
 intro F W0 hnp hmk
 refine vc_seq_k fun N1 h1 => ?_
 refine u_reg ?_
 try refine lg_mk ?_
 refine u_mv ?_
 refine lg_nil ?_
 refine h1 _ ?_; clear h1; try clear N1
 refine vc_seq_k fun N2 h2 => ?_
 refine u_reg ?_
 try refine lg_mk ?_
 refine u_bd ?_
 refine u_bs ?_
 iterate 2 refine u_bd ?_
 refine u_bs ?_
 refine u_mv ?_
 refine lg_nil ?_
 refine h2 _ ?_; clear h2; try clear N2
 refine vc_seq_k fun N3 h3 => ?_
 refine u_reg ?_
 try refine lg_mk ?_
 have hc := call_rule (E := (E_ev.at_ 56)) (f := 29) (sp := Spec.pure parsG) rfl
 have hs := @parsG.eq_1
 refine u_hp ?_
 refine u_mv ?_
 iterate 2 refine u_ex ?_
 iterate 2 refine u_al ?_
 iterate 2 refine u_st ?_
 refine lg_nil ?_
 refine h3 _ ?_; clear h3; try clear N3
 refine vc_seq_k fun N4 h4 => ?_
 refine u_reg ?_
 try refine lg_mk ?_
 refine u_mv ?_
 refine u_ld ?_
 have hc := call_rule (E := (E_ev.at_ 56)) (f := 23) (sp := Spec.pure evG) rfl
 have hs := @evG.eq_1
 refine u_hp (hq := by (first | ((first | exact ⟨ex_rows, by decide, ex_small, by decide⟩ | exact ⟨ex_rows, by decide, ex_small⟩)) | exact sd_)) ?_
 refine u_mv ?_
 iterate 2 refine u_ex ?_
 refine u_al ?_
 refine u_mv ?_
 refine u_st ?_
 refine lg_nil ?_
 refine h4 _ ?_; clear h4; try clear N4
 refine vc_seq_k fun N5 h5 => ?_
 refine u_reg ?_
 try refine lg_mk ?_
 refine u_ld ?_
 have hc := call_rule (E := (E_ev.at_ 56)) (f := 31) (sp := Spec.pure fmtG) rfl
 have hs := @fmtG.eq_1
 refine u_cp ?_
 refine u_mv ?_
 iterate 2 refine u_ex ?_
 refine u_al ?_
 refine u_mv ?_
 refine u_st ?_
 refine lg_nil ?_
 refine h5 _ ?_; clear h5; try clear N5
 refine vc_seq_k fun N6 h6 => ?_
 refine u_reg ?_
 try refine lg_mk ?_
 refine u_pt ?_
 refine u_ld ?_
 refine u_bn ?_
 refine u_mv ?_
 refine g_pt ?_
 refine g_ld ?_
 refine g_bn ?_
 refine u_pk ?_
 refine u_mv ?_
 refine g_pt ?_
 refine g_ld ?_
 refine g_bn ?_
 refine u_pk ?_
 refine u_mv ?_
 refine g_mv ?_
 refine g_bn ?_
 refine u_pk ?_
 refine u_mv ?_
 refine g_pt ?_
 refine g_ld ?_
 refine g_ln ?_
 refine g_bn ?_
 refine u_pk ?_
 refine u_mv ?_
 refine g_mv ?_
 refine t_bs ?_
 have hc := call_rule (E := (E_ev.at_ 56)) (f := 27) (sp := Spec.pure boolsG) rfl
 have hs := @boolsG.eq_1
 refine g_cp ?_
 refine u_pk ?_
 refine u_mv ?_
 refine lg_nil ?_
 refine h6 _ ?_; clear h6; try clear N6
 refine vc_ret ?_
 try simp only [k_rules]
 refine fin2_ ?_
 exact cl_
 cases hg

def E_exq : Env Tryd.prog := E_ev.add 22 (Spec.pure exG) exq_meets (by kernel_rfl)
end Go.Proofs.YtlbjffdaooadoaaDoor
