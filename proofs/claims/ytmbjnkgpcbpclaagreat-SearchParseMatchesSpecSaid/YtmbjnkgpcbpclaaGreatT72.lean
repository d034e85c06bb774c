/- Walks, printed by wip/gen/walk.py. -/
import Derived.Test.YtmbjnkgpcbpclaaGreatT71
import Derived.Test.YtmbjnkgpcbpclaaGreatV5
set_option linter.all false
set_option maxRecDepth 100000
set_option maxHeartbeats 4000000
namespace Go.Proofs.YtmbjnkgpcbpclaaGreat
open Go Go.Vc Go.RowKit
def exQ : List Sn := [⟨1, [98], 0, 0⟩, ⟨1, [97], 0, 0⟩, ⟨4, [], 1, 0⟩, ⟨2, [], 0, 2⟩]
theorem ex_par : parS [34, 98, 34, 32, 38, 32, 33, 34, 97, 34] = some exQ := by kernel_rfl
theorem ex_find : fnV [[97, 98, 99], [98], [99]] exQ = (0, 0, [1]) := by kernel_rfl
theorem ex_fmt : fmtS exQ = (0, 0, [34, 98, 34, 32, 38, 32, 33, 34, 97, 34]) := by kernel_rfl
theorem ex_len : exQ.length = 4 := rfl
theorem ex_dT : dT [[.str [97, 98, 99]], [.str [98]], [.str [99]]] = [[97, 98, 99], [98], [99]] := rfl
theorem getD_sn (a : List Sn) : (some a).getD [] = a := rfl
theorem ex_big : bigS exQ := by
  intro n hn
  have : exQ.all (fun n => decide (n.tx.length ≤ 9223372036854775807)) = true := by kernel_rfl
  simpa using List.all_eq_true.1 this n hn
theorem ex_ts : ∀ s ∈ ([[97, 98, 99], [98], [99]] : List Bs), s.length ≤ 9223372036854775807 := by
  intro s hs
  have : ([[97, 98, 99], [98], [99]] : List Bs).all (fun s => decide (s.length ≤ 9223372036854775807)) = true := by kernel_rfl
  simpa using List.all_eq_true.1 this s hs
theorem ex_ts2 : ∀ s : Bs, s = [97, 98, 99] ∨ s = [98] ∨ s = [99] → s.length ≤ 9223372036854775807 := by
  rintro s (rfl | rfl | rfl) <;> decide
def exG : List AV → Option (Prop × AV)
  | [] => some (True, .d (.bool true))
  | _ => none

def E_parA : Env Tryz.prog := E_fmt.add 16 (Spec.pure parG) par_meets (by kernel_rfl)

theorem exq_meets : Meets Tryz.prog 9 (Spec.pure exG) := by
 refine meets_fun (E_parA.at_ 50) Tryz.func9 rfl rfl rfl ?_
 intro args p r hg hp
 unfold exG at hg
 split at hg
 skip
 simp only [Option.some.injEq, Prod.mk.injEq] at hg
 obtain ⟨rfl, rfl⟩ := hg
 have hT : (E_parA).X = T := rfl
 have hx0 := And.intro @rect_eSn (And.intro @rect_eT (And.intro @dSn_rows (And.intro @dI_rows (And.intro @ex_par (And.intro @getD_sn (And.intro @ex_dT (And.intro @ex_find (And.intro @ex_fmt (And.intro @ex_len (And.intro @dec_t (And.intro @dec_f @Tryz.results9)))))))))))
 have hx := hx0
 refine ⟨by rfl, ?_⟩
 intro F W0 hnp hmk
 refine vc_seq_k fun N1 h1 => ?_
 refine u_reg ?_
 try refine lg_mk ?_
 refine u_mv ?_
 refine lg_nil ?_
 refine h1 _ ?_; clear h1; try clear N1
 refine vc_seq_k fun N2 h2 => ?_
 refine u_reg ?_
 try refine lg_mk ?_
 have hc := call_rule (E := (E_parA.at_ 50)) (f := 16) (sp := Spec.pure parG) rfl
 have hs := @parG.eq_1
 refine u_hp (hq := by (first | (exact ⟨by decide, rfl⟩) | exact sd_)) ?_
 refine u_mv ?_
 iterate 2 refine u_ex ?_
 iterate 2 refine u_al ?_
 iterate 2 refine u_st ?_
 refine lg_nil ?_
 refine h2 _ ?_; clear h2; try clear N2
 refine vc_seq_k fun N3 h3 => ?_
 refine u_reg ?_
 try refine lg_mk ?_
 refine u_bs ?_
 refine u_ld ?_
 have hc := call_rule (E := (E_parA.at_ 50)) (f := 10) (sp := Spec.pure fnG) rfl
 have hs := @fnG.eq_1
 refine u_hp (hq := by (first | ((repeat' apply And.intro) <;> first | rfl | exact ex_ts | exact ex_ts2 | exact ex_big | exact True.intro | decide | omega) | exact sd_)) ?_
 refine u_mv ?_
 iterate 2 refine u_ex ?_
 refine u_al ?_
 refine u_mv ?_
 refine u_st ?_
 refine lg_nil ?_
 refine h3 _ ?_; clear h3; try clear N3
 refine vc_seq_k fun N4 h4 => ?_
 refine u_reg ?_
 try refine lg_mk ?_
 refine u_ld ?_
 have hc := call_rule (E := (E_parA.at_ 50)) (f := 19) (sp := Spec.pure fmtG) rfl
 have hs := @fmtG.eq_1
 refine u_cp (hq := by (first | ((repeat' apply And.intro) <;> first | rfl | exact ex_ts | exact ex_ts2 | exact ex_big | exact True.intro | decide | omega) | exact sd_)) ?_
 refine u_mv ?_
 iterate 2 refine u_ex ?_
 refine u_al ?_
 refine u_mv ?_
 refine u_st ?_
 refine lg_nil ?_
 refine h4 _ ?_; clear h4; try clear N4
 refine vc_seq_k fun N5 h5 => ?_
 refine u_reg ?_
 try refine lg_mk ?_
 refine u_pt ?_
 refine u_ld ?_
 refine u_bn ?_
 refine u_mv ?_
 refine g_pt ?_
 refine g_ld ?_
 refine g_bn ?_
 refine u_pk ?_
 refine u_mv ?_
 refine g_pt ?_
 refine g_ld ?_
 refine g_bn ?_
 refine u_pk ?_
 refine u_mv ?_
 refine g_pt ?_
 refine g_ld ?_
 refine g_ln ?_
 refine g_bn ?_
 refine u_pk ?_
 refine u_mv ?_
 refine g_mv ?_
 refine t_bs ?_
 have hc := call_rule (E := (E_parA.at_ 50)) (f := 14) (sp := Spec.pure intsG) rfl
 have hs := @intsG.eq_1
 refine g_cp ?_
 refine u_pk ?_
 refine u_mv ?_
 refine g_mv ?_
 refine g_bn ?_
 refine u_pk ?_
 refine u_mv ?_
 refine lg_nil ?_
 refine h5 _ ?_; clear h5; try clear N5
 refine vc_ret ?_
 try simp only [k_rules]
 refine fin2_ ?_
 exact cl_
 cases hg

def E_exq : Env Tryz.prog := E_parA.add 9 (Spec.pure exG) exq_meets (by kernel_rfl)
end Go.Proofs.YtmbjnkgpcbpclaaGreat
