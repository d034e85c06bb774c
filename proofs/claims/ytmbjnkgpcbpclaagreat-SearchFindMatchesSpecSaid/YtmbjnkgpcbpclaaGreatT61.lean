/- Walks, printed by wip/gen/walk.py. -/
import Derived.Test.YtmbjnkgpcbpclaaGreatT60
import Derived.Test.YtmbjnkgpcbpclaaGreatV5
set_option linter.all false
set_option maxRecDepth 100000
set_option maxHeartbeats 4000000
namespace Go.Proofs.YtmbjnkgpcbpclaaGreat
open Go Go.Vc Go.RowKit
def slv (k : Int) : Int := if k = 3 then 0 else if k = 2 then 1 else 2
def slvG : List AV → Option (Prop × AV)
  | [.d (.int .i64 k)] => some (True, .d (.int .i64 (slv k)))
  | _ => none
theorem slv_meets : Meets Tryz.prog 66 (Spec.pure slvG) := by
 refine meets_fun (E_fnd.at_ 8) Tryz.func66 rfl rfl rfl ?_
 intro args p r hg hp
 unfold slvG at hg
 split at hg
 rename_i k
 simp only [Option.some.injEq, Prod.mk.injEq] at hg
 obtain ⟨rfl, rfl⟩ := hg
 have hT : (E_fnd).X = T := rfl
 have hx0 := @Tryz.results66
 have hx := hx0
 refine ⟨by rfl, ?_⟩
 intro F W0 hnp hmk
 refine vc_seq_k fun N1 h1 => ?_
 refine u_reg ?_
 try refine lg_mk ?_
 refine u_mv ?_
 refine lg_nil ?_
 refine h1 _ ?_; clear h1; try clear N1
 refine vc_seq_k fun N2 h2 => ?_
 refine vc_seq_k fun N3 h3 => ?_
 refine u_reg ?_
 try refine lg_mk ?_
 refine u_mv ?_
 refine lg_nil ?_
 refine h3 _ ?_; clear h3; try clear N3
 refine vc_block ?_
 refine vc_seq_k fun N4 h4 => ?_
 refine u_reg ?_
 try refine lg_mk ?_
 refine u_bn ?_
 refine u_mv ?_
 refine lg_nil ?_
 refine h4 _ ?_; clear h4; try clear N4
 refine u_cond (fun hb5 => ?_) (fun hb5 => ?_)
 refine vc_seq_k fun N6 h6 => ?_
 refine u_reg ?_
 try refine lg_mk ?_
 refine u_mv ?_
 refine lg_nil ?_
 refine h6 _ ?_; clear h6; try clear N6
 refine vc_ret ?_
 try simp only [k_rules]
 have hr : slv k = 0 := by
  unfold slv; rw [if_pos (by have := hb5; (try simp at this); omega)]
 rw [hr]
 refine fin2_ ?_
 exact cl_
 refine vc_seq_k fun N7 h7 => ?_
 refine u_reg ?_
 try refine lg_mk ?_
 refine u_bn ?_
 refine u_mv ?_
 refine lg_nil ?_
 refine h7 _ ?_; clear h7; try clear N7
 refine u_cond (fun hb8 => ?_) (fun hb8 => ?_)
 refine vc_seq_k fun N9 h9 => ?_
 refine u_reg ?_
 try refine lg_mk ?_
 refine u_mv ?_
 refine lg_nil ?_
 refine h9 _ ?_; clear h9; try clear N9
 refine vc_ret ?_
 try simp only [k_rules]
 have hr : slv k = 1 := by
  unfold slv; rw [if_neg (by have := hb5; (try simp at this); omega), if_pos (by have := hb8; (try simp at this); omega)]
 rw [hr]
 refine fin2_ ?_
 exact cl_
 refine vc_skip ?_
 try simp only [k_rules]
 refine h2 _ ?_; clear h2; try clear N2
 refine vc_seq_k fun N10 h10 => ?_
 refine u_reg ?_
 try refine lg_mk ?_
 refine u_mv ?_
 refine lg_nil ?_
 refine h10 _ ?_; clear h10; try clear N10
 refine vc_ret ?_
 try simp only [k_rules]
 have hr : slv k = 2 := by
  unfold slv; rw [if_neg (by have := hb5; (try simp at this); omega), if_neg (by have := hb8; (try simp at this); omega)]
 rw [hr]
 refine fin2_ ?_
 exact cl_
 cases hg

def E_slv : Env Tryz.prog := E_fnd.add 66 (Spec.pure slvG) slv_meets (by kernel_rfl)
end Go.Proofs.YtmbjnkgpcbpclaaGreat
