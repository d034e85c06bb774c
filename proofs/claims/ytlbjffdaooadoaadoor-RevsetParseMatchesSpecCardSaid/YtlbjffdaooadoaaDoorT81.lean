/- Walks, printed by wip/gen/walk.py. -/
import Derived.Test.YtlbjffdaooadoaaDoorT80
import Derived.Test.YtlbjffdaooadoaaDoorV5
set_option linter.all false
set_option maxRecDepth 100000
set_option maxHeartbeats 4000000
namespace Go.Proofs.YtlbjffdaooadoaaDoor
open Go Go.Vc Go.RowKit
def kcG : List AV → Option (Prop × AV)
  | [.d (.int .u8 b)] => some (True, .d (.int .i64 (kcI b)))
  | _ => none
def lvG : List AV → Option (Prop × AV)
  | [.d (.int .i64 k)] => some (True, .d (.int .i64 (lvO k)))
  | _ => none

def rwG : List AV → Option (Prop × AV)
  | [.d (.int .i64 k)] => some (0 ≤ k ∧ k ≤ 16, .d (.str (wordN k)))
  | _ => none
theorem wr_at {k : Int} (h0 : 0 ≤ k) (h : k < 17) : ([[.str []], [.str [97, 108, 108]], [.str [110, 111, 110, 101]], [.str []], [.str [97, 117, 116, 104, 111, 114]], [.str [98, 101, 102, 111, 114, 101]], [.str [109, 101, 114, 103, 101, 115]], [.str []], [.str [97, 110, 99]], [.str [100, 101, 115, 99]], [.str [112, 97, 114, 101, 110, 116, 115]], [.str [99, 104, 105, 108, 100, 114, 101, 110]], [.str [104, 101, 97, 100, 115]], [.str [114, 111, 111, 116, 115]], [.str []], [.str []], [.str []]] : List (List D))[k.toNat]? = some [.str (wordN k)] := by
  have : ∀ i, i < 17 → (wordsD.map fun d => [d])[i]? = some [.str (wordsL.getD i [])] := by
    intro i h
    iterate 17 (cases i with | zero => rfl | succ i => ?_)
    omega
  exact this _ (by omega)

theorem rvw_meets : Meets Tryd.prog 60 (Spec.pure rwG) := by
 refine meets_fun (E_exq.at_ 7) Tryd.func60 rfl rfl rfl ?_
 intro args p r hg hp
 unfold rwG at hg
 split at hg
 rename_i k
 simp only [Option.some.injEq, Prod.mk.injEq] at hg
 obtain ⟨rfl, rfl⟩ := hg
 obtain ⟨h0, h16⟩ := hp
 have hwr := wr_at h0 (by omega)
 have hT : (E_exq).X = T := rfl
 have hx0 := And.intro @dec_t (And.intro @dec_f @Tryd.results60)
 have hx := hx0
 refine ⟨by rfl, ?_⟩
 intro F W0 hnp hmk
 refine vc_seq_k fun N1 h1 => ?_
 refine u_reg ?_
 try refine lg_mk ?_
 refine u_mv ?_
 refine lg_nil ?_
 refine h1 _ ?_; clear h1; try clear N1
 refine vc_seq_k fun N2 h2 => ?_
 have hx := And.intro @hwr hx0
 refine u_reg ?_
 try refine lg_mk ?_
 refine u_bs ?_
 refine u_mv ?_
 refine u_pt ?_
 refine u_ld ?_
 refine u_mv ?_
 refine lg_nil ?_
 have hx := hx0
 refine h2 _ ?_; clear h2; try clear N2
 refine vc_ret ?_
 try simp only [k_rules]
 refine fin2_ ?_
 exact cl_
 cases hg

def E_rvw : Env Tryd.prog := E_exq.add 60 (Spec.pure rwG) rvw_meets (by kernel_rfl)

theorem kof_meets : Meets Tryd.prog 80 (Spec.pure kcG) := by
 refine meets_fun (E_rvw.at_ 15) Tryd.func80 rfl rfl rfl ?_
 intro args p r hg hp
 unfold kcG at hg
 split at hg
 rename_i b
 simp only [Option.some.injEq, Prod.mk.injEq] at hg
 obtain ⟨rfl, rfl⟩ := hg
 have hT : (E_rvw).X = T := rfl
 have hx0 := And.intro @dec_t (And.intro @dec_f @Tryd.results80)
 have hx := hx0
 refine ⟨by rfl, ?_⟩
 intro F W0 hnp hmk
 refine vc_seq_k fun N1 h1 => ?_
 refine u_reg ?_
 try refine lg_mk ?_
 refine u_mv ?_
 refine lg_nil ?_
 refine h1 _ ?_; clear h1; try clear N1
 refine vc_seq_k fun N2 h2 => ?_
 refine vc_seq_k fun N3 h3 => ?_
 refine u_reg ?_
 try refine lg_mk ?_
 refine u_mv ?_
 refine u_bn ?_
 refine u_mv ?_
 refine g_mv ?_
 refine g_bn ?_
 refine u_pk ?_
 refine lg_nil ?_
 refine h3 _ ?_; clear h3; try clear N3
 refine u_cond (fun hb4 => ?_) (fun hb4 => ?_)
 refine vc_seq_k fun N5 h5 => ?_
 refine u_reg ?_
 try refine lg_mk ?_
 refine u_mv ?_
 refine lg_nil ?_
 refine h5 _ ?_; clear h5; try clear N5
 refine vc_ret ?_
 try simp only [k_rules]
 have hr : kcI b = 1 := by
  have := hb4; (try simp at this); exact kc_1 this
 rw [hr]
 refine fin2_ ?_
 exact cl_
 refine vc_skip ?_
 try simp only [k_rules]
 refine h2 _ ?_; clear h2; try clear N2
 refine vc_seq_k fun N6 h6 => ?_
 refine vc_seq_k fun N7 h7 => ?_
 refine u_reg ?_
 try refine lg_mk ?_
 refine u_mv ?_
 refine u_bn ?_
 refine u_mv ?_
 refine g_mv ?_
 refine g_bn ?_
 refine u_pk ?_
 refine lg_nil ?_
 refine h7 _ ?_; clear h7; try clear N7
 refine u_cond (fun hb8 => ?_) (fun hb8 => ?_)
 refine vc_seq_k fun N9 h9 => ?_
 refine u_reg ?_
 try refine lg_mk ?_
 refine u_mv ?_
 refine lg_nil ?_
 refine h9 _ ?_; clear h9; try clear N9
 refine vc_ret ?_
 try simp only [k_rules]
 have hr : kcI b = 2 := by
  have := hb8; (try simp at this); exact kc_2 this
 rw [hr]
 refine fin2_ ?_
 exact cl_
 refine vc_skip ?_
 try simp only [k_rules]
 refine h6 _ ?_; clear h6; try clear N6
 refine vc_seq_k fun N10 h10 => ?_
 refine u_reg ?_
 try refine lg_mk ?_
 refine u_mv ?_
 refine lg_nil ?_
 refine h10 _ ?_; clear h10; try clear N10
 refine vc_ret ?_
 try simp only [k_rules]
 have hr : kcI b = 0 := by
  have h8 := hb4; have h14 := hb8; (try simp at h8); (try simp at h14); exact kc_0 (by omega) (by omega)
 rw [hr]
 refine fin2_ ?_
 exact cl_
 cases hg

def E_kof : Env Tryd.prog := E_rvw.add 80 (Spec.pure kcG) kof_meets (by kernel_rfl)

theorem lvl_meets : Meets Tryd.prog 62 (Spec.pure lvG) := by
 refine meets_fun (E_kof.at_ 11) Tryd.func62 rfl rfl rfl ?_
 intro args p r hg hp
 unfold lvG at hg
 split at hg
 rename_i k
 simp only [Option.some.injEq, Prod.mk.injEq] at hg
 obtain ⟨rfl, rfl⟩ := hg
 have hT : (E_kof).X = T := rfl
 have hx0 := And.intro @dec_t (And.intro @dec_f @Tryd.results62)
 have hx := hx0
 refine ⟨by rfl, ?_⟩
 intro F W0 hnp hmk
 refine vc_seq_k fun N1 h1 => ?_
 refine u_reg ?_
 try refine lg_mk ?_
 refine u_mv ?_
 refine lg_nil ?_
 refine h1 _ ?_; clear h1; try clear N1
 refine vc_seq_k fun N2 h2 => ?_
 refine vc_seq_k fun N3 h3 => ?_
 refine u_reg ?_
 try refine lg_mk ?_
 refine u_mv ?_
 refine lg_nil ?_
 refine h3 _ ?_; clear h3; try clear N3
 refine vc_block ?_
 refine vc_seq_k fun N4 h4 => ?_
 refine u_reg ?_
 try refine lg_mk ?_
 refine u_bn ?_
 refine u_mv ?_
 refine lg_nil ?_
 refine h4 _ ?_; clear h4; try clear N4
 refine u_cond (fun hb5 => ?_) (fun hb5 => ?_)
 refine vc_seq_k fun N6 h6 => ?_
 refine u_reg ?_
 try refine lg_mk ?_
 refine u_mv ?_
 refine lg_nil ?_
 refine h6 _ ?_; clear h6; try clear N6
 refine vc_ret ?_
 try simp only [k_rules]
 have hr : lvO k = 0 := by
  unfold lvO; rw [if_pos (by have := hb5; (try simp at this); omega)]
 rw [hr]
 refine fin2_ ?_
 exact cl_
 refine vc_seq_k fun N7 h7 => ?_
 refine vc_seq_k fun N8 h8 => ?_
 refine u_reg ?_
 try refine lg_mk ?_
 refine u_bn ?_
 refine u_mv ?_
 refine lg_nil ?_
 refine h8 _ ?_; clear h8; try clear N8
 refine u_cond (fun hb9 => ?_) (fun hb9 => ?_)
 refine vc_skip ?_
 try simp only [k_rules]
 refine h7 _ ?_; clear h7; try clear N7
 refine u_cond (fun hb10 => ?_) (fun hb10 => ?_)
 refine vc_seq_k fun N11 h11 => ?_
 refine u_reg ?_
 try refine lg_mk ?_
 refine u_mv ?_
 refine lg_nil ?_
 refine h11 _ ?_; clear h11; try clear N11
 refine vc_ret ?_
 try simp only [k_rules]
 have hr : lvO k = 1 := by
  unfold lvO; rw [if_neg (by have := hb5; (try simp at this); omega), if_pos (by have := hb10; (try simp at this); omega)]
 rw [hr]
 refine fin2_ ?_
 exact cl_
 ·exfalso; first | omega | contradiction | (simp_all; done) | (simp_all; omega)
 refine u_reg ?_
 try refine lg_mk ?_
 refine u_bn ?_
 refine u_mv ?_
 refine lg_nil ?_
 refine h7 _ ?_; clear h7; try clear N7
 refine u_cond (fun hb12 => ?_) (fun hb12 => ?_)
 refine vc_seq_k fun N13 h13 => ?_
 refine u_reg ?_
 try refine lg_mk ?_
 refine u_mv ?_
 refine lg_nil ?_
 refine h13 _ ?_; clear h13; try clear N13
 refine vc_ret ?_
 try simp only [k_rules]
 have hr : lvO k = 1 := by
  unfold lvO; rw [if_neg (by have := hb5; (try simp at this); omega), if_pos (by have := hb12; (try simp at this); omega)]
 rw [hr]
 refine fin2_ ?_
 exact cl_
 refine vc_seq_k fun N14 h14 => ?_
 refine u_reg ?_
 try refine lg_mk ?_
 refine u_bn ?_
 refine u_mv ?_
 refine lg_nil ?_
 refine h14 _ ?_; clear h14; try clear N14
 refine u_cond (fun hb15 => ?_) (fun hb15 => ?_)
 refine vc_seq_k fun N16 h16 => ?_
 refine u_reg ?_
 try refine lg_mk ?_
 refine u_mv ?_
 refine lg_nil ?_
 refine h16 _ ?_; clear h16; try clear N16
 refine vc_ret ?_
 try simp only [k_rules]
 have hr : lvO k = 2 := by
  unfold lvO; rw [if_neg (by have := hb5; (try simp at this); omega), if_neg (by have := hb12; (try simp at this); omega), if_pos (by have := hb15; (try simp at this); omega)]
 rw [hr]
 refine fin2_ ?_
 exact cl_
 refine vc_skip ?_
 try simp only [k_rules]
 refine h2 _ ?_; clear h2; try clear N2
 refine vc_seq_k fun N17 h17 => ?_
 refine u_reg ?_
 try refine lg_mk ?_
 refine u_mv ?_
 refine lg_nil ?_
 refine h17 _ ?_; clear h17; try clear N17
 refine vc_ret ?_
 try simp only [k_rules]
 have hr : lvO k = -1 := by
  unfold lvO; rw [if_neg (by have := hb5; (try simp at this); omega), if_neg (by have := hb12; (try simp at this); omega), if_neg (by have := hb15; (try simp at this); omega)]
 rw [hr]
 refine fin2_ ?_
 exact cl_
 cases hg

def E_lvl : Env Tryd.prog := E_kof.add 62 (Spec.pure lvG) lvl_meets (by kernel_rfl)
end Go.Proofs.YtlbjffdaooadoaaDoor
