/- Walks, printed by wip/gen/walk.py. -/
import Derived.Test.YtlbjffdaooadoaaDoorT8
import Derived.Test.YtlbjffdaooadoaaDoorV5
set_option linter.all false
set_option maxRecDepth 100000
set_option maxHeartbeats 4000000
namespace Go.Proofs.YtlbjffdaooadoaaDoor
open Go Go.Vc Go.RowKit
def leafV (n : Nd) (c : Cm) (i : Int) : Bool :=
  if n.kd = 1 then true else if n.kd = 3 then decide (i = n.nm) else if n.kd = 4 then decide (c.au = n.nm) else if n.kd = 5 then decide (c.ti < n.nm) else if n.kd = 6 then decide (2 ≤ c.par.length) else false
def leafG : List AV → Option (Prop × AV)
  | [.agg [.d (.int .i64 a), .d (.int .i64 b), .d (.int .i64 c), .d (.int .i64 d)], .agg [.d (.sl ps), .d (.int .i64 au), .d (.int .i64 ti), .d (.int .i64 tr), .d (.str ms)], .d (.int .i64 i)] => some (ps = rows eI (dI ps) ∧ (dI ps).length ≤ 9223372036854775807, .d (.bool (leafV ⟨a, b, c, d⟩ ⟨dI ps, au, ti, tr, ms⟩ i)))
  | _ => none

theorem leafq_meets : Meets Tryd.prog 48 (Spec.pure leafG) := by
 refine meets_fun (E_minq.at_ 37) Tryd.func48 rfl rfl rfl ?_
 intro args p r hg hp
 unfold leafG at hg
 split at hg
 rename_i a b c d ps au ti tr ms i
 simp only [Option.some.injEq, Prod.mk.injEq] at hg
 obtain ⟨rfl, rfl⟩ := hg
 obtain ⟨he, hl⟩ := hp
 generalize dI ps = p at *
 subst he
 have hT : (E_minq).X = T := rfl
 have hx0 := And.intro @dI_rows (And.intro @dec_t (And.intro @dec_f @Tryd.results48))
 have hx := hx0
 refine ⟨by rfl, ?_⟩
 intro F W0 hnp hmk
 refine vc_seq_k fun N1 h1 => ?_
 refine u_reg ?_
 try refine lg_mk ?_
 iterate 2 refine u_bx ?_
 refine u_mv ?_
 refine lg_nil ?_
 refine h1 _ ?_; clear h1; try clear N1
 refine vc_seq_k fun N2 h2 => ?_
 refine vc_seq_k fun N3 h3 => ?_
 refine u_reg ?_
 try refine lg_mk ?_
 refine u_pt ?_
 refine u_ld ?_
 refine lg_nil ?_
 refine h3 _ ?_; clear h3; try clear N3
 refine vc_block ?_
 refine vc_seq_k fun N4 h4 => ?_
 refine u_reg ?_
 try refine lg_mk ?_
 refine u_bn ?_
 refine u_mv ?_
 refine lg_nil ?_
 refine h4 _ ?_; clear h4; try clear N4
 refine u_cond (fun hb5 => ?_) (fun hb5 => ?_)
 refine vc_seq_k fun N6 h6 => ?_
 refine u_reg ?_
 try refine lg_mk ?_
 refine u_mv ?_
 refine lg_nil ?_
 refine h6 _ ?_; clear h6; try clear N6
 refine vc_ret ?_
 try simp only [k_rules]
 have hr : leafV ⟨a, b, c, d⟩ ⟨p, au, ti, tr, ms⟩ i = true := by
  unfold leafV; dsimp only; rw [if_pos (by have := hb5; (try simp at this); omega)]
 rw [hr]
 refine fin2_ ?_
 exact cl_
 refine vc_seq_k fun N7 h7 => ?_
 refine u_reg ?_
 try refine lg_mk ?_
 refine u_bn ?_
 refine u_mv ?_
 refine lg_nil ?_
 refine h7 _ ?_; clear h7; try clear N7
 refine u_cond (fun hb8 => ?_) (fun hb8 => ?_)
 refine vc_seq_k fun N9 h9 => ?_
 refine u_reg ?_
 try refine lg_mk ?_
 refine u_mv ?_
 refine u_pt ?_
 refine u_ld ?_
 refine u_bn ?_
 refine u_mv ?_
 refine lg_nil ?_
 refine h9 _ ?_; clear h9; try clear N9
 refine vc_ret ?_
 try simp only [k_rules]
 have hr : leafV ⟨a, b, c, d⟩ ⟨p, au, ti, tr, ms⟩ i = decide (i = b) := by
  unfold leafV; dsimp only; rw [if_neg (by have := hb5; (try simp at this); omega), if_pos (by have := hb8; (try simp at this); omega)]
 rw [hr]
 refine fin2_ ?_
 exact cl_
 refine vc_seq_k fun N10 h10 => ?_
 refine u_reg ?_
 try refine lg_mk ?_
 refine u_bn ?_
 refine u_mv ?_
 refine lg_nil ?_
 refine h10 _ ?_; clear h10; try clear N10
 refine u_cond (fun hb11 => ?_) (fun hb11 => ?_)
 refine vc_seq_k fun N12 h12 => ?_
 refine u_reg ?_
 try refine lg_mk ?_
 refine u_pt ?_
 refine u_ld ?_
 refine u_pt ?_
 refine u_ld ?_
 refine u_bn ?_
 refine u_mv ?_
 refine lg_nil ?_
 refine h12 _ ?_; clear h12; try clear N12
 refine vc_ret ?_
 try simp only [k_rules]
 have hr : leafV ⟨a, b, c, d⟩ ⟨p, au, ti, tr, ms⟩ i = decide (au = b) := by
  unfold leafV; dsimp only; rw [if_neg (by have := hb5; (try simp at this); omega), if_neg (by have := hb8; (try simp at this); omega), if_pos (by have := hb11; (try simp at this); omega)]
 rw [hr]
 refine fin2_ ?_
 exact cl_
 refine vc_seq_k fun N13 h13 => ?_
 refine u_reg ?_
 try refine lg_mk ?_
 refine u_bn ?_
 refine u_mv ?_
 refine lg_nil ?_
 refine h13 _ ?_; clear h13; try clear N13
 refine u_cond (fun hb14 => ?_) (fun hb14 => ?_)
 refine vc_seq_k fun N15 h15 => ?_
 refine u_reg ?_
 try refine lg_mk ?_
 refine u_pt ?_
 refine u_ld ?_
 refine u_pt ?_
 refine u_ld ?_
 refine u_bn ?_
 refine u_mv ?_
 refine lg_nil ?_
 refine h15 _ ?_; clear h15; try clear N15
 refine vc_ret ?_
 try simp only [k_rules]
 have hr : leafV ⟨a, b, c, d⟩ ⟨p, au, ti, tr, ms⟩ i = decide (ti < b) := by
  unfold leafV; dsimp only; rw [if_neg (by have := hb5; (try simp at this); omega), if_neg (by have := hb8; (try simp at this); omega), if_neg (by have := hb11; (try simp at this); omega), if_pos (by have := hb14; (try simp at this); omega)]
 rw [hr]
 refine fin2_ ?_
 exact cl_
 refine vc_seq_k fun N16 h16 => ?_
 refine u_reg ?_
 try refine lg_mk ?_
 refine u_bn ?_
 refine u_mv ?_
 refine lg_nil ?_
 refine h16 _ ?_; clear h16; try clear N16
 refine u_cond (fun hb17 => ?_) (fun hb17 => ?_)
 refine vc_seq_k fun N18 h18 => ?_
 refine u_reg ?_
 try refine lg_mk ?_
 refine u_pt ?_
 refine u_ld ?_
 refine u_ln ?_
 refine u_bn ?_
 refine u_mv ?_
 refine lg_nil ?_
 refine h18 _ ?_; clear h18; try clear N18
 refine vc_ret ?_
 try simp only [k_rules]
 have hr : leafV ⟨a, b, c, d⟩ ⟨p, au, ti, tr, ms⟩ i = decide (2 ≤ p.length) := by
  unfold leafV; dsimp only; rw [if_neg (by have := hb5; (try simp at this); omega), if_neg (by have := hb8; (try simp at this); omega), if_neg (by have := hb11; (try simp at this); omega), if_neg (by have := hb14; (try simp at this); omega), if_pos (by have := hb17; (try simp at this); omega)]
 rw [hr]
 refine fin2_ ?_
 ·(repeat' apply And.intro) <;> (first | (first | rfl | trivial | (congr 1; congr 1; rw [decide_eq_decide]; omega) | (simp; omega)) | exact cl_)
 refine vc_skip ?_
 try simp only [k_rules]
 refine h2 _ ?_; clear h2; try clear N2
 refine vc_seq_k fun N19 h19 => ?_
 refine u_reg ?_
 try refine lg_mk ?_
 refine u_mv ?_
 refine lg_nil ?_
 refine h19 _ ?_; clear h19; try clear N19
 refine vc_ret ?_
 try simp only [k_rules]
 have hr : leafV ⟨a, b, c, d⟩ ⟨p, au, ti, tr, ms⟩ i = false := by
  unfold leafV; dsimp only; rw [if_neg (by have := hb5; (try simp at this); omega), if_neg (by have := hb8; (try simp at this); omega), if_neg (by have := hb11; (try simp at this); omega), if_neg (by have := hb14; (try simp at this); omega), if_neg (by have := hb17; (try simp at this); omega)]
 rw [hr]
 refine fin2_ ?_
 exact cl_
 cases hg

def E_leafq : Env Tryd.prog := E_minq.add 48 (Spec.pure leafG) leafq_meets (by kernel_rfl)
end Go.Proofs.YtlbjffdaooadoaaDoor
