/- Walks, printed by wip/gen/walk.py. -/
import Derived.Test.YtcjipciiljjfhaaDoorT61
import Derived.Test.YtcjipciiljjfhaaDoorV5
set_option linter.all false
set_option maxRecDepth 100000
set_option maxHeartbeats 4000000
namespace Go.Proofs.YtcjipciiljjfhaaDoor
open Go Go.Vc Go.RowKit
theorem Build_meets : Meets Tryd.prog 10 (Spec.pure BldG) := by
 refine meets_fun (E_build.at_ 23) Tryd.func10 rfl rfl rfl ?_
 intro args p r hg hp
 unfold BldG at hg
 split at hg
 ·rename_i xs
  simp only [Option.some.injEq, Prod.mk.injEq] at hg
  obtain ⟨rfl, rfl⟩ := hg
  obtain ⟨he, hl, hsm⟩ := hp
  generalize dO xs = S at *
  subst he
  have hT : (E_build).X = T := rfl
  have hx0 := And.intro @rect_eO (And.intro @dI_rows (And.intro @dU_rows (And.intro @dO_rows @Tryd.results10)))
  have hx := hx0
  refine ⟨by rfl, ?_⟩
  intro F W0 hnp hmk
  refine vc_seq_k fun N1 h1 => ?_
  refine u_reg ?_
  try refine lg_mk ?_
  refine u_bx ?_
  refine u_mv ?_
  refine u_al ?_
  refine lg_nil ?_
  refine h1 _ ?_; clear h1; try clear N1
  refine vc_seq_k fun N2 h2 => ?_
  refine vc_seq_k fun N3 h3 => ?_
  refine u_reg ?_
  try refine lg_mk ?_
  refine u_ld ?_
  have hc := call_rule (E := (E_build.at_ 23)) (f := 11) (sp := Spec.pure valG) rfl
  have hs := @valG.eq_1
  refine u_cp (hq := by (first | (exact ⟨hl, hsm⟩) | exact sd_)) ?_
  refine u_al ?_
  refine u_st ?_
  refine lg_nil ?_
  refine h3 _ ?_; clear h3; try clear N3
  refine vc_seq_k fun N4 h4 => ?_
  rcases stF_or S with ⟨hvx, hv⟩ | hvx
  ·have hz1 : (stF S).1 = 0 := by rw [hvx]
   have hz2 : (stF S).2 = 0 := by rw [hvx]
   have hlen := hv.len
   refine u_reg ?_
   try refine lg_mk ?_
   refine u_ld ?_
   refine u_bd ?_
   refine u_bn ?_
   refine lg_nil ?_
   refine h4 _ ?_; clear h4; try clear N4
   refine u_cond (fun hb5 => ?_) (fun hb5 => ?_)
   ·exact absurd (And.intro hz1 hz2) (by have := hb5; simpa using this)
   ·refine vc_skip ?_
    try simp only [k_rules]
    refine h2 _ ?_; clear h2; try clear N2
    refine vc_seq_k fun N6 h6 => ?_
    refine u_reg ?_
    try refine lg_mk ?_
    refine u_ld ?_
    have hc := call_rule (E := (E_build.at_ 23)) (f := 19) (sp := Spec.pure bldG) rfl
    have hs := @bldG.eq_1
    refine u_hp (hq := by (first | (exact hv) | exact sd_)) ?_
    refine u_mv ?_
    refine u_ex ?_
    refine u_ex ?_
    refine u_mv ?_
    refine u_mv ?_
    refine lg_nil ?_
    refine h6 _ ?_; clear h6; try clear N6
    refine vc_seq_k fun N7 h7 => ?_
    refine vc_seq_k fun N8 h8 => ?_
    refine u_reg ?_
    try refine lg_mk ?_
    refine u_mv ?_
    refine u_un ?_
    refine lg_nil ?_
    refine h8 _ ?_; clear h8; try clear N8
    refine u_cond (fun hb9 => ?_) (fun hb9 => ?_)
    ·have hok : okP S = false := by simpa using hb9
     refine vc_seq_k fun N10 h10 => ?_
     refine u_reg ?_
     try refine lg_mk ?_
     refine u_bd ?_
     refine u_mv ?_
     refine u_st ?_
     refine lg_nil ?_
     refine h10 _ ?_; clear h10; try clear N10
     refine vc_ret ?_
     try simp only [k_rules]
     have hr : BldF S = (10, -1) := by unfold BldF; rw [if_neg (by rw [hz1]; simp), hok]; rfl
     have hr2 : BldB S = [] := by unfold BldB; rw [hr]; rfl
     rw [hr, hr2]
     refine fin2_ ?_
     exact cl_
    ·have hok : okP S = true := by simpa using hb9
     refine vc_skip ?_
     try simp only [k_rules]
     refine h7 _ ?_; clear h7; try clear N7
     refine vc_seq_k fun N11 h11 => ?_
     refine u_reg ?_
     try refine lg_mk ?_
     refine u_mv ?_
     refine u_bd ?_
     refine u_mv ?_
     refine u_st ?_
     refine lg_nil ?_
     refine h11 _ ?_; clear h11; try clear N11
     refine vc_ret ?_
     try simp only [k_rules]
     have hr : BldF S = (0, 0) := by unfold BldF; rw [if_neg (by rw [hz1]; simp), hok]; rfl
     have hr2 : BldB S = pkB S := by unfold BldB; rw [hr]; rfl
     rw [hr, hr2]
     refine fin2_ ?_
     exact cl_
  ·have hz1 := hvx
   refine u_reg ?_
   try refine lg_mk ?_
   refine u_ld ?_
   refine u_bd ?_
   refine u_bn ?_
   refine lg_nil ?_
   refine h4 _ ?_; clear h4; try clear N4
   refine u_cond (fun hb12 => ?_) (fun hb12 => ?_)
   ·refine vc_seq_k fun N13 h13 => ?_
    refine u_reg ?_
    try refine lg_mk ?_
    refine u_ld ?_
    refine u_mv ?_
    refine u_st ?_
    refine lg_nil ?_
    refine h13 _ ?_; clear h13; try clear N13
    refine vc_ret ?_
    try simp only [k_rules]
    have hr : BldF S = stF S := by unfold BldF; rw [if_pos hz1]
    have hr2 : BldB S = [] := by unfold BldB; rw [hr, if_pos hz1]
    rw [hr, hr2]
    refine fin2_ ?_
    exact cl_
   ·exact absurd (show (stF S).1 = 0 by have := hb12; first | exact this.1 | exact (Classical.not_not.1 this).1 | (simp at this; exact this.1)) hz1
 ·cases hg

def E_Build : Env Tryd.prog := E_build.add 10 (Spec.pure BldG) Build_meets (by kernel_rfl)

def mlxA : SO := ⟨17106956, ⟨1, [], [7]⟩⟩
theorem mlx_1 : putF [] ⟨1, [], [7]⟩ = (0, 0) ∧ putS [] ⟨1, [], [7]⟩ = [mlxA] ∧ putD [] ⟨1, [], [7]⟩ = 17106956 := by decide +kernel
theorem mlx_2 : BldF [mlxA] = (0, 0) ∧ (BldB [mlxA]).length = 16 := by decide +kernel
theorem mlx_0 : dO [] = [] ∧ dI [] = [] ∧ dU [[.int .u8 7]] = [7] ∧ [mlxA].length = 1 := ⟨rfl, rfl, rfl, rfl⟩
theorem mlx_6 : ((1 : Nat) : Int) = 1 := rfl
theorem mlx_7 : ((16 : Nat) : Int) = 16 := rfl
theorem mlx_s : smallS [mlxA] ∧ smallS [] := by
  refine ⟨fun x hx => ?_, fun x hx => by cases hx⟩
  obtain rfl : x = mlxA := by simpa using hx
  exact ⟨by decide, by decide⟩
def mlG : List AV → Option (Prop × AV)
  | [] => some (True, .tup [.agg [.d (.sl (rows eO [mlxA]))], .d (.int .i64 17106956), .d (.bool true)])
  | _ => none

theorem ml_meets : Meets Tryd.prog 4 (Spec.pure mlG) := by
 refine meets_fun (E_Build.at_ 42) Tryd.func4 rfl rfl rfl ?_
 intro args p r hg hp
 unfold mlG at hg
 split at hg
 ·skip
  simp only [Option.some.injEq, Prod.mk.injEq] at hg
  obtain ⟨rfl, rfl⟩ := hg
  have hT : (E_Build).X = T := rfl
  have hx0 := And.intro @mlx_0 (And.intro @mlx_1 (And.intro @mlx_2 (And.intro @mlx_6 (And.intro @mlx_7 (And.intro @rect_eO (And.intro @dI_rows (And.intro @dU_rows (And.intro @dO_rows (And.intro @dec_t (And.intro @dec_f @Tryd.results4))))))))))
  have hx := hx0
  refine ⟨by rfl, ?_⟩
  intro F W0 hnp hmk
  refine vc_seq_k fun N1 h1 => ?_
  refine u_reg ?_
  try refine lg_mk ?_
  refine u_al ?_
  refine u_mv ?_
  refine u_mv ?_
  refine lg_nil ?_
  refine h1 _ ?_; clear h1; try clear N1
  refine vc_seq_k fun N2 h2 => ?_
  refine u_reg ?_
  try refine lg_mk ?_
  refine u_bd ?_
  refine u_bs ?_
  refine u_bd ?_
  have hc := call_rule (E := (E_Build.at_ 42)) (f := 9) (sp := Spec.pure putG) rfl
  have hs := @putG.eq_1
  refine u_hp (hq := by (first | ((repeat' apply And.intro) <;> first | rfl | exact ⟨by decide, by decide⟩ | exact mlx_s.1 | exact mlx_s.2 | decide | omega | (simp; done)) | exact sd_)) ?_
  refine u_mv ?_
  refine u_ex ?_
  refine u_ex ?_
  refine u_ex ?_
  refine u_al ?_
  refine u_al ?_
  refine u_st ?_
  refine u_mv ?_
  refine u_st ?_
  refine lg_nil ?_
  refine h2 _ ?_; clear h2; try clear N2
  refine vc_seq_k fun N3 h3 => ?_
  refine u_reg ?_
  try refine lg_mk ?_
  refine u_ld ?_
  have hc := call_rule (E := (E_Build.at_ 42)) (f := 10) (sp := Spec.pure BldG) rfl
  have hs := @BldG.eq_1
  refine u_hp (hq := by (first | ((repeat' apply And.intro) <;> first | rfl | exact ⟨by decide, by decide⟩ | exact mlx_s.1 | exact mlx_s.2 | decide | omega | (simp; done)) | exact sd_)) ?_
  refine u_mv ?_
  refine u_ex ?_
  refine u_ex ?_
  refine u_al ?_
  refine u_mv ?_
  refine u_st ?_
  refine lg_nil ?_
  refine h3 _ ?_; clear h3; try clear N3
  refine vc_seq_k fun N4 h4 => ?_
  refine u_reg ?_
  try refine lg_mk ?_
  refine u_ld (hq := by (first | ((repeat' apply And.intro) <;> first | rfl | exact ⟨by decide, by decide⟩ | exact mlx_s.1 | exact mlx_s.2 | decide | omega | (simp; done)) | exact sd_)) ?_
  refine u_mv (hq := by (first | ((repeat' apply And.intro) <;> first | rfl | exact ⟨by decide, by decide⟩ | exact mlx_s.1 | exact mlx_s.2 | decide | omega | (simp; done)) | exact sd_)) ?_
  refine u_pt (hq := by (first | ((repeat' apply And.intro) <;> first | rfl | exact ⟨by decide, by decide⟩ | exact mlx_s.1 | exact mlx_s.2 | decide | omega | (simp; done)) | exact sd_)) ?_
  refine u_ld (hq := by (first | ((repeat' apply And.intro) <;> first | rfl | exact ⟨by decide, by decide⟩ | exact mlx_s.1 | exact mlx_s.2 | decide | omega | (simp; done)) | exact sd_)) ?_
  refine u_bn (hq := by (first | ((repeat' apply And.intro) <;> first | rfl | exact ⟨by decide, by decide⟩ | exact mlx_s.1 | exact mlx_s.2 | decide | omega | (simp; done)) | exact sd_)) ?_
  refine u_mv (hq := by (first | ((repeat' apply And.intro) <;> first | rfl | exact ⟨by decide, by decide⟩ | exact mlx_s.1 | exact mlx_s.2 | decide | omega | (simp; done)) | exact sd_)) ?_
  refine s_pt (hq := by (intro hg; (try simp only [b_rules, bif_and, bif_or] at hg); (first | ((repeat' apply And.intro) <;> first | rfl | exact ⟨by decide, by decide⟩ | exact mlx_s.1 | exact mlx_s.2 | decide | omega | (simp; done)) | exact sd_))) ?_
  refine s_ld (hq := by (intro hg; (try simp only [b_rules, bif_and, bif_or] at hg); (first | ((repeat' apply And.intro) <;> first | rfl | exact ⟨by decide, by decide⟩ | exact mlx_s.1 | exact mlx_s.2 | decide | omega | (simp; done)) | exact sd_))) ?_
  refine s_bn (hq := by (intro hg; (try simp only [b_rules, bif_and, bif_or] at hg); (first | ((repeat' apply And.intro) <;> first | rfl | exact ⟨by decide, by decide⟩ | exact mlx_s.1 | exact mlx_s.2 | decide | omega | (simp; done)) | exact sd_))) ?_
  refine u_pk (hq := by (first | ((repeat' apply And.intro) <;> first | rfl | exact ⟨by decide, by decide⟩ | exact mlx_s.1 | exact mlx_s.2 | decide | omega | (simp; done)) | exact sd_)) ?_
  refine u_mv (hq := by (first | ((repeat' apply And.intro) <;> first | rfl | exact ⟨by decide, by decide⟩ | exact mlx_s.1 | exact mlx_s.2 | decide | omega | (simp; done)) | exact sd_)) ?_
  refine s_pt (hq := by (intro hg; (try simp only [b_rules, bif_and, bif_or] at hg); (first | ((repeat' apply And.intro) <;> first | rfl | exact ⟨by decide, by decide⟩ | exact mlx_s.1 | exact mlx_s.2 | decide | omega | (simp; done)) | exact sd_))) ?_
  refine s_ld (hq := by (intro hg; (try simp only [b_rules, bif_and, bif_or] at hg); (first | ((repeat' apply And.intro) <;> first | rfl | exact ⟨by decide, by decide⟩ | exact mlx_s.1 | exact mlx_s.2 | decide | omega | (simp; done)) | exact sd_))) ?_
  refine s_ln (hq := by (intro hg; (try simp only [b_rules, bif_and, bif_or] at hg); (first | ((repeat' apply And.intro) <;> first | rfl | exact ⟨by decide, by decide⟩ | exact mlx_s.1 | exact mlx_s.2 | decide | omega | (simp; done)) | exact sd_))) ?_
  refine s_bn (hq := by (intro hg; (try simp only [b_rules, bif_and, bif_or] at hg); (first | ((repeat' apply And.intro) <;> first | rfl | exact ⟨by decide, by decide⟩ | exact mlx_s.1 | exact mlx_s.2 | decide | omega | (simp; done)) | exact sd_))) ?_
  refine u_pk (hq := by (first | ((repeat' apply And.intro) <;> first | rfl | exact ⟨by decide, by decide⟩ | exact mlx_s.1 | exact mlx_s.2 | decide | omega | (simp; done)) | exact sd_)) ?_
  refine u_mv (hq := by (first | ((repeat' apply And.intro) <;> first | rfl | exact ⟨by decide, by decide⟩ | exact mlx_s.1 | exact mlx_s.2 | decide | omega | (simp; done)) | exact sd_)) ?_
  refine s_mv (hq := by (intro hg; (try simp only [b_rules, bif_and, bif_or] at hg); (first | ((repeat' apply And.intro) <;> first | rfl | exact ⟨by decide, by decide⟩ | exact mlx_s.1 | exact mlx_s.2 | decide | omega | (simp; done)) | exact sd_))) ?_
  refine s_ln (hq := by (intro hg; (try simp only [b_rules, bif_and, bif_or] at hg); (first | ((repeat' apply And.intro) <;> first | rfl | exact ⟨by decide, by decide⟩ | exact mlx_s.1 | exact mlx_s.2 | decide | omega | (simp; done)) | exact sd_))) ?_
  refine s_bn (hq := by (intro hg; (try simp only [b_rules, bif_and, bif_or] at hg); (first | ((repeat' apply And.intro) <;> first | rfl | exact ⟨by decide, by decide⟩ | exact mlx_s.1 | exact mlx_s.2 | decide | omega | (simp; done)) | exact sd_))) ?_
  refine u_pk (hq := by (first | ((repeat' apply And.intro) <;> first | rfl | exact ⟨by decide, by decide⟩ | exact mlx_s.1 | exact mlx_s.2 | decide | omega | (simp; done)) | exact sd_)) ?_
  refine u_st (hq := by (first | ((repeat' apply And.intro) <;> first | rfl | exact ⟨by decide, by decide⟩ | exact mlx_s.1 | exact mlx_s.2 | decide | omega | (simp; done)) | exact sd_)) ?_
  refine u_mv (hq := by (first | ((repeat' apply And.intro) <;> first | rfl | exact ⟨by decide, by decide⟩ | exact mlx_s.1 | exact mlx_s.2 | decide | omega | (simp; done)) | exact sd_)) ?_
  refine u_mv (hq := by (first | ((repeat' apply And.intro) <;> first | rfl | exact ⟨by decide, by decide⟩ | exact mlx_s.1 | exact mlx_s.2 | decide | omega | (simp; done)) | exact sd_)) ?_
  refine lg_nil ?_
  refine h4 _ ?_; clear h4; try clear N4
  refine vc_ret ?_
  try simp only [k_rules]
  refine fin2_ ?_
  (repeat' apply And.intro) <;> (first | (first | rfl | trivial | (simp; done) | (left; rfl)) | exact cl_)
 ·cases hg

def E_ml : Env Tryd.prog := E_Build.add 4 (Spec.pure mlG) ml_meets (by kernel_rfl)

def lawTCG : List AV → Option (Prop × AV)
  | [.agg [.d (.sl xs)], .agg [.d (.sl zs)], .d (.sl ys), .d (.int .i64 t), .d (.int .i64 n)] => some (xs = rows eO (dO xs) ∧ (dO xs).length ≤ 9223372036854775807 ∧ smallS (dO xs) ∧ zs = rows eR (dR zs) ∧ (dR zs).length ≤ 9223372036854775807 ∧ smallR (dR zs) ∧ ys = rows eW (dW ys) ∧ (dW ys).length ≤ 9223372036854775807, .d (.bool true))
  | _ => none
theorem dgs_nil : dgs [] = [] := rfl
end Go.Proofs.YtcjipciiljjfhaaDoor
