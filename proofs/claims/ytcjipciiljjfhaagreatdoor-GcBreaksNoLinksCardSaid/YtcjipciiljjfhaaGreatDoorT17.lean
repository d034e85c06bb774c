/- Walks, printed by wip/gen/walk.py. -/
import Derived.Test.YtcjipciiljjfhaaGreatDoorT16
import Derived.Test.YtcjipciiljjfhaaGreatDoorV5
set_option linter.all false
set_option maxRecDepth 100000
set_option maxHeartbeats 4000000
namespace Go.Proofs.YtcjipciiljjfhaaGreatDoor
open Go Go.Vc Go.RowKit
theorem mark_meets : Meets Tryz.prog 20 (Spec.pure markG) := by
 refine meets_fun (E_sorted.at_ 22) Tryz.func20 rfl rfl rfl ?_
 intro args p r hg hp
 unfold markG at hg
 split at hg
 ·rename_i xs rs
  simp only [Option.some.injEq, Prod.mk.injEq] at hg
  obtain ⟨rfl, rfl⟩ := hg
  obtain ⟨he, hl, hsm, he2, hrl⟩ := hp
  generalize dO xs = S at *
  generalize dI rs = R at *
  subst he he2
  have hT : (E_sorted).X = T := rfl
  have hx0 := And.intro @rect_eO (And.intro @dI_rows (And.intro @dU_rows (And.intro @dO_rows (And.intro @takeI_len @Tryz.results20))))
  have hx := hx0
  refine ⟨by rfl, ?_⟩
  intro F W0 hnp hmk
  refine vc_seq_k fun N1 h1 => ?_
  refine u_reg ?_
  try refine lg_mk ?_
  refine u_bx ?_
  refine u_mv ?_
  refine u_al ?_
  refine lg_nil ?_
  refine h1 _ ?_; clear h1; try clear N1
  refine vc_seq_k fun N2 h2 => ?_
  refine vc_seq_k fun N3 h3 => ?_
  refine u_reg ?_
  try refine lg_mk ?_
  refine u_ld ?_
  have hc := call_rule (E := (E_sorted.at_ 22)) (f := 21) (sp := Spec.pure valG) rfl
  have hs := @valG.eq_1
  refine u_cp (hq := by (first | (exact ⟨hl, hsm⟩) | exact sd_)) ?_
  refine u_al ?_
  refine u_st ?_
  refine lg_nil ?_
  refine h3 _ ?_; clear h3; try clear N3
  refine vc_seq_k fun N4 h4 => ?_
  rcases stF_or S with ⟨hvx, hv⟩ | hvx
  ·have hz1 : (stF S).1 = 0 := by rw [hvx]
   have hz2 : (stF S).2 = 0 := by rw [hvx]
   have hlen := hv.len
   refine u_reg ?_
   try refine lg_mk ?_
   refine u_ld ?_
   refine u_bd ?_
   refine u_bn ?_
   refine lg_nil ?_
   refine h4 _ ?_; clear h4; try clear N4
   refine u_cond (fun hb5 => ?_) (fun hb5 => ?_)
   ·exact absurd (And.intro hz1 hz2) (by have := hb5; simpa using this)
   ·refine vc_skip ?_
    try simp only [k_rules]
    refine h2 _ ?_; clear h2; try clear N2
    refine vc_seq_k fun N6 h6 => ?_
    refine vc_seq_k fun N7 h7 => ?_
    refine u_reg ?_
    try refine lg_mk ?_
    refine u_mv ?_
    refine u_ln ?_
    refine u_bn ?_
    refine lg_nil ?_
    refine h7 _ ?_; clear h7; try clear N7
    refine u_cond (fun hb8 => ?_) (fun hb8 => ?_)
    ·refine vc_seq_k fun N9 h9 => ?_
     refine u_reg ?_
     try refine lg_mk ?_
     refine u_bd ?_
     refine u_mv ?_
     refine u_st ?_
     refine lg_nil ?_
     refine h9 _ ?_; clear h9; try clear N9
     refine vc_ret ?_
     try simp only [k_rules]
     have hr : markF S R = (2, -1) := by unfold markF; rw [if_neg (by rw [hz1]; simp), if_pos (by have := hb8; omega)]
     have hr2 : markR S R = [] := by unfold markR; rw [hr]; rfl
     rw [hr, hr2]
     refine fin2_ ?_
     exact cl_
    ·have hrs := (reach_set R hv).1
     have hrf := reach_few R hv
     have hsl := sortI_len (keysM (reachM S R))
     have hkl : (keysM (reachM S R)).length = (reachM S R).length := List.length_map ..
     refine vc_skip ?_
     try simp only [k_rules]
     refine h6 _ ?_; clear h6; try clear N6
     refine vc_seq_k fun N10 h10 => ?_
     refine u_reg ?_
     try refine lg_mk ?_
     refine u_ld ?_
     refine u_mv ?_
     have hc := call_rule (E := (E_sorted.at_ 22)) (f := 24) (sp := Spec.fresh reachG) rfl
     have hs := @reachG.eq_1
     refine u_hg (hq := by (first | (exact ⟨hv, by omega⟩) | exact sd_)) ?_
     have hc := call_rule (E := (E_sorted.at_ 22)) (f := 32) (sp := Spec.gen sortedG) rfl
     have hs := @sortedG.eq_1
     refine u_hg (hq := by (first | (exact ⟨hrs, by omega⟩) | exact sd_)) ?_
     refine u_bd ?_
     refine u_mv ?_
     refine u_st ?_
     refine lg_nil ?_
     refine h10 _ ?_; clear h10; try clear N10
     refine vc_ret ?_
     try simp only [k_rules]
     have hr : markF S R = (0, 0) := by unfold markF; rw [if_neg (by rw [hz1]; simp), if_neg (by have := hb8; omega)]
     have hr2 : markR S R = sortI (keysM (reachM S R)) := by unfold markR; rw [hr]; rfl
     rw [hr, hr2]
     refine fin2_ ?_
     (repeat' apply And.intro) <;> (first | (first | rfl | omega | trivial | (rw [takeI_len]; done) | (left; rw [takeI_len]; done) | (simp [takeI_len]; done)) | exact cl_)
  ·have hz1 := hvx
   refine u_reg ?_
   try refine lg_mk ?_
   refine u_ld ?_
   refine u_bd ?_
   refine u_bn ?_
   refine lg_nil ?_
   refine h4 _ ?_; clear h4; try clear N4
   refine u_cond (fun hb11 => ?_) (fun hb11 => ?_)
   ·refine vc_seq_k fun N12 h12 => ?_
    refine u_reg ?_
    try refine lg_mk ?_
    refine u_ld ?_
    refine u_mv ?_
    refine u_st ?_
    refine lg_nil ?_
    refine h12 _ ?_; clear h12; try clear N12
    refine vc_ret ?_
    try simp only [k_rules]
    have hr : markF S R = stF S := by unfold markF; rw [if_pos hz1]
    have hr2 : markR S R = [] := by unfold markR; rw [hr, if_pos hz1]
    rw [hr, hr2]
    refine fin2_ ?_
    exact cl_
   ·exact absurd (show (stF S).1 = 0 by have := hb11; first | exact this.1 | exact (Classical.not_not.1 this).1 | (simp at this; exact this.1)) hz1
 ·cases hg

def E_mark : Env Tryz.prog := E_sorted.add 20 (Spec.pure markG) mark_meets (by kernel_rfl)
end Go.Proofs.YtcjipciiljjfhaaGreatDoor
