/- Walks, printed by wip/gen/walk.py. -/
import Derived.Test.YtoagbjhlpfepkaaGreatDoorT22
import Derived.Test.YtoagbjhlpfepkaaGreatDoorV5
set_option linter.all false
set_option maxRecDepth 100000
set_option maxHeartbeats 4000000
namespace Go.Proofs.YtoagbjhlpfepkaaGreatDoor
open Go Go.Vc Go.RowKit
theorem refs0_meets : Meets Tryz.prog 26 (Spec.pure refs0G) := by
 refine meets_fun (E_missingR.at_ 59) Tryz.func26 rfl rfl rfl ?_
 intro args p r hg hp
 unfold refs0G at hg
 split at hg
 ·skip
  simp only [Option.some.injEq, Prod.mk.injEq] at hg
  obtain ⟨rfl, rfl⟩ := hg
  have hT : (E_missingR).X = T := rfl
  have hx0 := And.intro @dec_t (And.intro @dec_f @Tryz.results26)
  have hx := hx0
  refine ⟨by rfl, ?_⟩
  intro F W0 hnp hmk
  refine vc_seq_k fun N1 h1 => ?_
  refine u_reg ?_
  try refine lg_mk ?_
  refine u_bx ?_
  refine u_al ?_
  refine lg_nil ?_
  refine h1 _ ?_; clear h1; try clear N1
  refine vc_seq_k fun N2 h2 => ?_
  refine vc_seq_k fun N3 h3 => ?_
  refine u_reg ?_
  try refine lg_mk ?_
  refine u_pt ?_
  refine u_ld ?_
  refine u_ln ?_
  refine u_bn ?_
  refine lg_nil ?_
  refine h3 _ ?_; clear h3; try clear N3
  refine u_cond (fun hb4 => ?_) (fun hb4 => ?_)
  ·first | omega | (cases hb4; done) | (simp at hb4; done)
  ·refine vc_skip ?_
   try simp only [k_rules]
   refine h2 _ ?_; clear h2; try clear N2
   refine vc_seq_k fun N5 h5 => ?_
   refine vc_seq_k fun N6 h6 => ?_
   refine u_reg ?_
   try refine lg_mk ?_
   refine u_pt ?_
   refine u_ld ?_
   refine u_ln ?_
   refine u_mv ?_
   refine lg_nil ?_
   refine h6 _ ?_; clear h6; try clear N6
   refine vc_block ?_
   refine vc_loop_mk (σ := Nat) (fun s => (fun i => i = 0) s)
    (fun s => (fun i => [(1, .ptr 0 0 0), (2, .ptr 1 0 0), (12, .d (.sl [])), (13, .d (.int .i64 0)), (14, .d (.int .i64 0))]) s)
    (fun s => (fun i => [some (.one 46 [.d (.sl [])]), some (.one 28 [.d (.int .i64 0), .d (.int .i64 0)])]) s) (fun s => (fun i => 0) s) hnp 0 ?_ [some 0, some 1] ?_ ?_
   ·dsimp only
    skip
   ·dsimp only
    refine ⟨by rfl, ?_, ?_⟩
    ·refine fin_ ?_
     exact cl_
    ·refine fin_ ?_
     exact cl_
   ·rintro i hinv N7 h7
    dsimp only at hinv ⊢
    refine vc_seq_k fun N8 h8 => ?_
    refine u_reg ?_
    try refine lg_mk ?_
    refine u_bn ?_
    refine lg_nil ?_
    refine h8 _ ?_; clear h8; try clear N8
    refine vc_seq_k fun N9 h9 => ?_
    refine u_cond (fun hb10 => ?_) (fun hb10 => ?_)
    ·first | omega | (cases hb10; done) | (simp at hb10; done)
    ·refine vc_exit ?_
     simp only [k_rules, Nat.reduceEqDiff, reduceIte, eq_self]
     refine h5 _ ?_; clear h5; try clear N5
     refine vc_seq_k fun N11 h11 => ?_
     refine u_reg ?_
     try refine lg_mk ?_
     refine u_bd ?_
     refine u_st ?_
     refine lg_nil ?_
     refine h11 _ ?_; clear h11; try clear N11
     refine vc_ret ?_
     try simp only [k_rules]
     refine fin2_ ?_
     exact cl_
 ·cases hg

def E_refs0 : Env Tryz.prog := E_missingR.add 26 (Spec.pure refs0G) refs0_meets (by kernel_rfl)

theorem leases0_meets : Meets Tryz.prog 27 (Spec.pure lea0G) := by
 refine meets_fun (E_refs0.at_ 48) Tryz.func27 rfl rfl rfl ?_
 intro args p r hg hp
 unfold lea0G at hg
 split at hg
 ·skip
  simp only [Option.some.injEq, Prod.mk.injEq] at hg
  obtain ⟨rfl, rfl⟩ := hg
  have hT : (E_refs0).X = T := rfl
  have hx0 := And.intro @dec_t (And.intro @dec_f @Tryz.results27)
  have hx := hx0
  refine ⟨by rfl, ?_⟩
  intro F W0 hnp hmk
  refine vc_seq_k fun N1 h1 => ?_
  refine u_reg ?_
  try refine lg_mk ?_
  refine u_al ?_
  refine lg_nil ?_
  refine h1 _ ?_; clear h1; try clear N1
  refine vc_seq_k fun N2 h2 => ?_
  refine vc_seq_k fun N3 h3 => ?_
  refine u_reg ?_
  try refine lg_mk ?_
  refine u_mv ?_
  refine u_ln ?_
  refine u_bn ?_
  refine lg_nil ?_
  refine h3 _ ?_; clear h3; try clear N3
  refine u_cond (fun hb4 => ?_) (fun hb4 => ?_)
  ·first | omega | (cases hb4; done) | (simp at hb4; done)
  ·refine vc_skip ?_
   try simp only [k_rules]
   refine h2 _ ?_; clear h2; try clear N2
   refine vc_seq_k fun N5 h5 => ?_
   refine vc_seq_k fun N6 h6 => ?_
   refine u_reg ?_
   try refine lg_mk ?_
   refine u_mv ?_
   refine u_ln ?_
   refine u_mv ?_
   refine lg_nil ?_
   refine h6 _ ?_; clear h6; try clear N6
   refine vc_block ?_
   refine vc_loop_mk (σ := Nat) (fun s => (fun i => i = 0) s)
    (fun s => (fun i => [(0, .d (.sl [])), (1, .d (.int .i64 0)), (4, .ptr 0 0 0), (11, .d (.sl [])), (12, .d (.int .i64 0)), (13, .d (.int .i64 0))]) s)
    (fun s => (fun i => [some (.one 28 [.d (.int .i64 0), .d (.int .i64 0)])]) s) (fun s => (fun i => 0) s) hnp 0 ?_ [some 0] ?_ ?_
   ·dsimp only
    skip
   ·dsimp only
    refine ⟨by rfl, ?_, ?_⟩
    ·refine fin_ ?_
     exact cl_
    ·refine fin_ ?_
     exact cl_
   ·rintro i hinv N7 h7
    dsimp only at hinv ⊢
    refine vc_seq_k fun N8 h8 => ?_
    refine u_reg ?_
    try refine lg_mk ?_
    refine u_bn ?_
    refine lg_nil ?_
    refine h8 _ ?_; clear h8; try clear N8
    refine vc_seq_k fun N9 h9 => ?_
    refine u_cond (fun hb10 => ?_) (fun hb10 => ?_)
    ·first | omega | (cases hb10; done) | (simp at hb10; done)
    ·refine vc_exit ?_
     simp only [k_rules, Nat.reduceEqDiff, reduceIte, eq_self]
     refine h5 _ ?_; clear h5; try clear N5
     refine vc_seq_k fun N11 h11 => ?_
     refine vc_seq_k fun N12 h12 => ?_
     refine u_reg ?_
     try refine lg_mk ?_
     refine u_mv ?_
     refine u_bn ?_
     refine u_mv ?_
     refine g_mv ?_
     refine g_bn ?_
     refine u_pk ?_
     refine lg_nil ?_
     refine h12 _ ?_; clear h12; try clear N12
     refine u_cond (fun hb13 => ?_) (fun hb13 => ?_)
     ·first | omega | (cases hb13; done) | (simp at hb13; done)
     ·refine vc_skip ?_
      try simp only [k_rules]
      refine h11 _ ?_; clear h11; try clear N11
      refine vc_seq_k fun N14 h14 => ?_
      refine u_reg ?_
      try refine lg_mk ?_
      refine u_bd ?_
      refine u_st ?_
      refine lg_nil ?_
      refine h14 _ ?_; clear h14; try clear N14
      refine vc_ret ?_
      try simp only [k_rules]
      refine fin2_ ?_
      exact cl_
 ·cases hg

def E_leases0 : Env Tryz.prog := E_refs0.add 27 (Spec.pure lea0G) leases0_meets (by kernel_rfl)
end Go.Proofs.YtoagbjhlpfepkaaGreatDoor
