/- Walks, printed by wip/gen/walk.py. -/
import Derived.Test.YtcjipciiljjfhaaDoorT5
import Derived.Test.YtcjipciiljjfhaaDoorV5
set_option linter.all false
set_option maxRecDepth 100000
set_option maxHeartbeats 4000000
namespace Go.Proofs.YtcjipciiljjfhaaDoor
open Go Go.Vc Go.RowKit
theorem objCk_meets : Meets Tryd.prog 27 (Spec.pure objFG) := by
 refine meets_fun (E_bytes.at_ 56) Tryd.func27 rfl rfl rfl ?_
 intro args p r hg hp
 unfold objFG at hg
 split at hg
 ·rename_i k ls ds
  simp only [Option.some.injEq, Prod.mk.injEq] at hg
  obtain ⟨rfl, rfl⟩ := hg
  obtain ⟨he, he2, hok⟩ := hp
  generalize dI ls = l at *
  generalize dU ds = u at *
  subst he he2
  obtain ⟨hol, hou⟩ := hok
  dsimp only at hol hou
  have hT : (E_bytes).X = T := rfl
  have hx0 := And.intro @dec_t (And.intro @dec_f @Tryd.results27)
  have hx := hx0
  refine ⟨by rfl, ?_⟩
  intro F W0 hnp hmk
  refine vc_seq_k fun N1 h1 => ?_
  refine u_reg ?_
  try refine lg_mk ?_
  refine u_bx (hq := by (first | (omega) | exact sd_)) ?_
  refine u_al (hq := by (first | (omega) | exact sd_)) ?_
  refine lg_nil ?_
  refine h1 _ ?_; clear h1; try clear N1
  refine vc_seq_k fun N2 h2 => ?_
  refine vc_block ?_
  refine vc_seq_k fun N3 h3 => ?_
  refine u_reg ?_
  try refine lg_mk ?_
  refine u_pt (hq := by (first | (omega) | exact sd_)) ?_
  refine u_ld (hq := by (first | (omega) | exact sd_)) ?_
  refine u_bn (hq := by (first | (omega) | exact sd_)) ?_
  refine u_mv (hq := by (first | (omega) | exact sd_)) ?_
  refine s_pt (hq := by (intro hg; (try simp only [b_rules, bif_and, bif_or] at hg); (first | (omega) | exact sd_))) ?_
  refine s_ld (hq := by (intro hg; (try simp only [b_rules, bif_and, bif_or] at hg); (first | (omega) | exact sd_))) ?_
  refine s_bn (hq := by (intro hg; (try simp only [b_rules, bif_and, bif_or] at hg); (first | (omega) | exact sd_))) ?_
  refine u_pk (hq := by (first | (omega) | exact sd_)) ?_
  refine u_mv (hq := by (first | (omega) | exact sd_)) ?_
  refine lg_nil ?_
  refine h3 _ ?_; clear h3; try clear N3
  refine u_cond (fun hb4 => ?_) (fun hb4 => ?_)
  ·refine vc_seq_k fun N5 h5 => ?_
   refine u_reg ?_
   try refine lg_mk ?_
   refine u_bd (hq := by (first | (omega) | exact sd_)) ?_
   refine u_st (hq := by (first | (omega) | exact sd_)) ?_
   refine lg_nil ?_
   refine h5 _ ?_; clear h5; try clear N5
   refine vc_ret ?_
   try simp only [k_rules]
   have hr : objF ⟨k, l, u⟩ = (4, 0) := by
    unfold objF; dsimp only
    rw [if_pos (by have := hb4; (try simp at this); omega)]
   rw [hr]
   refine fin2_ ?_
   exact cl_
  ·refine vc_seq_k fun N6 h6 => ?_
   refine u_reg ?_
   try refine lg_mk ?_
   refine u_pt (hq := by (first | (omega) | exact sd_)) ?_
   refine u_ld (hq := by (first | (omega) | exact sd_)) ?_
   refine u_ln (hq := by (first | (omega) | exact sd_)) ?_
   refine u_bn (hq := by (first | (omega) | exact sd_)) ?_
   refine u_mv (hq := by (first | (omega) | exact sd_)) ?_
   refine lg_nil ?_
   refine h6 _ ?_; clear h6; try clear N6
   refine u_cond (fun hb7 => ?_) (fun hb7 => ?_)
   ·refine vc_seq_k fun N8 h8 => ?_
    refine u_reg ?_
    try refine lg_mk ?_
    refine u_bd (hq := by (first | (omega) | exact sd_)) ?_
    refine u_st (hq := by (first | (omega) | exact sd_)) ?_
    refine lg_nil ?_
    refine h8 _ ?_; clear h8; try clear N8
    refine vc_ret ?_
    try simp only [k_rules]
    have hr : objF ⟨k, l, u⟩ = (2, 0) := by
     unfold objF; dsimp only
     rw [if_neg (by have := hb4; (try simp at this); omega), if_pos (by have := hb7; (try simp at this); omega)]
    rw [hr]
    refine fin2_ ?_
    exact cl_
   ·refine vc_seq_k fun N9 h9 => ?_
    refine u_reg ?_
    try refine lg_mk ?_
    refine u_pt (hq := by (first | (omega) | exact sd_)) ?_
    refine u_ld (hq := by (first | (omega) | exact sd_)) ?_
    refine u_ln (hq := by (first | (omega) | exact sd_)) ?_
    refine u_bn (hq := by (first | (omega) | exact sd_)) ?_
    refine u_mv (hq := by (first | (omega) | exact sd_)) ?_
    refine lg_nil ?_
    refine h9 _ ?_; clear h9; try clear N9
    refine u_cond (fun hb10 => ?_) (fun hb10 => ?_)
    ·refine vc_seq_k fun N11 h11 => ?_
     refine u_reg ?_
     try refine lg_mk ?_
     refine u_bd (hq := by (first | (omega) | exact sd_)) ?_
     refine u_st (hq := by (first | (omega) | exact sd_)) ?_
     refine lg_nil ?_
     refine h11 _ ?_; clear h11; try clear N11
     refine vc_ret ?_
     try simp only [k_rules]
     have hr : objF ⟨k, l, u⟩ = (10, 0) := by
      unfold objF; dsimp only
      rw [if_neg (by have := hb4; (try simp at this); omega), if_neg (by have := hb7; omega), if_pos (by have := hb10; (try simp at this); omega)]
     rw [hr]
     refine fin2_ ?_
     exact cl_
    ·refine vc_seq_k fun N12 h12 => ?_
     refine u_reg ?_
     try refine lg_mk ?_
     refine u_pt (hq := by (first | (omega) | exact sd_)) ?_
     refine u_ld (hq := by (first | (omega) | exact sd_)) ?_
     refine u_bn (hq := by (first | (omega) | exact sd_)) ?_
     refine u_mv (hq := by (first | (omega) | exact sd_)) ?_
     refine s_pt (hq := by (intro hg; (try simp only [b_rules, bif_and, bif_or] at hg); (first | (omega) | exact sd_))) ?_
     refine s_ld (hq := by (intro hg; (try simp only [b_rules, bif_and, bif_or] at hg); (first | (omega) | exact sd_))) ?_
     refine s_ln (hq := by (intro hg; (try simp only [b_rules, bif_and, bif_or] at hg); (first | (omega) | exact sd_))) ?_
     refine s_bn (hq := by (intro hg; (try simp only [b_rules, bif_and, bif_or] at hg); (first | (omega) | exact sd_))) ?_
     refine u_pk (hq := by (first | (omega) | exact sd_)) ?_
     refine u_mv (hq := by (first | (omega) | exact sd_)) ?_
     refine lg_nil ?_
     refine h12 _ ?_; clear h12; try clear N12
     refine u_cond (fun hb13 => ?_) (fun hb13 => ?_)
     ·refine vc_seq_k fun N14 h14 => ?_
      refine u_reg ?_
      try refine lg_mk ?_
      refine u_bd (hq := by (first | (omega) | exact sd_)) ?_
      refine u_st (hq := by (first | (omega) | exact sd_)) ?_
      refine lg_nil ?_
      refine h14 _ ?_; clear h14; try clear N14
      refine vc_ret ?_
      try simp only [k_rules]
      have hr : objF ⟨k, l, u⟩ = (5, 0) := by
       unfold objF; dsimp only
       rw [if_neg (by have := hb4; (try simp at this); omega), if_neg (by have := hb7; omega), if_neg (by have := hb10; omega), if_pos (by have := hb13; (try simp at this); omega)]
      rw [hr]
      refine fin2_ ?_
      exact cl_
     ·refine vc_skip ?_
      try simp only [k_rules]
      refine h2 _ ?_; clear h2; try clear N2
      refine vc_seq_k fun N15 h15 => ?_
      refine vc_seq_k fun N16 h16 => ?_
      refine u_reg ?_
      try refine lg_mk ?_
      refine u_pt (hq := by (first | (omega) | exact sd_)) ?_
      refine u_ld (hq := by (first | (omega) | exact sd_)) ?_
      refine u_ln (hq := by (first | (omega) | exact sd_)) ?_
      refine u_mv (hq := by (first | (omega) | exact sd_)) ?_
      refine lg_nil ?_
      refine h16 _ ?_; clear h16; try clear N16
      refine vc_block ?_
      refine vc_loop_mk (σ := Nat) (fun s => (fun i => i ≤ l.length ∧ ∀ j, j < i → lkF l j = 0) s)
       (fun s => (fun i => [(1, .ptr 0 0 0), (2, .ptr 1 0 0), (39, .d (.sl (rows eI l))), (40, .d (.int .i64 (l.length : Nat))), (41, .d (.int .i64 (i : Nat)))]) s)
       (fun s => (fun i => [some (.one 44 [.d (.int .i64 k), .d (.sl (rows eI l)), .d (.sl (rows eU u))]), some (.one 33 [.d (.int .i64 0), .d (.int .i64 0)])]) s) (fun s => (fun i => l.length - i) s) hnp 0 ?_ [some 0, some 1] ?_ ?_
      ·dsimp only
       exact ⟨by omega, fun j hj => by omega⟩
      ·dsimp only
       refine ⟨by rfl, ?_, ?_⟩
       ·refine fin_ ?_
        exact cl_
       ·refine fin_ ?_
        exact cl_
      ·rintro i hinv N17 h17
       dsimp only at hinv ⊢
       obtain ⟨i1, i2⟩ := hinv
       refine vc_seq_k fun N18 h18 => ?_
       refine u_reg ?_
       try refine lg_mk ?_
       refine u_bn (hq := by (first | (omega) | exact sd_)) ?_
       refine lg_nil ?_
       refine h18 _ ?_; clear h18; try clear N18
       refine vc_seq_k fun N19 h19 => ?_
       refine u_cond (fun hb20 => ?_) (fun hb20 => ?_)
       ·obtain ⟨x, hxe⟩ := getE (l := l) (i := i) (by omega)
        have hxd : l.getD i 0 = x := getD_at hxe
        refine vc_skip ?_
        try simp only [k_rules]
        refine h19 _ ?_; clear h19; try clear N19
        refine vc_seq_k fun N21 h21 => ?_
        refine vc_block ?_
        refine vc_seq_k fun N22 h22 => ?_
        have hx := And.intro @hxe (And.intro @eI.eq_1 hx0)
        refine u_reg ?_
        try refine lg_mk ?_
        refine u_mv (hq := by (first | (omega) | exact sd_)) ?_
        refine u_pt (hq := by (first | (omega) | exact sd_)) ?_
        refine u_ld (hq := by (first | (omega) | exact sd_)) ?_
        refine u_mv (hq := by (first | (omega) | exact sd_)) ?_
        refine u_mv (hq := by (first | (omega) | exact sd_)) ?_
        refine lg_nil ?_
        have hx := hx0
        refine h22 _ ?_; clear h22; try clear N22
        refine vc_seq_k fun N23 h23 => ?_
        refine u_reg ?_
        try refine lg_mk ?_
        refine u_mv (hq := by (first | (omega) | exact sd_)) ?_
        refine u_bn (hq := by (first | (omega) | exact sd_)) ?_
        refine u_mv (hq := by (first | (omega) | exact sd_)) ?_
        refine s_mv (hq := by (intro hg; (try simp only [b_rules, bif_and, bif_or] at hg); (first | (omega) | exact sd_))) ?_
        refine s_bn (hq := by (intro hg; (try simp only [b_rules, bif_and, bif_or] at hg); (first | (omega) | exact sd_))) ?_
        refine u_pk (hq := by (first | (omega) | exact sd_)) ?_
        refine lg_nil ?_
        refine h23 _ ?_; clear h23; try clear N23
        refine u_cond (fun hb24 => ?_) (fun hb24 => ?_)
        ·refine vc_seq_k fun N25 h25 => ?_
         refine u_reg ?_
         try refine lg_mk ?_
         refine u_mv (hq := by (first | (omega) | exact sd_)) ?_
         refine u_bd (hq := by (first | (omega) | exact sd_)) ?_
         refine u_st (hq := by (first | (omega) | exact sd_)) ?_
         refine lg_nil ?_
         refine h25 _ ?_; clear h25; try clear N25
         refine vc_ret ?_
         try simp only [k_rules]
         have hf : lkF l i = 3 := by unfold lkF; rw [hxd, if_pos (by have := hb24; (try simp at this); omega)]
         have hr : objF ⟨k, l, u⟩ = (3, (i : Int)) := by
          unfold objF; dsimp only
          rw [if_neg (by have := hb4; (try simp at this); omega), if_neg (by have := hb7; omega), if_neg (by have := hb10; omega), if_neg (by have := hb13; (try simp at this); omega), firstF_at (i := i) (by rw [hf]; decide) i2 (by omega), hf]; rfl
         rw [hr]
         refine fin2_ ?_
         exact cl_
        ·refine vc_skip ?_
         try simp only [k_rules]
         refine h21 _ ?_; clear h21; try clear N21
         refine u_reg ?_
         try refine lg_mk ?_
         refine u_bn (hq := by (first | (omega) | exact sd_)) ?_
         refine u_mv (hq := by (first | (omega) | exact sd_)) ?_
         refine lg_nil ?_
         refine h17 _ ⟨i + 1, ?_, ?_, [some 0, some 1], ?_⟩
         ·dsimp only
          exact ⟨by omega, lt_succF i2 (by unfold lkF; rw [hxd, if_neg (by have := hb24; (try simp at this); omega)])⟩
         ·dsimp only
          omega
         ·dsimp only
          refine ⟨by rfl, ?_, ?_⟩
          ·refine fin_ ?_
           exact cl_
          ·refine fin_ ?_
           exact cl_
       ·refine vc_exit ?_
        simp only [k_rules, Nat.reduceEqDiff, reduceIte, eq_self]
        refine h15 _ ?_; clear h15; try clear N15
        refine vc_seq_k fun N26 h26 => ?_
        refine u_reg ?_
        try refine lg_mk ?_
        refine u_bd (hq := by (first | (omega) | exact sd_)) ?_
        refine u_st (hq := by (first | (omega) | exact sd_)) ?_
        refine lg_nil ?_
        refine h26 _ ?_; clear h26; try clear N26
        refine vc_ret ?_
        try simp only [k_rules]
        have hr : objF ⟨k, l, u⟩ = (0, 0) := by
         unfold objF; dsimp only
         rw [if_neg (by have := hb4; (try simp at this); omega), if_neg (by have := hb7; omega), if_neg (by have := hb10; omega), if_neg (by have := hb13; (try simp at this); omega), firstF_none (fun j hj => i2 j (by omega))]
        rw [hr]
        refine fin2_ ?_
        exact cl_
 ·cases hg

def E_objCk : Env Tryd.prog := E_bytes.add 27 (Spec.pure objFG) objCk_meets (by kernel_rfl)

theorem digest_meets : Meets Tryd.prog 17 (Spec.pure digestG) := by
 refine meets_fun (E_objCk.at_ 16) Tryd.func17 rfl rfl rfl ?_
 intro args p r hg hp
 unfold digestG at hg
 split at hg
 ·rename_i k ls ds
  simp only [Option.some.injEq, Prod.mk.injEq] at hg
  obtain ⟨rfl, rfl⟩ := hg
  obtain ⟨he, he2, hok⟩ := hp
  generalize dI ls = l at *
  generalize dU ds = u at *
  subst he he2
  obtain ⟨hol, hou⟩ := hok
  dsimp only at hol hou
  have hT : (E_objCk).X = T := rfl
  have hx0 := And.intro @dI_rows (And.intro @dU_rows @Tryd.results17)
  have hx := hx0
  refine ⟨by rfl, ?_⟩
  intro F W0 hnp hmk
  refine vc_seq_k fun N1 h1 => ?_
  refine u_reg ?_
  try refine lg_mk ?_
  refine u_bx (hq := by (first | (omega) | exact sd_)) ?_
  refine u_mv (hq := by (first | (omega) | exact sd_)) ?_
  refine u_al (hq := by (first | (omega) | exact sd_)) ?_
  refine lg_nil ?_
  refine h1 _ ?_; clear h1; try clear N1
  refine vc_seq_k fun N2 h2 => ?_
  refine vc_seq_k fun N3 h3 => ?_
  refine u_reg ?_
  try refine lg_mk ?_
  refine u_ld (hq := by (first | (omega) | exact sd_)) ?_
  have hc := call_rule (E := (E_objCk.at_ 16)) (f := 27) (sp := Spec.pure objFG) rfl
  have hs := @objFG.eq_1
  refine u_cp (hq := by (first | (exact ⟨hol, hou⟩) | exact sd_)) ?_
  refine u_al (hq := by (first | (omega) | exact sd_)) ?_
  refine u_st (hq := by (first | (omega) | exact sd_)) ?_
  refine lg_nil ?_
  refine h3 _ ?_; clear h3; try clear N3
  refine vc_seq_k fun N4 h4 => ?_
  rcases objF_or2 ⟨k, l, u⟩ with ⟨hvx, hov⟩ | hvx
  ·have hz1 : (objF ⟨k, l, u⟩).1 = 0 := by rw [hvx]
   have hz2 : (objF ⟨k, l, u⟩).2 = 0 := by rw [hvx]
   refine u_reg ?_
   try refine lg_mk ?_
   refine u_ld (hq := by (first | (omega) | exact sd_)) ?_
   refine u_bd (hq := by (first | (omega) | exact sd_)) ?_
   refine u_bn (hq := by (first | (omega) | exact sd_)) ?_
   refine lg_nil ?_
   refine h4 _ ?_; clear h4; try clear N4
   refine u_cond (fun hb5 => ?_) (fun hb5 => ?_)
   ·exact absurd (And.intro hz1 hz2) (by have := hb5; simpa using this)
   ·refine vc_skip ?_
    try simp only [k_rules]
    refine h2 _ ?_; clear h2; try clear N2
    refine vc_seq_k fun N6 h6 => ?_
    refine u_reg ?_
    try refine lg_mk ?_
    refine u_ld (hq := by (first | (omega) | exact sd_)) ?_
    have hc := call_rule (E := (E_objCk.at_ 16)) (f := 29) (sp := Spec.pure bytesG) rfl
    have hs := @bytesG.eq_1
    refine u_hp (hq := by (first | (exact hov) | exact sd_)) ?_
    have hc := call_rule (E := (E_objCk.at_ 16)) (f := 28) (sp := Spec.pure ofG) rfl
    have hs := @ofG.eq_1
    refine u_cp (hq := by (first | (have hob := objB_len ⟨k, l, u⟩; have := hov.ln; have := hov.da; dsimp only at *; omega) | exact sd_)) ?_
    refine u_ex (hq := by (first | (omega) | exact sd_)) ?_
    refine u_ex (hq := by (first | (omega) | exact sd_)) ?_
    refine u_mv (hq := by (first | (omega) | exact sd_)) ?_
    refine u_st (hq := by (first | (omega) | exact sd_)) ?_
    refine lg_nil ?_
    refine h6 _ ?_; clear h6; try clear N6
    refine vc_ret ?_
    try simp only [k_rules]
    have hr : objD0 ⟨k, l, u⟩ = objD ⟨k, l, u⟩ := by unfold objD0; rw [if_neg (by rw [hz1]; simp)]
    rw [hr, hz1, hz2]
    refine fin2_ ?_
    exact cl_
  ·have hz1 := hvx
   refine u_reg ?_
   try refine lg_mk ?_
   refine u_ld (hq := by (first | (omega) | exact sd_)) ?_
   refine u_bd (hq := by (first | (omega) | exact sd_)) ?_
   refine u_bn (hq := by (first | (omega) | exact sd_)) ?_
   refine lg_nil ?_
   refine h4 _ ?_; clear h4; try clear N4
   refine u_cond (fun hb7 => ?_) (fun hb7 => ?_)
   ·refine vc_seq_k fun N8 h8 => ?_
    refine u_reg ?_
    try refine lg_mk ?_
    refine u_ld (hq := by (first | (omega) | exact sd_)) ?_
    refine u_mv (hq := by (first | (omega) | exact sd_)) ?_
    refine u_st (hq := by (first | (omega) | exact sd_)) ?_
    refine lg_nil ?_
    refine h8 _ ?_; clear h8; try clear N8
    refine vc_ret ?_
    try simp only [k_rules]
    have hr : objD0 ⟨k, l, u⟩ = 0 := by unfold objD0; rw [if_pos hz1]
    rw [hr]
    refine fin2_ ?_
    exact cl_
   ·exact absurd (show (objF ⟨k, l, u⟩).1 = 0 by have := hb7; first | exact this.1 | exact (Classical.not_not.1 this).1 | (simp at this; exact this.1)) hz1
 ·cases hg

def E_digest : Env Tryd.prog := E_objCk.add 17 (Spec.pure digestG) digest_meets (by kernel_rfl)
end Go.Proofs.YtcjipciiljjfhaaDoor
