/- Walks, printed by wip/gen/walk.py. -/
import Derived.Test.YtlbjffdaooadoaaDoorT11
import Derived.Test.YtlbjffdaooadoaaDoorV5
set_option linter.all false
set_option maxRecDepth 100000
set_option maxHeartbeats 4000000
namespace Go.Proofs.YtlbjffdaooadoaaDoor
open Go Go.Vc Go.RowKit
theorem reach3_meets : Meets Tryd.prog 53 (Spec.pure reachRG) := by
 refine meets_fun (E_histFault.at_ 63) Tryd.func53 rfl rfl rfl ?_
 intro args p r hg hp
 unfold reachRG at hg
 split at hg
 ·rename_i xs
  simp only [Option.some.injEq, Prod.mk.injEq] at hg
  obtain ⟨rfl, rfl⟩ := hg
  obtain ⟨he, hv⟩ := hp
  generalize dC xs = l at *
  subst he
  have hl60 := hv.len
  have hT : (E_histFault).X = T := rfl
  have hx0 := And.intro @rect_eC (And.intro @vec_len (And.intro @ancR_len @Tryd.results53))
  have hx := hx0
  refine ⟨by rfl, ?_⟩
  intro F W0 hnp hmk
  refine vc_seq_k fun N1 h1 => ?_
  refine u_reg ?_
  try refine lg_mk ?_
  refine u_mv ?_
  refine lg_nil ?_
  refine h1 _ ?_; clear h1; try clear N1
  refine vc_seq_k fun N2 h2 => ?_
  refine u_reg ?_
  try refine lg_mk ?_
  refine u_mv ?_
  refine lg_nil ?_
  refine h2 _ ?_; clear h2; try clear N2
  refine vc_seq_k fun N3 h3 => ?_
  refine vc_seq_k fun N4 h4 => ?_
  refine u_reg ?_
  try refine lg_mk ?_
  refine u_mv ?_
  refine lg_nil ?_
  refine h4 _ ?_; clear h4; try clear N4
  refine vc_block ?_
  refine vc_loop_mk (σ := Nat) (fun s => (fun i => i ≤ l.length) s)
   (fun s => (fun i => [(0, .d (.sl (rows eC l))), (3, .sl 0 0 i), (4, .d (.int .i64 (i : Nat)))]) s)
   (fun s => (fun i => [some (.vec 41 1 (rows (eL eB) (ancR l i)))]) s) (fun s => (fun i => l.length - i) s) hnp 0 ?_ [none] ?_ ?_
  ·dsimp only
   omega
  ·dsimp only
   refine ⟨by rfl, ?_, ?_⟩
   ·refine fin_ ?_
    exact cl_
   ·refine fin_ ?_
    exact cl_
  ·rintro i hinv N5 h5
   dsimp only at hinv ⊢
   have hi1 := hinv
   refine vc_seq_k fun N6 h6 => ?_
   refine vc_seq_k fun N7 h7 => ?_
   refine u_reg ?_
   try refine lg_mk ?_
   refine u_mv ?_
   refine u_mv ?_
   refine u_ln ?_
   refine u_bn ?_
   refine lg_nil ?_
   refine h7 _ ?_; clear h7; try clear N7
   refine u_cond (fun hb8 => ?_) (fun hb8 => ?_)
   ·have hil : i < l.length := by omega
    obtain ⟨c, hce⟩ := getE (l := l) (i := i) hil
    have hc3 := hv.few hce
    have hrp : (List.replicate l.length [D.bool false])[i]? = some [D.bool false] := by rw [List.getElem?_replicate, if_pos hil]
    refine vc_skip ?_
    try simp only [k_rules]
    refine h6 _ ?_; clear h6; try clear N6
    refine vc_seq_k fun N9 h9 => ?_
    refine vc_block ?_
    refine vc_seq_k fun N10 h10 => ?_
    refine u_reg ?_
    try refine lg_mk ?_
    refine u_mv ?_
    refine u_ln ?_
    refine u_ms ?_
    refine u_mv ?_
    refine lg_nil ?_
    refine h10 _ ?_; clear h10; try clear N10
    refine vc_seq_k fun N11 h11 => ?_
    have hx := And.intro @hrp hx0
    refine u_reg ?_
    try refine lg_mk ?_
    refine u_mv ?_
    refine u_mv ?_
    refine u_pt ?_
    refine u_st ?_
    refine lg_nil ?_
    have hx := hx0
    refine h11 _ ?_; clear h11; try clear N11
    refine vc_seq_k fun N12 h12 => ?_
    refine vc_seq_k fun N13 h13 => ?_
    refine u_reg ?_
    try refine lg_mk ?_
    refine u_mv ?_
    refine lg_nil ?_
    refine h13 _ ?_; clear h13; try clear N13
    refine vc_block ?_
    refine vc_loop_mk (σ := Nat) (fun s => (fun k => k ≤ i) s)
     (fun s => (fun k => [(0, .d (.sl (rows eC l))), (3, .sl 0 0 i), (4, .d (.int .i64 (i : Nat))), (5, .sl 1 0 l.length), (6, .d (.int .i64 (k : Nat)))]) s)
     (fun s => (fun k => [some (.vec 41 1 (rows (eL eB) (ancR l i))), some (.vec 4 1 (rows eB (vec l.length (rowK l i k))))]) s) (fun s => (fun k => i - k) s) hnp 0 ?_ [some 0, some 1] ?_ ?_
    ·dsimp only
     omega
    ·dsimp only
     refine ⟨by rfl, ?_, ?_⟩
     ·refine fin_ ?_
      (repeat' apply And.intro) <;> (first | (first | rfl | trivial | (rw [vec_rep, ← row_zero i]; simp [rows, eB]; done)) | exact cl_)
     ·refine fin_ ?_
      (repeat' apply And.intro) <;> (first | (first | rfl | trivial | (rw [vec_rep, ← row_zero i]; simp [rows, eB]; done)) | exact cl_)
    ·rintro k hinv N14 h14
     dsimp only at hinv ⊢
     have hk1 := hinv
     refine vc_seq_k fun N15 h15 => ?_
     refine vc_seq_k fun N16 h16 => ?_
     refine u_reg ?_
     try refine lg_mk ?_
     refine u_mv ?_
     refine u_mv ?_
     refine u_bn ?_
     refine lg_nil ?_
     refine h16 _ ?_; clear h16; try clear N16
     refine u_cond (fun hb17 => ?_) (fun hb17 => ?_)
     ·have hki : k < i := by omega
      refine vc_skip ?_
      try simp only [k_rules]
      refine h15 _ ?_; clear h15; try clear N15
      refine vc_seq_k fun N18 h18 => ?_
      refine vc_block ?_
      refine vc_seq_k fun N19 h19 => ?_
      refine u_reg ?_
      try refine lg_mk ?_
      refine u_mv ?_
      refine lg_nil ?_
      refine h19 _ ?_; clear h19; try clear N19
      refine vc_block ?_
      refine vc_loop_mk (σ := Nat) (fun s => (fun j => j ≤ c.par.length) s)
       (fun s => (fun j => [(0, .d (.sl (rows eC l))), (3, .sl 0 0 i), (4, .d (.int .i64 (i : Nat))), (5, .sl 1 0 l.length), (6, .d (.int .i64 (k : Nat))), (7, .d (.int .i64 (j : Nat)))]) s)
       (fun s => (fun j => [some (.vec 41 1 (rows (eL eB) (ancR l i))), some (.vec 4 1 (rows eB (vec l.length (rowJ l i k j))))]) s) (fun s => (fun j => c.par.length - j) s) hnp 0 ?_ [some 0, some 1] ?_ ?_
      ·dsimp only
       omega
      ·dsimp only
       refine ⟨by rfl, ?_, ?_⟩
       ·refine fin_ ?_
        (repeat' apply And.intro) <;> (first | (first | rfl | trivial | (rw [rowJ_zero hki]; done)) | exact cl_)
       ·refine fin_ ?_
        (repeat' apply And.intro) <;> (first | (first | rfl | trivial | (rw [rowJ_zero hki]; done)) | exact cl_)
      ·rintro j hinv N20 h20
       dsimp only at hinv ⊢
       have hj1 := hinv
       refine vc_seq_k fun N21 h21 => ?_
       refine vc_seq_k fun N22 h22 => ?_
       have hx := And.intro @hce (And.intro @eC.eq_1 hx0)
       refine u_reg ?_
       try refine lg_mk ?_
       refine u_mv ?_
       refine u_mv ?_
       refine u_mv ?_
       refine u_pt ?_
       refine u_pt ?_
       refine u_ld ?_
       refine u_ln ?_
       refine u_bn ?_
       refine lg_nil ?_
       have hx := hx0
       refine h22 _ ?_; clear h22; try clear N22
       refine u_cond (fun hb23 => ?_) (fun hb23 => ?_)
       ·obtain ⟨p, hpe⟩ := getE (l := c.par) (i := j) (by omega)
        have hpr := hv.par hce hpe
        have hg := vec_get (n := l.length) (f := rowJ l i k j) (k := k) (by omega)
        have hrow := ancR_get (l := l) (m := i) (i := p.toNat) (by omega)
        have hgk := vec_get (n := l.length) (f := ancB l p.toNat) (k := k) (by omega)
        refine vc_skip ?_
        try simp only [k_rules]
        refine h21 _ ?_; clear h21; try clear N21
        refine vc_seq_k fun N24 h24 => ?_
        refine vc_block ?_
        have hx := And.intro @hce (And.intro @hpe (And.intro @hg (And.intro @hrow (And.intro @hgk (And.intro @eI.eq_1 (And.intro @eC.eq_1 (And.intro @eB.eq_1 (And.intro @eL.eq_1 hx0))))))))
        refine u_reg ?_
        try refine lg_mk ?_
        refine u_mv ?_
        refine u_mv ?_
        refine u_mv ?_
        refine u_mv ?_
        refine u_pt ?_
        refine u_ld ?_
        refine u_mv ?_
        refine g_mv ?_
        refine g_mv ?_
        refine g_mv ?_
        refine g_pt ?_
        refine g_pt ?_
        refine g_ld ?_
        refine g_mv ?_
        refine g_pt ?_
        refine g_ld ?_
        refine g_pt ?_
        refine g_ld ?_
        refine g_mv ?_
        refine g_pt ?_
        refine g_ld ?_
        refine u_pk ?_
        refine u_pt ?_
        refine u_st ?_
        refine lg_nil ?_
        have hx := hx0
        refine h24 _ ?_; clear h24; try clear N24
        refine u_reg ?_
        try refine lg_mk ?_
        refine u_mv ?_
        refine u_bn ?_
        refine u_mv ?_
        refine lg_nil ?_
        refine h20 _ ⟨j + 1, ?_, ?_, [some 0, some 1], ?_⟩
        ·dsimp only
         omega
        ·dsimp only
         omega
        ·dsimp only
         refine ⟨by rfl, ?_, ?_⟩
         ·refine fin_ ?_
          (repeat' apply And.intro) <;> (first | (first | rfl | trivial | (rw [← rowJ_set hce hpe]; simp [rows, eB]; done)) | exact cl_)
         ·refine fin_ ?_
          (repeat' apply And.intro) <;> (first | (first | rfl | trivial | (rw [← rowJ_set hce hpe]; simp [rows, eB]; done)) | exact cl_)
       ·have hj : j = c.par.length := by omega
        subst hj
        refine vc_exit ?_
        simp only [k_rules, Nat.reduceEqDiff, reduceIte, eq_self]
        refine h18 _ ?_; clear h18; try clear N18
        refine u_reg ?_
        try refine lg_mk ?_
        refine u_mv ?_
        refine u_bn ?_
        refine u_mv ?_
        refine lg_nil ?_
        refine h14 _ ⟨k + 1, ?_, ?_, [some 0, some 1], ?_⟩
        ·dsimp only
         omega
        ·dsimp only
         omega
        ·dsimp only
         refine ⟨by rfl, ?_, ?_⟩
         ·refine fin_ ?_
          (repeat' apply And.intro) <;> (first | (first | rfl | trivial | (rw [rowJ_all hv hce hki]; done)) | exact cl_)
         ·refine fin_ ?_
          (repeat' apply And.intro) <;> (first | (first | rfl | trivial | (rw [rowJ_all hv hce hki]; done)) | exact cl_)
     ·have hk : k = i := by omega
      subst hk
      refine vc_exit ?_
      simp only [k_rules, Nat.reduceEqDiff, reduceIte, eq_self]
      refine h12 _ ?_; clear h12; try clear N12
      refine u_reg ?_
      try refine lg_mk ?_
      refine u_mv ?_
      refine u_mv ?_
      refine u_bs ?_
      refine u_ap ?_
      refine u_mv ?_
      refine lg_nil ?_
      refine h9 _ ?_; clear h9; try clear N9
      refine u_reg ?_
      try refine lg_mk ?_
      refine u_mv ?_
      refine u_bn ?_
      refine u_mv ?_
      refine lg_nil ?_
      have htk : List.take k (ancR l k) = ancR l k := List.take_of_length_le (by rw [ancR_len]; omega)
      refine h5 _ ⟨k + 1, ?_, ?_, [some 3], ?_⟩
      ·dsimp only
       omega
      ·dsimp only
       omega
      ·dsimp only
       refine ⟨by rfl, ?_, ?_⟩
       ·refine fin_ ?_
        (repeat' apply And.intro) <;> (first | (first | rfl | trivial | (rw [htk, ancR_snoc, ← rowK_all hv]; simp [rows, eL, vec_take]; done)) | exact cl_)
       ·refine fin_ ?_
        (repeat' apply And.intro) <;> (first | (first | rfl | trivial | (rw [htk, ancR_snoc, ← rowK_all hv]; simp [rows, eL, vec_take]; done)) | exact cl_)
   ·have hi : i = l.length := by omega
    subst hi
    refine vc_exit ?_
    simp only [k_rules, Nat.reduceEqDiff, reduceIte, eq_self]
    refine h3 _ ?_; clear h3; try clear N3
    refine vc_seq_k fun N25 h25 => ?_
    refine u_reg ?_
    try refine lg_mk ?_
    refine u_mv ?_
    refine u_mv ?_
    refine lg_nil ?_
    refine h25 _ ?_; clear h25; try clear N25
    refine vc_ret ?_
    try simp only [k_rules]
    refine fin2_ ?_
    (repeat' apply And.intro) <;> (first | (first | rfl | exact Or.inl rfl | trivial | exact Nat.le_refl _ | (simp [rows_len, ancR_len]; done) | (rw [List.take_of_length_le (by simp [rows_len, ancR_len])]; done) | (rw [List.drop_zero, rows_take, List.take_of_length_le (by rw [ancR_len]; omega)]; done)) | exact cl_)
 ·cases hg

def E_reach3 : Env Tryd.prog := E_histFault.add 53 (Spec.pure reachRG) reach3_meets (by kernel_rfl)
end Go.Proofs.YtlbjffdaooadoaaDoor
