/- Walks, printed by wip/gen/walk.py. -/
import Derived.Test.YtlbjffdaooadoaaDoorT5
import Derived.Test.YtlbjffdaooadoaaDoorV5
set_option linter.all false
set_option maxRecDepth 100000
set_option maxHeartbeats 4000000
namespace Go.Proofs.YtlbjffdaooadoaaDoor
open Go Go.Vc Go.RowKit
theorem jn_meets : Meets Tryd.prog 45 (Spec.pure jnG) := by
 refine meets_fun (E_qeq.at_ 60) Tryd.func45 rfl rfl rfl ?_
 intro args p r hg hp
 unfold jnG at hg
 split at hg
 ·rename_i k xs ys
  simp only [Option.some.injEq, Prod.mk.injEq] at hg
  obtain ⟨rfl, rfl⟩ := hg
  obtain ⟨he, hl, he2, hl2, hsm⟩ := hp
  generalize dN xs = l at *
  generalize dN ys = r at *
  subst he he2
  have hj0 : jnK l r 0 = l := by simp [jnK]
  have hT : (E_qeq).X = T := rfl
  have hx0 := And.intro @rect_eN (And.intro @dN_rows (And.intro @dec_t (And.intro @dec_f @Tryd.results45)))
  have hx := hx0
  refine ⟨by rfl, ?_⟩
  intro F W0 hnp hmk
  refine vc_seq_k fun N1 h1 => ?_
  refine u_reg ?_
  try refine lg_mk ?_
  refine u_mv ?_
  refine lg_nil ?_
  refine h1 _ ?_; clear h1; try clear N1
  refine vc_seq_k fun N2 h2 => ?_
  refine u_reg ?_
  try refine lg_mk ?_
  refine u_mv ?_
  refine u_ap ?_
  refine u_mv ?_
  refine lg_nil ?_
  refine h2 _ ?_; clear h2; try clear N2
  refine vc_seq_k fun N3 h3 => ?_
  refine vc_seq_k fun N4 h4 => ?_
  refine u_reg ?_
  try refine lg_mk ?_
  refine u_mv ?_
  refine lg_nil ?_
  refine h4 _ ?_; clear h4; try clear N4
  refine vc_block ?_
  refine vc_loop_mk (σ := Nat) (fun s => (fun i => i ≤ r.length) s)
   (fun s => (fun i => [(0, .d (.int .i64 k)), (1, .d (.sl (rows eN l))), (2, .d (.sl (rows eN r))), (7, .sl 0 0 (l.length + i)), (8, .d (.int .i64 (i : Nat)))]) s)
   (fun s => (fun i => [some (.vec 39 4 (rows eN (jnK l r i)))]) s) (fun s => (fun i => r.length - i) s) hnp 0 ?_ [some 0] ?_ ?_
  ·dsimp only
   omega
  ·dsimp only
   refine ⟨by rfl, ?_, ?_⟩
   ·refine fin_ ?_
    (repeat' apply And.intro) <;> (first | (first | rfl | trivial | omega | (rw [hj0]; done)) | exact cl_)
   ·refine fin_ ?_
    (repeat' apply And.intro) <;> (first | (first | rfl | trivial | omega | (rw [hj0]; done)) | exact cl_)
  ·rintro i hinv N5 h5
   dsimp only at hinv ⊢
   have i1 := hinv
   refine vc_seq_k fun N6 h6 => ?_
   refine vc_seq_k fun N7 h7 => ?_
   refine u_reg ?_
   try refine lg_mk ?_
   refine u_mv ?_
   refine u_mv ?_
   refine u_ln ?_
   refine u_bn ?_
   refine lg_nil ?_
   refine h7 _ ?_; clear h7; try clear N7
   refine u_cond (fun hb8 => ?_) (fun hb8 => ?_)
   ·obtain ⟨x, hxe⟩ := getE (l := r) (i := i) (by have := hb8; omega)
    have hxs := hsm x (mem_at hxe)
    have hjl := jnK_len (l := l) (r := r) (i := i) (by omega)
    have hjs := jnK_snoc (l := l) hxe
    have hjt : (jnK l r i).take (l.length + i) = jnK l r i := List.take_of_length_le (by omega)
    obtain ⟨a, b, c, d⟩ := x
    dsimp only at hxs
    have hao := ar_or a
    refine vc_skip ?_
    try simp only [k_rules]
    refine h6 _ ?_; clear h6; try clear N6
    refine vc_seq_k fun N9 h9 => ?_
    refine vc_block ?_
    refine vc_seq_k fun N10 h10 => ?_
    have hx := And.intro @hxe (And.intro @eN.eq_1 hx0)
    refine u_reg ?_
    try refine lg_mk ?_
    refine u_mv ?_
    refine u_mv ?_
    refine u_pt ?_
    refine u_ld ?_
    refine u_al ?_
    refine u_st ?_
    refine lg_nil ?_
    have hx := hx0
    refine h10 _ ?_; clear h10; try clear N10
    refine vc_seq_k fun N11 h11 => ?_
    refine vc_seq_k fun N12 h12 => ?_
    refine u_reg ?_
    try refine lg_mk ?_
    refine u_pt ?_
    refine u_ld ?_
    have hc := call_rule (E := (E_qeq.at_ 60)) (f := 40) (sp := Spec.pure arG) rfl
    have hs := @arG.eq_1
    refine u_cp ?_
    refine u_bn ?_
    refine lg_nil ?_
    refine h12 _ ?_; clear h12; try clear N12
    refine u_cond (fun hb13 => ?_) (fun hb13 => ?_)
    ·have h1 : 1 ≤ ar a := by have := hb13; omega
     refine u_reg ?_
     try refine lg_mk ?_
     refine u_pt ?_
     refine u_ld ?_
     refine u_mv ?_
     refine u_ln ?_
     refine u_bn ?_
     refine u_pt ?_
     refine u_st ?_
     refine lg_nil ?_
     refine h11 _ ?_; clear h11; try clear N11
     refine vc_seq_k fun N14 h14 => ?_
     refine vc_seq_k fun N15 h15 => ?_
     refine u_reg ?_
     try refine lg_mk ?_
     refine u_pt ?_
     refine u_ld ?_
     have hc := call_rule (E := (E_qeq.at_ 60)) (f := 40) (sp := Spec.pure arG) rfl
     have hs := @arG.eq_1
     refine u_cp ?_
     refine u_bn ?_
     refine lg_nil ?_
     refine h15 _ ?_; clear h15; try clear N15
     refine u_cond (fun hb16 => ?_) (fun hb16 => ?_)
     ·have h2 : ar a = 2 := by have := hb16; (try simp at this); omega
      refine u_reg ?_
      try refine lg_mk ?_
      refine u_pt ?_
      refine u_ld ?_
      refine u_mv ?_
      refine u_ln ?_
      refine u_bn ?_
      refine u_pt ?_
      refine u_st ?_
      refine lg_nil ?_
      refine h14 _ ?_; clear h14; try clear N14
      refine u_reg ?_
      try refine lg_mk ?_
      refine u_mv ?_
      refine u_ld ?_
      refine u_bs ?_
      refine u_ap ?_
      refine u_mv ?_
      refine lg_nil ?_
      refine h9 _ ?_; clear h9; try clear N9
      refine u_reg ?_
      try refine lg_mk ?_
      refine u_mv ?_
      refine u_bn ?_
      refine u_mv ?_
      refine lg_nil ?_
      have hsh : shN l.length ⟨a, b, c, d⟩ = ⟨a, b, if 1 ≤ ar a then c + l.length else c, if ar a = 2 then d + l.length else d⟩ := rfl
      first | rw [if_pos h1, if_pos h2] at hsh | rw [if_pos h1, if_neg h2] at hsh | rw [if_neg h1, if_pos h2] at hsh | rw [if_neg h1, if_neg h2] at hsh
      refine h5 _ ⟨i + 1, ?_, ?_, [some 3], ?_⟩
      ·dsimp only
       omega
      ·dsimp only
       omega
      ·dsimp only
       refine ⟨by rfl, ?_, ?_⟩
       ·refine fin_ ?_
        (repeat' apply And.intro) <;> (first | (first | rfl | trivial | omega | (rw [hjs, hsh, ← eN_snoc, hjt]; done) | (rw [hjs, hsh, ← eN_snoc]; done) | exact Or.inl rfl) | exact cl_)
       ·refine fin_ ?_
        (repeat' apply And.intro) <;> (first | (first | rfl | trivial | omega | (rw [hjs, hsh, ← eN_snoc, hjt]; done) | (rw [hjs, hsh, ← eN_snoc]; done) | exact Or.inl rfl) | exact cl_)
     ·have h2 : ¬ ar a = 2 := by have := hb16; (try simp at this); omega
      refine vc_skip ?_
      try simp only [k_rules]
      refine h14 _ ?_; clear h14; try clear N14
      refine u_reg ?_
      try refine lg_mk ?_
      refine u_mv ?_
      refine u_ld ?_
      refine u_bs ?_
      refine u_ap ?_
      refine u_mv ?_
      refine lg_nil ?_
      refine h9 _ ?_; clear h9; try clear N9
      refine u_reg ?_
      try refine lg_mk ?_
      refine u_mv ?_
      refine u_bn ?_
      refine u_mv ?_
      refine lg_nil ?_
      have hsh : shN l.length ⟨a, b, c, d⟩ = ⟨a, b, if 1 ≤ ar a then c + l.length else c, if ar a = 2 then d + l.length else d⟩ := rfl
      first | rw [if_pos h1, if_pos h2] at hsh | rw [if_pos h1, if_neg h2] at hsh | rw [if_neg h1, if_pos h2] at hsh | rw [if_neg h1, if_neg h2] at hsh
      refine h5 _ ⟨i + 1, ?_, ?_, [some 3], ?_⟩
      ·dsimp only
       omega
      ·dsimp only
       omega
      ·dsimp only
       refine ⟨by rfl, ?_, ?_⟩
       ·refine fin_ ?_
        (repeat' apply And.intro) <;> (first | (first | rfl | trivial | omega | (rw [hjs, hsh, ← eN_snoc, hjt]; done) | (rw [hjs, hsh, ← eN_snoc]; done) | exact Or.inl rfl) | exact cl_)
       ·refine fin_ ?_
        (repeat' apply And.intro) <;> (first | (first | rfl | trivial | omega | (rw [hjs, hsh, ← eN_snoc, hjt]; done) | (rw [hjs, hsh, ← eN_snoc]; done) | exact Or.inl rfl) | exact cl_)
    ·have h1 : ¬ 1 ≤ ar a := by have := hb13; omega
     refine vc_skip ?_
     try simp only [k_rules]
     refine h11 _ ?_; clear h11; try clear N11
     refine vc_seq_k fun N17 h17 => ?_
     refine vc_seq_k fun N18 h18 => ?_
     refine u_reg ?_
     try refine lg_mk ?_
     refine u_pt ?_
     refine u_ld ?_
     have hc := call_rule (E := (E_qeq.at_ 60)) (f := 40) (sp := Spec.pure arG) rfl
     have hs := @arG.eq_1
     refine u_cp ?_
     refine u_bn ?_
     refine lg_nil ?_
     refine h18 _ ?_; clear h18; try clear N18
     refine u_cond (fun hb19 => ?_) (fun hb19 => ?_)
     ·have h2 : ar a = 2 := by have := hb19; (try simp at this); omega
      refine u_reg ?_
      try refine lg_mk ?_
      refine u_pt ?_
      refine u_ld ?_
      refine u_mv ?_
      refine u_ln ?_
      refine u_bn ?_
      refine u_pt ?_
      refine u_st ?_
      refine lg_nil ?_
      refine h17 _ ?_; clear h17; try clear N17
      refine u_reg ?_
      try refine lg_mk ?_
      refine u_mv ?_
      refine u_ld ?_
      refine u_bs ?_
      refine u_ap ?_
      refine u_mv ?_
      refine lg_nil ?_
      refine h9 _ ?_; clear h9; try clear N9
      refine u_reg ?_
      try refine lg_mk ?_
      refine u_mv ?_
      refine u_bn ?_
      refine u_mv ?_
      refine lg_nil ?_
      have hsh : shN l.length ⟨a, b, c, d⟩ = ⟨a, b, if 1 ≤ ar a then c + l.length else c, if ar a = 2 then d + l.length else d⟩ := rfl
      first | rw [if_pos h1, if_pos h2] at hsh | rw [if_pos h1, if_neg h2] at hsh | rw [if_neg h1, if_pos h2] at hsh | rw [if_neg h1, if_neg h2] at hsh
      refine h5 _ ⟨i + 1, ?_, ?_, [some 3], ?_⟩
      ·dsimp only
       omega
      ·dsimp only
       omega
      ·dsimp only
       refine ⟨by rfl, ?_, ?_⟩
       ·refine fin_ ?_
        (repeat' apply And.intro) <;> (first | (first | rfl | trivial | omega | (rw [hjs, hsh, ← eN_snoc, hjt]; done) | (rw [hjs, hsh, ← eN_snoc]; done) | exact Or.inl rfl) | exact cl_)
       ·refine fin_ ?_
        (repeat' apply And.intro) <;> (first | (first | rfl | trivial | omega | (rw [hjs, hsh, ← eN_snoc, hjt]; done) | (rw [hjs, hsh, ← eN_snoc]; done) | exact Or.inl rfl) | exact cl_)
     ·have h2 : ¬ ar a = 2 := by have := hb19; (try simp at this); omega
      refine vc_skip ?_
      try simp only [k_rules]
      refine h17 _ ?_; clear h17; try clear N17
      refine u_reg ?_
      try refine lg_mk ?_
      refine u_mv ?_
      refine u_ld ?_
      refine u_bs ?_
      refine u_ap ?_
      refine u_mv ?_
      refine lg_nil ?_
      refine h9 _ ?_; clear h9; try clear N9
      refine u_reg ?_
      try refine lg_mk ?_
      refine u_mv ?_
      refine u_bn ?_
      refine u_mv ?_
      refine lg_nil ?_
      have hsh : shN l.length ⟨a, b, c, d⟩ = ⟨a, b, if 1 ≤ ar a then c + l.length else c, if ar a = 2 then d + l.length else d⟩ := rfl
      first | rw [if_pos h1, if_pos h2] at hsh | rw [if_pos h1, if_neg h2] at hsh | rw [if_neg h1, if_pos h2] at hsh | rw [if_neg h1, if_neg h2] at hsh
      refine h5 _ ⟨i + 1, ?_, ?_, [some 3], ?_⟩
      ·dsimp only
       omega
      ·dsimp only
       omega
      ·dsimp only
       refine ⟨by rfl, ?_, ?_⟩
       ·refine fin_ ?_
        (repeat' apply And.intro) <;> (first | (first | rfl | trivial | omega | (rw [hjs, hsh, ← eN_snoc, hjt]; done) | (rw [hjs, hsh, ← eN_snoc]; done) | exact Or.inl rfl) | exact cl_)
       ·refine fin_ ?_
        (repeat' apply And.intro) <;> (first | (first | rfl | trivial | omega | (rw [hjs, hsh, ← eN_snoc, hjt]; done) | (rw [hjs, hsh, ← eN_snoc]; done) | exact Or.inl rfl) | exact cl_)
   ·obtain rfl : i = r.length := by have := hb8; omega
    have hjl := jnK_len (l := l) (r := r) (Nat.le_refl _)
    have hjt : (jnK l r r.length).take (l.length + r.length) = jnK l r r.length := List.take_of_length_le (by omega)
    refine vc_exit ?_
    simp only [k_rules, Nat.reduceEqDiff, reduceIte, eq_self]
    refine h3 _ ?_; clear h3; try clear N3
    refine vc_seq_k fun N20 h20 => ?_
    refine u_reg ?_
    try refine lg_mk ?_
    refine u_mv ?_
    refine u_mv ?_
    refine u_mv ?_
    refine u_ln ?_
    refine u_bn ?_
    refine u_mv ?_
    refine u_ln ?_
    refine u_mv ?_
    refine u_ln ?_
    refine u_bn ?_
    refine u_bn ?_
    refine u_bd ?_
    refine u_bs ?_
    refine u_ap ?_
    refine u_mv ?_
    refine lg_nil ?_
    refine h20 _ ?_; clear h20; try clear N20
    refine vc_ret ?_
    try simp only [k_rules]
    have hq : jnQ k l r = jnK l r r.length ++ [⟨k, 0, (l.length : Int) - 1, (l.length : Int) + r.length - 1⟩] := rfl
    rw [hq, ← eN_snoc]
    refine fin2_ ?_
    (repeat' apply And.intro) <;> (first | (first | rfl | trivial | omega | (rw [hjt, List.length_append, rows_len, hjl]; simp; done) | (rw [hjt, List.take_of_length_le (by rw [List.length_append, rows_len, hjl]; exact Nat.le_refl _)]; done) | (left; rw [hjt, List.take_of_length_le (by rw [List.length_append, rows_len, hjl]; exact Nat.le_refl _)]; done)) | exact cl_)
 ·cases hg

def E_jn : Env Tryd.prog := E_qeq.add 45 (Spec.pure jnG) jn_meets (by kernel_rfl)
end Go.Proofs.YtlbjffdaooadoaaDoor
