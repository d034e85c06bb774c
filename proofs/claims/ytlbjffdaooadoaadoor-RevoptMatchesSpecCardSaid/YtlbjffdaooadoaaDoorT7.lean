/- Walks, printed by wip/gen/walk.py. -/
import Derived.Test.YtlbjffdaooadoaaDoorT6
import Derived.Test.YtlbjffdaooadoaaDoorV5
set_option linter.all false
set_option maxRecDepth 100000
set_option maxHeartbeats 4000000
namespace Go.Proofs.YtlbjffdaooadoaaDoor
open Go Go.Vc Go.RowKit
theorem join_meets : Meets Tryd.prog 21 (Spec.pure joinG) := by
 refine meets_fun (E_jn.at_ 14) Tryd.func21 rfl rfl rfl ?_
 intro args p r hg hp
 unfold joinG at hg
 split at hg
 ·rename_i k xs ys
  simp only [Option.some.injEq, Prod.mk.injEq] at hg
  obtain ⟨rfl, rfl⟩ := hg
  obtain ⟨he, hl, he2, hl2, hsm⟩ := hp
  generalize dN xs = q at *
  generalize dN ys = p at *
  subst he he2
  have hT : (E_jn).X = T := rfl
  have hx0 := And.intro @rect_eN (And.intro @dN_rows (And.intro @dec_t (And.intro @dec_f @Tryd.results21)))
  have hx := hx0
  refine ⟨by rfl, ?_⟩
  intro F W0 hnp hmk
  refine vc_seq_k fun N1 h1 => ?_
  refine u_reg ?_
  try refine lg_mk ?_
  refine u_bx ?_
  refine u_bx ?_
  refine u_al ?_
  refine lg_nil ?_
  refine h1 _ ?_; clear h1; try clear N1
  refine vc_seq_k fun N2 h2 => ?_
  refine u_reg ?_
  try refine lg_mk ?_
  refine u_mv ?_
  refine u_pt ?_
  refine u_ld ?_
  refine u_pt ?_
  refine u_ld ?_
  have hc := call_rule (E := (E_jn.at_ 14)) (f := 45) (sp := Spec.pure jnG) rfl
  have hs := @jnG.eq_1
  refine u_hp (hq := by (first | ((repeat' apply And.intro) <;> first | rfl | omega | exact hsm) | exact sd_)) ?_
  refine u_bd ?_
  refine u_st ?_
  refine lg_nil ?_
  refine h2 _ ?_; clear h2; try clear N2
  refine vc_ret ?_
  try simp only [k_rules]
  refine fin2_ ?_
  exact cl_
 ·cases hg

def E_join : Env Tryd.prog := E_jn.add 21 (Spec.pure joinG) join_meets (by kernel_rfl)

theorem wrap_meets : Meets Tryd.prog 34 (Spec.pure wrG) := by
 refine meets_fun (E_join.at_ 17) Tryd.func34 rfl rfl rfl ?_
 intro args p r hg hp
 unfold wrG at hg
 split at hg
 ·rename_i k xs
  simp only [Option.some.injEq, Prod.mk.injEq] at hg
  obtain ⟨rfl, rfl⟩ := hg
  obtain ⟨he, hl⟩ := hp
  generalize dN xs = q at *
  subst he
  have hw : wrQ k q = q ++ [⟨k, 0, (q.length : Int) - 1, 0⟩] := rfl
  rw [hw, ← eN_snoc]
  have hqt : List.take q.length q = q := List.take_length
  have hT : (E_join).X = T := rfl
  have hx0 := And.intro @rect_eN (And.intro @dN_rows (And.intro @dec_t (And.intro @dec_f @Tryd.results34)))
  have hx := hx0
  refine ⟨by rfl, ?_⟩
  intro F W0 hnp hmk
  refine vc_seq_k fun N1 h1 => ?_
  refine u_reg ?_
  try refine lg_mk ?_
  refine u_bx ?_
  refine u_al ?_
  refine lg_nil ?_
  refine h1 _ ?_; clear h1; try clear N1
  refine vc_seq_k fun N2 h2 => ?_
  refine vc_regT [] (.seq [0, 1, 3] (.alt 2 (.seq [4, 5, 6, 7, 8, 9, 10, 11, 12] .nil) (.alt 4 (.alt 2 (.seq [5, 6, 7, 8, 9, 10, 11, 12] .nil) (.alt 5 (.alt 2 (.seq [6, 7, 8, 9, 10, 11, 12] .nil) (.alt 6 (.seq [7] (.alt 2 (.seq [8, 9, 10, 11, 12] .nil) (.alt 8 (.alt 2 (.seq [9, 10, 11, 12] .nil) (.alt 9 (.seq [2, 10, 11, 12] .nil) .nil)) .nil))) .nil)) .nil)) .nil))) hmix (by kernel_rfl) ?_
  refine at_seq ?_
  simp only [pick_rules, list_rules]
  try refine lg_mk ?_
  refine u_pt ?_
  refine u_ld ?_
  refine u_mv ?_
  refine lg_nil ?_
  refine at_alt ?_ ?_
  ·simp only [pick_rules, list_rules]
   try refine lg_mk ?_
   refine u_ap ?_
   refine lg_nil ?_
   refine at_seq ?_
   simp only [pick_rules, list_rules]
   try refine lg_mk ?_
   refine u_pt ?_
   refine u_ld ?_
   refine u_ln ?_
   refine u_bn ?_
   refine u_bd ?_
   refine u_bs ?_
   refine u_ap ?_
   refine u_bd ?_
   refine u_st ?_
   refine lg_nil ?_
   refine at_nil ?_
   refine h2 _ ?_; clear h2; try clear N2
   refine vc_ret ?_
   try simp only [k_rules]
   refine fin2_ ?_
   (repeat' apply And.intro) <;> (first | (first | rfl | trivial | omega | (rw [hqt, List.length_append, rows_len, List.length_singleton]; omega) | (rw [hqt, List.take_of_length_le (by rw [List.length_append, rows_len]; exact Nat.le_refl _)]; done) | (left; rw [hqt, List.take_of_length_le (by rw [List.length_append, rows_len]; exact Nat.le_refl _)]; done)) | exact cl_)
  refine at_alt ?_ ?_
  ·simp only [pick_rules, list_rules]
   try refine lg_mk ?_
   refine u_pt ?_
   refine lg_nil ?_
   refine at_alt ?_ ?_
   ·simp only [pick_rules, list_rules]
    try refine lg_mk ?_
    refine u_ap ?_
    refine lg_nil ?_
    refine at_seq ?_
    simp only [pick_rules, list_rules]
    try refine lg_mk ?_
    refine u_ld ?_
    refine u_ln ?_
    refine u_bn ?_
    refine u_bd ?_
    refine u_bs ?_
    refine u_ap ?_
    refine u_bd ?_
    refine u_st ?_
    refine lg_nil ?_
    refine at_nil ?_
    refine h2 _ ?_; clear h2; try clear N2
    refine vc_ret ?_
    try simp only [k_rules]
    refine fin2_ ?_
    (repeat' apply And.intro) <;> (first | (first | rfl | trivial | omega | (rw [hqt, List.length_append, rows_len, List.length_singleton]; omega) | (rw [hqt, List.take_of_length_le (by rw [List.length_append, rows_len]; exact Nat.le_refl _)]; done) | (left; rw [hqt, List.take_of_length_le (by rw [List.length_append, rows_len]; exact Nat.le_refl _)]; done)) | exact cl_)
   refine at_alt ?_ ?_
   ·simp only [pick_rules, list_rules]
    try refine lg_mk ?_
    refine u_ld ?_
    refine lg_nil ?_
    refine at_alt ?_ ?_
    ·simp only [pick_rules, list_rules]
     try refine lg_mk ?_
     refine u_ap ?_
     refine lg_nil ?_
     refine at_seq ?_
     simp only [pick_rules, list_rules]
     try refine lg_mk ?_
     refine u_ln ?_
     refine u_bn ?_
     refine u_bd ?_
     refine u_bs ?_
     refine u_ap ?_
     refine u_bd ?_
     refine u_st ?_
     refine lg_nil ?_
     refine at_nil ?_
     refine h2 _ ?_; clear h2; try clear N2
     refine vc_ret ?_
     try simp only [k_rules]
     refine fin2_ ?_
     (repeat' apply And.intro) <;> (first | (first | rfl | trivial | omega | (rw [hqt, List.length_append, rows_len, List.length_singleton]; omega) | (rw [hqt, List.take_of_length_le (by rw [List.length_append, rows_len]; exact Nat.le_refl _)]; done) | (left; rw [hqt, List.take_of_length_le (by rw [List.length_append, rows_len]; exact Nat.le_refl _)]; done)) | exact cl_)
    refine at_alt ?_ ?_
    ·simp only [pick_rules, list_rules]
     try refine lg_mk ?_
     refine u_ln ?_
     refine lg_nil ?_
     refine at_seq ?_
     simp only [pick_rules, list_rules]
     try refine lg_mk ?_
     refine u_bn ?_
     refine lg_nil ?_
     refine at_alt ?_ ?_
     ·simp only [pick_rules, list_rules]
      try refine lg_mk ?_
      refine u_ap ?_
      refine lg_nil ?_
      refine at_seq ?_
      simp only [pick_rules, list_rules]
      try refine lg_mk ?_
      refine u_bd ?_
      refine u_bs ?_
      refine u_ap ?_
      refine u_bd ?_
      refine u_st ?_
      refine lg_nil ?_
      refine at_nil ?_
      refine h2 _ ?_; clear h2; try clear N2
      refine vc_ret ?_
      try simp only [k_rules]
      refine fin2_ ?_
      (repeat' apply And.intro) <;> (first | (first | rfl | trivial | omega | (rw [hqt, List.length_append, rows_len, List.length_singleton]; omega) | (rw [hqt, List.take_of_length_le (by rw [List.length_append, rows_len]; exact Nat.le_refl _)]; done) | (left; rw [hqt, List.take_of_length_le (by rw [List.length_append, rows_len]; exact Nat.le_refl _)]; done)) | exact cl_)
     refine at_alt ?_ ?_
     ·simp only [pick_rules, list_rules]
      try refine lg_mk ?_
      refine u_bd ?_
      refine lg_nil ?_
      refine at_alt ?_ ?_
      ·simp only [pick_rules, list_rules]
       try refine lg_mk ?_
       refine u_ap ?_
       refine lg_nil ?_
       refine at_seq ?_
       simp only [pick_rules, list_rules]
       try refine lg_mk ?_
       refine u_bs ?_
       refine u_ap ?_
       refine u_bd ?_
       refine u_st ?_
       refine lg_nil ?_
       refine at_nil ?_
       refine h2 _ ?_; clear h2; try clear N2
       refine vc_ret ?_
       try simp only [k_rules]
       refine fin2_ ?_
       (repeat' apply And.intro) <;> (first | (first | rfl | trivial | omega | (rw [hqt, List.length_append, rows_len, List.length_singleton]; omega) | (rw [hqt, List.take_of_length_le (by rw [List.length_append, rows_len]; exact Nat.le_refl _)]; done) | (left; rw [hqt, List.take_of_length_le (by rw [List.length_append, rows_len]; exact Nat.le_refl _)]; done)) | exact cl_)
      refine at_alt ?_ ?_
      ·simp only [pick_rules, list_rules]
       try refine lg_mk ?_
       refine u_bs ?_
       refine lg_nil ?_
       refine at_seq ?_
       simp only [pick_rules, list_rules]
       try refine lg_mk ?_
       refine u_ap ?_
       refine u_ap ?_
       refine u_bd ?_
       refine u_st ?_
       refine lg_nil ?_
       refine at_nil ?_
       refine h2 _ ?_; clear h2; try clear N2
       refine vc_ret ?_
       try simp only [k_rules]
       refine fin2_ ?_
       (repeat' apply And.intro) <;> (first | (first | rfl | trivial | omega | (rw [hqt, List.length_append, rows_len, List.length_singleton]; omega) | (rw [hqt, List.take_of_length_le (by rw [List.length_append, rows_len]; exact Nat.le_refl _)]; done) | (left; rw [hqt, List.take_of_length_le (by rw [List.length_append, rows_len]; exact Nat.le_refl _)]; done)) | exact cl_)
      exact at_end
     exact at_end
    exact at_end
   exact at_end
  exact at_end
 ·cases hg

def E_wrap : Env Tryd.prog := E_join.add 34 (Spec.pure wrG) wrap_meets (by kernel_rfl)
end Go.Proofs.YtlbjffdaooadoaaDoor
