/- Walks, printed by wip/gen/walk.py. -/
import Derived.Test.YtlbjffdaooadoaaDoorT38
import Derived.Test.YtlbjffdaooadoaaDoorV5
set_option linter.all false
set_option maxRecDepth 100000
set_option maxHeartbeats 4000000
namespace Go.Proofs.YtlbjffdaooadoaaDoor
open Go Go.Vc Go.RowKit
def lawDG : List AV → Option (Prop × AV)
  | [.d (.sl xs), .agg [.d (.sl ys)], .agg [.d (.sl zs)]] => some (xs = rows eC (dC xs) ∧ (dC xs).length ≤ 9223372036854775807 ∧ smallC (dC xs) ∧ ys = rows eN (dN ys) ∧ (dN ys).length ≤ 9223372036854775807 ∧ zs = rows eN (dN zs) ∧ (dN zs).length ≤ 9223372036854775807, .d (.bool true))
  | _ => none

theorem dm_cases (l : List Cm) (a b : List Nd) : (histF l).1 ≠ 0 ∨ ((histF l).1 = 0 ∧ (refQ a).1 ≠ 0) ∨ ((histF l).1 = 0 ∧ (refQ a).1 = 0 ∧ (refQ b).1 ≠ 0) ∨ ((histF l).1 = 0 ∧ (refQ a).1 = 0 ∧ (refQ b).1 = 0) := by
  by_cases h1 : (histF l).1 = 0 <;> by_cases h2 : (refQ a).1 = 0 <;> by_cases h3 : (refQ b).1 = 0 <;> simp [h1, h2, h3]
theorem dm_all {l : List Cm} {a b : List Nd} (hl : histF l = (0, 0)) (ha : valQ a = (0, 0)) (hb : valQ b = (0, 0)) (h : a.length + b.length + 3 ≤ 40) : ∃ X, X.length = l.length ∧ evV l (wrQ 7 (jnQ 14 a b)) = (0, 0, X) ∧ evV l (jnQ 15 (wrQ 7 a) (wrQ 7 b)) = (0, 0, X) ∧ evV l (jnQ 16 (wrQ 7 a) b) = (0, 0, X) ∧ smQ b ∧ smQ (wrQ 7 b) := by
  have h1 := (ok_of_val ha).1.1
  have h2 := (ok_of_val hb).1.1
  have l1 : ∀ q, (wrQ 7 q).length = q.length + 1 := fun q => by simp [wrQ]
  have v1 := val_jn (k := 14) ha hb (by omega) (by omega)
  have v2 := val_wr (k := 7) v1 (by omega) (by rw [jn_len]; omega)
  have v3 := val_wr (k := 7) ha (by omega) (by omega)
  have v4 := val_wr (k := 7) hb (by omega) (by omega)
  have v5 := val_jn (k := 15) v3 v4 (by omega) (by rw [l1, l1]; omega)
  have v6 := val_jn (k := 16) v3 hb (by omega) (by rw [l1]; omega)
  have e1 : rtV l (wrQ 7 (jnQ 14 a b)) = oneV l 7 (twoK l.length 14 (rtV l a) (rtV l b) l.length) := by rw [rtV_wr (by omega) (by rw [jn_len]; omega), rtV_jn ha hb (by omega)]
  refine ⟨rtV l (wrQ 7 (jnQ 14 a b)), rtV_len v2, ev_val hl v2, ?_, ?_, sm_of hb, sm_of v4⟩
  · rw [ev_val hl v5, rtV_jn v3 v4 (by omega), rtV_wr (by omega) h1, rtV_wr (by omega) h2, e1, deMorgan1]
  · rw [ev_val hl v6, rtV_jn v3 hb (by omega), rtV_wr (by omega) h1, e1, deMorgan2]

theorem lawD_meets : Meets Tryd.prog 11 (Spec.pure lawDG) := by
 refine meets_fun (E_seld.at_ 87) Tryd.func11 rfl rfl rfl ?_
 intro args p r hg hp
 unfold lawDG at hg
 split at hg
 ·rename_i xs ys zs
  simp only [Option.some.injEq, Prod.mk.injEq] at hg
  obtain ⟨rfl, rfl⟩ := hg
  obtain ⟨he, hl, hsm, he2, hl2, he3, hl3⟩ := hp
  generalize dC xs = l at *
  generalize dN ys = a at *
  generalize dN zs = b at *
  subst he he2 he3
  have hT : (E_seld).X = T := rfl
  have hx0 := And.intro @rect_eC (And.intro @rect_eN (And.intro @dC_rows (And.intro @dN_rows (And.intro @dB_rows (And.intro @wr_len (And.intro @jnQ_len (And.intro @dec_t (And.intro @dec_f @Tryd.results11))))))))
  have hx := hx0
  refine ⟨by rfl, ?_⟩
  intro F W0 hnp hmk
  refine vc_seq_k fun N1 h1 => ?_
  refine u_reg ?_
  try refine lg_mk ?_
  refine u_bx ?_
  refine u_bx ?_
  refine u_mv ?_
  refine lg_nil ?_
  refine h1 _ ?_; clear h1; try clear N1
  refine vc_seq_k fun N2 h2 => ?_
  refine vc_seq_k fun N3 h3 => ?_
  refine u_reg ?_
  try refine lg_mk ?_
  have hc := call_rule (E := (E_seld.at_ 87)) (f := 22) (sp := Spec.pure exG) rfl
  have hs := @exG.eq_1
  refine u_cp ?_
  refine u_un ?_
  refine lg_nil ?_
  refine h3 _ ?_; clear h3; try clear N3
  refine u_cond (fun hb4 => ?_) (fun hb4 => ?_)
  ·first | omega | exact absurd trivial hb4 | contradiction | (simp_all; done)
  ·refine vc_skip ?_
   try simp only [k_rules]
   refine h2 _ ?_; clear h2; try clear N2
   refine vc_seq_k fun N5 h5 => ?_
   refine vc_seq_k fun N6 h6 => ?_
   rcases dm_cases l a b with g1 | ⟨g1, g2⟩ | ⟨g1, g2, g3⟩ | ⟨g1, g2, g3⟩
   ·have c1 : ((histF l).1 = 0) = False := eq_false (by first | assumption | (simpa using g1))
    have c2 := True.intro
    have c3 := True.intro
    have hx := And.intro @c1 (And.intro @c2 (And.intro @c3 hx0))
    refine u_reg ?_
    try refine lg_mk ?_
    refine u_mv ?_
    have hc := call_rule (E := (E_seld.at_ 87)) (f := 25) (sp := Spec.pure histG) rfl
    have hs := @histG.eq_1
    refine u_cp ?_
    refine u_pt ?_
    refine u_bn ?_
    refine u_mv ?_
    refine g_ld ?_
    have hc := call_rule (E := (E_seld.at_ 87)) (f := 17) (sp := Spec.pure refQG) rfl
    have hs := @refQG.eq_1
    refine g_cp ?_
    refine g_pt ?_
    refine g_bn ?_
    refine u_pk ?_
    refine u_mv ?_
    refine g_ld ?_
    have hc := call_rule (E := (E_seld.at_ 87)) (f := 17) (sp := Spec.pure refQG) rfl
    have hs := @refQG.eq_1
    refine g_cp ?_
    refine g_pt ?_
    refine g_bn ?_
    refine u_pk ?_
    refine u_mv ?_
    refine g_pt ?_
    refine g_ld ?_
    refine g_ln ?_
    refine g_pt ?_
    refine g_ld ?_
    refine g_ln ?_
    refine g_bn ?_
    refine g_bn ?_
    refine g_bn ?_
    refine u_pk ?_
    refine lg_nil ?_
    have hx := hx0
    refine h6 _ ?_; clear h6; try clear N6
    refine u_cond (fun hb7 => ?_) (fun hb7 => ?_)
    ·refine vc_seq_k fun N8 h8 => ?_
     refine u_reg ?_
     try refine lg_mk ?_
     refine u_mv ?_
     refine lg_nil ?_
     refine h8 _ ?_; clear h8; try clear N8
     refine vc_ret ?_
     try simp only [k_rules]
     refine fin2_ ?_
     (repeat' apply And.intro) <;> (first | (first | rfl | trivial | (simp; done)) | exact cl_)
    ·first | omega | exact absurd trivial hb7 | contradiction | (simp_all; done)
   ·have c1 : ((histF l).1 = 0) = True := eq_true (by first | assumption | (simpa using g1))
    have c2 : ((refQ a).1 = 0) = False := eq_false (by first | assumption | (simpa using g2))
    have c3 := True.intro
    have hx := And.intro @c1 (And.intro @c2 (And.intro @c3 hx0))
    refine u_reg ?_
    try refine lg_mk ?_
    refine u_mv ?_
    have hc := call_rule (E := (E_seld.at_ 87)) (f := 25) (sp := Spec.pure histG) rfl
    have hs := @histG.eq_1
    refine u_cp ?_
    refine u_pt ?_
    refine u_bn ?_
    refine u_mv ?_
    refine g_ld ?_
    have hc := call_rule (E := (E_seld.at_ 87)) (f := 17) (sp := Spec.pure refQG) rfl
    have hs := @refQG.eq_1
    refine g_cp ?_
    refine g_pt ?_
    refine g_bn ?_
    refine u_pk ?_
    refine u_mv ?_
    refine g_ld ?_
    have hc := call_rule (E := (E_seld.at_ 87)) (f := 17) (sp := Spec.pure refQG) rfl
    have hs := @refQG.eq_1
    refine g_cp ?_
    refine g_pt ?_
    refine g_bn ?_
    refine u_pk ?_
    refine u_mv ?_
    refine g_pt ?_
    refine g_ld ?_
    refine g_ln ?_
    refine g_pt ?_
    refine g_ld ?_
    refine g_ln ?_
    refine g_bn ?_
    refine g_bn ?_
    refine g_bn ?_
    refine u_pk ?_
    refine lg_nil ?_
    have hx := hx0
    refine h6 _ ?_; clear h6; try clear N6
    refine u_cond (fun hb9 => ?_) (fun hb9 => ?_)
    ·refine vc_seq_k fun N10 h10 => ?_
     refine u_reg ?_
     try refine lg_mk ?_
     refine u_mv ?_
     refine lg_nil ?_
     refine h10 _ ?_; clear h10; try clear N10
     refine vc_ret ?_
     try simp only [k_rules]
     refine fin2_ ?_
     (repeat' apply And.intro) <;> (first | (first | rfl | trivial | (simp; done)) | exact cl_)
    ·first | omega | exact absurd trivial hb9 | contradiction | (simp_all; done)
   ·have c1 : ((histF l).1 = 0) = True := eq_true (by first | assumption | (simpa using g1))
    have c2 : ((refQ a).1 = 0) = True := eq_true (by first | assumption | (simpa using g2))
    have c3 : ((refQ b).1 = 0) = False := eq_false (by first | assumption | (simpa using g3))
    have hx := And.intro @c1 (And.intro @c2 (And.intro @c3 hx0))
    refine u_reg ?_
    try refine lg_mk ?_
    refine u_mv ?_
    have hc := call_rule (E := (E_seld.at_ 87)) (f := 25) (sp := Spec.pure histG) rfl
    have hs := @histG.eq_1
    refine u_cp ?_
    refine u_pt ?_
    refine u_bn ?_
    refine u_mv ?_
    refine g_ld ?_
    have hc := call_rule (E := (E_seld.at_ 87)) (f := 17) (sp := Spec.pure refQG) rfl
    have hs := @refQG.eq_1
    refine g_cp ?_
    refine g_pt ?_
    refine g_bn ?_
    refine u_pk ?_
    refine u_mv ?_
    refine g_ld ?_
    have hc := call_rule (E := (E_seld.at_ 87)) (f := 17) (sp := Spec.pure refQG) rfl
    have hs := @refQG.eq_1
    refine g_cp ?_
    refine g_pt ?_
    refine g_bn ?_
    refine u_pk ?_
    refine u_mv ?_
    refine g_pt ?_
    refine g_ld ?_
    refine g_ln ?_
    refine g_pt ?_
    refine g_ld ?_
    refine g_ln ?_
    refine g_bn ?_
    refine g_bn ?_
    refine g_bn ?_
    refine u_pk ?_
    refine lg_nil ?_
    have hx := hx0
    refine h6 _ ?_; clear h6; try clear N6
    refine u_cond (fun hb11 => ?_) (fun hb11 => ?_)
    ·refine vc_seq_k fun N12 h12 => ?_
     refine u_reg ?_
     try refine lg_mk ?_
     refine u_mv ?_
     refine lg_nil ?_
     refine h12 _ ?_; clear h12; try clear N12
     refine vc_ret ?_
     try simp only [k_rules]
     refine fin2_ ?_
     (repeat' apply And.intro) <;> (first | (first | rfl | trivial | (simp; done)) | exact cl_)
    ·first | omega | exact absurd trivial hb11 | contradiction | (simp_all; done)
   ·have c1 : ((histF l).1 = 0) = True := eq_true (by first | assumption | (simpa using g1))
    have c2 : ((refQ a).1 = 0) = True := eq_true (by first | assumption | (simpa using g2))
    have c3 : ((refQ b).1 = 0) = True := eq_true (by first | assumption | (simpa using g3))
    have hla := (ok_of_val (val_of_ref g2)).1.2.1
    have hlb := (ok_of_val (val_of_ref g3)).1.2.1
    have hx := And.intro @c1 (And.intro @c2 (And.intro @c3 hx0))
    refine u_reg ?_
    try refine lg_mk ?_
    refine u_mv ?_
    have hc := call_rule (E := (E_seld.at_ 87)) (f := 25) (sp := Spec.pure histG) rfl
    have hs := @histG.eq_1
    refine u_cp ?_
    refine u_pt ?_
    refine u_bn ?_
    refine u_mv ?_
    refine g_ld ?_
    have hc := call_rule (E := (E_seld.at_ 87)) (f := 17) (sp := Spec.pure refQG) rfl
    have hs := @refQG.eq_1
    refine g_cp ?_
    refine g_pt ?_
    refine g_bn ?_
    refine u_pk ?_
    refine u_mv ?_
    refine g_ld ?_
    have hc := call_rule (E := (E_seld.at_ 87)) (f := 17) (sp := Spec.pure refQG) rfl
    have hs := @refQG.eq_1
    refine g_cp ?_
    refine g_pt ?_
    refine g_bn ?_
    refine u_pk ?_
    refine u_mv ?_
    refine g_pt ?_
    refine g_ld ?_
    refine g_ln ?_
    refine g_pt ?_
    refine g_ld ?_
    refine g_ln ?_
    refine g_bn ?_
    refine g_bn ?_
    refine g_bn ?_
    refine u_pk ?_
    refine lg_nil ?_
    have hx := hx0
    refine h6 _ ?_; clear h6; try clear N6
    refine u_cond (fun hb13 => ?_) (fun hb13 => ?_)
    ·refine vc_seq_k fun N14 h14 => ?_
     refine u_reg ?_
     try refine lg_mk ?_
     refine u_mv ?_
     refine lg_nil ?_
     refine h14 _ ?_; clear h14; try clear N14
     refine vc_ret ?_
     try simp only [k_rules]
     refine fin2_ ?_
     (repeat' apply And.intro) <;> (first | (first | rfl | trivial | (simp; done)) | exact cl_)
    ·have hle : a.length + b.length + 3 ≤ 40 := by have := hb13; (try simp at this); omega
     obtain ⟨X, hXl, hX, hY, hZ, hs1, hs2⟩ := dm_all (hist_of g1) (val_of_ref g2) (val_of_ref g3) hle
     have hl60 := (valid_of g1).len
     refine vc_skip ?_
     try simp only [k_rules]
     refine h5 _ ?_; clear h5; try clear N5
     refine vc_seq_k fun N15 h15 => ?_
     have hx := And.intro @hX (And.intro @hXl hx0)
     refine u_reg ?_
     try refine lg_mk ?_
     refine u_mv ?_
     refine u_ld ?_
     refine u_ld ?_
     have hc := call_rule (E := (E_seld.at_ 87)) (f := 21) (sp := Spec.pure joinG) rfl
     have hs := @joinG.eq_1
     refine u_hp ?_
     have hc := call_rule (E := (E_seld.at_ 87)) (f := 34) (sp := Spec.pure wrG) rfl
     have hs := @wrG.eq_1
     refine u_hp ?_
     have hc := call_rule (E := (E_seld.at_ 87)) (f := 33) (sp := Spec.pure seldG) rfl
     have hs := @seldG.eq_1
     refine u_hp ?_
     refine u_mv ?_
     refine u_ex ?_
     refine u_ex ?_
     refine u_mv ?_
     refine u_mv ?_
     refine lg_nil ?_
     have hx := hx0
     refine h15 _ ?_; clear h15; try clear N15
     refine vc_seq_k fun N16 h16 => ?_
     have hx := And.intro @hY (And.intro @hXl hx0)
     refine vc_regT [] (.seq [0, 1] (.alt 2 (.seq [3, 4, 5, 6, 7, 8, 9, 10, 11] .nil) (.alt 3 (.seq [2, 4, 5, 6, 7, 8, 9, 10, 11] .nil) .nil))) hmix (by kernel_rfl) ?_
     refine at_seq ?_
     simp only [pick_rules, list_rules]
     try refine lg_mk ?_
     refine u_mv ?_
     refine u_ld ?_
     refine lg_nil ?_
     refine at_alt ?_ ?_
     ·simp only [pick_rules, list_rules]
      try refine lg_mk ?_
      have hc := call_rule (E := (E_seld.at_ 87)) (f := 34) (sp := Spec.pure wrG) rfl
      have hs := @wrG.eq_1
      refine u_hp ?_
      refine lg_nil ?_
      refine at_seq ?_
      simp only [pick_rules, list_rules]
      try refine lg_mk ?_
      refine u_ld ?_
      have hc := call_rule (E := (E_seld.at_ 87)) (f := 34) (sp := Spec.pure wrG) rfl
      have hs := @wrG.eq_1
      refine u_hp ?_
      have hc := call_rule (E := (E_seld.at_ 87)) (f := 21) (sp := Spec.pure joinG) rfl
      have hs := @joinG.eq_1
      refine u_hp ?_
      have hc := call_rule (E := (E_seld.at_ 87)) (f := 33) (sp := Spec.pure seldG) rfl
      have hs := @seldG.eq_1
      refine u_hp ?_
      refine u_mv ?_
      refine u_ex ?_
      refine u_ex ?_
      refine u_mv ?_
      refine u_mv ?_
      refine lg_nil ?_
      refine at_nil ?_
      have hx := hx0
      refine h16 _ ?_; clear h16; try clear N16
      refine vc_seq_k fun N17 h17 => ?_
      have hx := And.intro @hZ (And.intro @hXl hx0)
      refine vc_regT [] (.seq [0, 1] (.alt 2 (.seq [3, 4, 5, 6, 7, 8, 9, 10] .nil) (.alt 3 (.seq [2, 4, 5, 6, 7, 8, 9, 10] .nil) .nil))) hmix (by kernel_rfl) ?_
      refine at_seq ?_
      simp only [pick_rules, list_rules]
      try refine lg_mk ?_
      refine u_mv ?_
      refine u_ld ?_
      refine lg_nil ?_
      refine at_alt ?_ ?_
      ·simp only [pick_rules, list_rules]
       try refine lg_mk ?_
       have hc := call_rule (E := (E_seld.at_ 87)) (f := 34) (sp := Spec.pure wrG) rfl
       have hs := @wrG.eq_1
       refine u_hp ?_
       refine lg_nil ?_
       refine at_seq ?_
       simp only [pick_rules, list_rules]
       try refine lg_mk ?_
       refine u_ld ?_
       have hc := call_rule (E := (E_seld.at_ 87)) (f := 21) (sp := Spec.pure joinG) rfl
       have hs := @joinG.eq_1
       refine u_hp ?_
       have hc := call_rule (E := (E_seld.at_ 87)) (f := 33) (sp := Spec.pure seldG) rfl
       have hs := @seldG.eq_1
       refine u_hp ?_
       refine u_mv ?_
       refine u_ex ?_
       refine u_ex ?_
       refine u_mv ?_
       refine u_mv ?_
       refine lg_nil ?_
       refine at_nil ?_
       have hx := hx0
       refine h17 _ ?_; clear h17; try clear N17
       refine vc_seq_k fun N18 h18 => ?_
       refine u_reg ?_
       try refine lg_mk ?_
       refine u_mv (hq := by (first | ((repeat' apply And.intro) <;> first | rfl | omega) | exact sd_)) ?_
       refine u_mv (hq := by (first | ((repeat' apply And.intro) <;> first | rfl | omega) | exact sd_)) ?_
       refine s_mv (hq := by (intro hg; (try simp only [b_rules, bif_and, bif_or] at hg); (first | ((repeat' apply And.intro) <;> first | rfl | omega) | exact sd_))) ?_
       refine u_pk (hq := by (first | ((repeat' apply And.intro) <;> first | rfl | omega) | exact sd_)) ?_
       refine u_mv (hq := by (first | ((repeat' apply And.intro) <;> first | rfl | omega) | exact sd_)) ?_
       refine s_mv (hq := by (intro hg; (try simp only [b_rules, bif_and, bif_or] at hg); (first | ((repeat' apply And.intro) <;> first | rfl | omega) | exact sd_))) ?_
       refine u_pk (hq := by (first | ((repeat' apply And.intro) <;> first | rfl | omega) | exact sd_)) ?_
       refine u_mv (hq := by (first | ((repeat' apply And.intro) <;> first | rfl | omega) | exact sd_)) ?_
       refine s_mv (hq := by (intro hg; (try simp only [b_rules, bif_and, bif_or] at hg); (first | ((repeat' apply And.intro) <;> first | rfl | omega) | exact sd_))) ?_
       refine s_mv (hq := by (intro hg; (try simp only [b_rules, bif_and, bif_or] at hg); (first | ((repeat' apply And.intro) <;> first | rfl | omega) | exact sd_))) ?_
       have hc := call_rule (E := (E_seld.at_ 87)) (f := 27) (sp := Spec.pure boolsG) rfl
       have hs := @boolsG.eq_1
       refine s_cp (hq := by (intro hg; (try simp only [b_rules, bif_and, bif_or] at hg); (first | ((repeat' apply And.intro) <;> first | rfl | omega) | exact sd_))) ?_
       refine u_pk (hq := by (first | ((repeat' apply And.intro) <;> first | rfl | omega) | exact sd_)) ?_
       refine u_mv (hq := by (first | ((repeat' apply And.intro) <;> first | rfl | omega) | exact sd_)) ?_
       refine s_mv (hq := by (intro hg; (try simp only [b_rules, bif_and, bif_or] at hg); (first | ((repeat' apply And.intro) <;> first | rfl | omega) | exact sd_))) ?_
       refine s_mv (hq := by (intro hg; (try simp only [b_rules, bif_and, bif_or] at hg); (first | ((repeat' apply And.intro) <;> first | rfl | omega) | exact sd_))) ?_
       have hc := call_rule (E := (E_seld.at_ 87)) (f := 27) (sp := Spec.pure boolsG) rfl
       have hs := @boolsG.eq_1
       refine s_cp (hq := by (intro hg; (try simp only [b_rules, bif_and, bif_or] at hg); (first | ((repeat' apply And.intro) <;> first | rfl | omega) | exact sd_))) ?_
       refine u_pk (hq := by (first | ((repeat' apply And.intro) <;> first | rfl | omega) | exact sd_)) ?_
       refine u_mv (hq := by (first | ((repeat' apply And.intro) <;> first | rfl | omega) | exact sd_)) ?_
       refine lg_nil ?_
       refine h18 _ ?_; clear h18; try clear N18
       refine vc_ret ?_
       try simp only [k_rules]
       refine fin2_ ?_
       (repeat' apply And.intro) <;> (first | (first | rfl | trivial | (simp; done)) | exact cl_)
      refine at_alt ?_ ?_
      ·simp only [pick_rules, list_rules]
       try refine lg_mk ?_
       refine u_ld ?_
       refine lg_nil ?_
       refine at_seq ?_
       simp only [pick_rules, list_rules]
       try refine lg_mk ?_
       have hc := call_rule (E := (E_seld.at_ 87)) (f := 34) (sp := Spec.pure wrG) rfl
       have hs := @wrG.eq_1
       refine u_hp ?_
       have hc := call_rule (E := (E_seld.at_ 87)) (f := 21) (sp := Spec.pure joinG) rfl
       have hs := @joinG.eq_1
       refine u_hp ?_
       have hc := call_rule (E := (E_seld.at_ 87)) (f := 33) (sp := Spec.pure seldG) rfl
       have hs := @seldG.eq_1
       refine u_hp ?_
       refine u_mv ?_
       refine u_ex ?_
       refine u_ex ?_
       refine u_mv ?_
       refine u_mv ?_
       refine lg_nil ?_
       refine at_nil ?_
       have hx := hx0
       refine h17 _ ?_; clear h17; try clear N17
       refine vc_seq_k fun N19 h19 => ?_
       refine u_reg ?_
       try refine lg_mk ?_
       refine u_mv (hq := by (first | ((repeat' apply And.intro) <;> first | rfl | omega) | exact sd_)) ?_
       refine u_mv (hq := by (first | ((repeat' apply And.intro) <;> first | rfl | omega) | exact sd_)) ?_
       refine s_mv (hq := by (intro hg; (try simp only [b_rules, bif_and, bif_or] at hg); (first | ((repeat' apply And.intro) <;> first | rfl | omega) | exact sd_))) ?_
       refine u_pk (hq := by (first | ((repeat' apply And.intro) <;> first | rfl | omega) | exact sd_)) ?_
       refine u_mv (hq := by (first | ((repeat' apply And.intro) <;> first | rfl | omega) | exact sd_)) ?_
       refine s_mv (hq := by (intro hg; (try simp only [b_rules, bif_and, bif_or] at hg); (first | ((repeat' apply And.intro) <;> first | rfl | omega) | exact sd_))) ?_
       refine u_pk (hq := by (first | ((repeat' apply And.intro) <;> first | rfl | omega) | exact sd_)) ?_
       refine u_mv (hq := by (first | ((repeat' apply And.intro) <;> first | rfl | omega) | exact sd_)) ?_
       refine s_mv (hq := by (intro hg; (try simp only [b_rules, bif_and, bif_or] at hg); (first | ((repeat' apply And.intro) <;> first | rfl | omega) | exact sd_))) ?_
       refine s_mv (hq := by (intro hg; (try simp only [b_rules, bif_and, bif_or] at hg); (first | ((repeat' apply And.intro) <;> first | rfl | omega) | exact sd_))) ?_
       have hc := call_rule (E := (E_seld.at_ 87)) (f := 27) (sp := Spec.pure boolsG) rfl
       have hs := @boolsG.eq_1
       refine s_cp (hq := by (intro hg; (try simp only [b_rules, bif_and, bif_or] at hg); (first | ((repeat' apply And.intro) <;> first | rfl | omega) | exact sd_))) ?_
       refine u_pk (hq := by (first | ((repeat' apply And.intro) <;> first | rfl | omega) | exact sd_)) ?_
       refine u_mv (hq := by (first | ((repeat' apply And.intro) <;> first | rfl | omega) | exact sd_)) ?_
       refine s_mv (hq := by (intro hg; (try simp only [b_rules, bif_and, bif_or] at hg); (first | ((repeat' apply And.intro) <;> first | rfl | omega) | exact sd_))) ?_
       refine s_mv (hq := by (intro hg; (try simp only [b_rules, bif_and, bif_or] at hg); (first | ((repeat' apply And.intro) <;> first | rfl | omega) | exact sd_))) ?_
       have hc := call_rule (E := (E_seld.at_ 87)) (f := 27) (sp := Spec.pure boolsG) rfl
       have hs := @boolsG.eq_1
       refine s_cp (hq := by (intro hg; (try simp only [b_rules, bif_and, bif_or] at hg); (first | ((repeat' apply And.intro) <;> first | rfl | omega) | exact sd_))) ?_
       refine u_pk (hq := by (first | ((repeat' apply And.intro) <;> first | rfl | omega) | exact sd_)) ?_
       refine u_mv (hq := by (first | ((repeat' apply And.intro) <;> first | rfl | omega) | exact sd_)) ?_
       refine lg_nil ?_
       refine h19 _ ?_; clear h19; try clear N19
       refine vc_ret ?_
       try simp only [k_rules]
       refine fin2_ ?_
       (repeat' apply And.intro) <;> (first | (first | rfl | trivial | (simp; done)) | exact cl_)
      exact at_end
     refine at_alt ?_ ?_
     ·simp only [pick_rules, list_rules]
      try refine lg_mk ?_
      refine u_ld ?_
      refine lg_nil ?_
      refine at_seq ?_
      simp only [pick_rules, list_rules]
      try refine lg_mk ?_
      have hc := call_rule (E := (E_seld.at_ 87)) (f := 34) (sp := Spec.pure wrG) rfl
      have hs := @wrG.eq_1
      refine u_hp ?_
      have hc := call_rule (E := (E_seld.at_ 87)) (f := 34) (sp := Spec.pure wrG) rfl
      have hs := @wrG.eq_1
      refine u_hp ?_
      have hc := call_rule (E := (E_seld.at_ 87)) (f := 21) (sp := Spec.pure joinG) rfl
      have hs := @joinG.eq_1
      refine u_hp ?_
      have hc := call_rule (E := (E_seld.at_ 87)) (f := 33) (sp := Spec.pure seldG) rfl
      have hs := @seldG.eq_1
      refine u_hp ?_
      refine u_mv ?_
      refine u_ex ?_
      refine u_ex ?_
      refine u_mv ?_
      refine u_mv ?_
      refine lg_nil ?_
      refine at_nil ?_
      have hx := hx0
      refine h16 _ ?_; clear h16; try clear N16
      refine vc_seq_k fun N20 h20 => ?_
      have hx := And.intro @hZ (And.intro @hXl hx0)
      refine vc_regT [] (.seq [0, 1] (.alt 2 (.seq [3, 4, 5, 6, 7, 8, 9, 10] .nil) (.alt 3 (.seq [2, 4, 5, 6, 7, 8, 9, 10] .nil) .nil))) hmix (by kernel_rfl) ?_
      refine at_seq ?_
      simp only [pick_rules, list_rules]
      try refine lg_mk ?_
      refine u_mv ?_
      refine u_ld ?_
      refine lg_nil ?_
      refine at_alt ?_ ?_
      ·simp only [pick_rules, list_rules]
       try refine lg_mk ?_
       have hc := call_rule (E := (E_seld.at_ 87)) (f := 34) (sp := Spec.pure wrG) rfl
       have hs := @wrG.eq_1
       refine u_hp ?_
       refine lg_nil ?_
       refine at_seq ?_
       simp only [pick_rules, list_rules]
       try refine lg_mk ?_
       refine u_ld ?_
       have hc := call_rule (E := (E_seld.at_ 87)) (f := 21) (sp := Spec.pure joinG) rfl
       have hs := @joinG.eq_1
       refine u_hp ?_
       have hc := call_rule (E := (E_seld.at_ 87)) (f := 33) (sp := Spec.pure seldG) rfl
       have hs := @seldG.eq_1
       refine u_hp ?_
       refine u_mv ?_
       refine u_ex ?_
       refine u_ex ?_
       refine u_mv ?_
       refine u_mv ?_
       refine lg_nil ?_
       refine at_nil ?_
       have hx := hx0
       refine h20 _ ?_; clear h20; try clear N20
       refine vc_seq_k fun N21 h21 => ?_
       refine u_reg ?_
       try refine lg_mk ?_
       refine u_mv (hq := by (first | ((repeat' apply And.intro) <;> first | rfl | omega) | exact sd_)) ?_
       refine u_mv (hq := by (first | ((repeat' apply And.intro) <;> first | rfl | omega) | exact sd_)) ?_
       refine s_mv (hq := by (intro hg; (try simp only [b_rules, bif_and, bif_or] at hg); (first | ((repeat' apply And.intro) <;> first | rfl | omega) | exact sd_))) ?_
       refine u_pk (hq := by (first | ((repeat' apply And.intro) <;> first | rfl | omega) | exact sd_)) ?_
       refine u_mv (hq := by (first | ((repeat' apply And.intro) <;> first | rfl | omega) | exact sd_)) ?_
       refine s_mv (hq := by (intro hg; (try simp only [b_rules, bif_and, bif_or] at hg); (first | ((repeat' apply And.intro) <;> first | rfl | omega) | exact sd_))) ?_
       refine u_pk (hq := by (first | ((repeat' apply And.intro) <;> first | rfl | omega) | exact sd_)) ?_
       refine u_mv (hq := by (first | ((repeat' apply And.intro) <;> first | rfl | omega) | exact sd_)) ?_
       refine s_mv (hq := by (intro hg; (try simp only [b_rules, bif_and, bif_or] at hg); (first | ((repeat' apply And.intro) <;> first | rfl | omega) | exact sd_))) ?_
       refine s_mv (hq := by (intro hg; (try simp only [b_rules, bif_and, bif_or] at hg); (first | ((repeat' apply And.intro) <;> first | rfl | omega) | exact sd_))) ?_
       have hc := call_rule (E := (E_seld.at_ 87)) (f := 27) (sp := Spec.pure boolsG) rfl
       have hs := @boolsG.eq_1
       refine s_cp (hq := by (intro hg; (try simp only [b_rules, bif_and, bif_or] at hg); (first | ((repeat' apply And.intro) <;> first | rfl | omega) | exact sd_))) ?_
       refine u_pk (hq := by (first | ((repeat' apply And.intro) <;> first | rfl | omega) | exact sd_)) ?_
       refine u_mv (hq := by (first | ((repeat' apply And.intro) <;> first | rfl | omega) | exact sd_)) ?_
       refine s_mv (hq := by (intro hg; (try simp only [b_rules, bif_and, bif_or] at hg); (first | ((repeat' apply And.intro) <;> first | rfl | omega) | exact sd_))) ?_
       refine s_mv (hq := by (intro hg; (try simp only [b_rules, bif_and, bif_or] at hg); (first | ((repeat' apply And.intro) <;> first | rfl | omega) | exact sd_))) ?_
       have hc := call_rule (E := (E_seld.at_ 87)) (f := 27) (sp := Spec.pure boolsG) rfl
       have hs := @boolsG.eq_1
       refine s_cp (hq := by (intro hg; (try simp only [b_rules, bif_and, bif_or] at hg); (first | ((repeat' apply And.intro) <;> first | rfl | omega) | exact sd_))) ?_
       refine u_pk (hq := by (first | ((repeat' apply And.intro) <;> first | rfl | omega) | exact sd_)) ?_
       refine u_mv (hq := by (first | ((repeat' apply And.intro) <;> first | rfl | omega) | exact sd_)) ?_
       refine lg_nil ?_
       refine h21 _ ?_; clear h21; try clear N21
       refine vc_ret ?_
       try simp only [k_rules]
       refine fin2_ ?_
       (repeat' apply And.intro) <;> (first | (first | rfl | trivial | (simp; done)) | exact cl_)
      refine at_alt ?_ ?_
      ·simp only [pick_rules, list_rules]
       try refine lg_mk ?_
       refine u_ld ?_
       refine lg_nil ?_
       refine at_seq ?_
       simp only [pick_rules, list_rules]
       try refine lg_mk ?_
       have hc := call_rule (E := (E_seld.at_ 87)) (f := 34) (sp := Spec.pure wrG) rfl
       have hs := @wrG.eq_1
       refine u_hp ?_
       have hc := call_rule (E := (E_seld.at_ 87)) (f := 21) (sp := Spec.pure joinG) rfl
       have hs := @joinG.eq_1
       refine u_hp ?_
       have hc := call_rule (E := (E_seld.at_ 87)) (f := 33) (sp := Spec.pure seldG) rfl
       have hs := @seldG.eq_1
       refine u_hp ?_
       refine u_mv ?_
       refine u_ex ?_
       refine u_ex ?_
       refine u_mv ?_
       refine u_mv ?_
       refine lg_nil ?_
       refine at_nil ?_
       have hx := hx0
       refine h20 _ ?_; clear h20; try clear N20
       refine vc_seq_k fun N22 h22 => ?_
       refine u_reg ?_
       try refine lg_mk ?_
       refine u_mv (hq := by (first | ((repeat' apply And.intro) <;> first | rfl | omega) | exact sd_)) ?_
       refine u_mv (hq := by (first | ((repeat' apply And.intro) <;> first | rfl | omega) | exact sd_)) ?_
       refine s_mv (hq := by (intro hg; (try simp only [b_rules, bif_and, bif_or] at hg); (first | ((repeat' apply And.intro) <;> first | rfl | omega) | exact sd_))) ?_
       refine u_pk (hq := by (first | ((repeat' apply And.intro) <;> first | rfl | omega) | exact sd_)) ?_
       refine u_mv (hq := by (first | ((repeat' apply And.intro) <;> first | rfl | omega) | exact sd_)) ?_
       refine s_mv (hq := by (intro hg; (try simp only [b_rules, bif_and, bif_or] at hg); (first | ((repeat' apply And.intro) <;> first | rfl | omega) | exact sd_))) ?_
       refine u_pk (hq := by (first | ((repeat' apply And.intro) <;> first | rfl | omega) | exact sd_)) ?_
       refine u_mv (hq := by (first | ((repeat' apply And.intro) <;> first | rfl | omega) | exact sd_)) ?_
       refine s_mv (hq := by (intro hg; (try simp only [b_rules, bif_and, bif_or] at hg); (first | ((repeat' apply And.intro) <;> first | rfl | omega) | exact sd_))) ?_
       refine s_mv (hq := by (intro hg; (try simp only [b_rules, bif_and, bif_or] at hg); (first | ((repeat' apply And.intro) <;> first | rfl | omega) | exact sd_))) ?_
       have hc := call_rule (E := (E_seld.at_ 87)) (f := 27) (sp := Spec.pure boolsG) rfl
       have hs := @boolsG.eq_1
       refine s_cp (hq := by (intro hg; (try simp only [b_rules, bif_and, bif_or] at hg); (first | ((repeat' apply And.intro) <;> first | rfl | omega) | exact sd_))) ?_
       refine u_pk (hq := by (first | ((repeat' apply And.intro) <;> first | rfl | omega) | exact sd_)) ?_
       refine u_mv (hq := by (first | ((repeat' apply And.intro) <;> first | rfl | omega) | exact sd_)) ?_
       refine s_mv (hq := by (intro hg; (try simp only [b_rules, bif_and, bif_or] at hg); (first | ((repeat' apply And.intro) <;> first | rfl | omega) | exact sd_))) ?_
       refine s_mv (hq := by (intro hg; (try simp only [b_rules, bif_and, bif_or] at hg); (first | ((repeat' apply And.intro) <;> first | rfl | omega) | exact sd_))) ?_
       have hc := call_rule (E := (E_seld.at_ 87)) (f := 27) (sp := Spec.pure boolsG) rfl
       have hs := @boolsG.eq_1
       refine s_cp (hq := by (intro hg; (try simp only [b_rules, bif_and, bif_or] at hg); (first | ((repeat' apply And.intro) <;> first | rfl | omega) | exact sd_))) ?_
       refine u_pk (hq := by (first | ((repeat' apply And.intro) <;> first | rfl | omega) | exact sd_)) ?_
       refine u_mv (hq := by (first | ((repeat' apply And.intro) <;> first | rfl | omega) | exact sd_)) ?_
       refine lg_nil ?_
       refine h22 _ ?_; clear h22; try clear N22
       refine vc_ret ?_
       try simp only [k_rules]
       refine fin2_ ?_
       (repeat' apply And.intro) <;> (first | (first | rfl | trivial | (simp; done)) | exact cl_)
      exact at_end
     exact at_end
 ·cases hg
end Go.Proofs.YtlbjffdaooadoaaDoor
