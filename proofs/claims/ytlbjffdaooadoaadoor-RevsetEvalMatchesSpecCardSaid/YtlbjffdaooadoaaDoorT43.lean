/- Walks, printed by wip/gen/walk.py. -/
import Derived.Test.YtlbjffdaooadoaaDoorT42
import Derived.Test.YtlbjffdaooadoaaDoorV5
set_option linter.all false
set_option maxRecDepth 100000
set_option maxHeartbeats 4000000
namespace Go.Proofs.YtlbjffdaooadoaaDoor
open Go Go.Vc Go.RowKit
theorem val_code {q : List Nd} (h : valQ q ≠ (0, 0)) : (valQ q).1 ≠ 0 := by
  intro h0
  unfold valQ at h h0
  split at h
  · rename_i h1; rw [if_pos h1] at h0; exact absurd h0 (by decide)
  · rename_i h1
    rw [if_neg h1] at h0
    split at h
    · rename_i h2; rw [if_pos h2] at h0; exact h2 h0
    · rename_i h2
      rw [if_neg h2] at h0
      split at h
      · rename_i h3; rw [if_pos h3] at h0; exact absurd h0 (by decide)
      · exact h rfl

theorem hist_of {l : List Cm} (h : (histF l).1 = 0) : histF l = (0, 0) := by
  have hv := valid_of h
  unfold histF at h ⊢
  split at h
  · cases h
  · rename_i h0
    rw [if_neg h0]
    exact scanW_fst h

def lawEG : List AV → Option (Prop × AV)
  | [.d (.sl xs), .agg [.d (.sl ys)]] => some (xs = rows eC (dC xs) ∧ (dC xs).length ≤ 9223372036854775807 ∧ smallC (dC xs) ∧ ys = rows eN (dN ys) ∧ (dN ys).length ≤ 9223372036854775807, .d (.bool true))
  | _ => none
theorem em_cases (l : List Cm) (q : List Nd) : ((histF l).1 ≠ 0 ∧ evV l q = ((histF l).1, (histF l).2, [])) ∨ (histF l = (0, 0) ∧ (valQ q).1 ≠ 0 ∧ evV l q = ((valQ q).1, -2, [])) ∨ (histF l = (0, 0) ∧ valQ q = (0, 0) ∧ evV l q = (0, 0, rtV l q)) := by
  by_cases h1 : (histF l).1 = 0
  · have h0 := hist_of h1
    by_cases h2 : valQ q = (0, 0)
    · exact .inr (.inr ⟨h0, h2, ev_val h0 h2⟩)
    · exact .inr (.inl ⟨h0, val_code h2, by unfold evV; rw [if_neg (by rw [h0]; simp), if_pos h2]⟩)
  · exact .inl ⟨h1, by unfold evV; rw [if_pos (by intro h; rw [h] at h1; exact h1 rfl)]⟩

theorem lawE_meets : Meets Tryd.prog 7 (Spec.pure lawEG) := by
 refine meets_fun (E_evr.at_ 57) Tryd.func7 rfl rfl rfl ?_
 intro args p r hg hp
 unfold lawEG at hg
 split at hg
 ·rename_i xs ys
  simp only [Option.some.injEq, Prod.mk.injEq] at hg
  obtain ⟨rfl, rfl⟩ := hg
  obtain ⟨he, hl, hsm, he2, hl2⟩ := hp
  generalize dC xs = l at *
  generalize dN ys = q at *
  subst he he2
  have hT : (E_evr).X = T := rfl
  have hx0 := And.intro @rect_eC (And.intro @rect_eN (And.intro @dC_rows (And.intro @dN_rows (And.intro @dB_rows (And.intro @refQ_is (And.intro @dec_t (And.intro @dec_f @Tryd.results7)))))))
  have hx := hx0
  refine ⟨by rfl, ?_⟩
  intro F W0 hnp hmk
  refine vc_seq_k fun N1 h1 => ?_
  refine u_reg ?_
  try refine lg_mk ?_
  refine u_bx ?_
  refine u_mv ?_
  refine lg_nil ?_
  refine h1 _ ?_; clear h1; try clear N1
  refine vc_seq_k fun N2 h2 => ?_
  refine vc_seq_k fun N3 h3 => ?_
  refine u_reg ?_
  try refine lg_mk ?_
  have hc := call_rule (E := (E_evr.at_ 57)) (f := 22) (sp := Spec.pure exG) rfl
  have hs := @exG.eq_1
  refine u_cp ?_
  refine u_un ?_
  refine lg_nil ?_
  refine h3 _ ?_; clear h3; try clear N3
  refine u_cond (fun hb4 => ?_) (fun hb4 => ?_)
  ·first | omega | exact absurd trivial hb4 | contradiction | (simp_all; done)
  ·refine vc_skip ?_
   try simp only [k_rules]
   refine h2 _ ?_; clear h2; try clear N2
   refine vc_seq_k fun N5 h5 => ?_
   rcases em_cases l q with ⟨g1, hev⟩ | ⟨g1, g2, hev⟩ | ⟨g1, g2, hev⟩
   ·have c1 : ((histF l).1 = 0) = False := eq_false g1
    have c2 := True.intro
    have hx := And.intro @hev hx0
    refine u_reg ?_
    try refine lg_mk ?_
    refine u_mv ?_
    refine u_ld ?_
    have hc := call_rule (E := (E_evr.at_ 57)) (f := 23) (sp := Spec.pure evG) rfl
    have hs := @evG.eq_1
    refine u_hp ?_
    refine u_mv ?_
    refine u_ex ?_
    refine u_ex ?_
    refine u_al ?_
    refine u_mv ?_
    refine u_st ?_
    refine lg_nil ?_
    have hx := hx0
    refine h5 _ ?_; clear h5; try clear N5
    refine vc_seq_k fun N6 h6 => ?_
    refine u_reg ?_
    try refine lg_mk ?_
    refine u_ld ?_
    have hc := call_rule (E := (E_evr.at_ 57)) (f := 17) (sp := Spec.pure refQG) rfl
    have hs := @refQG.eq_1
    refine u_cp ?_
    refine u_al ?_
    refine u_st ?_
    refine lg_nil ?_
    refine h6 _ ?_; clear h6; try clear N6
    refine vc_seq_k fun N7 h7 => ?_
    refine vc_seq_k fun N8 h8 => ?_
    have hx := And.intro @c1 (And.intro @c2 hx0)
    refine vc_regT [] (.seq [0] (.alt 1 (.seq [2, 3] .nil) (.alt 2 (.seq [1, 3] .nil) .nil))) hmix (by kernel_rfl) ?_
    refine at_seq ?_
    simp only [pick_rules, list_rules]
    try refine lg_mk ?_
    refine u_ld ?_
    refine lg_nil ?_
    refine at_alt ?_ ?_
    ·simp only [pick_rules, list_rules]
     try refine lg_mk ?_
     have hc := call_rule (E := (E_evr.at_ 57)) (f := 24) (sp := Spec.pure valG) rfl
     have hs := @valG.eq_1
     refine u_cp ?_
     refine lg_nil ?_
     refine at_seq ?_
     simp only [pick_rules, list_rules]
     try refine lg_mk ?_
     refine u_ld ?_
     refine u_bn ?_
     refine lg_nil ?_
     refine at_nil ?_
     have hx := hx0
     refine h8 _ ?_; clear h8; try clear N8
     refine u_cond (fun hb9 => ?_) (fun hb9 => ?_)
     ·first | omega | exact absurd trivial hb9 | contradiction | (simp_all; done)
     ·refine vc_skip ?_
      try simp only [k_rules]
      refine h7 _ ?_; clear h7; try clear N7
      refine vc_seq_k fun N10 h10 => ?_
      have hx := And.intro @c1 (And.intro @c2 hx0)
      refine u_reg ?_
      try refine lg_mk ?_
      refine u_mv ?_
      have hc := call_rule (E := (E_evr.at_ 57)) (f := 25) (sp := Spec.pure histG) rfl
      have hs := @histG.eq_1
      refine u_cp ?_
      refine u_al ?_
      refine u_st ?_
      refine lg_nil ?_
      have hx := hx0
      refine h10 _ ?_; clear h10; try clear N10
      refine vc_seq_k fun N11 h11 => ?_
      refine vc_seq_k fun N12 h12 => ?_
      have hx := And.intro @c1 (And.intro @c2 hx0)
      refine u_reg ?_
      try refine lg_mk ?_
      refine u_pt ?_
      refine u_ld ?_
      refine u_bn ?_
      refine u_mv ?_
      refine g_pt ?_
      refine g_ld ?_
      refine g_bn ?_
      refine u_pk ?_
      refine lg_nil ?_
      have hx := hx0
      refine h12 _ ?_; clear h12; try clear N12
      refine u_cond (fun hb13 => ?_) (fun hb13 => ?_)
      ·first | omega | exact absurd trivial hb13 | contradiction | (simp_all; done)
      ·refine vc_skip ?_
       try simp only [k_rules]
       refine h11 _ ?_; clear h11; try clear N11
       refine vc_seq_k fun N14 h14 => ?_
       refine vc_seq_k fun N15 h15 => ?_
       have hx := And.intro @c1 (And.intro @c2 hx0)
       refine u_reg ?_
       try refine lg_mk ?_
       refine u_pt ?_
       refine u_ld ?_
       refine u_bn ?_
       refine lg_nil ?_
       have hx := hx0
       refine h15 _ ?_; clear h15; try clear N15
       refine u_cond (fun hb16 => ?_) (fun hb16 => ?_)
       ·refine vc_seq_k fun N17 h17 => ?_
        have hx := And.intro @c1 (And.intro @c2 hx0)
        refine u_reg ?_
        try refine lg_mk ?_
        refine u_ld ?_
        refine u_ld ?_
        refine u_bn ?_
        refine u_mv ?_
        refine g_mv ?_
        refine g_ln ?_
        refine g_bn ?_
        refine u_pk ?_
        refine u_mv ?_
        refine lg_nil ?_
        have hx := hx0
        refine h17 _ ?_; clear h17; try clear N17
        refine vc_ret ?_
        try simp only [k_rules]
        refine fin2_ ?_
        (repeat' apply And.intro) <;> (first | (first | rfl | trivial | (simp; done)) | exact cl_)
       ·first | omega | exact absurd trivial hb16 | contradiction | (simp_all; done)
    refine at_alt ?_ ?_
    ·simp only [pick_rules, list_rules]
     try refine lg_mk ?_
     refine u_ld ?_
     refine lg_nil ?_
     refine at_seq ?_
     simp only [pick_rules, list_rules]
     try refine lg_mk ?_
     have hc := call_rule (E := (E_evr.at_ 57)) (f := 24) (sp := Spec.pure valG) rfl
     have hs := @valG.eq_1
     refine u_cp ?_
     refine u_bn ?_
     refine lg_nil ?_
     refine at_nil ?_
     have hx := hx0
     refine h8 _ ?_; clear h8; try clear N8
     refine u_cond (fun hb18 => ?_) (fun hb18 => ?_)
     ·first | omega | exact absurd trivial hb18 | contradiction | (simp_all; done)
     ·refine vc_skip ?_
      try simp only [k_rules]
      refine h7 _ ?_; clear h7; try clear N7
      refine vc_seq_k fun N19 h19 => ?_
      have hx := And.intro @c1 (And.intro @c2 hx0)
      refine u_reg ?_
      try refine lg_mk ?_
      refine u_mv ?_
      have hc := call_rule (E := (E_evr.at_ 57)) (f := 25) (sp := Spec.pure histG) rfl
      have hs := @histG.eq_1
      refine u_cp ?_
      refine u_al ?_
      refine u_st ?_
      refine lg_nil ?_
      have hx := hx0
      refine h19 _ ?_; clear h19; try clear N19
      refine vc_seq_k fun N20 h20 => ?_
      refine vc_seq_k fun N21 h21 => ?_
      have hx := And.intro @c1 (And.intro @c2 hx0)
      refine u_reg ?_
      try refine lg_mk ?_
      refine u_pt ?_
      refine u_ld ?_
      refine u_bn ?_
      refine u_mv ?_
      refine g_pt ?_
      refine g_ld ?_
      refine g_bn ?_
      refine u_pk ?_
      refine lg_nil ?_
      have hx := hx0
      refine h21 _ ?_; clear h21; try clear N21
      refine u_cond (fun hb22 => ?_) (fun hb22 => ?_)
      ·first | omega | exact absurd trivial hb22 | contradiction | (simp_all; done)
      ·refine vc_skip ?_
       try simp only [k_rules]
       refine h20 _ ?_; clear h20; try clear N20
       refine vc_seq_k fun N23 h23 => ?_
       refine vc_seq_k fun N24 h24 => ?_
       have hx := And.intro @c1 (And.intro @c2 hx0)
       refine u_reg ?_
       try refine lg_mk ?_
       refine u_pt ?_
       refine u_ld ?_
       refine u_bn ?_
       refine lg_nil ?_
       have hx := hx0
       refine h24 _ ?_; clear h24; try clear N24
       refine u_cond (fun hb25 => ?_) (fun hb25 => ?_)
       ·refine vc_seq_k fun N26 h26 => ?_
        have hx := And.intro @c1 (And.intro @c2 hx0)
        refine u_reg ?_
        try refine lg_mk ?_
        refine u_ld ?_
        refine u_ld ?_
        refine u_bn ?_
        refine u_mv ?_
        refine g_mv ?_
        refine g_ln ?_
        refine g_bn ?_
        refine u_pk ?_
        refine u_mv ?_
        refine lg_nil ?_
        have hx := hx0
        refine h26 _ ?_; clear h26; try clear N26
        refine vc_ret ?_
        try simp only [k_rules]
        refine fin2_ ?_
        (repeat' apply And.intro) <;> (first | (first | rfl | trivial | (simp; done)) | exact cl_)
       ·first | omega | exact absurd trivial hb25 | contradiction | (simp_all; done)
    exact at_end
   ·have c1 := g1
    have c2 : ((valQ q).1 = 0) = False := eq_false g2
    have hx := And.intro @hev hx0
    refine u_reg ?_
    try refine lg_mk ?_
    refine u_mv ?_
    refine u_ld ?_
    have hc := call_rule (E := (E_evr.at_ 57)) (f := 23) (sp := Spec.pure evG) rfl
    have hs := @evG.eq_1
    refine u_hp ?_
    refine u_mv ?_
    refine u_ex ?_
    refine u_ex ?_
    refine u_al ?_
    refine u_mv ?_
    refine u_st ?_
    refine lg_nil ?_
    have hx := hx0
    refine h5 _ ?_; clear h5; try clear N5
    refine vc_seq_k fun N27 h27 => ?_
    refine u_reg ?_
    try refine lg_mk ?_
    refine u_ld ?_
    have hc := call_rule (E := (E_evr.at_ 57)) (f := 17) (sp := Spec.pure refQG) rfl
    have hs := @refQG.eq_1
    refine u_cp ?_
    refine u_al ?_
    refine u_st ?_
    refine lg_nil ?_
    refine h27 _ ?_; clear h27; try clear N27
    refine vc_seq_k fun N28 h28 => ?_
    refine vc_seq_k fun N29 h29 => ?_
    have hx := And.intro @c1 (And.intro @c2 hx0)
    refine vc_regT [] (.seq [0] (.alt 1 (.seq [2, 3] .nil) (.alt 2 (.seq [1, 3] .nil) .nil))) hmix (by kernel_rfl) ?_
    refine at_seq ?_
    simp only [pick_rules, list_rules]
    try refine lg_mk ?_
    refine u_ld ?_
    refine lg_nil ?_
    refine at_alt ?_ ?_
    ·simp only [pick_rules, list_rules]
     try refine lg_mk ?_
     have hc := call_rule (E := (E_evr.at_ 57)) (f := 24) (sp := Spec.pure valG) rfl
     have hs := @valG.eq_1
     refine u_cp ?_
     refine lg_nil ?_
     refine at_seq ?_
     simp only [pick_rules, list_rules]
     try refine lg_mk ?_
     refine u_ld ?_
     refine u_bn ?_
     refine lg_nil ?_
     refine at_nil ?_
     have hx := hx0
     refine h29 _ ?_; clear h29; try clear N29
     refine u_cond (fun hb30 => ?_) (fun hb30 => ?_)
     ·first | omega | exact absurd trivial hb30 | contradiction | (simp_all; done)
     ·refine vc_skip ?_
      try simp only [k_rules]
      refine h28 _ ?_; clear h28; try clear N28
      refine vc_seq_k fun N31 h31 => ?_
      have hx := And.intro @c1 (And.intro @c2 hx0)
      refine u_reg ?_
      try refine lg_mk ?_
      refine u_mv ?_
      have hc := call_rule (E := (E_evr.at_ 57)) (f := 25) (sp := Spec.pure histG) rfl
      have hs := @histG.eq_1
      refine u_cp ?_
      refine u_al ?_
      refine u_st ?_
      refine lg_nil ?_
      have hx := hx0
      refine h31 _ ?_; clear h31; try clear N31
      refine vc_seq_k fun N32 h32 => ?_
      refine vc_seq_k fun N33 h33 => ?_
      have hx := And.intro @c1 (And.intro @c2 hx0)
      refine u_reg ?_
      try refine lg_mk ?_
      refine u_pt ?_
      refine u_ld ?_
      refine u_bn ?_
      refine u_mv ?_
      refine g_pt ?_
      refine g_ld ?_
      refine g_bn ?_
      refine u_pk ?_
      refine lg_nil ?_
      have hx := hx0
      refine h33 _ ?_; clear h33; try clear N33
      refine u_cond (fun hb34 => ?_) (fun hb34 => ?_)
      ·have hx := And.intro @c1 (And.intro @c2 hx0)
       refine u_reg ?_
       try refine lg_mk ?_
       refine u_pt ?_
       refine u_ld ?_
       have hc := call_rule (E := (E_evr.at_ 57)) (f := 26) (sp := Spec.pure faultG) rfl
       have hs := @faultG.eq_1
       refine u_cp ?_
       refine u_st ?_
       refine lg_nil ?_
       have hx := hx0
       refine h32 _ ?_; clear h32; try clear N32
       refine vc_seq_k fun N35 h35 => ?_
       refine vc_seq_k fun N36 h36 => ?_
       have hx := And.intro @c1 (And.intro @c2 hx0)
       refine u_reg ?_
       try refine lg_mk ?_
       refine u_pt ?_
       refine u_ld ?_
       refine u_bn ?_
       refine lg_nil ?_
       have hx := hx0
       refine h36 _ ?_; clear h36; try clear N36
       refine u_cond (fun hb37 => ?_) (fun hb37 => ?_)
       ·refine vc_seq_k fun N38 h38 => ?_
        have hx := And.intro @c1 (And.intro @c2 hx0)
        refine u_reg ?_
        try refine lg_mk ?_
        refine u_ld ?_
        refine u_ld ?_
        refine u_bn ?_
        refine u_mv ?_
        refine g_mv ?_
        refine g_ln ?_
        refine g_bn ?_
        refine u_pk ?_
        refine u_mv ?_
        refine lg_nil ?_
        have hx := hx0
        refine h38 _ ?_; clear h38; try clear N38
        refine vc_ret ?_
        try simp only [k_rules]
        refine fin2_ ?_
        (repeat' apply And.intro) <;> (first | (first | rfl | trivial | (simp; done)) | exact cl_)
       ·first | omega | exact absurd trivial hb37 | contradiction | (simp_all; done)
      ·first | omega | exact absurd trivial hb34 | contradiction | (simp_all; done)
    refine at_alt ?_ ?_
    ·simp only [pick_rules, list_rules]
     try refine lg_mk ?_
     refine u_ld ?_
     refine lg_nil ?_
     refine at_seq ?_
     simp only [pick_rules, list_rules]
     try refine lg_mk ?_
     have hc := call_rule (E := (E_evr.at_ 57)) (f := 24) (sp := Spec.pure valG) rfl
     have hs := @valG.eq_1
     refine u_cp ?_
     refine u_bn ?_
     refine lg_nil ?_
     refine at_nil ?_
     have hx := hx0
     refine h29 _ ?_; clear h29; try clear N29
     refine u_cond (fun hb39 => ?_) (fun hb39 => ?_)
     ·first | omega | exact absurd trivial hb39 | contradiction | (simp_all; done)
     ·refine vc_skip ?_
      try simp only [k_rules]
      refine h28 _ ?_; clear h28; try clear N28
      refine vc_seq_k fun N40 h40 => ?_
      have hx := And.intro @c1 (And.intro @c2 hx0)
      refine u_reg ?_
      try refine lg_mk ?_
      refine u_mv ?_
      have hc := call_rule (E := (E_evr.at_ 57)) (f := 25) (sp := Spec.pure histG) rfl
      have hs := @histG.eq_1
      refine u_cp ?_
      refine u_al ?_
      refine u_st ?_
      refine lg_nil ?_
      have hx := hx0
      refine h40 _ ?_; clear h40; try clear N40
      refine vc_seq_k fun N41 h41 => ?_
      refine vc_seq_k fun N42 h42 => ?_
      have hx := And.intro @c1 (And.intro @c2 hx0)
      refine u_reg ?_
      try refine lg_mk ?_
      refine u_pt ?_
      refine u_ld ?_
      refine u_bn ?_
      refine u_mv ?_
      refine g_pt ?_
      refine g_ld ?_
      refine g_bn ?_
      refine u_pk ?_
      refine lg_nil ?_
      have hx := hx0
      refine h42 _ ?_; clear h42; try clear N42
      refine u_cond (fun hb43 => ?_) (fun hb43 => ?_)
      ·have hx := And.intro @c1 (And.intro @c2 hx0)
       refine u_reg ?_
       try refine lg_mk ?_
       refine u_pt ?_
       refine u_ld ?_
       have hc := call_rule (E := (E_evr.at_ 57)) (f := 26) (sp := Spec.pure faultG) rfl
       have hs := @faultG.eq_1
       refine u_cp ?_
       refine u_st ?_
       refine lg_nil ?_
       have hx := hx0
       refine h41 _ ?_; clear h41; try clear N41
       refine vc_seq_k fun N44 h44 => ?_
       refine vc_seq_k fun N45 h45 => ?_
       have hx := And.intro @c1 (And.intro @c2 hx0)
       refine u_reg ?_
       try refine lg_mk ?_
       refine u_pt ?_
       refine u_ld ?_
       refine u_bn ?_
       refine lg_nil ?_
       have hx := hx0
       refine h45 _ ?_; clear h45; try clear N45
       refine u_cond (fun hb46 => ?_) (fun hb46 => ?_)
       ·refine vc_seq_k fun N47 h47 => ?_
        have hx := And.intro @c1 (And.intro @c2 hx0)
        refine u_reg ?_
        try refine lg_mk ?_
        refine u_ld ?_
        refine u_ld ?_
        refine u_bn ?_
        refine u_mv ?_
        refine g_mv ?_
        refine g_ln ?_
        refine g_bn ?_
        refine u_pk ?_
        refine u_mv ?_
        refine lg_nil ?_
        have hx := hx0
        refine h47 _ ?_; clear h47; try clear N47
        refine vc_ret ?_
        try simp only [k_rules]
        refine fin2_ ?_
        (repeat' apply And.intro) <;> (first | (first | rfl | trivial | (simp; done)) | exact cl_)
       ·first | omega | exact absurd trivial hb46 | contradiction | (simp_all; done)
      ·first | omega | exact absurd trivial hb43 | contradiction | (simp_all; done)
    exact at_end
   ·have c1 := g1
    have c2 := g2
    have hv := valid_of (l := l) (by rw [g1])
    have hok := (ok_of_val g2).1
    have hrl := rtV_len (l := l) g2
    have hl60 := hv.len
    have hx := And.intro @hev hx0
    refine u_reg ?_
    try refine lg_mk ?_
    refine u_mv ?_
    refine u_ld ?_
    have hc := call_rule (E := (E_evr.at_ 57)) (f := 23) (sp := Spec.pure evG) rfl
    have hs := @evG.eq_1
    refine u_hp ?_
    refine u_mv ?_
    refine u_ex ?_
    refine u_ex ?_
    refine u_al ?_
    refine u_mv ?_
    refine u_st ?_
    refine lg_nil ?_
    have hx := hx0
    refine h5 _ ?_; clear h5; try clear N5
    refine vc_seq_k fun N48 h48 => ?_
    refine u_reg ?_
    try refine lg_mk ?_
    refine u_ld ?_
    have hc := call_rule (E := (E_evr.at_ 57)) (f := 17) (sp := Spec.pure refQG) rfl
    have hs := @refQG.eq_1
    refine u_cp ?_
    refine u_al ?_
    refine u_st ?_
    refine lg_nil ?_
    refine h48 _ ?_; clear h48; try clear N48
    refine vc_seq_k fun N49 h49 => ?_
    refine vc_seq_k fun N50 h50 => ?_
    have hx := And.intro @c1 (And.intro @c2 hx0)
    refine vc_regT [] (.seq [0] (.alt 1 (.seq [2, 3] .nil) (.alt 2 (.seq [1, 3] .nil) .nil))) hmix (by kernel_rfl) ?_
    refine at_seq ?_
    simp only [pick_rules, list_rules]
    try refine lg_mk ?_
    refine u_ld ?_
    refine lg_nil ?_
    refine at_alt ?_ ?_
    ·simp only [pick_rules, list_rules]
     try refine lg_mk ?_
     have hc := call_rule (E := (E_evr.at_ 57)) (f := 24) (sp := Spec.pure valG) rfl
     have hs := @valG.eq_1
     refine u_cp ?_
     refine lg_nil ?_
     refine at_seq ?_
     simp only [pick_rules, list_rules]
     try refine lg_mk ?_
     refine u_ld ?_
     refine u_bn ?_
     refine lg_nil ?_
     refine at_nil ?_
     have hx := hx0
     refine h50 _ ?_; clear h50; try clear N50
     refine u_cond (fun hb51 => ?_) (fun hb51 => ?_)
     ·first | omega | exact absurd trivial hb51 | contradiction | (simp_all; done)
     ·refine vc_skip ?_
      try simp only [k_rules]
      refine h49 _ ?_; clear h49; try clear N49
      refine vc_seq_k fun N52 h52 => ?_
      have hx := And.intro @c1 (And.intro @c2 hx0)
      refine u_reg ?_
      try refine lg_mk ?_
      refine u_mv ?_
      have hc := call_rule (E := (E_evr.at_ 57)) (f := 25) (sp := Spec.pure histG) rfl
      have hs := @histG.eq_1
      refine u_cp ?_
      refine u_al ?_
      refine u_st ?_
      refine lg_nil ?_
      have hx := hx0
      refine h52 _ ?_; clear h52; try clear N52
      refine vc_seq_k fun N53 h53 => ?_
      refine vc_seq_k fun N54 h54 => ?_
      have hx := And.intro @c1 (And.intro @c2 hx0)
      refine u_reg ?_
      try refine lg_mk ?_
      refine u_pt ?_
      refine u_ld ?_
      refine u_bn ?_
      refine u_mv ?_
      refine g_pt ?_
      refine g_ld ?_
      refine g_bn ?_
      refine u_pk ?_
      refine lg_nil ?_
      have hx := hx0
      refine h54 _ ?_; clear h54; try clear N54
      refine u_cond (fun hb55 => ?_) (fun hb55 => ?_)
      ·first | omega | exact absurd trivial hb55 | contradiction | (simp_all; done)
      ·refine vc_skip ?_
       try simp only [k_rules]
       refine h53 _ ?_; clear h53; try clear N53
       refine vc_seq_k fun N56 h56 => ?_
       refine vc_seq_k fun N57 h57 => ?_
       have hx := And.intro @c1 (And.intro @c2 hx0)
       refine u_reg ?_
       try refine lg_mk ?_
       refine u_pt ?_
       refine u_ld ?_
       refine u_bn ?_
       refine lg_nil ?_
       have hx := hx0
       refine h57 _ ?_; clear h57; try clear N57
       refine u_cond (fun hb58 => ?_) (fun hb58 => ?_)
       ·first | omega | exact absurd trivial hb58 | contradiction | (simp_all; done)
       ·refine vc_skip ?_
        try simp only [k_rules]
        refine h56 _ ?_; clear h56; try clear N56
        refine vc_seq_k fun N59 h59 => ?_
        have hx := And.intro @c1 (And.intro @c2 hx0)
        refine u_reg ?_
        try refine lg_mk ?_
        refine u_pt ?_
        refine u_ld ?_
        refine u_bn ?_
        refine u_mv ?_
        refine g_mv ?_
        refine g_mv ?_
        refine g_ld ?_
        have hc := call_rule (E := (E_evr.at_ 57)) (f := 28) (sp := Spec.pure evRG) rfl
        have hs := @evRG.eq_1
        refine t_hp (hq := by (first | ((repeat' apply And.intro) <;> first | rfl | omega | exact hv | exact hsm | exact hok) | exact sd_)) ?_
        have hc := call_rule (E := (E_evr.at_ 57)) (f := 27) (sp := Spec.pure boolsG) rfl
        have hs := @boolsG.eq_1
        refine s_cp (hq := by (intro hg; (try simp only [b_rules, bif_and, bif_or] at hg); (first | ((repeat' apply And.intro) <;> first | rfl | omega | exact hv | exact hsm | exact hok) | exact sd_))) ?_
        refine u_pk ?_
        refine u_mv ?_
        refine lg_nil ?_
        have hx := hx0
        refine h59 _ ?_; clear h59; try clear N59
        refine vc_ret ?_
        try simp only [k_rules]
        refine fin2_ ?_
        (repeat' apply And.intro) <;> (first | (first | rfl | trivial | (simp; done)) | exact cl_)
    refine at_alt ?_ ?_
    ·simp only [pick_rules, list_rules]
     try refine lg_mk ?_
     refine u_ld ?_
     refine lg_nil ?_
     refine at_seq ?_
     simp only [pick_rules, list_rules]
     try refine lg_mk ?_
     have hc := call_rule (E := (E_evr.at_ 57)) (f := 24) (sp := Spec.pure valG) rfl
     have hs := @valG.eq_1
     refine u_cp ?_
     refine u_bn ?_
     refine lg_nil ?_
     refine at_nil ?_
     have hx := hx0
     refine h50 _ ?_; clear h50; try clear N50
     refine u_cond (fun hb60 => ?_) (fun hb60 => ?_)
     ·first | omega | exact absurd trivial hb60 | contradiction | (simp_all; done)
     ·refine vc_skip ?_
      try simp only [k_rules]
      refine h49 _ ?_; clear h49; try clear N49
      refine vc_seq_k fun N61 h61 => ?_
      have hx := And.intro @c1 (And.intro @c2 hx0)
      refine u_reg ?_
      try refine lg_mk ?_
      refine u_mv ?_
      have hc := call_rule (E := (E_evr.at_ 57)) (f := 25) (sp := Spec.pure histG) rfl
      have hs := @histG.eq_1
      refine u_cp ?_
      refine u_al ?_
      refine u_st ?_
      refine lg_nil ?_
      have hx := hx0
      refine h61 _ ?_; clear h61; try clear N61
      refine vc_seq_k fun N62 h62 => ?_
      refine vc_seq_k fun N63 h63 => ?_
      have hx := And.intro @c1 (And.intro @c2 hx0)
      refine u_reg ?_
      try refine lg_mk ?_
      refine u_pt ?_
      refine u_ld ?_
      refine u_bn ?_
      refine u_mv ?_
      refine g_pt ?_
      refine g_ld ?_
      refine g_bn ?_
      refine u_pk ?_
      refine lg_nil ?_
      have hx := hx0
      refine h63 _ ?_; clear h63; try clear N63
      refine u_cond (fun hb64 => ?_) (fun hb64 => ?_)
      ·first | omega | exact absurd trivial hb64 | contradiction | (simp_all; done)
      ·refine vc_skip ?_
       try simp only [k_rules]
       refine h62 _ ?_; clear h62; try clear N62
       refine vc_seq_k fun N65 h65 => ?_
       refine vc_seq_k fun N66 h66 => ?_
       have hx := And.intro @c1 (And.intro @c2 hx0)
       refine u_reg ?_
       try refine lg_mk ?_
       refine u_pt ?_
       refine u_ld ?_
       refine u_bn ?_
       refine lg_nil ?_
       have hx := hx0
       refine h66 _ ?_; clear h66; try clear N66
       refine u_cond (fun hb67 => ?_) (fun hb67 => ?_)
       ·first | omega | exact absurd trivial hb67 | contradiction | (simp_all; done)
       ·refine vc_skip ?_
        try simp only [k_rules]
        refine h65 _ ?_; clear h65; try clear N65
        refine vc_seq_k fun N68 h68 => ?_
        have hx := And.intro @c1 (And.intro @c2 hx0)
        refine u_reg ?_
        try refine lg_mk ?_
        refine u_pt ?_
        refine u_ld ?_
        refine u_bn ?_
        refine u_mv ?_
        refine g_mv ?_
        refine g_mv ?_
        refine g_ld ?_
        have hc := call_rule (E := (E_evr.at_ 57)) (f := 28) (sp := Spec.pure evRG) rfl
        have hs := @evRG.eq_1
        refine t_hp (hq := by (first | ((repeat' apply And.intro) <;> first | rfl | omega | exact hv | exact hsm | exact hok) | exact sd_)) ?_
        have hc := call_rule (E := (E_evr.at_ 57)) (f := 27) (sp := Spec.pure boolsG) rfl
        have hs := @boolsG.eq_1
        refine s_cp (hq := by (intro hg; (try simp only [b_rules, bif_and, bif_or] at hg); (first | ((repeat' apply And.intro) <;> first | rfl | omega | exact hv | exact hsm | exact hok) | exact sd_))) ?_
        refine u_pk ?_
        refine u_mv ?_
        refine lg_nil ?_
        have hx := hx0
        refine h68 _ ?_; clear h68; try clear N68
        refine vc_ret ?_
        try simp only [k_rules]
        refine fin2_ ?_
        (repeat' apply And.intro) <;> (first | (first | rfl | trivial | (simp; done)) | exact cl_)
    exact at_end
 ·cases hg
end Go.Proofs.YtlbjffdaooadoaaDoor
