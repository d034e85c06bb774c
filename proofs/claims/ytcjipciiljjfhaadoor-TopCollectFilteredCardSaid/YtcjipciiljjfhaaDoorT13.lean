/- Walks, printed by wip/gen/walk.py. -/
import Derived.Test.YtcjipciiljjfhaaDoorT12
import Derived.Test.YtcjipciiljjfhaaDoorV5
set_option linter.all false
set_option maxRecDepth 100000
set_option maxHeartbeats 4000000
namespace Go.Proofs.YtcjipciiljjfhaaDoor
open Go Go.Vc Go.RowKit
theorem putO_meets : Meets Tryd.prog 9 (Spec.pure putG) := by
 refine meets_fun (E_addO.at_ 47) Tryd.func9 rfl rfl rfl ?_
 intro args p r hg hp
 unfold putG at hg
 split at hg
 ·rename_i xs k ls ds
  simp only [Option.some.injEq, Prod.mk.injEq] at hg
  obtain ⟨rfl, rfl⟩ := hg
  obtain ⟨he, hl, hsm, e1, e2, hob⟩ := hp
  generalize dO xs = S at *
  generalize dI ls = l at *
  generalize dU ds = u at *
  subst he e1 e2
  obtain ⟨hob1, hob2⟩ := hob
  dsimp only at hob1 hob2
  have hT : (E_addO).X = T := rfl
  have hx0 := And.intro @rect_eO (And.intro @dI_rows (And.intro @dU_rows (And.intro @dO_rows (And.intro @takeS_len @Tryd.results9))))
  have hx := hx0
  refine ⟨by rfl, ?_⟩
  intro F W0 hnp hmk
  refine vc_seq_k fun N1 h1 => ?_
  refine u_reg ?_
  try refine lg_mk ?_
  refine u_bx ?_
  refine u_bx ?_
  refine u_al ?_
  refine u_mv ?_
  refine u_al ?_
  refine lg_nil ?_
  refine h1 _ ?_; clear h1; try clear N1
  refine vc_seq_k fun N2 h2 => ?_
  refine vc_seq_k fun N3 h3 => ?_
  refine u_reg ?_
  try refine lg_mk ?_
  refine u_ld ?_
  have hc := call_rule (E := (E_addO.at_ 47)) (f := 11) (sp := Spec.pure valG) rfl
  have hs := @valG.eq_1
  refine u_cp (hq := by (first | (first | exact ⟨hl, hsm⟩ | exact ⟨rfl, hl, hsm⟩) | exact sd_)) ?_
  refine u_al ?_
  refine u_st ?_
  refine lg_nil ?_
  refine h3 _ ?_; clear h3; try clear N3
  refine vc_seq_k fun N4 h4 => ?_
  rcases stF_or S with ⟨hvx, hv⟩ | hvx
  ·have hz1 : (stF S).1 = 0 := by rw [hvx]
   have hz2 : (stF S).2 = 0 := by rw [hvx]
   have hlen := hv.len
   refine u_reg ?_
   try refine lg_mk ?_
   refine u_ld ?_
   refine u_bd ?_
   refine u_bn ?_
   refine lg_nil ?_
   refine h4 _ ?_; clear h4; try clear N4
   refine u_cond (fun hb5 => ?_) (fun hb5 => ?_)
   ·exact absurd (And.intro hz1 hz2) (by have := hb5; simpa using this)
   ·refine vc_skip ?_
    try simp only [k_rules]
    refine h2 _ ?_; clear h2; try clear N2
    refine vc_seq_k fun N6 h6 => ?_
    refine u_reg ?_
    try refine lg_mk ?_
    refine u_ld ?_
    have hc := call_rule (E := (E_addO.at_ 47)) (f := 17) (sp := Spec.pure digestG) rfl
    have hs := @digestG.eq_1
    refine u_cp (hq := by (first | (exact ⟨hob1, hob2⟩) | exact sd_)) ?_
    refine u_mv ?_
    refine u_ex ?_
    refine u_ex ?_
    refine u_al ?_
    refine u_mv ?_
    refine u_st ?_
    refine lg_nil ?_
    refine h6 _ ?_; clear h6; try clear N6
    refine vc_seq_k fun N7 h7 => ?_
    refine vc_seq_k fun N8 h8 => ?_
    rcases objF_or2 ⟨k, l, u⟩ with ⟨hwx, hov⟩ | hwx
    ·have hw1 : (objF ⟨k, l, u⟩).1 = 0 := by rw [hwx]
     have hw2 : (objF ⟨k, l, u⟩).2 = 0 := by rw [hwx]
     have hd0 : objD0 ⟨k, l, u⟩ = objD ⟨k, l, u⟩ := by unfold objD0; rw [if_neg (by rw [hw1]; simp)]
     have hol : l.length ≤ 30 := hov.ln
     refine u_reg ?_
     try refine lg_mk ?_
     refine u_ld ?_
     refine u_bd ?_
     refine u_bn ?_
     refine lg_nil ?_
     refine h8 _ ?_; clear h8; try clear N8
     refine u_cond (fun hb9 => ?_) (fun hb9 => ?_)
     ·exact absurd (And.intro hw1 hw2) (by have := hb9; simpa using this)
     ·refine vc_skip ?_
      try simp only [k_rules]
      refine h7 _ ?_; clear h7; try clear N7
      refine vc_seq_k fun N10 h10 => ?_
      refine u_reg ?_
      try refine lg_mk ?_
      refine u_ld ?_
      have hc := call_rule (E := (E_addO.at_ 47)) (f := 15) (sp := Spec.fresh copyG) rfl
      have hs := @copyG.eq_1
      refine u_hg (hq := by (first | (exact hv) | exact sd_)) ?_
      refine u_al ?_
      refine u_st ?_
      refine lg_nil ?_
      refine h10 _ ?_; clear h10; try clear N10
      refine vc_seq_k fun N11 h11 => ?_
      refine vc_seq_k fun N12 h12 => ?_
      rcases put_cases hv hov with ⟨hin, _, hmm, g1, g2, g3⟩ | ⟨hin, _, hmm, g1, g2, g3⟩ | ⟨hin, hfl, g1, g2, g3⟩ | ⟨hin, hfl, g1, g2, g3⟩
      ·have hA : bAdd 24 S ⟨objD ⟨k, l, u⟩, ⟨k, l, u⟩⟩ = _ := if_pos hin
       have hB : rAdd S ⟨objD ⟨k, l, u⟩, ⟨k, l, u⟩⟩ = true := by unfold rAdd; dsimp only; rw [hin]; exact decide_eq_true hmm
       have haL := addS_len S ⟨objD ⟨k, l, u⟩, ⟨k, l, u⟩⟩
       have hx := And.intro @hA (And.intro @hB (And.intro @hd0 hx0))
       refine u_reg ?_
       try refine lg_mk ?_
       refine u_mv ?_
       refine u_ld ?_
       have hc := call_rule (E := (E_addO.at_ 47)) (f := 18) (sp := Spec.gen addG) rfl
       have hs := @addG.eq_1
       refine u_hg (hq := by (first | (exact ⟨hv, hov⟩) | exact sd_)) ?_
       refine u_un ?_
       refine lg_nil ?_
       have hx := hx0
       refine h12 _ ?_; clear h12; try clear N12
       refine u_cond (fun hb13 => ?_) (fun hb13 => ?_)
       ·cases hb13
       ·refine vc_skip ?_
        try simp only [k_rules]
        refine h11 _ ?_; clear h11; try clear N11
        refine vc_seq_k fun N14 h14 => ?_
        refine vc_seq_k fun N15 h15 => ?_
        refine u_reg ?_
        try refine lg_mk ?_
        refine u_pt ?_
        refine u_ld ?_
        refine u_ln ?_
        refine u_bn ?_
        refine lg_nil ?_
        refine h15 _ ?_; clear h15; try clear N15
        refine u_cond (fun hb16 => ?_) (fun hb16 => ?_)
        ·first | omega | exact absurd trivial hb16 | contradiction | (simp_all; done)
        ·refine vc_skip ?_
         try simp only [k_rules]
         refine h14 _ ?_; clear h14; try clear N14
         refine vc_seq_k fun N17 h17 => ?_
         refine u_reg ?_
         try refine lg_mk ?_
         refine u_ld ?_
         refine u_mv ?_
         refine u_bd ?_
         refine u_st ?_
         refine u_mv ?_
         refine u_st ?_
         refine lg_nil ?_
         refine h17 _ ?_; clear h17; try clear N17
         refine vc_ret ?_
         try simp only [k_rules]
         rw [g1, g2, g3]
         refine fin2_ ?_
         (repeat' apply And.intro) <;> (first | (first | rfl | omega | exact Or.inl rfl | (left; rw [hd0]; done) | trivial | (simp; done)) | exact cl_)
      ·have hA : bAdd 24 S ⟨objD ⟨k, l, u⟩, ⟨k, l, u⟩⟩ = _ := if_pos hin
       have hB : rAdd S ⟨objD ⟨k, l, u⟩, ⟨k, l, u⟩⟩ = false := by unfold rAdd; dsimp only; rw [hin]; exact decide_eq_false hmm
       have haL := addS_len S ⟨objD ⟨k, l, u⟩, ⟨k, l, u⟩⟩
       have hx := And.intro @hA (And.intro @hB (And.intro @hd0 hx0))
       refine u_reg ?_
       try refine lg_mk ?_
       refine u_mv ?_
       refine u_ld ?_
       have hc := call_rule (E := (E_addO.at_ 47)) (f := 18) (sp := Spec.gen addG) rfl
       have hs := @addG.eq_1
       refine u_hg (hq := by (first | (exact ⟨hv, hov⟩) | exact sd_)) ?_
       refine u_un ?_
       refine lg_nil ?_
       have hx := hx0
       refine h12 _ ?_; clear h12; try clear N12
       refine u_cond (fun hb18 => ?_) (fun hb18 => ?_)
       ·refine vc_seq_k fun N19 h19 => ?_
        refine u_reg ?_
        try refine lg_mk ?_
        refine u_bd ?_
        refine u_bd ?_
        refine u_st ?_
        refine u_mv ?_
        refine u_st ?_
        refine lg_nil ?_
        refine h19 _ ?_; clear h19; try clear N19
        refine vc_ret ?_
        try simp only [k_rules]
        rw [g1, g2, g3]
        refine fin2_ ?_
        (repeat' apply And.intro) <;> (first | (first | rfl | omega | exact Or.inl rfl | (left; rw [hd0]; done) | trivial | (simp; done)) | exact cl_)
       ·cases hb18
      ·have hA : bAdd 24 S ⟨objD ⟨k, l, u⟩, ⟨k, l, u⟩⟩ = _ := if_neg (by dsimp only; rw [hin]; simp)
       have hB : rAdd S ⟨objD ⟨k, l, u⟩, ⟨k, l, u⟩⟩ = true := by unfold rAdd; dsimp only; rw [hin]; rfl
       have haL := addS_len S ⟨objD ⟨k, l, u⟩, ⟨k, l, u⟩⟩
       have hx := And.intro @hA (And.intro @hB (And.intro @hd0 hx0))
       refine u_reg ?_
       try refine lg_mk ?_
       refine u_mv ?_
       refine u_ld ?_
       have hc := call_rule (E := (E_addO.at_ 47)) (f := 18) (sp := Spec.gen addG) rfl
       have hs := @addG.eq_1
       refine u_hg (hq := by (first | (exact ⟨hv, hov⟩) | exact sd_)) ?_
       refine u_un ?_
       refine lg_nil ?_
       have hx := hx0
       refine h12 _ ?_; clear h12; try clear N12
       refine u_cond (fun hb20 => ?_) (fun hb20 => ?_)
       ·cases hb20
       ·refine vc_skip ?_
        try simp only [k_rules]
        refine h11 _ ?_; clear h11; try clear N11
        refine vc_seq_k fun N21 h21 => ?_
        refine vc_seq_k fun N22 h22 => ?_
        refine u_reg ?_
        try refine lg_mk ?_
        refine u_pt ?_
        refine u_ld ?_
        refine u_ln ?_
        refine u_bn ?_
        refine lg_nil ?_
        refine h22 _ ?_; clear h22; try clear N22
        refine u_cond (fun hb23 => ?_) (fun hb23 => ?_)
        ·refine vc_seq_k fun N24 h24 => ?_
         refine u_reg ?_
         try refine lg_mk ?_
         refine u_bd ?_
         refine u_bd ?_
         refine u_st ?_
         refine u_mv ?_
         refine u_st ?_
         refine lg_nil ?_
         refine h24 _ ?_; clear h24; try clear N24
         refine vc_ret ?_
         try simp only [k_rules]
         rw [g1, g2, g3]
         refine fin2_ ?_
         (repeat' apply And.intro) <;> (first | (first | rfl | omega | exact Or.inl rfl | (left; rw [hd0]; done) | trivial | (simp; done)) | exact cl_)
        ·first | omega | exact absurd trivial hb23 | contradiction | (simp_all; done)
      ·have hA : bAdd 24 S ⟨objD ⟨k, l, u⟩, ⟨k, l, u⟩⟩ = _ := if_neg (by dsimp only; rw [hin]; simp)
       have hB : rAdd S ⟨objD ⟨k, l, u⟩, ⟨k, l, u⟩⟩ = true := by unfold rAdd; dsimp only; rw [hin]; rfl
       have haL := addS_len S ⟨objD ⟨k, l, u⟩, ⟨k, l, u⟩⟩
       have hx := And.intro @hA (And.intro @hB (And.intro @hd0 hx0))
       refine u_reg ?_
       try refine lg_mk ?_
       refine u_mv ?_
       refine u_ld ?_
       have hc := call_rule (E := (E_addO.at_ 47)) (f := 18) (sp := Spec.gen addG) rfl
       have hs := @addG.eq_1
       refine u_hg (hq := by (first | (exact ⟨hv, hov⟩) | exact sd_)) ?_
       refine u_un ?_
       refine lg_nil ?_
       have hx := hx0
       refine h12 _ ?_; clear h12; try clear N12
       refine u_cond (fun hb25 => ?_) (fun hb25 => ?_)
       ·cases hb25
       ·refine vc_skip ?_
        try simp only [k_rules]
        refine h11 _ ?_; clear h11; try clear N11
        refine vc_seq_k fun N26 h26 => ?_
        refine vc_seq_k fun N27 h27 => ?_
        refine u_reg ?_
        try refine lg_mk ?_
        refine u_pt ?_
        refine u_ld ?_
        refine u_ln ?_
        refine u_bn ?_
        refine lg_nil ?_
        refine h27 _ ?_; clear h27; try clear N27
        refine u_cond (fun hb28 => ?_) (fun hb28 => ?_)
        ·first | omega | exact absurd trivial hb28 | contradiction | (simp_all; done)
        ·refine vc_skip ?_
         try simp only [k_rules]
         refine h26 _ ?_; clear h26; try clear N26
         refine vc_seq_k fun N29 h29 => ?_
         refine u_reg ?_
         try refine lg_mk ?_
         refine u_ld ?_
         refine u_mv ?_
         refine u_bd ?_
         refine u_st ?_
         refine u_mv ?_
         refine u_st ?_
         refine lg_nil ?_
         refine h29 _ ?_; clear h29; try clear N29
         refine vc_ret ?_
         try simp only [k_rules]
         rw [g1, g2, g3]
         have hta := List.take_of_length_le (Nat.le_of_eq haL)
         refine fin2_ ?_
         (repeat' apply And.intro) <;> (first | (first | rfl | omega | (rw [hta]; done) | exact Or.inl rfl | (left; rw [hd0]; done) | trivial) | exact cl_)
    ·have hw1 := hwx
     refine u_reg ?_
     try refine lg_mk ?_
     refine u_ld ?_
     refine u_bd ?_
     refine u_bn ?_
     refine lg_nil ?_
     refine h8 _ ?_; clear h8; try clear N8
     refine u_cond (fun hb30 => ?_) (fun hb30 => ?_)
     ·refine vc_seq_k fun N31 h31 => ?_
      refine vc_regT [] (.seq [0] (.alt 1 (.alt 2 (.alt 3 (.seq [4, 5, 6] .nil) (.alt 4 (.seq [3, 5, 6] .nil) .nil)) (.alt 4 (.seq [2, 3, 5, 6] .nil) .nil)) (.alt 4 (.seq [1, 2, 3, 5, 6] .nil) .nil))) hmix (by kernel_rfl) ?_
      refine at_seq ?_
      simp only [pick_rules, list_rules]
      try refine lg_mk ?_
      refine u_bd ?_
      refine lg_nil ?_
      refine at_alt ?_ ?_
      ·simp only [pick_rules, list_rules]
       try refine lg_mk ?_
       refine u_pt ?_
       refine lg_nil ?_
       refine at_alt ?_ ?_
       ·simp only [pick_rules, list_rules]
        try refine lg_mk ?_
        refine u_ld ?_
        refine lg_nil ?_
        refine at_alt ?_ ?_
        ·simp only [pick_rules, list_rules]
         try refine lg_mk ?_
         refine u_bd ?_
         refine lg_nil ?_
         refine at_seq ?_
         simp only [pick_rules, list_rules]
         try refine lg_mk ?_
         refine u_st ?_
         refine u_mv ?_
         refine u_st ?_
         refine lg_nil ?_
         refine at_nil ?_
         refine h31 _ ?_; clear h31; try clear N31
         refine vc_ret ?_
         try simp only [k_rules]
         have hr : putF S ⟨k, l, u⟩ = ((objF ⟨k, l, u⟩).1, -1) := by unfold putF; rw [if_neg (by rw [hz1]; simp), if_pos hw1]
         obtain ⟨b1, b2⟩ := put_bad hr (hw1)
         rw [hr, b1, b2]
         refine fin2_ ?_
         exact cl_
        refine at_alt ?_ ?_
        ·simp only [pick_rules, list_rules]
         try refine lg_mk ?_
         refine u_st ?_
         refine lg_nil ?_
         refine at_seq ?_
         simp only [pick_rules, list_rules]
         try refine lg_mk ?_
         refine u_bd ?_
         refine u_mv ?_
         refine u_st ?_
         refine lg_nil ?_
         refine at_nil ?_
         refine h31 _ ?_; clear h31; try clear N31
         refine vc_ret ?_
         try simp only [k_rules]
         have hr : putF S ⟨k, l, u⟩ = ((objF ⟨k, l, u⟩).1, -1) := by unfold putF; rw [if_neg (by rw [hz1]; simp), if_pos hw1]
         obtain ⟨b1, b2⟩ := put_bad hr (hw1)
         rw [hr, b1, b2]
         refine fin2_ ?_
         exact cl_
        exact at_end
       refine at_alt ?_ ?_
       ·simp only [pick_rules, list_rules]
        try refine lg_mk ?_
        refine u_st ?_
        refine lg_nil ?_
        refine at_seq ?_
        simp only [pick_rules, list_rules]
        try refine lg_mk ?_
        refine u_ld ?_
        refine u_bd ?_
        refine u_mv ?_
        refine u_st ?_
        refine lg_nil ?_
        refine at_nil ?_
        refine h31 _ ?_; clear h31; try clear N31
        refine vc_ret ?_
        try simp only [k_rules]
        have hr : putF S ⟨k, l, u⟩ = ((objF ⟨k, l, u⟩).1, -1) := by unfold putF; rw [if_neg (by rw [hz1]; simp), if_pos hw1]
        obtain ⟨b1, b2⟩ := put_bad hr (hw1)
        rw [hr, b1, b2]
        refine fin2_ ?_
        exact cl_
       exact at_end
      refine at_alt ?_ ?_
      ·simp only [pick_rules, list_rules]
       try refine lg_mk ?_
       refine u_st ?_
       refine lg_nil ?_
       refine at_seq ?_
       simp only [pick_rules, list_rules]
       try refine lg_mk ?_
       refine u_pt ?_
       refine u_ld ?_
       refine u_bd ?_
       refine u_mv ?_
       refine u_st ?_
       refine lg_nil ?_
       refine at_nil ?_
       refine h31 _ ?_; clear h31; try clear N31
       refine vc_ret ?_
       try simp only [k_rules]
       have hr : putF S ⟨k, l, u⟩ = ((objF ⟨k, l, u⟩).1, -1) := by unfold putF; rw [if_neg (by rw [hz1]; simp), if_pos hw1]
       obtain ⟨b1, b2⟩ := put_bad hr (hw1)
       rw [hr, b1, b2]
       refine fin2_ ?_
       exact cl_
      exact at_end
     ·exact absurd (show (objF ⟨k, l, u⟩).1 = 0 by have := hb30; first | exact this.1 | exact (Classical.not_not.1 this).1 | (simp at this; exact this.1)) hw1
  ·have hz1 := hvx
   refine u_reg ?_
   try refine lg_mk ?_
   refine u_ld ?_
   refine u_bd ?_
   refine u_bn ?_
   refine lg_nil ?_
   refine h4 _ ?_; clear h4; try clear N4
   refine u_cond (fun hb32 => ?_) (fun hb32 => ?_)
   ·refine vc_seq_k fun N33 h33 => ?_
    refine vc_regT [] (.seq [0] (.alt 1 (.seq [2, 3, 4] .nil) (.alt 2 (.seq [1, 3, 4] .nil) .nil))) hmix (by kernel_rfl) ?_
    refine at_seq ?_
    simp only [pick_rules, list_rules]
    try refine lg_mk ?_
    refine u_bd ?_
    refine lg_nil ?_
    refine at_alt ?_ ?_
    ·simp only [pick_rules, list_rules]
     try refine lg_mk ?_
     refine u_ld ?_
     refine lg_nil ?_
     refine at_seq ?_
     simp only [pick_rules, list_rules]
     try refine lg_mk ?_
     refine u_st ?_
     refine u_mv ?_
     refine u_st ?_
     refine lg_nil ?_
     refine at_nil ?_
     refine h33 _ ?_; clear h33; try clear N33
     refine vc_ret ?_
     try simp only [k_rules]
     have hr : putF S ⟨k, l, u⟩ = stF S := by unfold putF; rw [if_pos hz1]
     obtain ⟨b1, b2⟩ := put_bad hr (hz1)
     rw [hr, b1, b2]
     refine fin2_ ?_
     exact cl_
    refine at_alt ?_ ?_
    ·simp only [pick_rules, list_rules]
     try refine lg_mk ?_
     refine u_st ?_
     refine lg_nil ?_
     refine at_seq ?_
     simp only [pick_rules, list_rules]
     try refine lg_mk ?_
     refine u_ld ?_
     refine u_mv ?_
     refine u_st ?_
     refine lg_nil ?_
     refine at_nil ?_
     refine h33 _ ?_; clear h33; try clear N33
     refine vc_ret ?_
     try simp only [k_rules]
     have hr : putF S ⟨k, l, u⟩ = stF S := by unfold putF; rw [if_pos hz1]
     obtain ⟨b1, b2⟩ := put_bad hr (hz1)
     rw [hr, b1, b2]
     refine fin2_ ?_
     exact cl_
    exact at_end
   ·exact absurd (show (stF S).1 = 0 by have := hb32; first | exact this.1 | exact (Classical.not_not.1 this).1 | (simp at this; exact this.1)) hz1
 ·cases hg

def E_putO : Env Tryd.prog := E_addO.add 9 (Spec.pure putG) putO_meets (by kernel_rfl)
end Go.Proofs.YtcjipciiljjfhaaDoor
