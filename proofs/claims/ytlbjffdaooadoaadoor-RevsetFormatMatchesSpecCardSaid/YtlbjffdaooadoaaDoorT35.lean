/- Walks, printed by wip/gen/walk.py. -/
import Derived.Test.YtlbjffdaooadoaaDoorT34
import Derived.Test.YtlbjffdaooadoaaDoorV5
set_option linter.all false
set_option maxRecDepth 100000
set_option maxHeartbeats 4000000
namespace Go.Proofs.YtlbjffdaooadoaaDoor
open Go Go.Vc Go.RowKit
theorem val_code {q : List Nd} (h : valQ q ≠ (0, 0)) : (valQ q).1 ≠ 0 := by
  intro h0
  unfold valQ at h h0
  split at h
  · rename_i h1; rw [if_pos h1] at h0; exact absurd h0 (by decide)
  · rename_i h1
    rw [if_neg h1] at h0
    split at h
    · rename_i h2; rw [if_pos h2] at h0; exact h2 h0
    · rename_i h2
      rw [if_neg h2] at h0
      split at h
      · rename_i h3; rw [if_pos h3] at h0; exact absurd h0 (by decide)
      · exact h rfl

theorem law_cases (q : List Nd) : (valQ q = (0, 0) ∧ ∃ S, shQ q 41 (q.length - 1) 0 = some S ∧ S.length ≤ 1000 ∧ 300 < S.length) ∨ (valQ q = (0, 0) ∧ ∃ S, shQ q 41 (q.length - 1) 0 = some S ∧ S.length ≤ 300) ∨ valQ q ≠ (0, 0) := by
  by_cases hv : valQ q = (0, 0)
  · obtain ⟨hok, _⟩ := ok_of_val hv
    obtain ⟨S, hS, hSl⟩ := shQ_tot hok 41 (q.length - 1) 0 (by have := hok.1; have := hok.2.1; omega) (by have := hok.1; omega)
    have hSz := (szI_le hok (i := q.length - 1) (by have := hok.1; omega)).2
    have := hok.2.1
    by_cases hl : 300 < S.length
    · exact .inl ⟨hv, S, hS, by omega, hl⟩
    · exact .inr (.inl ⟨hv, S, hS, by omega⟩)
  · exact .inr (.inr hv)

theorem lawF_meets : Meets Tryd.prog 9 (Spec.pure lawQG) := by
 refine meets_fun (E_rtA.at_ 50) Tryd.func9 rfl rfl rfl ?_
 intro args p r hg hp
 unfold lawQG at hg
 split at hg
 ·rename_i xs
  simp only [Option.some.injEq, Prod.mk.injEq] at hg
  obtain ⟨rfl, rfl⟩ := hg
  obtain ⟨he, hl⟩ := hp
  generalize dN xs = q at *
  subst he
  have hT : (E_rtA).X = T := rfl
  have hx0 := And.intro @rect_eN (And.intro @dN_rows (And.intro @dec_t (And.intro @dec_f (And.intro @getD_bs @Tryd.results9))))
  have hx := hx0
  refine ⟨by rfl, ?_⟩
  intro F W0 hnp hmk
  refine vc_seq_k fun N1 h1 => ?_
  refine u_reg ?_
  try refine lg_mk ?_
  refine u_bx ?_
  refine u_mv ?_
  refine lg_nil ?_
  refine h1 _ ?_; clear h1; try clear N1
  refine vc_seq_k fun N2 h2 => ?_
  refine vc_seq_k fun N3 h3 => ?_
  refine u_reg ?_
  try refine lg_mk ?_
  have hc := call_rule (E := (E_rtA.at_ 50)) (f := 22) (sp := Spec.pure exG) rfl
  have hs := @exG.eq_1
  refine u_cp ?_
  refine u_un ?_
  refine lg_nil ?_
  refine h3 _ ?_; clear h3; try clear N3
  refine u_cond (fun hb4 => ?_) (fun hb4 => ?_)
  ·first | omega | exact absurd trivial hb4 | contradiction | (simp_all; done)
  ·refine vc_skip ?_
   try simp only [k_rules]
   refine h2 _ ?_; clear h2; try clear N2
   refine vc_seq_k fun N5 h5 => ?_
   rcases law_cases q with ⟨hv, S, hS, hSl, hl3⟩ | ⟨hv, S, hS, hl3⟩ | hv
   ·have hrv : refQ q = (0, 0) := by rw [refQ_is]; exact hv
    have hr1 : (refQ q).1 = 0 := by rw [hrv]
    have hr2 : (refQ q).2 = 0 := by rw [hrv]
    obtain ⟨⟨h1, h40, hrf⟩, hrt⟩ := ok_of_val hv
    have hokN := ok_N (q := q) ⟨h1, h40, hrf⟩
    have hqm : ((q.length : Int) - 1).toNat = q.length - 1 := by omega
    have hff : fmtQ q = (10, -2, []) := by unfold fmtQ; rw [if_neg (by rw [hv]; simp), hS, getD_bs, if_pos hl3]
    have hx := And.intro @hff hx0
    refine u_reg ?_
    try refine lg_mk ?_
    refine u_ld ?_
    have hc := call_rule (E := (E_rtA.at_ 50)) (f := 31) (sp := Spec.pure fmtG) rfl
    have hs := @fmtG.eq_1
    refine u_cp ?_
    refine u_mv ?_
    refine u_ex ?_
    refine u_ex ?_
    refine u_al ?_
    refine u_mv ?_
    refine u_st ?_
    refine lg_nil ?_
    have hx := hx0
    refine h5 _ ?_; clear h5; try clear N5
    refine vc_seq_k fun N6 h6 => ?_
    have hx := And.intro @hr1 (And.intro @hr2 hx0)
    refine u_reg ?_
    try refine lg_mk ?_
    refine u_ld ?_
    have hc := call_rule (E := (E_rtA.at_ 50)) (f := 17) (sp := Spec.pure refQG) rfl
    have hs := @refQG.eq_1
    refine u_cp ?_
    refine u_al ?_
    refine u_st ?_
    refine lg_nil ?_
    have hx := hx0
    refine h6 _ ?_; clear h6; try clear N6
    refine vc_seq_k fun N7 h7 => ?_
    refine u_reg ?_
    try refine lg_mk ?_
    refine u_mv ?_
    refine lg_nil ?_
    refine h7 _ ?_; clear h7; try clear N7
    refine vc_seq_k fun N8 h8 => ?_
    refine vc_seq_k fun N9 h9 => ?_
    refine u_reg ?_
    try refine lg_mk ?_
    refine u_pt ?_
    refine u_ld ?_
    refine u_bn ?_
    refine lg_nil ?_
    refine h9 _ ?_; clear h9; try clear N9
    refine u_cond (fun hb10 => ?_) (fun hb10 => ?_)
    ·refine vc_seq_k fun N11 h11 => ?_
     have hx := And.intro @hqm (And.intro @hS hx0)
     refine u_reg ?_
     try refine lg_mk ?_
     refine u_ld ?_
     refine u_pt ?_
     refine u_ld ?_
     refine u_ln ?_
     refine u_bn ?_
     have hc := call_rule (E := (E_rtA.at_ 50)) (f := 32) (sp := Spec.pure (rtG 41)) rfl
     have hs := @rtG.eq_1
     refine u_cp (hq := by (first | ((repeat' apply And.intro) <;> first | rfl | omega | exact hokN.2 | (rw [hS]; rfl) | (simp [hS]; done)) | exact sd_)) ?_
     refine u_mv ?_
     refine u_ex ?_
     refine u_ex ?_
     refine u_mv ?_
     refine lg_nil ?_
     have hx := hx0
     refine h11 _ ?_; clear h11; try clear N11
     refine vc_seq_k fun N12 h12 => ?_
     refine u_reg ?_
     try refine lg_mk ?_
     refine u_mv (hq := by (first | (omega) | exact sd_)) ?_
     refine u_ln (hq := by (first | (omega) | exact sd_)) ?_
     refine u_bn (hq := by (first | (omega) | exact sd_)) ?_
     refine lg_nil ?_
     refine h12 _ ?_; clear h12; try clear N12
     refine u_cond (fun hb13 => ?_) (fun hb13 => ?_)
     ·refine u_reg ?_
      try refine lg_mk ?_
      have hc := call_rule (E := (E_rtA.at_ 50)) (f := 26) (sp := Spec.pure faultG) rfl
      have hs := @faultG.eq_1
      refine u_cp ?_
      refine u_st ?_
      refine lg_nil ?_
      refine h8 _ ?_; clear h8; try clear N8
      refine vc_seq_k fun N14 h14 => ?_
      refine vc_seq_k fun N15 h15 => ?_
      refine u_reg ?_
      try refine lg_mk ?_
      refine u_pt ?_
      refine u_ld ?_
      refine u_bn ?_
      refine lg_nil ?_
      refine h15 _ ?_; clear h15; try clear N15
      refine u_cond (fun hb16 => ?_) (fun hb16 => ?_)
      ·refine vc_seq_k fun N17 h17 => ?_
       refine u_reg ?_
       try refine lg_mk ?_
       refine u_ld ?_
       refine u_ld ?_
       refine u_bn ?_
       refine u_mv ?_
       refine g_mv ?_
       refine g_bn ?_
       refine u_pk ?_
       refine u_mv ?_
       refine lg_nil ?_
       refine h17 _ ?_; clear h17; try clear N17
       refine vc_ret ?_
       try simp only [k_rules]
       refine fin2_ ?_
       (repeat' apply And.intro) <;> (first | (first | rfl | trivial | (simp; done) | (simp [hr1, hr2]; done)) | exact cl_)
      ·first | omega | exact absurd trivial hb16 | contradiction | (simp_all; done)
     ·first | omega | exact absurd trivial hb13 | contradiction | (simp_all; done)
    ·first | omega | exact absurd trivial hb10 | contradiction | (simp_all; done)
   ·have hrv : refQ q = (0, 0) := by rw [refQ_is]; exact hv
    have hr1 : (refQ q).1 = 0 := by rw [hrv]
    have hr2 : (refQ q).2 = 0 := by rw [hrv]
    obtain ⟨⟨h1, h40, hrf⟩, hrt⟩ := ok_of_val hv
    have hokN := ok_N (q := q) ⟨h1, h40, hrf⟩
    have hqm : ((q.length : Int) - 1).toNat = q.length - 1 := by omega
    have hff : fmtQ q = (0, 0, S) := by unfold fmtQ; rw [if_neg (by rw [hv]; simp), hS, getD_bs, if_neg (by omega)]
    have hx := And.intro @hff hx0
    refine u_reg ?_
    try refine lg_mk ?_
    refine u_ld ?_
    have hc := call_rule (E := (E_rtA.at_ 50)) (f := 31) (sp := Spec.pure fmtG) rfl
    have hs := @fmtG.eq_1
    refine u_cp ?_
    refine u_mv ?_
    refine u_ex ?_
    refine u_ex ?_
    refine u_al ?_
    refine u_mv ?_
    refine u_st ?_
    refine lg_nil ?_
    have hx := hx0
    refine h5 _ ?_; clear h5; try clear N5
    refine vc_seq_k fun N18 h18 => ?_
    have hx := And.intro @hr1 (And.intro @hr2 hx0)
    refine u_reg ?_
    try refine lg_mk ?_
    refine u_ld ?_
    have hc := call_rule (E := (E_rtA.at_ 50)) (f := 17) (sp := Spec.pure refQG) rfl
    have hs := @refQG.eq_1
    refine u_cp ?_
    refine u_al ?_
    refine u_st ?_
    refine lg_nil ?_
    have hx := hx0
    refine h18 _ ?_; clear h18; try clear N18
    refine vc_seq_k fun N19 h19 => ?_
    refine u_reg ?_
    try refine lg_mk ?_
    refine u_mv ?_
    refine lg_nil ?_
    refine h19 _ ?_; clear h19; try clear N19
    refine vc_seq_k fun N20 h20 => ?_
    refine vc_seq_k fun N21 h21 => ?_
    refine u_reg ?_
    try refine lg_mk ?_
    refine u_pt ?_
    refine u_ld ?_
    refine u_bn ?_
    refine lg_nil ?_
    refine h21 _ ?_; clear h21; try clear N21
    refine u_cond (fun hb22 => ?_) (fun hb22 => ?_)
    ·refine vc_seq_k fun N23 h23 => ?_
     have hx := And.intro @hqm (And.intro @hS hx0)
     refine u_reg ?_
     try refine lg_mk ?_
     refine u_ld ?_
     refine u_pt ?_
     refine u_ld ?_
     refine u_ln ?_
     refine u_bn ?_
     have hc := call_rule (E := (E_rtA.at_ 50)) (f := 32) (sp := Spec.pure (rtG 41)) rfl
     have hs := @rtG.eq_1
     refine u_cp (hq := by (first | ((repeat' apply And.intro) <;> first | rfl | omega | exact hokN.2 | (rw [hS]; rfl) | (simp [hS]; done)) | exact sd_)) ?_
     refine u_mv ?_
     refine u_ex ?_
     refine u_ex ?_
     refine u_mv ?_
     refine lg_nil ?_
     have hx := hx0
     refine h23 _ ?_; clear h23; try clear N23
     refine vc_seq_k fun N24 h24 => ?_
     refine u_reg ?_
     try refine lg_mk ?_
     refine u_mv (hq := by (first | (omega) | exact sd_)) ?_
     refine u_ln (hq := by (first | (omega) | exact sd_)) ?_
     refine u_bn (hq := by (first | (omega) | exact sd_)) ?_
     refine lg_nil ?_
     refine h24 _ ?_; clear h24; try clear N24
     refine u_cond (fun hb25 => ?_) (fun hb25 => ?_)
     ·first | omega | exact absurd trivial hb25 | contradiction | (simp_all; done)
     ·refine vc_skip ?_
      try simp only [k_rules]
      refine h20 _ ?_; clear h20; try clear N20
      refine vc_seq_k fun N26 h26 => ?_
      refine vc_seq_k fun N27 h27 => ?_
      refine u_reg ?_
      try refine lg_mk ?_
      refine u_pt ?_
      refine u_ld ?_
      refine u_bn ?_
      refine lg_nil ?_
      refine h27 _ ?_; clear h27; try clear N27
      refine u_cond (fun hb28 => ?_) (fun hb28 => ?_)
      ·first | omega | exact absurd trivial hb28 | contradiction | (simp_all; done)
      ·refine vc_skip ?_
       try simp only [k_rules]
       refine h26 _ ?_; clear h26; try clear N26
       refine vc_seq_k fun N29 h29 => ?_
       refine u_reg ?_
       try refine lg_mk ?_
       refine u_pt ?_
       refine u_ld ?_
       refine u_bn ?_
       refine u_mv ?_
       refine g_mv ?_
       refine g_mv ?_
       refine g_bn ?_
       refine u_pk ?_
       refine u_mv ?_
       refine lg_nil ?_
       refine h29 _ ?_; clear h29; try clear N29
       refine vc_ret ?_
       try simp only [k_rules]
       refine fin2_ ?_
       (repeat' apply And.intro) <;> (first | (first | rfl | trivial | (simp; done) | (simp [hr1, hr2]; done)) | exact cl_)
    ·first | omega | exact absurd trivial hb22 | contradiction | (simp_all; done)
   ·have hrv : refQ q = valQ q := refQ_is q
    have hr1 : (refQ q).1 = (valQ q).1 := by rw [hrv]
    have hr2 : (refQ q).2 = (valQ q).2 := by rw [hrv]
    have hv1 : (valQ q).1 ≠ 0 := val_code hv
    have hff : fmtQ q = ((valQ q).1, (valQ q).2, []) := by unfold fmtQ; rw [if_pos hv]
    have hS := hff
    have hqm := hff
    have hx := And.intro @hff hx0
    refine u_reg ?_
    try refine lg_mk ?_
    refine u_ld ?_
    have hc := call_rule (E := (E_rtA.at_ 50)) (f := 31) (sp := Spec.pure fmtG) rfl
    have hs := @fmtG.eq_1
    refine u_cp ?_
    refine u_mv ?_
    refine u_ex ?_
    refine u_ex ?_
    refine u_al ?_
    refine u_mv ?_
    refine u_st ?_
    refine lg_nil ?_
    have hx := hx0
    refine h5 _ ?_; clear h5; try clear N5
    refine vc_seq_k fun N30 h30 => ?_
    have hx := And.intro @hr1 (And.intro @hr2 hx0)
    refine u_reg ?_
    try refine lg_mk ?_
    refine u_ld ?_
    have hc := call_rule (E := (E_rtA.at_ 50)) (f := 17) (sp := Spec.pure refQG) rfl
    have hs := @refQG.eq_1
    refine u_cp ?_
    refine u_al ?_
    refine u_st ?_
    refine lg_nil ?_
    have hx := hx0
    refine h30 _ ?_; clear h30; try clear N30
    refine vc_seq_k fun N31 h31 => ?_
    refine u_reg ?_
    try refine lg_mk ?_
    refine u_mv ?_
    refine lg_nil ?_
    refine h31 _ ?_; clear h31; try clear N31
    refine vc_seq_k fun N32 h32 => ?_
    refine vc_seq_k fun N33 h33 => ?_
    refine u_reg ?_
    try refine lg_mk ?_
    refine u_pt ?_
    refine u_ld ?_
    refine u_bn ?_
    refine lg_nil ?_
    refine h33 _ ?_; clear h33; try clear N33
    refine u_cond (fun hb34 => ?_) (fun hb34 => ?_)
    ·first | omega | exact absurd trivial hb34 | contradiction | (simp_all; done)
    ·refine vc_skip ?_
     try simp only [k_rules]
     refine h32 _ ?_; clear h32; try clear N32
     refine vc_seq_k fun N35 h35 => ?_
     refine vc_seq_k fun N36 h36 => ?_
     refine u_reg ?_
     try refine lg_mk ?_
     refine u_pt ?_
     refine u_ld ?_
     refine u_bn ?_
     refine lg_nil ?_
     refine h36 _ ?_; clear h36; try clear N36
     refine u_cond (fun hb37 => ?_) (fun hb37 => ?_)
     ·refine vc_seq_k fun N38 h38 => ?_
      refine u_reg ?_
      try refine lg_mk ?_
      refine u_ld ?_
      refine u_ld ?_
      refine u_bn ?_
      refine u_mv ?_
      refine g_mv ?_
      refine g_bn ?_
      refine u_pk ?_
      refine u_mv ?_
      refine lg_nil ?_
      refine h38 _ ?_; clear h38; try clear N38
      refine vc_ret ?_
      try simp only [k_rules]
      refine fin2_ ?_
      (repeat' apply And.intro) <;> (first | (first | rfl | trivial | (simp; done) | (simp [hr1, hr2]; done)) | exact cl_)
     ·first | omega | exact absurd trivial hb37 | contradiction | (simp_all; done)
 ·cases hg
end Go.Proofs.YtlbjffdaooadoaaDoor
