/- Walks, printed by wip/gen/walk.py. -/
import Derived.Test.YtiijkbidkdmilaaT64
import Derived.Test.YtiijkbidkdmilaaV5
set_option linter.all false
set_option maxRecDepth 100000
set_option maxHeartbeats 4000000
namespace Go.Proofs.Ytiijkbidkdmilaa
open Go Go.Vc Go.RowKit
theorem lawTP_meets : Meets Try.prog 3 (Spec.pure lawTPG) := by
 refine meets_fun (E_ml.at_ 128) Try.func3 rfl rfl rfl ?_
 intro args p r hg hp
 unfold lawTPG at hg
 split at hg
 ·rename_i xs bs k
  simp only [Option.some.injEq, Prod.mk.injEq] at hg
  obtain ⟨rfl, rfl⟩ := hg
  obtain ⟨he, hl, hsm, he2, hbl⟩ := hp
  generalize dO xs = S at *
  generalize dB bs = lost at *
  subst he he2
  have hT : (E_ml).X = T := rfl
  have hx0 := And.intro @rect_eE (And.intro @rect_eO (And.intro @dI_rows (And.intro @dU_rows (And.intro @dO_rows (And.intro @dE_rows (And.intro @dB_rows (And.intro @dec_t (And.intro @dec_f @Try.results3))))))))
  have hx := hx0
  refine ⟨by rfl, ?_⟩
  intro F W0 hnp hmk
  refine vc_seq_k fun N1 h1 => ?_
  refine u_reg ?_
  try refine lg_mk ?_
  refine u_bx ?_
  refine u_mv ?_
  refine lg_nil ?_
  refine h1 _ ?_; clear h1; try clear N1
  refine vc_seq_k fun N2 h2 => ?_
  refine u_reg ?_
  try refine lg_mk ?_
  have hc := call_rule (E := (E_ml.at_ 128)) (f := 4) (sp := Spec.pure mlG) rfl
  have hs := @mlG.eq_1
  refine u_hp ?_
  refine u_mv ?_
  refine u_ex ?_
  refine u_ex ?_
  refine u_ex ?_
  refine u_al ?_
  refine u_st ?_
  refine u_mv ?_
  refine u_mv ?_
  refine lg_nil ?_
  refine h2 _ ?_; clear h2; try clear N2
  refine vc_seq_k fun N3 h3 => ?_
  refine vc_seq_k fun N4 h4 => ?_
  refine u_reg ?_
  try refine lg_mk ?_
  refine u_mv ?_
  refine u_un ?_
  refine lg_nil ?_
  refine h4 _ ?_; clear h4; try clear N4
  refine u_cond (fun hb5 => ?_) (fun hb5 => ?_)
  ·first | omega | exact absurd trivial hb5 | contradiction | (simp_all; done)
  ·refine vc_skip ?_
   try simp only [k_rules]
   refine h3 _ ?_; clear h3; try clear N3
   refine vc_seq_k fun N6 h6 => ?_
   rcases bld_cases S with ⟨p1, p2⟩ | ⟨p1, p2, hv, hok⟩
   ·have p3 := p2
    have hx := And.intro @p2 hx0
    refine u_reg ?_
    try refine lg_mk ?_
    refine u_ld ?_
    have hc := call_rule (E := (E_ml.at_ 128)) (f := 5) (sp := Spec.pure BldG) rfl
    have hs := @BldG.eq_1
    refine u_hp (hq := by (first | (exact ⟨hl, hsm⟩) | exact sd_)) ?_
    refine u_mv ?_
    refine u_ex ?_
    refine u_ex ?_
    refine u_al ?_
    refine u_mv ?_
    refine u_st ?_
    refine lg_nil ?_
    have hx := hx0
    refine h6 _ ?_; clear h6; try clear N6
    refine vc_seq_k fun N7 h7 => ?_
    refine vc_seq_k fun N8 h8 => ?_
    refine u_reg ?_
    try refine lg_mk ?_
    refine u_pt ?_
    refine u_ld ?_
    refine u_bn ?_
    refine lg_nil ?_
    refine h8 _ ?_; clear h8; try clear N8
    refine u_cond (fun hb9 => ?_) (fun hb9 => ?_)
    ·refine vc_seq_k fun N10 h10 => ?_
     refine u_reg ?_
     try refine lg_mk ?_
     refine u_mv ?_
     refine u_ln ?_
     refine u_bn ?_
     refine u_mv ?_
     refine lg_nil ?_
     refine h10 _ ?_; clear h10; try clear N10
     refine vc_ret ?_
     try simp only [k_rules]
     refine fin2_ ?_
     (repeat' apply And.intro) <;> (first | (first | rfl | trivial | exact Or.inl rfl | omega | (simp; done)) | exact cl_)
    ·first | omega | exact absurd trivial hb9 | contradiction | (simp_all; done)
   ·obtain ⟨p4, p5, p6⟩ := pk_ok hok
    have p3 := p2
    have hx := And.intro @p2 hx0
    refine u_reg ?_
    try refine lg_mk ?_
    refine u_ld ?_
    have hc := call_rule (E := (E_ml.at_ 128)) (f := 5) (sp := Spec.pure BldG) rfl
    have hs := @BldG.eq_1
    refine u_hp (hq := by (first | (exact ⟨hl, hsm⟩) | exact sd_)) ?_
    refine u_mv ?_
    refine u_ex ?_
    refine u_ex ?_
    refine u_al ?_
    refine u_mv ?_
    refine u_st ?_
    refine lg_nil ?_
    have hx := hx0
    refine h6 _ ?_; clear h6; try clear N6
    refine vc_seq_k fun N11 h11 => ?_
    refine vc_seq_k fun N12 h12 => ?_
    refine u_reg ?_
    try refine lg_mk ?_
    refine u_pt ?_
    refine u_ld ?_
    refine u_bn ?_
    refine lg_nil ?_
    refine h12 _ ?_; clear h12; try clear N12
    refine u_cond (fun hb13 => ?_) (fun hb13 => ?_)
    ·first | omega | exact absurd trivial hb13 | contradiction | (simp_all; done)
    ·refine vc_skip ?_
     try simp only [k_rules]
     refine h11 _ ?_; clear h11; try clear N11
     refine vc_seq_k fun N14 h14 => ?_
     rcases tp_cases (pkB S) lost with ⟨c, ci, hc, hr⟩ | ⟨ps, d, b, n, hr, hpl, hrun, hd, hb, hk⟩
     ·have hc1 : (c = 0) = False := eq_false hc
      have hx := And.intro @hr hx0
      refine u_reg ?_
      try refine lg_mk ?_
      refine u_mv ?_
      refine u_mv ?_
      have hc := call_rule (E := (E_ml.at_ 128)) (f := 6) (sp := Spec.pure planG) rfl
      have hs := @planG.eq_1
      refine u_hp (hq := by (first | ((repeat' apply And.intro) <;> first | rfl | trivial | omega) | exact sd_)) ?_
      refine u_mv ?_
      refine u_ex ?_
      refine u_ex ?_
      refine u_ex ?_
      refine u_al ?_
      refine u_mv ?_
      refine u_mv ?_
      refine u_st ?_
      refine lg_nil ?_
      have hx := hx0
      refine h14 _ ?_; clear h14; try clear N14
      refine vc_seq_k fun N15 h15 => ?_
      refine vc_seq_k fun N16 h16 => ?_
      have hx := And.intro @hc1 hx0
      refine u_reg ?_
      try refine lg_mk ?_
      refine u_pt ?_
      refine u_ld ?_
      refine u_bn ?_
      refine u_mv ?_
      refine g_mv ?_
      refine g_mv ?_
      refine g_ln ?_
      have hc := call_rule (E := (E_ml.at_ 128)) (f := 7) (sp := Spec.pure inG) rfl
      have hs := @inG.eq_1
      refine g_cp ?_
      refine g_un ?_
      refine u_pk ?_
      refine lg_nil ?_
      have hx := hx0
      refine h16 _ ?_; clear h16; try clear N16
      refine u_cond (fun hb17 => ?_) (fun hb17 => ?_)
      ·refine vc_seq_k fun N18 h18 => ?_
       have hx := And.intro @hc1 hx0
       refine u_reg ?_
       try refine lg_mk ?_
       refine u_pt ?_
       refine u_ld ?_
       refine u_bn ?_
       refine u_mv ?_
       refine g_mv ?_
       refine g_ln ?_
       refine g_bn ?_
       refine u_pk ?_
       refine u_mv ?_
       refine lg_nil ?_
       have hx := hx0
       refine h18 _ ?_; clear h18; try clear N18
       refine vc_ret ?_
       try simp only [k_rules]
       refine fin2_ ?_
       (repeat' apply And.intro) <;> (first | (first | rfl | trivial | exact Or.inl rfl | omega | (simp; done)) | exact cl_)
      ·first | omega | exact absurd trivial hb17 | contradiction | (simp_all; done)
     ·have hc1 : True := trivial
      have hx := And.intro @hr hx0
      refine u_reg ?_
      try refine lg_mk ?_
      refine u_mv ?_
      refine u_mv ?_
      have hc := call_rule (E := (E_ml.at_ 128)) (f := 6) (sp := Spec.pure planG) rfl
      have hs := @planG.eq_1
      refine u_hp (hq := by (first | ((repeat' apply And.intro) <;> first | rfl | trivial | omega) | exact sd_)) ?_
      refine u_mv ?_
      refine u_ex ?_
      refine u_ex ?_
      refine u_ex ?_
      refine u_al ?_
      refine u_mv ?_
      refine u_mv ?_
      refine u_st ?_
      refine lg_nil ?_
      have hx := hx0
      refine h14 _ ?_; clear h14; try clear N14
      refine vc_seq_k fun N19 h19 => ?_
      refine vc_seq_k fun N20 h20 => ?_
      have hx := And.intro @hc1 hx0
      refine u_reg ?_
      try refine lg_mk ?_
      refine u_pt ?_
      refine u_ld ?_
      refine u_bn ?_
      refine u_mv ?_
      refine g_mv ?_
      refine g_mv ?_
      refine g_ln ?_
      have hc := call_rule (E := (E_ml.at_ 128)) (f := 7) (sp := Spec.pure inG) rfl
      have hs := @inG.eq_1
      refine g_cp ?_
      refine g_un ?_
      refine u_pk ?_
      refine lg_nil ?_
      have hx := hx0
      refine h20 _ ?_; clear h20; try clear N20
      refine u_cond (fun hb21 => ?_) (fun hb21 => ?_)
      ·refine vc_seq_k fun N22 h22 => ?_
       have hx := And.intro @hc1 hx0
       refine u_reg ?_
       try refine lg_mk ?_
       refine u_pt ?_
       refine u_ld ?_
       refine u_bn ?_
       refine u_mv ?_
       refine g_mv ?_
       refine g_ln ?_
       refine g_bn ?_
       refine u_pk ?_
       refine u_mv ?_
       refine lg_nil ?_
       have hx := hx0
       refine h22 _ ?_; clear h22; try clear N22
       refine vc_ret ?_
       try simp only [k_rules]
       refine fin2_ ?_
       (repeat' apply And.intro) <;> (first | (first | rfl | trivial | exact Or.inl rfl | omega | (simp; done)) | exact cl_)
      ·obtain ⟨k, rfl⟩ := Int.eq_ofNat_of_zero_le (by omega : 0 ≤ k)
       obtain ⟨c, a, hkr, hcl, hct⟩ := hk k
       have htl : (ps.take k).length ≤ 200 := by rw [List.length_take]; omega
       refine vc_skip ?_
       try simp only [k_rules]
       refine h19 _ ?_; clear h19; try clear N19
       refine vc_seq_k fun N23 h23 => ?_
       have hx := And.intro @Nat.sub_zero (And.intro @dropE0 (And.intro @hkr hx0))
       refine u_reg ?_
       try refine lg_mk ?_
       refine u_mv ?_
       refine u_mv ?_
       refine u_mv ?_
       refine u_sl ?_
       have hc := call_rule (E := (E_ml.at_ 128)) (f := 8) (sp := Spec.pure runG) rfl
       have hs := @runG.eq_1
       refine u_hp (hq := by (first | ((repeat' apply And.intro) <;> first | rfl | trivial | omega) | exact sd_)) ?_
       refine u_mv ?_
       refine u_ex ?_
       refine u_ex ?_
       refine u_ex ?_
       refine u_al ?_
       refine u_mv ?_
       refine u_mv ?_
       refine u_st ?_
       refine lg_nil ?_
       have hx := hx0
       refine h23 _ ?_; clear h23; try clear N23
       refine vc_seq_k fun N24 h24 => ?_
       have hx := And.intro @hrun hx0
       refine u_reg ?_
       try refine lg_mk ?_
       refine u_mv ?_
       refine u_mv ?_
       have hc := call_rule (E := (E_ml.at_ 128)) (f := 8) (sp := Spec.pure runG) rfl
       have hs := @runG.eq_1
       refine u_hp (hq := by (first | ((repeat' apply And.intro) <;> first | rfl | trivial | omega) | exact sd_)) ?_
       refine u_mv ?_
       refine u_ex ?_
       refine u_ex ?_
       refine u_ex ?_
       refine u_al ?_
       refine u_mv ?_
       refine u_mv ?_
       refine u_st ?_
       refine lg_nil ?_
       have hx := hx0
       refine h24 _ ?_; clear h24; try clear N24
       refine vc_seq_k fun N25 h25 => ?_
       refine vc_seq_k fun N26 h26 => ?_
       have hx := And.intro @Nat.sub_zero (And.intro @dropU0 (And.intro @hct hx0))
       refine u_reg ?_
       try refine lg_mk ?_
       refine u_pt ?_
       refine u_ld ?_
       refine u_bn ?_
       refine u_mv ?_
       refine g_pt ?_
       refine g_ld ?_
       refine g_bn ?_
       refine u_pk ?_
       refine u_mv ?_
       refine g_mv ?_
       refine g_ln ?_
       refine g_mv ?_
       refine g_ln ?_
       refine g_bn ?_
       refine u_pk ?_
       refine u_mv ?_
       refine g_mv ?_
       refine g_cv ?_
       refine g_mv ?_
       refine g_mv ?_
       refine g_ln ?_
       refine g_sl ?_
       refine g_cv ?_
       refine g_bn ?_
       refine u_pk ?_
       refine lg_nil ?_
       have hx := hx0
       refine h26 _ ?_; clear h26; try clear N26
       refine u_cond (fun hb27 => ?_) (fun hb27 => ?_)
       ·(try simp [hct] at hb27) <;> omega
       ·refine vc_skip ?_
        try simp only [k_rules]
        refine h25 _ ?_; clear h25; try clear N25
        refine vc_seq_k fun N28 h28 => ?_
        refine vc_seq_k fun N29 h29 => ?_
        refine u_reg ?_
        try refine lg_mk ?_
        refine u_mv ?_
        refine u_un ?_
        refine lg_nil ?_
        refine h29 _ ?_; clear h29; try clear N29
        refine u_cond (fun hb30 => ?_) (fun hb30 => ?_)
        ·refine vc_seq_k fun N31 h31 => ?_
         refine u_reg ?_
         try refine lg_mk ?_
         refine u_mv ?_
         refine lg_nil ?_
         refine h31 _ ?_; clear h31; try clear N31
         refine vc_ret ?_
         try simp only [k_rules]
         refine fin2_ ?_
         (repeat' apply And.intro) <;> (first | (first | rfl | trivial | exact Or.inl rfl | omega | (simp; done)) | exact cl_)
        ·obtain ⟨rfl, rfl⟩ := hd (by simpa using hb30)
         have hdec := (readP hv hok).2.1
         refine vc_skip ?_
         try simp only [k_rules]
         refine h28 _ ?_; clear h28; try clear N28
         refine vc_seq_k fun N32 h32 => ?_
         have hx := And.intro @hdec hx0
         refine u_reg ?_
         try refine lg_mk ?_
         refine u_mv ?_
         have hc := call_rule (E := (E_ml.at_ 128)) (f := 9) (sp := Spec.pure ReadG) rfl
         have hs := @ReadG.eq_1
         refine u_hp (hq := by (first | (exact ⟨S, hv, hok, rfl⟩) | exact sd_)) ?_
         refine u_mv ?_
         refine u_ex ?_
         refine u_ex ?_
         refine u_al ?_
         refine u_al ?_
         refine u_st ?_
         refine u_st ?_
         refine lg_nil ?_
         have hx := hx0
         refine h32 _ ?_; clear h32; try clear N32
         refine vc_seq_k fun N33 h33 => ?_
         refine u_reg ?_
         try refine lg_mk ?_
         refine u_pt ?_
         refine u_ld ?_
         refine u_bn ?_
         refine u_mv ?_
         refine g_ld ?_
         refine g_ld ?_
         have hc := call_rule (E := (E_ml.at_ 128)) (f := 10) (sp := Spec.pure storesG) rfl
         have hs := @storesG.eq_1
         refine s_cp (hq := by (intro hg; (try simp only [b_rules, bif_and, bif_or] at hg); (first | ((repeat' apply And.intro) <;> first | rfl | trivial | omega | exact hsm) | exact sd_))) ?_
         refine u_pk ?_
         refine u_mv ?_
         refine g_mv ?_
         refine g_mv ?_
         have hc := call_rule (E := (E_ml.at_ 128)) (f := 11) (sp := Spec.pure countG) rfl
         have hs := @countG.eq_1
         refine s_cp (hq := by (intro hg; (try simp only [b_rules, bif_and, bif_or] at hg); (first | (first | omega | (rw [rows_len]; omega)) | exact sd_))) ?_
         refine g_bn ?_
         refine u_pk ?_
         refine u_mv ?_
         refine lg_nil ?_
         refine h33 _ ?_; clear h33; try clear N33
         refine vc_ret ?_
         try simp only [k_rules]
         refine fin2_ ?_
         (repeat' apply And.intro) <;> (first | (first | rfl | trivial | exact Or.inl rfl | omega | (simp; done)) | exact cl_)
 ·cases hg
end Go.Proofs.Ytiijkbidkdmilaa
