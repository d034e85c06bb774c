/- Walks, printed by wip/gen/walk.py. -/
import Derived.Test.YtaoifpmifpmhmaaT43
import Derived.Test.YtaoifpmifpmhmaaV4
set_option linter.all false
set_option maxRecDepth 100000
set_option maxHeartbeats 4000000
namespace Go.Proofs.Ytaoifpmifpmhmaa
open Go Go.Vc Go.RowKit
theorem lawNeg_meets : Meets Try.prog 3 (Spec.pure lawNG) := by
 refine meets_fun (E_lawSends.at_ 113) Try.func3 rfl rfl rfl ?_
 intro args p r hg hp
 unfold lawNG at hg
 split at hg
 ·rename_i xs ss rs ws
  simp only [Option.some.injEq, Prod.mk.injEq] at hg
  obtain ⟨rfl, rfl⟩ := hg
  obtain ⟨he, hf, hg, hw, hl, hsm, hsl, hrl, hwl⟩ := hp
  generalize dC xs = l at *
  generalize dB ss = ss at *
  generalize dB rs = rs at *
  generalize dI ws = ws at *
  subst he hf hg hw
  have hT : (E_lawSends).X = T := rfl
  have hx0 := And.intro @dec_t (And.intro @dec_f (And.intro @rect_eC (And.intro @dC_rows (And.intro @dI_rows (And.intro @dB_rows (And.intro @vec_len @Try.results3))))))
  have hx := hx0
  refine ⟨by rfl, ?_⟩
  intro F W0 hnp hmk
  refine vc_seq_k fun N1 h1 => ?_
  refine u_reg ?_
  try refine lg_mk ?_
  refine u_mv ?_
  refine lg_nil ?_
  refine h1 _ ?_; clear h1; try clear N1
  refine vc_seq_k fun N2 h2 => ?_
  refine vc_seq_k fun N3 h3 => ?_
  refine u_reg ?_
  try refine lg_mk ?_
  have hc := call_rule (E := (E_lawSends.at_ 113)) (f := 12) (sp := Spec.pure exampleG) rfl
  have hs := @exampleG.eq_1
  refine u_cp ?_
  refine u_un ?_
  refine lg_nil ?_
  refine h3 _ ?_; clear h3; try clear N3
  refine u_cond (fun hb4 => ?_) (fun hb4 => ?_)
  ·first | omega | exact absurd trivial hb4 | contradiction | (simp_all; done)
  ·refine vc_skip ?_
   try simp only [k_rules]
   refine h2 _ ?_; clear h2; try clear N2
   refine vc_seq_k fun N5 h5 => ?_
   by_cases h0 : (negF l ss rs ws).1 = 0
   ·obtain ⟨hneg, hz⟩ := neg_of h0
    have hv := hneg.val
    have hl60 := hv.len
    have hsl2 := hneg.sl
    have hrl2 := hneg.rl
    have hwf := hneg.few
    have hwr := hneg.inr
    have hsm2 := sent_miss hneg
    have hsl3 := sent_len l ss rs ws
    have hml3 := miss_len l rs ws
    have hee := end_ex (ss := ss) (rs := rs) hv
    have hel := told_r_le hv hee.2
    have hrdl := rds_len l ss rs (endR l ss rs)
    have hx := And.intro @hz (And.intro @h0 hx0)
    refine u_reg ?_
    try refine lg_mk ?_
    refine u_mv ?_
    refine u_mv ?_
    refine u_mv ?_
    refine u_mv ?_
    have hc := call_rule (E := (E_lawSends.at_ 113)) (f := 13) (sp := Spec.pure missG) rfl
    have hs := @missG.eq_1
    refine u_hp ?_
    refine u_mv ?_
    refine u_ex ?_
    refine u_ex ?_
    refine u_al ?_
    refine u_mv ?_
    refine u_st ?_
    refine lg_nil ?_
    have hx := hx0
    refine h5 _ ?_; clear h5; try clear N5
    refine vc_seq_k fun N6 h6 => ?_
    have hx := And.intro @hz (And.intro @h0 hx0)
    refine u_reg ?_
    try refine lg_mk ?_
    refine u_mv ?_
    refine u_mv ?_
    refine u_mv ?_
    refine u_mv ?_
    have hc := call_rule (E := (E_lawSends.at_ 113)) (f := 14) (sp := Spec.pure runG) rfl
    have hs := @runG.eq_1
    refine u_hp ?_
    refine u_mv ?_
    refine u_ex ?_
    refine u_ex ?_
    refine u_ex ?_
    refine u_al ?_
    refine u_mv ?_
    refine u_mv ?_
    refine u_st ?_
    refine lg_nil ?_
    have hx := hx0
    refine h6 _ ?_; clear h6; try clear N6
    refine vc_seq_k fun N7 h7 => ?_
    refine vc_seq_k fun N8 h8 => ?_
    have hx := And.intro @hz (And.intro @h0 hx0)
    refine u_reg ?_
    try refine lg_mk ?_
    refine u_mv ?_
    refine u_mv ?_
    refine u_mv ?_
    refine u_mv ?_
    have hc := call_rule (E := (E_lawSends.at_ 113)) (f := 15) (sp := Spec.pure negG) rfl
    have hs := @negG.eq_1
    refine u_cp ?_
    refine u_al ?_
    refine u_st ?_
    refine lg_nil ?_
    have hx := hx0
    refine h8 _ ?_; clear h8; try clear N8
    refine vc_seq_k fun N9 h9 => ?_
    refine u_reg ?_
    try refine lg_mk ?_
    refine u_pt ?_
    refine u_ld ?_
    refine u_bn ?_
    refine lg_nil ?_
    refine h9 _ ?_; clear h9; try clear N9
    refine u_cond (fun hb10 => ?_) (fun hb10 => ?_)
    ·first | omega | exact absurd trivial hb10 | contradiction | (simp_all; done)
    ·refine vc_skip ?_
     try simp only [k_rules]
     refine h7 _ ?_; clear h7; try clear N7
     refine vc_seq_k fun N11 h11 => ?_
     refine u_reg ?_
     try refine lg_mk ?_
     refine u_mv ?_
     refine u_mv ?_
     refine u_mv ?_
     have hc := call_rule (E := (E_lawSends.at_ 113)) (f := 16) (sp := Spec.pure roundsG) rfl
     have hs := @roundsG.eq_1
     refine u_hp (hq := by (first | (exact ⟨hv, hsl2, hrl2⟩) | (first | trivial | omega | assumption | (unfold inI64; omega) | ((repeat' apply And.intro) <;> first | rfl | trivial | omega | assumption | (unfold inI64; omega)) | (simp; done) | (simp; omega)))) ?_
     refine u_mv ?_
     refine lg_nil ?_
     refine h11 _ ?_; clear h11; try clear N11
     refine vc_seq_k fun N12 h12 => ?_
     refine vc_seq_k fun N13 h13 => ?_
     have hml : (lst l.length fun k => ofB l ws k && !(rs.getD k false)) = missR l rs ws := rfl
     have hq13 : Valid l ∧ InR l.length ws ∧ ws.length ≤ 1000 ∧ rs.length = l.length := ⟨hv, hwr, by omega, hrl2⟩
     have hx := And.intro @hml (And.intro @hsm2 (And.intro @hrdl hx0))
     refine u_reg ?_
     try refine lg_mk ?_
     refine u_pt ?_
     refine u_ld ?_
     refine u_bn ?_
     refine u_mv ?_
     refine g_pt ?_
     refine g_ld ?_
     refine g_bn ?_
     refine u_pk ?_
     refine u_mv ?_
     refine g_mv ?_
     refine g_mv ?_
     refine g_mv ?_
     refine g_mv ?_
     have hc := call_rule (E := (E_lawSends.at_ 113)) (f := 18) (sp := Spec.pure withG) rfl
     have hs := @withG.eq_1
     refine t_hp (hq := by (first | (exact hq13) | (first | trivial | omega | assumption | (unfold inI64; omega) | ((repeat' apply And.intro) <;> first | rfl | trivial | omega | assumption | (unfold inI64; omega)) | (simp; done) | (simp; omega)))) ?_
     have hc := call_rule (E := (E_lawSends.at_ 113)) (f := 17) (sp := Spec.pure intsG) rfl
     have hs := @intsG.eq_1
     refine g_cp ?_
     refine g_un ?_
     refine u_pk ?_
     refine u_mv ?_
     refine g_mv ?_
     refine g_mv ?_
     have hc := call_rule (E := (E_lawSends.at_ 113)) (f := 17) (sp := Spec.pure intsG) rfl
     have hs := @intsG.eq_1
     refine g_cp ?_
     refine g_un ?_
     refine u_pk ?_
     refine u_mv ?_
     refine g_mv ?_
     refine g_ln ?_
     refine g_mv ?_
     refine g_ln ?_
     refine g_bn ?_
     refine u_pk ?_
     refine lg_nil ?_
     have hx := hx0
     refine h13 _ ?_; clear h13; try clear N13
     refine u_cond (fun hb14 => ?_) (fun hb14 => ?_)
     ·first | omega | exact absurd trivial hb14 | contradiction | (simp_all; done)
     ·refine vc_skip ?_
      try simp only [k_rules]
      refine h12 _ ?_; clear h12; try clear N12
      refine vc_seq_k fun N15 h15 => ?_
      refine vc_seq_k fun N16 h16 => ?_
      refine u_reg ?_
      try refine lg_mk ?_
      refine u_mv ?_
      refine lg_nil ?_
      refine h16 _ ?_; clear h16; try clear N16
      refine vc_block ?_
      refine vc_loop_mk (σ := Nat) (fun s => (fun i => i ≤ endR l ss rs) s)
       (fun s => (fun i => [(0, .d (.sl (rows eC l))), (1, .d (.sl (rows eB ss))), (2, .d (.sl (rows eB rs))), (3, .d (.sl (rows eI ws))), (11, .d (.sl (rows (eL eI) (rdsT l ss rs (endR l ss rs)).2))), (15, .d (.sl (rows (eL eI) (rdsT l ss rs (endR l ss rs)).2))), (16, .d (.int .i64 (i : Nat)))]) s)
       (fun s => (fun i => []) s) (fun s => (fun i => endR l ss rs - i) s) hnp 0 ?_ [] ?_ ?_
      ·dsimp only
       omega
      ·dsimp only
       refine ⟨by rfl, ?_, ?_⟩
       ·refine fin_ ?_
        exact cl_
       ·refine fin_ ?_
        exact cl_
      ·rintro i hinv N17 h17
       dsimp only at hinv ⊢
       have hi1 := hinv
       refine vc_seq_k fun N18 h18 => ?_
       refine vc_seq_k fun N19 h19 => ?_
       refine u_reg ?_
       try refine lg_mk ?_
       refine u_mv ?_
       refine u_mv ?_
       refine u_ln ?_
       refine u_bn ?_
       refine lg_nil ?_
       refine h19 _ ?_; clear h19; try clear N19
       refine u_cond (fun hb20 => ?_) (fun hb20 => ?_)
       ·obtain ⟨hil, -⟩ : i < endR l ss rs ∧ True := ⟨by omega, trivial⟩
        have hge := rds_get (l := l) (ss := ss) (rs := rs) hil
        have hbl := bat_len l ss rs i
        refine vc_skip ?_
        try simp only [k_rules]
        refine h18 _ ?_; clear h18; try clear N18
        refine vc_seq_k fun N21 h21 => ?_
        refine vc_block ?_
        refine vc_seq_k fun N22 h22 => ?_
        have hx := And.intro @hge (And.intro @eL.eq_1 (And.intro @hrdl hx0))
        refine u_reg ?_
        try refine lg_mk ?_
        refine u_mv ?_
        refine u_mv ?_
        refine u_pt ?_
        refine u_ld ?_
        refine u_mv ?_
        refine u_mv ?_
        refine u_pt ?_
        refine u_ld ?_
        have hc := call_rule (E := (E_lawSends.at_ 113)) (f := 17) (sp := Spec.pure intsG) rfl
        have hs := @intsG.eq_1
        refine u_cp ?_
        refine u_un ?_
        refine lg_nil ?_
        have hx := hx0
        refine h22 _ ?_; clear h22; try clear N22
        refine u_cond (fun hb23 => ?_) (fun hb23 => ?_)
        ·first | omega | exact absurd trivial hb23 | contradiction | (simp_all; done)
        ·refine vc_skip ?_
         try simp only [k_rules]
         refine h21 _ ?_; clear h21; try clear N21
         refine u_reg ?_
         try refine lg_mk ?_
         refine u_mv ?_
         refine u_bn ?_
         refine u_mv ?_
         refine lg_nil ?_
         refine h17 _ ⟨i + 1, ?_, ?_, [], ?_⟩
         ·dsimp only
          omega
         ·dsimp only
          omega
         ·dsimp only
          refine ⟨by rfl, ?_, ?_⟩
          ·refine fin_ ?_
           exact cl_
          ·refine fin_ ?_
           exact cl_
       ·refine vc_exit ?_
        simp only [k_rules, Nat.reduceEqDiff, reduceIte, eq_self]
        refine h15 _ ?_; clear h15; try clear N15
        refine vc_seq_k fun N24 h24 => ?_
        refine u_reg ?_
        try refine lg_mk ?_
        refine u_mv ?_
        refine lg_nil ?_
        refine h24 _ ?_; clear h24; try clear N24
        refine vc_ret ?_
        try simp only [k_rules]
        refine fin2_ ?_
        (repeat' apply And.intro) <;> (first | (first | rfl | (simp [*]; done) | (simp_all; done)) | (first | rfl | exact Or.inr rfl | exact Or.inl rfl | trivial | omega | assumption | (simp; done) | (simp; omega)))
   ·have hz : True := trivial
    have hx := And.intro @hz (And.intro @h0 hx0)
    refine u_reg ?_
    try refine lg_mk ?_
    refine u_mv ?_
    refine u_mv ?_
    refine u_mv ?_
    refine u_mv ?_
    have hc := call_rule (E := (E_lawSends.at_ 113)) (f := 13) (sp := Spec.pure missG) rfl
    have hs := @missG.eq_1
    refine u_hp ?_
    refine u_mv ?_
    refine u_ex ?_
    refine u_ex ?_
    refine u_al ?_
    refine u_mv ?_
    refine u_st ?_
    refine lg_nil ?_
    have hx := hx0
    refine h5 _ ?_; clear h5; try clear N5
    refine vc_seq_k fun N25 h25 => ?_
    have hx := And.intro @hz (And.intro @h0 hx0)
    refine u_reg ?_
    try refine lg_mk ?_
    refine u_mv ?_
    refine u_mv ?_
    refine u_mv ?_
    refine u_mv ?_
    have hc := call_rule (E := (E_lawSends.at_ 113)) (f := 14) (sp := Spec.pure runG) rfl
    have hs := @runG.eq_1
    refine u_hp ?_
    refine u_mv ?_
    refine u_ex ?_
    refine u_ex ?_
    refine u_ex ?_
    refine u_al ?_
    refine u_mv ?_
    refine u_mv ?_
    refine u_st ?_
    refine lg_nil ?_
    have hx := hx0
    refine h25 _ ?_; clear h25; try clear N25
    refine vc_seq_k fun N26 h26 => ?_
    refine vc_seq_k fun N27 h27 => ?_
    have hx := And.intro @hz (And.intro @h0 hx0)
    refine u_reg ?_
    try refine lg_mk ?_
    refine u_mv ?_
    refine u_mv ?_
    refine u_mv ?_
    refine u_mv ?_
    have hc := call_rule (E := (E_lawSends.at_ 113)) (f := 15) (sp := Spec.pure negG) rfl
    have hs := @negG.eq_1
    refine u_cp ?_
    refine u_al ?_
    refine u_st ?_
    refine lg_nil ?_
    have hx := hx0
    refine h27 _ ?_; clear h27; try clear N27
    refine vc_seq_k fun N28 h28 => ?_
    refine u_reg ?_
    try refine lg_mk ?_
    refine u_pt ?_
    refine u_ld ?_
    refine u_bn ?_
    refine lg_nil ?_
    refine h28 _ ?_; clear h28; try clear N28
    refine u_cond (fun hb29 => ?_) (fun hb29 => ?_)
    ·refine vc_seq_k fun N30 h30 => ?_
     refine u_reg ?_
     try refine lg_mk ?_
     refine u_ld ?_
     refine u_ld ?_
     refine u_bn ?_
     refine u_mv ?_
     refine g_ld ?_
     refine g_ld ?_
     refine g_bn ?_
     refine u_pk ?_
     refine u_mv ?_
     refine g_mv ?_
     refine g_ln ?_
     refine g_mv ?_
     refine g_ln ?_
     refine g_bn ?_
     refine g_mv ?_
     refine g_ln ?_
     refine g_bn ?_
     refine g_bn ?_
     refine u_pk ?_
     refine u_mv ?_
     refine lg_nil ?_
     refine h30 _ ?_; clear h30; try clear N30
     refine vc_ret ?_
     try simp only [k_rules]
     refine fin2_ ?_
     (repeat' apply And.intro) <;> (first | (first | rfl | (simp [*]; done) | (simp_all; done)) | (first | rfl | exact Or.inr rfl | exact Or.inl rfl | trivial | omega | assumption | (simp; done) | (simp; omega)))
    ·first | omega | exact absurd trivial hb29 | contradiction | (simp_all; done)
 ·cases hg

def E_lawNeg : Env Try.prog := E_lawSends.add 3 (Spec.pure lawNG) lawNeg_meets (by kernel_rfl)
end Go.Proofs.Ytaoifpmifpmhmaa
