/- Walks, printed by wip/gen/walk.py. -/
import Derived.Test.YtaoifpmifpmhmaaT42
import Derived.Test.YtaoifpmifpmhmaaV4
set_option linter.all false
set_option maxRecDepth 100000
set_option maxHeartbeats 4000000
namespace Go.Proofs.Ytaoifpmifpmhmaa
open Go Go.Vc Go.RowKit
theorem negExample_meets : Meets Try.prog 12 (Spec.pure exampleG) := by
 refine meets_fun (E_roundsOf.at_ 57) Try.func12 rfl rfl rfl ?_
 intro args p r hg hp
 unfold exampleG at hg
 split at hg
 ·skip
  simp only [Option.some.injEq, Prod.mk.injEq] at hg
  obtain ⟨rfl, rfl⟩ := hg
  have hT : (E_roundsOf).X = T := rfl
  have hx0 := And.intro @dec_t (And.intro @dec_f (And.intro @dC_rows (And.intro @dI1 (And.intro @dI2 (And.intro @dB3 (And.intro @ex_negF (And.intro @ex_miss (And.intro @ex_end (And.intro @ex_sent (And.intro @ex_rds (And.intro @eI.eq_1 (And.intro @eB.eq_1 (And.intro @eC.eq_1 (And.intro @eL.eq_1 (And.intro @rows_cons (And.intro @rows_nil @Try.results12))))))))))))))))
  have hx := hx0
  refine ⟨by rfl, ?_⟩
  intro F W0 hnp hmk
  refine vc_seq_k fun N1 h1 => ?_
  refine u_reg ?_
  try refine lg_mk ?_
  refine u_mv ?_
  refine lg_nil ?_
  refine h1 _ ?_; clear h1; try clear N1
  refine vc_seq_m (σ := Unit) (fun s => (fun u => True) s)
   (fun s => (fun u => [(1, .d (.sl (rows eB [true, true, true]))), (2, .d (.sl (rows eB [true, false, false])))]) s)
   (fun s => (fun u => []) s) hnp ?_ ?_
  ·rintro u hinv
   dsimp only at hinv ⊢
   refine vc_seq_k fun N3 h3 => ?_
   refine u_reg ?_
   try refine lg_mk ?_
   have hc := call_rule (E := (E_roundsOf.at_ 57)) (f := 34) (sp := Spec.pure chainG) rfl
   have hs := @chainG.eq_1
   refine u_hp ?_
   refine u_mv ?_
   refine u_mv ?_
   refine u_bs ?_
   have hc := call_rule (E := (E_roundsOf.at_ 57)) (f := 13) (sp := Spec.pure missG) rfl
   have hs := @missG.eq_1
   refine u_hp (hq := by (first | ((repeat' apply And.intro) <;> first | exact small_chain _ | rfl | (rw [chain_len]; omega) | (simp; done) | decide) | (first | trivial | omega | assumption | (unfold inI64; omega) | ((repeat' apply And.intro) <;> first | rfl | trivial | omega | assumption | (unfold inI64; omega)) | (simp; done) | (simp; omega)))) ?_
   refine u_mv ?_
   refine u_ex ?_
   refine u_ex ?_
   refine u_al ?_
   refine u_mv ?_
   refine u_st ?_
   refine lg_nil ?_
   refine h3 _ ?_; clear h3; try clear N3
   refine vc_seq_k fun N4 h4 => ?_
   refine u_reg ?_
   try refine lg_mk ?_
   have hc := call_rule (E := (E_roundsOf.at_ 57)) (f := 34) (sp := Spec.pure chainG) rfl
   have hs := @chainG.eq_1
   refine u_hp ?_
   refine u_mv ?_
   refine u_mv ?_
   refine u_bs ?_
   have hc := call_rule (E := (E_roundsOf.at_ 57)) (f := 14) (sp := Spec.pure runG) rfl
   have hs := @runG.eq_1
   refine u_hp (hq := by (first | ((repeat' apply And.intro) <;> first | exact small_chain _ | rfl | (rw [chain_len]; omega) | (simp; done) | decide) | (first | trivial | omega | assumption | (unfold inI64; omega) | ((repeat' apply And.intro) <;> first | rfl | trivial | omega | assumption | (unfold inI64; omega)) | (simp; done) | (simp; omega)))) ?_
   refine u_mv ?_
   refine u_ex ?_
   refine u_ex ?_
   refine u_ex ?_
   refine u_al ?_
   refine u_mv ?_
   refine u_mv ?_
   refine u_st ?_
   refine lg_nil ?_
   refine h4 _ ?_; clear h4; try clear N4
   refine vc_seq_k fun N5 h5 => ?_
   refine u_reg ?_
   try refine lg_mk ?_
   refine u_pt ?_
   refine u_ld ?_
   refine u_bn ?_
   refine u_mv ?_
   refine g_pt ?_
   refine g_ld ?_
   refine g_bn ?_
   refine u_pk ?_
   refine u_mv ?_
   refine g_mv ?_
   refine t_bs ?_
   have hc := call_rule (E := (E_roundsOf.at_ 57)) (f := 17) (sp := Spec.pure intsG) rfl
   have hs := @intsG.eq_1
   refine g_cp ?_
   refine u_pk ?_
   refine u_mv ?_
   refine g_mv ?_
   refine t_bs ?_
   have hc := call_rule (E := (E_roundsOf.at_ 57)) (f := 17) (sp := Spec.pure intsG) rfl
   have hs := @intsG.eq_1
   refine g_cp ?_
   refine u_pk ?_
   refine u_mv ?_
   refine g_mv ?_
   refine g_ln ?_
   refine g_bn ?_
   refine u_pk ?_
   refine u_mv ?_
   refine g_mv ?_
   refine g_pt ?_
   refine g_ld ?_
   refine t_bs ?_
   have hc := call_rule (E := (E_roundsOf.at_ 57)) (f := 17) (sp := Spec.pure intsG) rfl
   have hs := @intsG.eq_1
   refine g_cp ?_
   refine u_pk ?_
   refine u_mv ?_
   refine lg_nil ?_
   refine h5 _ ?_; clear h5; try clear N5
   refine vc_ret ?_
   try simp only [k_rules]
   refine fin2_ ?_
   exact cl_
  ·intro N2 h2
   refine u_reg ?_
   try refine lg_mk ?_
   refine u_bs ?_
   refine u_bs ?_
   refine u_mv ?_
   refine u_mv ?_
   refine lg_nil ?_
   refine h2 _ ⟨(), trivial, [], ?_⟩
   ·dsimp only
    refine ⟨by rfl, ?_, ?_⟩
    ·refine fin_ ?_
     exact cl_
    ·refine fin_ ?_
     exact cl_
 ·cases hg

def E_negExample : Env Try.prog := E_roundsOf.add 12 (Spec.pure exampleG) negExample_meets (by kernel_rfl)

theorem lawSends_meets : Meets Try.prog 4 (Spec.pure lawNG) := by
 refine meets_fun (E_negExample.at_ 58) Try.func4 rfl rfl rfl ?_
 intro args p r hg hp
 unfold lawNG at hg
 split at hg
 ·rename_i xs ss rs ws
  simp only [Option.some.injEq, Prod.mk.injEq] at hg
  obtain ⟨rfl, rfl⟩ := hg
  obtain ⟨he, hf, hg, hw, hl, hsm, hsl, hrl, hwl⟩ := hp
  generalize dC xs = l at *
  generalize dB ss = ss at *
  generalize dB rs = rs at *
  generalize dI ws = ws at *
  subst he hf hg hw
  have hT : (E_negExample).X = T := rfl
  have hx0 := And.intro @dec_t (And.intro @dec_f (And.intro @rect_eC (And.intro @dC_rows (And.intro @dI_rows (And.intro @dB_rows (And.intro @vec_len @Try.results4))))))
  have hx := hx0
  refine ⟨by rfl, ?_⟩
  intro F W0 hnp hmk
  refine vc_seq_k fun N1 h1 => ?_
  refine u_reg ?_
  try refine lg_mk ?_
  refine u_mv ?_
  refine lg_nil ?_
  refine h1 _ ?_; clear h1; try clear N1
  refine vc_seq_k fun N2 h2 => ?_
  refine vc_seq_k fun N3 h3 => ?_
  refine u_reg ?_
  try refine lg_mk ?_
  have hc := call_rule (E := (E_negExample.at_ 58)) (f := 12) (sp := Spec.pure exampleG) rfl
  have hs := @exampleG.eq_1
  refine u_cp ?_
  refine u_un ?_
  refine lg_nil ?_
  refine h3 _ ?_; clear h3; try clear N3
  refine u_cond (fun hb4 => ?_) (fun hb4 => ?_)
  ·first | omega | exact absurd trivial hb4 | contradiction | (simp_all; done)
  ·refine vc_skip ?_
   try simp only [k_rules]
   refine h2 _ ?_; clear h2; try clear N2
   refine vc_seq_k fun N5 h5 => ?_
   by_cases h0 : (negF l ss rs ws).1 = 0
   ·obtain ⟨hneg, hz⟩ := neg_of h0
    have hv := hneg.val
    have hl60 := hv.len
    have hsl2 := hneg.sl
    have hrl2 := hneg.rl
    have hwf := hneg.few
    have hwr := hneg.inr
    have hsm2 := sent_miss hneg
    have hsl3 := sent_len l ss rs ws
    have hml3 := miss_len l rs ws
    have hee := end_ex (ss := ss) (rs := rs) hv
    have hel := told_r_le hv hee.2
    have hrdl := rds_len l ss rs (endR l ss rs)
    have hx := And.intro @hz (And.intro @h0 hx0)
    refine u_reg ?_
    try refine lg_mk ?_
    refine u_mv ?_
    refine u_mv ?_
    refine u_mv ?_
    refine u_mv ?_
    have hc := call_rule (E := (E_negExample.at_ 58)) (f := 13) (sp := Spec.pure missG) rfl
    have hs := @missG.eq_1
    refine u_hp ?_
    refine u_mv ?_
    refine u_ex ?_
    refine u_ex ?_
    refine u_al ?_
    refine u_mv ?_
    refine u_st ?_
    refine lg_nil ?_
    have hx := hx0
    refine h5 _ ?_; clear h5; try clear N5
    refine vc_seq_k fun N6 h6 => ?_
    have hx := And.intro @hz (And.intro @h0 hx0)
    refine u_reg ?_
    try refine lg_mk ?_
    refine u_mv ?_
    refine u_mv ?_
    refine u_mv ?_
    refine u_mv ?_
    have hc := call_rule (E := (E_negExample.at_ 58)) (f := 14) (sp := Spec.pure runG) rfl
    have hs := @runG.eq_1
    refine u_hp ?_
    refine u_mv ?_
    refine u_ex ?_
    refine u_ex ?_
    refine u_ex ?_
    refine u_al ?_
    refine u_mv ?_
    refine u_mv ?_
    refine u_st ?_
    refine lg_nil ?_
    have hx := hx0
    refine h6 _ ?_; clear h6; try clear N6
    refine vc_seq_k fun N7 h7 => ?_
    refine vc_seq_k fun N8 h8 => ?_
    refine u_reg ?_
    try refine lg_mk ?_
    refine u_pt ?_
    refine u_ld ?_
    refine u_bn ?_
    refine u_mv ?_
    refine g_pt ?_
    refine g_ld ?_
    refine g_bn ?_
    refine u_pk ?_
    refine lg_nil ?_
    refine h8 _ ?_; clear h8; try clear N8
    refine u_cond (fun hb9 => ?_) (fun hb9 => ?_)
    ·first | omega | exact absurd trivial hb9 | contradiction | (simp_all; done)
    ·refine vc_skip ?_
     try simp only [k_rules]
     refine h7 _ ?_; clear h7; try clear N7
     refine vc_seq_k fun N10 h10 => ?_
     have hx := And.intro @hsm2 hx0
     refine u_reg ?_
     try refine lg_mk ?_
     refine u_mv ?_
     refine u_mv ?_
     have hc := call_rule (E := (E_negExample.at_ 58)) (f := 17) (sp := Spec.pure intsG) rfl
     have hs := @intsG.eq_1
     refine u_cp ?_
     refine u_mv ?_
     refine lg_nil ?_
     have hx := hx0
     refine h10 _ ?_; clear h10; try clear N10
     refine vc_ret ?_
     try simp only [k_rules]
     refine fin2_ ?_
     (repeat' apply And.intro) <;> (first | (first | rfl | (simp [*]; done) | (simp_all; done)) | (first | rfl | exact Or.inr rfl | exact Or.inl rfl | trivial | omega | assumption | (simp; done) | (simp; omega)))
   ·have hz : True := trivial
    have hx := And.intro @hz (And.intro @h0 hx0)
    refine u_reg ?_
    try refine lg_mk ?_
    refine u_mv ?_
    refine u_mv ?_
    refine u_mv ?_
    refine u_mv ?_
    have hc := call_rule (E := (E_negExample.at_ 58)) (f := 13) (sp := Spec.pure missG) rfl
    have hs := @missG.eq_1
    refine u_hp ?_
    refine u_mv ?_
    refine u_ex ?_
    refine u_ex ?_
    refine u_al ?_
    refine u_mv ?_
    refine u_st ?_
    refine lg_nil ?_
    have hx := hx0
    refine h5 _ ?_; clear h5; try clear N5
    refine vc_seq_k fun N11 h11 => ?_
    have hx := And.intro @hz (And.intro @h0 hx0)
    refine u_reg ?_
    try refine lg_mk ?_
    refine u_mv ?_
    refine u_mv ?_
    refine u_mv ?_
    refine u_mv ?_
    have hc := call_rule (E := (E_negExample.at_ 58)) (f := 14) (sp := Spec.pure runG) rfl
    have hs := @runG.eq_1
    refine u_hp ?_
    refine u_mv ?_
    refine u_ex ?_
    refine u_ex ?_
    refine u_ex ?_
    refine u_al ?_
    refine u_mv ?_
    refine u_mv ?_
    refine u_st ?_
    refine lg_nil ?_
    have hx := hx0
    refine h11 _ ?_; clear h11; try clear N11
    refine vc_seq_k fun N12 h12 => ?_
    refine vc_seq_k fun N13 h13 => ?_
    refine u_reg ?_
    try refine lg_mk ?_
    refine u_pt ?_
    refine u_ld ?_
    refine u_bn ?_
    refine u_mv ?_
    refine g_pt ?_
    refine g_ld ?_
    refine g_bn ?_
    refine u_pk ?_
    refine lg_nil ?_
    refine h13 _ ?_; clear h13; try clear N13
    refine u_cond (fun hb14 => ?_) (fun hb14 => ?_)
    ·refine vc_seq_k fun N15 h15 => ?_
     refine u_reg ?_
     try refine lg_mk ?_
     refine u_ld ?_
     refine u_ld ?_
     refine u_bn ?_
     refine u_mv ?_
     refine g_mv ?_
     refine g_ln ?_
     refine g_mv ?_
     refine g_ln ?_
     refine g_bn ?_
     refine g_mv ?_
     refine g_ln ?_
     refine g_bn ?_
     refine g_bn ?_
     refine u_pk ?_
     refine u_mv ?_
     refine lg_nil ?_
     refine h15 _ ?_; clear h15; try clear N15
     refine vc_ret ?_
     try simp only [k_rules]
     refine fin2_ ?_
     (repeat' apply And.intro) <;> (first | (first | rfl | (simp [*]; done) | (simp_all; done)) | (first | rfl | exact Or.inr rfl | exact Or.inl rfl | trivial | omega | assumption | (simp; done) | (simp; omega)))
    ·first | omega | exact absurd trivial hb14 | contradiction | (simp_all; done)
 ·cases hg

def E_lawSends : Env Try.prog := E_negExample.add 4 (Spec.pure lawNG) lawSends_meets (by kernel_rfl)
end Go.Proofs.Ytaoifpmifpmhmaa
