/- Walks, printed by wip/gen/walk.py. -/
import Derived.Test.YtjdhadbnmghdgaaT29
import Derived.Test.YtjdhadbnmghdgaaV5
set_option linter.all false
set_option maxRecDepth 100000
set_option maxHeartbeats 4000000
namespace Go.Proofs.Ytjdhadbnmghdgaa
open Go Go.Vc Go.RowKit
theorem lawIx_meets : Meets Try.prog 3 (Spec.pure lawTG) := by
 refine meets_fun (E_exT.at_ 44) Try.func3 rfl rfl rfl ?_
 intro args p r hg hp
 unfold lawTG at hg
 split at hg
 ·rename_i xs
  simp only [Option.some.injEq, Prod.mk.injEq] at hg
  obtain ⟨rfl, rfl⟩ := hg
  obtain ⟨he, hl, hsl⟩ := hp
  generalize dT xs = l at *
  subst he
  have hT : (E_exT).X = T := rfl
  have hx0 := And.intro @rect_eT (And.intro @rect_eP (And.intro @dI_rows (And.intro @dP_rows (And.intro @dT_rows (And.intro @dI_nil (And.intro @dP_nil (And.intro @dec_t (And.intro @dec_f @Try.results3))))))))
  have hx := hx0
  refine ⟨by rfl, ?_⟩
  intro F W0 hnp hmk
  refine vc_seq_k fun N1 h1 => ?_
  refine u_reg ?_
  try refine lg_mk ?_
  refine u_mv ?_
  refine lg_nil ?_
  refine h1 _ ?_; clear h1; try clear N1
  refine vc_seq_k fun N2 h2 => ?_
  refine vc_seq_k fun N3 h3 => ?_
  refine u_reg ?_
  try refine lg_mk ?_
  have hc := call_rule (E := (E_exT.at_ 44)) (f := 9) (sp := Spec.pure exG) rfl
  have hs := @exG.eq_1
  refine u_cp ?_
  refine u_un ?_
  refine lg_nil ?_
  refine h3 _ ?_; clear h3; try clear N3
  refine u_cond (fun hb4 => ?_) (fun hb4 => ?_)
  ·first | omega | exact absurd trivial hb4 | contradiction | (simp_all; done)
  ·refine vc_skip ?_
   try simp only [k_rules]
   refine h2 _ ?_; clear h2; try clear N2
   refine vc_seq_k fun N5 h5 => ?_
   rcases textsF_or l with hcs | hcs
   ·have hsn := small_nil
    obtain ⟨hb1, hb2, hb3⟩ := hcs
    have hb4 : ¬(textsF l).1 = 0 := hb1
    have hx0 := And.intro @hb2 (And.intro @hb3 (And.intro @hb4 (hx0)))
    have hx := hx0
    refine u_reg ?_
    try refine lg_mk ?_
    refine u_mv ?_
    have hc := call_rule (E := (E_exT.at_ 44)) (f := 10) (sp := Spec.pure indexTG) rfl
    have hs := @indexTG.eq_1
    refine u_hp (hq := by (first | (exact ⟨hl, hsl⟩) | (first | trivial | omega | assumption | (unfold inI64; omega) | ((repeat' apply And.intro) <;> first | rfl | trivial | omega | assumption | (unfold inI64; omega)) | (simp; done) | (simp; omega)))) ?_
    refine u_mv ?_
    refine u_ex ?_
    refine u_ex ?_
    refine u_al ?_
    refine u_al ?_
    refine u_st ?_
    refine u_st ?_
    refine lg_nil ?_
    refine h5 _ ?_; clear h5; try clear N5
    refine vc_seq_k fun N6 h6 => ?_
    refine vc_seq_k fun N7 h7 => ?_
    refine u_reg ?_
    try refine lg_mk ?_
    refine u_mv ?_
    have hc := call_rule (E := (E_exT.at_ 44)) (f := 11) (sp := Spec.pure txfG) rfl
    have hs := @txfG.eq_1
    refine u_cp (hq := by (first | (exact ⟨hl, hsl⟩) | (first | trivial | omega | assumption | (unfold inI64; omega) | ((repeat' apply And.intro) <;> first | rfl | trivial | omega | assumption | (unfold inI64; omega)) | (simp; done) | (simp; omega)))) ?_
    refine u_al ?_
    refine u_st ?_
    refine lg_nil ?_
    refine h7 _ ?_; clear h7; try clear N7
    refine vc_seq_k fun N8 h8 => ?_
    refine u_reg ?_
    try refine lg_mk ?_
    refine u_pt ?_
    refine u_ld ?_
    refine u_bn ?_
    refine lg_nil ?_
    refine h8 _ ?_; clear h8; try clear N8
    refine u_cond (fun hb9 => ?_) (fun hb9 => ?_)
    ·refine vc_seq_k fun N10 h10 => ?_
     refine u_reg ?_
     try refine lg_mk ?_
     refine u_ld ?_
     refine u_ld ?_
     refine u_bn ?_
     refine u_mv ?_
     refine g_ld ?_
     refine g_bd ?_
     have hc := call_rule (E := (E_exT.at_ 44)) (f := 12) (sp := Spec.pure idxsG) rfl
     have hs := @idxsG.eq_1
     refine g_cp ?_
     refine u_pk ?_
     refine u_mv ?_
     refine lg_nil ?_
     refine h10 _ ?_; clear h10; try clear N10
     refine vc_ret ?_
     try simp only [k_rules]
     refine fin2_ ?_
     (repeat' apply And.intro) <;> (first | (first | rfl | (simp; done) | (simp [*]; done) | (left; rfl)) | (first | rfl | exact Or.inr rfl | exact Or.inl rfl | trivial | omega | assumption | (simp; done) | (simp; omega)))
    ·first | omega | exact absurd trivial hb9 | contradiction | (simp_all; done)
   ·have hsn := small_nil
    obtain ⟨hb1, hb2, hb3, hl20, hl400⟩ := hcs
    have hvi := val_idx (ts := l) hl20
    have hvt := val_to hvi
    have hvl := hvi.plen
    have hvs := smallP_of hvi
    have hio := iota_len l.length
    have hto : ((l.length : Nat) : Int).toNat = l.length := by omega
    have hx0 := And.intro @hb1 (And.intro @hb2 (And.intro @hb3 (And.intro @hvt (And.intro @hio (And.intro @hto (hx0))))))
    have hx := hx0
    refine u_reg ?_
    try refine lg_mk ?_
    refine u_mv ?_
    have hc := call_rule (E := (E_exT.at_ 44)) (f := 10) (sp := Spec.pure indexTG) rfl
    have hs := @indexTG.eq_1
    refine u_hp (hq := by (first | (exact ⟨hl, hsl⟩) | (first | trivial | omega | assumption | (unfold inI64; omega) | ((repeat' apply And.intro) <;> first | rfl | trivial | omega | assumption | (unfold inI64; omega)) | (simp; done) | (simp; omega)))) ?_
    refine u_mv ?_
    refine u_ex ?_
    refine u_ex ?_
    refine u_al ?_
    refine u_al ?_
    refine u_st ?_
    refine u_st ?_
    refine lg_nil ?_
    refine h5 _ ?_; clear h5; try clear N5
    refine vc_seq_k fun N11 h11 => ?_
    refine vc_seq_k fun N12 h12 => ?_
    refine u_reg ?_
    try refine lg_mk ?_
    refine u_mv ?_
    have hc := call_rule (E := (E_exT.at_ 44)) (f := 11) (sp := Spec.pure txfG) rfl
    have hs := @txfG.eq_1
    refine u_cp (hq := by (first | (exact ⟨hl, hsl⟩) | (first | trivial | omega | assumption | (unfold inI64; omega) | ((repeat' apply And.intro) <;> first | rfl | trivial | omega | assumption | (unfold inI64; omega)) | (simp; done) | (simp; omega)))) ?_
    refine u_al ?_
    refine u_st ?_
    refine lg_nil ?_
    refine h12 _ ?_; clear h12; try clear N12
    refine vc_seq_k fun N13 h13 => ?_
    refine u_reg ?_
    try refine lg_mk ?_
    refine u_pt ?_
    refine u_ld ?_
    refine u_bn ?_
    refine lg_nil ?_
    refine h13 _ ?_; clear h13; try clear N13
    refine u_cond (fun hb14 => ?_) (fun hb14 => ?_)
    ·first | omega | exact absurd trivial hb14 | contradiction | (simp_all; done)
    ·refine vc_skip ?_
     try simp only [k_rules]
     refine h11 _ ?_; clear h11; try clear N11
     refine vc_seq_k fun N15 h15 => ?_
     refine vc_regO [14, 13] [0, 1, 2, 3, 4, 5, 6, 8, 7, 9, 10, 11, 12, 13, 14, 15, 16, 17, 18] hmix (by kernel_rfl) ?_
     simp only [pick_rules, list_rules]
     try refine lg_mk ?_
     refine u_pt ?_
     refine u_ld ?_
     refine u_bn ?_
     refine u_mv ?_
     refine g_ld ?_
     refine g_mv ?_
     refine g_ln ?_
     refine g_mv ?_
     have hc := call_rule (E := (E_exT.at_ 44)) (f := 14) (sp := Spec.pure numTG) rfl
     have hs := @numTG.eq_1
     refine t_hp (hq := by (first | (omega) | (first | trivial | omega | assumption | (unfold inI64; omega) | ((repeat' apply And.intro) <;> first | rfl | trivial | omega | assumption | (unfold inI64; omega)) | (simp; done) | (simp; omega)))) ?_
     have hc := call_rule (E := (E_exT.at_ 44)) (f := 13) (sp := Spec.pure ixOfG) rfl
     have hs := @ixOfG.eq_1
     refine t_hp (hq := by (first | (first | exact ⟨hl20, hl400⟩ | exact ⟨rfl, hl20, hl400⟩) | (first | trivial | omega | assumption | (unfold inI64; omega) | ((repeat' apply And.intro) <;> first | rfl | trivial | omega | assumption | (unfold inI64; omega)) | (simp; done) | (simp; omega)))) ?_
     have hc := call_rule (E := (E_exT.at_ 44)) (f := 12) (sp := Spec.pure idxsG) rfl
     have hs := @idxsG.eq_1
     refine g_cp ?_
     refine u_pk ?_
     refine u_mv ?_
     refine g_ld ?_
     have hc := call_rule (E := (E_exT.at_ 44)) (f := 15) (sp := Spec.pure valTG) rfl
     have hs := @valTG.eq_1
     refine g_cp ?_
     refine g_pt ?_
     refine g_bn ?_
     refine u_pk ?_
     refine u_mv ?_
     refine lg_nil ?_
     refine h15 _ ?_; clear h15; try clear N15
     refine vc_ret ?_
     try simp only [k_rules]
     refine fin2_ ?_
     (repeat' apply And.intro) <;> (first | (first | rfl | (simp; done) | (simp [*]; done) | (left; rfl)) | (first | rfl | exact Or.inr rfl | exact Or.inl rfl | trivial | omega | assumption | (simp; done) | (simp; omega)))
 ·cases hg
end Go.Proofs.Ytjdhadbnmghdgaa
