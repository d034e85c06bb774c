/- Walks, printed by wip/gen/walk.py. -/
import Derived.Test.YtjdhadbnmghdgaaT28
import Derived.Test.YtjdhadbnmghdgaaV5
set_option linter.all false
set_option maxRecDepth 100000
set_option maxHeartbeats 4000000
namespace Go.Proofs.Ytjdhadbnmghdgaa
open Go Go.Vc Go.RowKit
theorem ar_cases (l : List Int) (P : List Post) (n : Int) (u : Bs) : (addF l P n u).1 ≠ 0 ∨ (addF l P n u = (0, 0) ∧ ValP l P ∧ n ∉ l ∧ (0 ≤ n ∧ n ≤ 19) ∧ addTs l P n u = ins l n ∧ addPs l P n u = addP P n u) := by
  rcases add_cases l P n u with h | h | h | h | ⟨h1, h2, h3, h4, h5, h6, _⟩
  · exact .inl (by rw [h.2.1]; exact h.1)
  · exact .inl (by rw [h.2.2.2.2]; decide)
  · exact .inl (by rw [h.2.2.2.2.1]; decide)
  · exact .inl (by rw [h.2.2.2.2.2.1]; decide)
  · obtain ⟨_, g2, g3⟩ := add_0 (s := u) h2 h4.1 (by omega) h3 h5
    exact .inr ⟨h6, h2, h3, h4, g2, g3⟩

theorem lawAr_meets : Meets Try.prog 8 (Spec.pure lawXNSG) := by
 refine meets_fun (E_remv.at_ 40) Try.func8 rfl rfl rfl ?_
 intro args p r hg hp
 unfold lawXNSG at hg
 split at hg
 ·rename_i xs ps n u
  simp only [Option.some.injEq, Prod.mk.injEq] at hg
  obtain ⟨rfl, rfl⟩ := hg
  obtain ⟨he, hl, he2, hl2, hsm, hsl, hn64⟩ := hp
  generalize dI xs = l at *
  generalize dP ps = P at *
  subst he he2
  have hT : (E_remv).X = T := rfl
  have hx0 := And.intro @rect_eT (And.intro @rect_eP (And.intro @dI_rows (And.intro @dP_rows (And.intro @dT_rows (And.intro @dI_nil (And.intro @dP_nil (And.intro @dec_t (And.intro @dec_f @Try.results8))))))))
  have hx := hx0
  refine ⟨by rfl, ?_⟩
  intro F W0 hnp hmk
  refine vc_seq_k fun N1 h1 => ?_
  refine u_reg ?_
  try refine lg_mk ?_
  refine u_bx ?_
  refine u_mv ?_
  refine lg_nil ?_
  refine h1 _ ?_; clear h1; try clear N1
  refine vc_seq_k fun N2 h2 => ?_
  refine vc_seq_k fun N3 h3 => ?_
  refine u_reg ?_
  try refine lg_mk ?_
  have hc := call_rule (E := (E_remv.at_ 40)) (f := 9) (sp := Spec.pure exG) rfl
  have hs := @exG.eq_1
  refine u_cp ?_
  refine u_un ?_
  refine lg_nil ?_
  refine h3 _ ?_; clear h3; try clear N3
  refine u_cond (fun hb4 => ?_) (fun hb4 => ?_)
  ·first | omega | exact absurd trivial hb4 | contradiction | (simp_all; done)
  ·refine vc_skip ?_
   try simp only [k_rules]
   refine h2 _ ?_; clear h2; try clear N2
   refine vc_seq_k fun N5 h5 => ?_
   rcases ar_cases l P n u with hcs | hcs
   ·have hsn := small_nil
    have hb0 := hcs
    obtain ⟨hb3, hb4⟩ := add_1 (l := l) (P := P) (n := n) (s := u) rfl hb0
    have hb7 : ¬(addF l P n u).1 = 0 := hb0
    have hx0 := And.intro @hb3 (And.intro @hb4 (And.intro @hb7 (hx0)))
    have hx := hx0
    refine u_reg ?_
    try refine lg_mk ?_
    refine u_ld ?_
    refine u_mv ?_
    refine u_mv ?_
    have hc := call_rule (E := (E_remv.at_ 40)) (f := 24) (sp := Spec.pure addTG) rfl
    have hs := @addTG.eq_1
    refine u_hp (hq := by (first | (exact ⟨hl, hl2, hsm, hsl⟩) | exact sd_)) ?_
    refine u_mv ?_
    refine u_ex ?_
    refine u_ex ?_
    refine u_al ?_
    refine u_al ?_
    refine u_st ?_
    refine u_st ?_
    refine lg_nil ?_
    refine h5 _ ?_; clear h5; try clear N5
    refine vc_seq_k fun N6 h6 => ?_
    refine vc_seq_k fun N7 h7 => ?_
    refine u_reg ?_
    try refine lg_mk ?_
    refine u_pt ?_
    refine u_ld ?_
    refine u_bn ?_
    refine lg_nil ?_
    refine h7 _ ?_; clear h7; try clear N7
    refine u_cond (fun hb8 => ?_) (fun hb8 => ?_)
    ·refine vc_seq_k fun N9 h9 => ?_
     refine u_reg ?_
     try refine lg_mk ?_
     refine u_ld ?_
     refine u_bd ?_
     have hc := call_rule (E := (E_remv.at_ 40)) (f := 12) (sp := Spec.pure idxsG) rfl
     have hs := @idxsG.eq_1
     refine u_cp (hq := by (first | ((repeat' apply And.intro) <;> first | rfl | omega | exact small_nil | assumption | (simp; done) | (simp; omega)) | exact sd_)) ?_
     refine u_mv ?_
     refine lg_nil ?_
     refine h9 _ ?_; clear h9; try clear N9
     refine vc_ret ?_
     try simp only [k_rules]
     refine fin2_ ?_
     (repeat' apply And.intro) <;> (first | (first | rfl | (simp; done) | (simp [*]; done) | (left; rfl)) | exact cl_)
    ·first | omega | exact absurd trivial hb8 | contradiction | (simp_all; done)
   ·have hsn := small_nil
    obtain ⟨hb2, hv, hb1, hb7, hb3, hb4⟩ := hcs
    have hvl := hv.plen
    have hvs := smallP_of hv
    have hvn := hv.tlen
    have hm := ins_len (l := l) (n := n)
    have hdl := delI_len (isN n) l
    have hrp := remP_len P n
    have hva := val_add (s := u) hv hb7.1 (by omega : n < 20)
    have hval := hva.plen
    have hvas := smallP_of hva
    have hvan := hva.tlen
    obtain ⟨hb5, hb6, hb9⟩ := rem_0 hva (ins_mem.2 (.inl rfl))
    have hba := del_ins hv.tsort hb1
    have hbb := rem_add (s := u) hv hb1
    have hx0 := And.intro @hb2 (And.intro @hb3 (And.intro @hb4 (And.intro @hb5 (And.intro @hb6 (And.intro @hb9 (And.intro @hba (And.intro @hbb (hx0))))))))
    have hx := hx0
    refine u_reg ?_
    try refine lg_mk ?_
    refine u_ld ?_
    refine u_mv ?_
    refine u_mv ?_
    have hc := call_rule (E := (E_remv.at_ 40)) (f := 24) (sp := Spec.pure addTG) rfl
    have hs := @addTG.eq_1
    refine u_hp (hq := by (first | (exact ⟨hl, hl2, hsm, hsl⟩) | exact sd_)) ?_
    refine u_mv ?_
    refine u_ex ?_
    refine u_ex ?_
    refine u_al ?_
    refine u_al ?_
    refine u_st ?_
    refine u_st ?_
    refine lg_nil ?_
    refine h5 _ ?_; clear h5; try clear N5
    refine vc_seq_k fun N10 h10 => ?_
    refine vc_seq_k fun N11 h11 => ?_
    refine u_reg ?_
    try refine lg_mk ?_
    refine u_pt ?_
    refine u_ld ?_
    refine u_bn ?_
    refine lg_nil ?_
    refine h11 _ ?_; clear h11; try clear N11
    refine u_cond (fun hb12 => ?_) (fun hb12 => ?_)
    ·first | omega | exact absurd trivial hb12 | contradiction | (simp_all; done)
    ·refine vc_skip ?_
     try simp only [k_rules]
     refine h10 _ ?_; clear h10; try clear N10
     refine vc_seq_k fun N13 h13 => ?_
     refine u_reg ?_
     try refine lg_mk ?_
     refine u_ld ?_
     refine u_mv ?_
     have hc := call_rule (E := (E_remv.at_ 40)) (f := 25) (sp := Spec.pure remvG) rfl
     have hs := @remvG.eq_1
     refine u_hp (hq := by (first | (first | exact ⟨by omega, by omega, hvas⟩ | (refine ⟨?_, ?_, ?_⟩ <;> first | exact hvas | omega)) | exact sd_)) ?_
     refine u_mv ?_
     refine u_ex ?_
     refine u_ex ?_
     refine u_al ?_
     refine u_al ?_
     refine u_st ?_
     refine u_st ?_
     refine lg_nil ?_
     refine h13 _ ?_; clear h13; try clear N13
     refine vc_seq_k fun N14 h14 => ?_
     refine u_reg ?_
     try refine lg_mk ?_
     refine u_pt ?_
     refine u_ld ?_
     refine u_bn ?_
     refine u_mv ?_
     refine g_ld ?_
     refine g_ld ?_
     have hc := call_rule (E := (E_remv.at_ 40)) (f := 12) (sp := Spec.pure idxsG) rfl
     have hs := @idxsG.eq_1
     refine g_cp ?_
     refine u_pk ?_
     refine u_mv ?_
     refine lg_nil ?_
     refine h14 _ ?_; clear h14; try clear N14
     refine vc_ret ?_
     try simp only [k_rules]
     refine fin2_ ?_
     (repeat' apply And.intro) <;> (first | (first | rfl | (simp; done) | (simp [*]; done) | (left; rfl)) | exact cl_)
 ·cases hg
end Go.Proofs.Ytjdhadbnmghdgaa
