/- Walks, printed by wip/gen/walk.py. -/
import Derived.Test.YtlbjffdaooadoaaDoorT54
import Derived.Test.YtlbjffdaooadoaaDoorV5
set_option linter.all false
set_option maxRecDepth 100000
set_option maxHeartbeats 4000000
namespace Go.Proofs.YtlbjffdaooadoaaDoor
open Go Go.Vc Go.RowKit
def simG (fu : Nat) : List AV → Option (Prop × AV)
  | [.d x] => some (x = dT (tD x) ∧ okT (tD x) ∧ szT (tD x) ≤ fu ∧ szT (tD x) ≤ 900, .d (dT (simT (tD x))))
  | _ => none
def E_si (n : Nat) (ks : Meets Tryd.prog 35 (Spec.pure (simG n))) : Env Tryd.prog := E_two.add 35 (Spec.pure (simG n)) ks (by kernel_rfl)
theorem sim_c {k m : Int} {l r : Tr} (h : okT (.nd k m l r)) : (ar k = 0 ∧ simT (.nd k m l r) = .nd k m l r) ∨ (ar k = 1 ∧ 7 ≤ k ∧ k ≤ 13 ∧ okT l ∧ simT (.nd k m l r) = oneT k (simT l)) ∨ (ar k = 2 ∧ 14 ≤ k ∧ k ≤ 16 ∧ okT l ∧ okT r ∧ simT (.nd k m l r) = twoT k (simT l) (simT r)) := by
  obtain ⟨h1, h2, h3, h4, h5, h6, h7⟩ := h
  rcases ar_or k with ⟨_, ha⟩ | ⟨_, _, ha⟩ | ⟨_, ha⟩
  · exact .inl ⟨ha, by unfold simT; rw [if_neg (by omega), if_neg (by omega)]⟩
  · exact .inr (.inl ⟨ha, by omega, by omega, (h6 ha).1, by rw [simT, if_pos ha]⟩)
  · exact .inr (.inr ⟨ha, by omega, by omega, (h7 ha).1, (h7 ha).2, by rw [simT, if_neg (by omega), if_pos ha]⟩)

theorem sim_step (fu : Nat) (ks : Meets Tryd.prog 35 (Spec.pure (simG fu))) : Meets Tryd.prog 35 (Spec.pure (simG (fu + 1))) := by
 refine meets_fun ((E_si fu ks).at_ 38) Tryd.func35 rfl rfl rfl ?_
 intro args p r hg hp
 unfold simG at hg
 split at hg
 rename_i x
 simp only [Option.some.injEq, Prod.mk.injEq] at hg
 obtain ⟨rfl, rfl⟩ := hg
 obtain ⟨he, hok, hfu, hf9⟩ := hp
 generalize tD x = t at *
 subst he
 obtain ⟨k, m, l, r, rfl⟩ := dT_ne (okT_ne hok)
 rw [szT_nd] at hfu hf9
 have hT : ((E_si fu ks)).X = T := rfl
 have hx0 := And.intro @dec_t (And.intro @dec_f (And.intro @rect_eN (And.intro @dN_rows (And.intro @Int.toNat_natCast (And.intro @tD_dT (And.intro @tD_nd (And.intro @tD_lf (And.intro @cl_dT (And.intro @cm_dT (And.intro @dT_nd (And.intro @dT_nil (And.intro @eq_dT (And.intro @ne_dT (And.intro @getD_tr @Tryd.results35))))))))))))))
 have hx := hx0
 refine ⟨by rfl, ?_⟩
 intro F W0 hnp hmk
 refine vc_seq_k fun N1 h1 => ?_
 refine u_reg ?_
 try refine lg_mk ?_
 refine u_mv ?_
 refine lg_nil ?_
 refine h1 _ ?_; clear h1; try clear N1
 refine vc_seq_k fun N2 h2 => ?_
 refine vc_seq_k fun N3 h3 => ?_
 rcases sim_c hok with ⟨ha, hS⟩ | ⟨ha, hk1, hk2, hl, hS⟩ | ⟨ha, hk1, hk2, hl, hr, hS⟩
 have hx := And.intro @ha hx0
 refine u_reg ?_
 try refine lg_mk ?_
 refine u_mv ?_
 refine u_nl ?_
 refine u_pt ?_
 refine u_ld ?_
 have hc := call_rule (E := ((E_si fu ks).at_ 38)) (f := 47) (sp := Spec.pure arG) rfl
 have hs := @arG.eq_1
 refine u_cp ?_
 refine lg_nil ?_
 have hx := hx0
 refine h3 _ ?_; clear h3; try clear N3
 refine vc_block ?_
 refine vc_seq_k fun N4 h4 => ?_
 refine u_reg ?_
 try refine lg_mk ?_
 refine u_bn ?_
 refine u_mv ?_
 refine lg_nil ?_
 refine h4 _ ?_; clear h4; try clear N4
 refine u_cond (fun hb5 => ?_) (fun hb5 => ?_)
 ·first | omega | exact absurd trivial hb5 | contradiction | (simp_all; done)
 refine vc_seq_k fun N6 h6 => ?_
 refine u_reg ?_
 try refine lg_mk ?_
 refine u_bn ?_
 refine u_mv ?_
 refine lg_nil ?_
 refine h6 _ ?_; clear h6; try clear N6
 refine u_cond (fun hb7 => ?_) (fun hb7 => ?_)
 ·first | omega | exact absurd trivial hb7 | contradiction | (simp_all; done)
 refine vc_skip ?_
 try simp only [k_rules]
 refine h2 _ ?_; clear h2; try clear N2
 refine vc_seq_k fun N8 h8 => ?_
 refine u_reg ?_
 try refine lg_mk ?_
 iterate 2 refine u_mv ?_
 refine lg_nil ?_
 refine h8 _ ?_; clear h8; try clear N8
 refine vc_ret ?_
 try simp only [k_rules]
 rw [hS]
 refine fin2_ ?_
 exact cl_
 have i1 := sim_ok hl
 have sA := sc_dT (okT_ne i1.1)
 have sB := sc_dT (okT_ne (one_ok ⟨hk1, hk2⟩ i1.1).1)
 have hx := And.intro @ha hx0
 refine u_reg ?_
 try refine lg_mk ?_
 refine u_mv ?_
 refine u_nl ?_
 refine u_pt ?_
 refine u_ld ?_
 have hc := call_rule (E := ((E_si fu ks).at_ 38)) (f := 47) (sp := Spec.pure arG) rfl
 have hs := @arG.eq_1
 refine u_cp ?_
 refine lg_nil ?_
 have hx := hx0
 refine h3 _ ?_; clear h3; try clear N3
 refine vc_block ?_
 refine vc_seq_k fun N9 h9 => ?_
 refine u_reg ?_
 try refine lg_mk ?_
 refine u_bn ?_
 refine u_mv ?_
 refine lg_nil ?_
 refine h9 _ ?_; clear h9; try clear N9
 refine u_cond (fun hb10 => ?_) (fun hb10 => ?_)
 refine vc_seq_k fun N11 h11 => ?_
 have hx := And.intro @sA (And.intro @sB hx0)
 refine vc_regG [35, 66] hmix (by kernel_rfl) ?_
 try refine lg_mk ?_
 refine u_mv ?_
 refine u_nl ?_
 refine u_pt ?_
 refine u_ld ?_
 refine u_mv ?_
 refine u_nl ?_
 refine u_pt ?_
 refine u_ld ?_
 have hc := call_rule (E := ((E_si fu ks).at_ 38)) (f := 35) (sp := Spec.pure (simG fu)) rfl
 have hs := @simG.eq_1
 refine u_hp (hq := by (first | ((repeat' apply And.intro) <;> first | rfl | omega | exact hl | exact hr | exact i1.1 | exact i2.1) | exact sd_)) ?_
 have hc := call_rule (E := ((E_si fu ks).at_ 38)) (f := 66) (sp := Spec.pure (oneRG 1000)) rfl
 have hs := @oneRG.eq_1
 refine u_hp (hq := by (first | ((repeat' apply And.intro) <;> first | rfl | omega | exact hl | exact hr | exact i1.1 | exact i2.1) | exact sd_)) ?_
 refine u_mv ?_
 refine lg_nil ?_
 have hx := hx0
 refine h11 _ ?_; clear h11; try clear N11
 refine vc_ret ?_
 try simp only [k_rules]
 rw [hS]
 refine fin2_ ?_
 exact cl_
 ·first | omega | exact absurd trivial hb10 | contradiction | (simp_all; done)
 have i1 := sim_ok hl
 have i2 := sim_ok hr
 have sA := sc_dT (okT_ne i1.1)
 have sB := sc_dT (okT_ne i2.1)
 have sC := sc_dT (okT_ne (two_ok ⟨hk1, hk2⟩ i1.1 i2.1).1)
 have hx := And.intro @ha hx0
 refine u_reg ?_
 try refine lg_mk ?_
 refine u_mv ?_
 refine u_nl ?_
 refine u_pt ?_
 refine u_ld ?_
 have hc := call_rule (E := ((E_si fu ks).at_ 38)) (f := 47) (sp := Spec.pure arG) rfl
 have hs := @arG.eq_1
 refine u_cp ?_
 refine lg_nil ?_
 have hx := hx0
 refine h3 _ ?_; clear h3; try clear N3
 refine vc_block ?_
 refine vc_seq_k fun N12 h12 => ?_
 refine u_reg ?_
 try refine lg_mk ?_
 refine u_bn ?_
 refine u_mv ?_
 refine lg_nil ?_
 refine h12 _ ?_; clear h12; try clear N12
 refine u_cond (fun hb13 => ?_) (fun hb13 => ?_)
 ·first | omega | exact absurd trivial hb13 | contradiction | (simp_all; done)
 refine vc_seq_k fun N14 h14 => ?_
 refine u_reg ?_
 try refine lg_mk ?_
 refine u_bn ?_
 refine u_mv ?_
 refine lg_nil ?_
 refine h14 _ ?_; clear h14; try clear N14
 refine u_cond (fun hb15 => ?_) (fun hb15 => ?_)
 refine vc_seq_k fun N16 h16 => ?_
 have hx := And.intro @sA (And.intro @sB (And.intro @sC hx0))
 refine vc_regO [35, 67] [0, 1, 2, 3, 4, 5, 6, 7, 9, 10, 11, 12, 8, 13, 14, 15] hmix (by kernel_rfl) ?_
 simp only [pick_rules, list_rules]
 try refine lg_mk ?_
 refine u_mv ?_
 refine u_nl ?_
 refine u_pt ?_
 refine u_ld ?_
 refine u_mv ?_
 refine u_nl ?_
 refine u_pt ?_
 refine u_ld ?_
 refine u_mv ?_
 refine u_nl ?_
 refine u_pt ?_
 refine u_ld ?_
 have hc := call_rule (E := ((E_si fu ks).at_ 38)) (f := 35) (sp := Spec.pure (simG fu)) rfl
 have hs := @simG.eq_1
 refine u_hp (hq := by (first | ((repeat' apply And.intro) <;> first | rfl | omega | exact hl | exact hr | exact i1.1 | exact i2.1) | exact sd_)) ?_
 have hc := call_rule (E := ((E_si fu ks).at_ 38)) (f := 35) (sp := Spec.pure (simG fu)) rfl
 have hs := @simG.eq_1
 refine u_hp (hq := by (first | ((repeat' apply And.intro) <;> first | rfl | omega | exact hl | exact hr | exact i1.1 | exact i2.1) | exact sd_)) ?_
 have hc := call_rule (E := ((E_si fu ks).at_ 38)) (f := 67) (sp := Spec.pure twoG) rfl
 have hs := @twoG.eq_1
 refine u_hp (hq := by (first | ((repeat' apply And.intro) <;> first | rfl | omega | exact hl | exact hr | exact i1.1 | exact i2.1) | exact sd_)) ?_
 refine u_mv ?_
 refine lg_nil ?_
 have hx := hx0
 refine h16 _ ?_; clear h16; try clear N16
 refine vc_ret ?_
 try simp only [k_rules]
 rw [hS]
 refine fin2_ ?_
 exact cl_
 ·first | omega | exact absurd trivial hb15 | contradiction | (simp_all; done)
 cases hg
end Go.Proofs.YtlbjffdaooadoaaDoor
