/- Walks, printed by wip/gen/walk.py. -/
import Derived.Test.YtmbjnkgpcbpclaaGreatT77
import Derived.Test.YtmbjnkgpcbpclaaGreatV5
set_option linter.all false
set_option maxRecDepth 100000
set_option maxHeartbeats 4000000
namespace Go.Proofs.YtmbjnkgpcbpclaaGreat
open Go Go.Vc Go.RowKit
theorem lawRT_meets : Meets Tryz.prog 5 (Spec.pure lawRTG) := by
 refine meets_fun (E_txA.at_ 67) Tryz.func5 rfl rfl rfl ?_
 intro args p r hg hp
 unfold lawRTG at hg
 split at hg
 rename_i xs
 simp only [Option.some.injEq, Prod.mk.injEq] at hg
 obtain ⟨rfl, rfl⟩ := hg
 obtain ⟨he, hl, hbg⟩ := hp
 generalize dSn xs = q at *
 subst he
 have hT : (E_txA).X = T := rfl
 have hx0 := And.intro @rect_eSn (And.intro @dSn_rows (And.intro @dec_t (And.intro @dec_f (And.intro @getD_bs (And.intro @getD_sn @Tryz.results5)))))
 have hx := hx0
 refine ⟨by rfl, ?_⟩
 intro F W0 hnp hmk
 refine vc_seq_k fun N1 h1 => ?_
 refine u_reg ?_
 try refine lg_mk ?_
 refine u_bx ?_
 refine u_mv ?_
 refine lg_nil ?_
 refine h1 _ ?_; clear h1; try clear N1
 refine vc_seq_k fun N2 h2 => ?_
 refine vc_seq_k fun N3 h3 => ?_
 refine u_reg ?_
 try refine lg_mk ?_
 have hc := call_rule (E := (E_txA.at_ 67)) (f := 9) (sp := Spec.pure exG) rfl
 have hs := @exG.eq_1
 refine u_cp ?_
 refine u_un ?_
 refine lg_nil ?_
 refine h3 _ ?_; clear h3; try clear N3
 refine u_cond (fun hb4 => ?_) (fun hb4 => ?_)
 ·first | omega | exact absurd trivial hb4 | contradiction | (simp_all; done)
 refine vc_skip ?_
 try simp only [k_rules]
 refine h2 _ ?_; clear h2; try clear N2
 refine vc_seq_k fun N5 h5 => ?_
 rcases rt_cases q with ⟨hv, S, hS, hSl, hl3⟩ | ⟨hv, S, hS, hl3⟩ | hv
 obtain ⟨_, h1, h40, _⟩ := val_mp hv
 have hokN := okSh_of hv
 have hqm : ((q.length : Int) - 1).toNat = q.length - 1 := by omega
 have hv1 : (valS q).1 = 0 := by rw [hv]
 have hv2 : (valS q).2 = 0 := by rw [hv]
 have hff : fmtS q = (10, -2, []) := by unfold fmtS; rw [if_neg (by rw [hv]; simp), hS, getD_bs, if_pos hl3]
 have hps := hff
 have hx := And.intro @hff hx0
 refine u_reg ?_
 try refine lg_mk ?_
 refine u_ld ?_
 have hc := call_rule (E := (E_txA.at_ 67)) (f := 19) (sp := Spec.pure fmtG) rfl
 have hs := @fmtG.eq_1
 refine u_cp ?_
 refine u_mv ?_
 iterate 2 refine u_ex ?_
 refine u_al ?_
 refine u_mv ?_
 refine u_st ?_
 refine lg_nil ?_
 have hx := hx0
 refine h5 _ ?_; clear h5; try clear N5
 refine vc_seq_k fun N6 h6 => ?_
 have hx := And.intro @refS_is (And.intro @hv1 (And.intro @hv2 hx0))
 refine u_reg ?_
 try refine lg_mk ?_
 refine u_ld ?_
 have hc := call_rule (E := (E_txA.at_ 67)) (f := 12) (sp := Spec.pure refSG) rfl
 have hs := @refSG.eq_1
 refine u_cp ?_
 refine u_al ?_
 refine u_st ?_
 refine lg_nil ?_
 have hx := hx0
 refine h6 _ ?_; clear h6; try clear N6
 refine vc_seq_k fun N7 h7 => ?_
 refine u_reg ?_
 try refine lg_mk ?_
 refine u_mv ?_
 refine lg_nil ?_
 refine h7 _ ?_; clear h7; try clear N7
 refine vc_seq_k fun N8 h8 => ?_
 refine vc_seq_k fun N9 h9 => ?_
 have hx := And.intro @hv1 hx0
 refine u_reg ?_
 try refine lg_mk ?_
 refine u_pt ?_
 refine u_ld ?_
 refine u_bn ?_
 refine lg_nil ?_
 have hx := hx0
 refine h9 _ ?_; clear h9; try clear N9
 refine u_cond (fun hb10 => ?_) (fun hb10 => ?_)
 refine vc_seq_k fun N11 h11 => ?_
 have hx := And.intro @hqm (And.intro @hS hx0)
 refine u_reg ?_
 try refine lg_mk ?_
 refine u_ld ?_
 refine u_pt ?_
 refine u_ld ?_
 refine u_ln ?_
 refine u_bn ?_
 have hc := call_rule (E := (E_txA.at_ 67)) (f := 20) (sp := Spec.pure (txG 41)) rfl
 have hs := @txG.eq_1
 refine u_cp (hq := by (first | ((repeat' apply And.intro) <;> first | rfl | omega | exact hokN.2 | (rw [hS]; rfl) | (simp [hS]; done)) | exact sd_)) ?_
 refine u_mv ?_
 iterate 2 refine u_ex ?_
 refine u_mv ?_
 refine lg_nil ?_
 have hx := hx0
 refine h11 _ ?_; clear h11; try clear N11
 refine vc_seq_k fun N12 h12 => ?_
 refine u_reg ?_
 try refine lg_mk ?_
 refine u_mv (hq := by exact so_) ?_
 refine u_ln (hq := by exact so_) ?_
 refine u_bn (hq := by exact so_) ?_
 refine lg_nil ?_
 refine h12 _ ?_; clear h12; try clear N12
 refine u_cond (fun hb13 => ?_) (fun hb13 => ?_)
 refine u_reg ?_
 try refine lg_mk ?_
 have hc := call_rule (E := (E_txA.at_ 67)) (f := 21) (sp := Spec.pure faultG) rfl
 have hs := @faultG.eq_1
 refine u_cp ?_
 refine u_st ?_
 refine lg_nil ?_
 refine h8 _ ?_; clear h8; try clear N8
 refine vc_seq_k fun N14 h14 => ?_
 refine vc_seq_k fun N15 h15 => ?_
 refine u_reg ?_
 try refine lg_mk ?_
 refine u_pt ?_
 refine u_ld ?_
 refine u_bn ?_
 refine lg_nil ?_
 refine h15 _ ?_; clear h15; try clear N15
 refine u_cond (fun hb16 => ?_) (fun hb16 => ?_)
 refine vc_seq_k fun N17 h17 => ?_
 refine u_reg ?_
 try refine lg_mk ?_
 iterate 2 refine u_ld ?_
 refine u_bn ?_
 refine u_mv ?_
 refine g_mv ?_
 refine g_bn ?_
 refine u_pk ?_
 refine u_mv ?_
 refine lg_nil ?_
 refine h17 _ ?_; clear h17; try clear N17
 refine vc_ret ?_
 try simp only [k_rules]
 refine fin2_ ?_
 ·(repeat' apply And.intro) <;> (first | (first | rfl | trivial | (simp; done) | (simp [hv1, hv2]; done)) | exact cl_)
 ·first | omega | exact absurd trivial hb16 | contradiction | (simp_all; done)
 ·first | omega | exact absurd trivial hb13 | contradiction | (simp_all; done)
 ·first | omega | exact absurd trivial hb10 | contradiction | (simp_all; done)
 obtain ⟨_, h1, h40, _⟩ := val_mp hv
 have hokN := okSh_of hv
 have hqm : ((q.length : Int) - 1).toNat = q.length - 1 := by omega
 have hv1 : (valS q).1 = 0 := by rw [hv]
 have hv2 : (valS q).2 = 0 := by rw [hv]
 have hff : fmtS q = (0, 0, S) := by unfold fmtS; rw [if_neg (by rw [hv]; simp), hS, getD_bs, if_neg (by omega)]
 have hps := par_show hv hS
 have hx := And.intro @hff hx0
 refine u_reg ?_
 try refine lg_mk ?_
 refine u_ld ?_
 have hc := call_rule (E := (E_txA.at_ 67)) (f := 19) (sp := Spec.pure fmtG) rfl
 have hs := @fmtG.eq_1
 refine u_cp ?_
 refine u_mv ?_
 iterate 2 refine u_ex ?_
 refine u_al ?_
 refine u_mv ?_
 refine u_st ?_
 refine lg_nil ?_
 have hx := hx0
 refine h5 _ ?_; clear h5; try clear N5
 refine vc_seq_k fun N18 h18 => ?_
 have hx := And.intro @refS_is (And.intro @hv1 (And.intro @hv2 hx0))
 refine u_reg ?_
 try refine lg_mk ?_
 refine u_ld ?_
 have hc := call_rule (E := (E_txA.at_ 67)) (f := 12) (sp := Spec.pure refSG) rfl
 have hs := @refSG.eq_1
 refine u_cp ?_
 refine u_al ?_
 refine u_st ?_
 refine lg_nil ?_
 have hx := hx0
 refine h18 _ ?_; clear h18; try clear N18
 refine vc_seq_k fun N19 h19 => ?_
 refine u_reg ?_
 try refine lg_mk ?_
 refine u_mv ?_
 refine lg_nil ?_
 refine h19 _ ?_; clear h19; try clear N19
 refine vc_seq_k fun N20 h20 => ?_
 refine vc_seq_k fun N21 h21 => ?_
 have hx := And.intro @hv1 hx0
 refine u_reg ?_
 try refine lg_mk ?_
 refine u_pt ?_
 refine u_ld ?_
 refine u_bn ?_
 refine lg_nil ?_
 have hx := hx0
 refine h21 _ ?_; clear h21; try clear N21
 refine u_cond (fun hb22 => ?_) (fun hb22 => ?_)
 refine vc_seq_k fun N23 h23 => ?_
 have hx := And.intro @hqm (And.intro @hS hx0)
 refine u_reg ?_
 try refine lg_mk ?_
 refine u_ld ?_
 refine u_pt ?_
 refine u_ld ?_
 refine u_ln ?_
 refine u_bn ?_
 have hc := call_rule (E := (E_txA.at_ 67)) (f := 20) (sp := Spec.pure (txG 41)) rfl
 have hs := @txG.eq_1
 refine u_cp (hq := by (first | ((repeat' apply And.intro) <;> first | rfl | omega | exact hokN.2 | (rw [hS]; rfl) | (simp [hS]; done)) | exact sd_)) ?_
 refine u_mv ?_
 iterate 2 refine u_ex ?_
 refine u_mv ?_
 refine lg_nil ?_
 have hx := hx0
 refine h23 _ ?_; clear h23; try clear N23
 refine vc_seq_k fun N24 h24 => ?_
 refine u_reg ?_
 try refine lg_mk ?_
 refine u_mv (hq := by exact so_) ?_
 refine u_ln (hq := by exact so_) ?_
 refine u_bn (hq := by exact so_) ?_
 refine lg_nil ?_
 refine h24 _ ?_; clear h24; try clear N24
 refine u_cond (fun hb25 => ?_) (fun hb25 => ?_)
 ·first | omega | exact absurd trivial hb25 | contradiction | (simp_all; done)
 refine vc_skip ?_
 try simp only [k_rules]
 refine h20 _ ?_; clear h20; try clear N20
 refine vc_seq_k fun N26 h26 => ?_
 refine vc_seq_k fun N27 h27 => ?_
 refine u_reg ?_
 try refine lg_mk ?_
 refine u_pt ?_
 refine u_ld ?_
 refine u_bn ?_
 refine lg_nil ?_
 refine h27 _ ?_; clear h27; try clear N27
 refine u_cond (fun hb28 => ?_) (fun hb28 => ?_)
 ·first | omega | exact absurd trivial hb28 | contradiction | (simp_all; done)
 refine vc_skip ?_
 try simp only [k_rules]
 refine h26 _ ?_; clear h26; try clear N26
 refine vc_seq_k fun N29 h29 => ?_
 have hx := And.intro @hps hx0
 refine u_reg ?_
 try refine lg_mk ?_
 refine u_mv ?_
 have hc := call_rule (E := (E_txA.at_ 67)) (f := 16) (sp := Spec.pure parG) rfl
 have hs := @parG.eq_1
 refine u_hp (hq := by (first | ((repeat' apply And.intro) <;> first | rfl | omega | (simp [hps]; done)) | exact sd_)) ?_
 refine u_mv ?_
 iterate 2 refine u_ex ?_
 iterate 2 refine u_al ?_
 iterate 2 refine u_st ?_
 refine lg_nil ?_
 have hx := hx0
 refine h29 _ ?_; clear h29; try clear N29
 refine vc_seq_k fun N30 h30 => ?_
 have hx := And.intro @hps hx0
 refine u_reg ?_
 try refine lg_mk ?_
 refine u_pt (hq := by (first | ((repeat' apply And.intro) <;> first | rfl | omega | exact True.intro) | exact sd_)) ?_
 refine u_ld (hq := by (first | ((repeat' apply And.intro) <;> first | rfl | omega | exact True.intro) | exact sd_)) ?_
 refine u_bn (hq := by (first | ((repeat' apply And.intro) <;> first | rfl | omega | exact True.intro) | exact sd_)) ?_
 refine u_mv (hq := by (first | ((repeat' apply And.intro) <;> first | rfl | omega | exact True.intro) | exact sd_)) ?_
 refine s_mv (hq := by (intro hg; (try simp only [b_rules, bif_and, bif_or] at hg); (first | ((repeat' apply And.intro) <;> first | rfl | omega | exact True.intro) | exact sd_))) ?_
 refine s_mv (hq := by (intro hg; (try simp only [b_rules, bif_and, bif_or] at hg); (first | ((repeat' apply And.intro) <;> first | rfl | omega | exact True.intro) | exact sd_))) ?_
 refine s_bn (hq := by (intro hg; (try simp only [b_rules, bif_and, bif_or] at hg); (first | ((repeat' apply And.intro) <;> first | rfl | omega | exact True.intro) | exact sd_))) ?_
 refine u_pk (hq := by (first | ((repeat' apply And.intro) <;> first | rfl | omega | exact True.intro) | exact sd_)) ?_
 refine u_mv (hq := by (first | ((repeat' apply And.intro) <;> first | rfl | omega | exact True.intro) | exact sd_)) ?_
 refine s_pt (hq := by (intro hg; (try simp only [b_rules, bif_and, bif_or] at hg); (first | ((repeat' apply And.intro) <;> first | rfl | omega | exact True.intro) | exact sd_))) ?_
 refine s_ld (hq := by (intro hg; (try simp only [b_rules, bif_and, bif_or] at hg); (first | ((repeat' apply And.intro) <;> first | rfl | omega | exact True.intro) | exact sd_))) ?_
 refine s_bn (hq := by (intro hg; (try simp only [b_rules, bif_and, bif_or] at hg); (first | ((repeat' apply And.intro) <;> first | rfl | omega | exact True.intro) | exact sd_))) ?_
 refine u_pk (hq := by (first | ((repeat' apply And.intro) <;> first | rfl | omega | exact True.intro) | exact sd_)) ?_
 refine u_mv (hq := by (first | ((repeat' apply And.intro) <;> first | rfl | omega | exact True.intro) | exact sd_)) ?_
 refine s_ld (hq := by (intro hg; (try simp only [b_rules, bif_and, bif_or] at hg); (first | ((repeat' apply And.intro) <;> first | rfl | omega | exact True.intro) | exact sd_))) ?_
 refine s_ld (hq := by (intro hg; (try simp only [b_rules, bif_and, bif_or] at hg); (first | ((repeat' apply And.intro) <;> first | rfl | omega | exact True.intro) | exact sd_))) ?_
 have hc := call_rule (E := (E_txA.at_ 67)) (f := 18) (sp := Spec.pure sqeG) rfl
 have hs := @sqeG.eq_1
 refine s_cp (hq := by (intro hg; (try simp only [b_rules, bif_and, bif_or] at hg); (first | ((repeat' apply And.intro) <;> first | rfl | omega | exact True.intro) | exact sd_))) ?_
 refine u_pk (hq := by (first | ((repeat' apply And.intro) <;> first | rfl | omega | exact True.intro) | exact sd_)) ?_
 refine u_mv (hq := by (first | ((repeat' apply And.intro) <;> first | rfl | omega | exact True.intro) | exact sd_)) ?_
 refine lg_nil ?_
 have hx := hx0
 refine h30 _ ?_; clear h30; try clear N30
 refine vc_ret ?_
 try simp only [k_rules]
 refine fin2_ ?_
 ·(repeat' apply And.intro) <;> (first | (first | rfl | trivial | (simp; done) | (simp [hv1, hv2]; done)) | exact cl_)
 ·first | omega | exact absurd trivial hb22 | contradiction | (simp_all; done)
 have hv1 : (valS q).1 ≠ 0 := valS_code hv
 have hff : fmtS q = ((valS q).1, (valS q).2, []) := by unfold fmtS; rw [if_pos hv]
 have hS := hff
 have hqm := hff
 have hv2 := hff
 have hps := hff
 have hx := And.intro @hff hx0
 refine u_reg ?_
 try refine lg_mk ?_
 refine u_ld ?_
 have hc := call_rule (E := (E_txA.at_ 67)) (f := 19) (sp := Spec.pure fmtG) rfl
 have hs := @fmtG.eq_1
 refine u_cp ?_
 refine u_mv ?_
 iterate 2 refine u_ex ?_
 refine u_al ?_
 refine u_mv ?_
 refine u_st ?_
 refine lg_nil ?_
 have hx := hx0
 refine h5 _ ?_; clear h5; try clear N5
 refine vc_seq_k fun N31 h31 => ?_
 have hx := And.intro @refS_is (And.intro @hv1 (And.intro @hv2 hx0))
 refine u_reg ?_
 try refine lg_mk ?_
 refine u_ld ?_
 have hc := call_rule (E := (E_txA.at_ 67)) (f := 12) (sp := Spec.pure refSG) rfl
 have hs := @refSG.eq_1
 refine u_cp ?_
 refine u_al ?_
 refine u_st ?_
 refine lg_nil ?_
 have hx := hx0
 refine h31 _ ?_; clear h31; try clear N31
 refine vc_seq_k fun N32 h32 => ?_
 refine u_reg ?_
 try refine lg_mk ?_
 refine u_mv ?_
 refine lg_nil ?_
 refine h32 _ ?_; clear h32; try clear N32
 refine vc_seq_k fun N33 h33 => ?_
 refine vc_seq_k fun N34 h34 => ?_
 have hx := And.intro @hv1 hx0
 refine u_reg ?_
 try refine lg_mk ?_
 refine u_pt ?_
 refine u_ld ?_
 refine u_bn ?_
 refine lg_nil ?_
 have hx := hx0
 refine h34 _ ?_; clear h34; try clear N34
 refine u_cond (fun hb35 => ?_) (fun hb35 => ?_)
 ·first | omega | exact absurd trivial hb35 | contradiction | (simp_all; done)
 refine vc_skip ?_
 try simp only [k_rules]
 refine h33 _ ?_; clear h33; try clear N33
 refine vc_seq_k fun N36 h36 => ?_
 refine vc_seq_k fun N37 h37 => ?_
 refine u_reg ?_
 try refine lg_mk ?_
 refine u_pt ?_
 refine u_ld ?_
 refine u_bn ?_
 refine lg_nil ?_
 refine h37 _ ?_; clear h37; try clear N37
 refine u_cond (fun hb38 => ?_) (fun hb38 => ?_)
 refine vc_seq_k fun N39 h39 => ?_
 refine u_reg ?_
 try refine lg_mk ?_
 iterate 2 refine u_ld ?_
 refine u_bn ?_
 refine u_mv ?_
 refine g_mv ?_
 refine g_bn ?_
 refine u_pk ?_
 refine u_mv ?_
 refine lg_nil ?_
 refine h39 _ ?_; clear h39; try clear N39
 refine vc_ret ?_
 try simp only [k_rules]
 refine fin2_ ?_
 ·(repeat' apply And.intro) <;> (first | (first | rfl | trivial | (simp; done) | (simp [hv1, hv2]; done)) | exact cl_)
 ·first | omega | exact absurd trivial hb38 | contradiction | (simp_all; done)
 cases hg
end Go.Proofs.YtmbjnkgpcbpclaaGreat
