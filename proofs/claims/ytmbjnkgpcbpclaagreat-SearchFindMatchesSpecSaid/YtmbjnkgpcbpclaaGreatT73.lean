/- Walks, printed by wip/gen/walk.py. -/
import Derived.Test.YtmbjnkgpcbpclaaGreatT72
import Derived.Test.YtmbjnkgpcbpclaaGreatV5
set_option linter.all false
set_option maxRecDepth 100000
set_option maxHeartbeats 4000000
namespace Go.Proofs.YtmbjnkgpcbpclaaGreat
open Go Go.Vc Go.RowKit
def lawSFG : List AV → Option (Prop × AV)
  | [.d (.sl xs), .agg [.d (.sl ys)]] => some (xs = rows eT (dT xs) ∧ (dT xs).length ≤ 9223372036854775807 ∧ (∀ s ∈ dT xs, s.length ≤ 9223372036854775807) ∧ ys = rows eSn (dSn ys) ∧ (dSn ys).length ≤ 9223372036854775807 ∧ bigS (dSn ys), .d (.bool true))
  | _ => none

theorem lawSF_meets : Meets Tryz.prog 3 (Spec.pure lawSFG) := by
 refine meets_fun (E_exq.at_ 45) Tryz.func3 rfl rfl rfl ?_
 intro args p r hg hp
 unfold lawSFG at hg
 split at hg
 rename_i xs ys
 simp only [Option.some.injEq, Prod.mk.injEq] at hg
 obtain ⟨rfl, rfl⟩ := hg
 obtain ⟨he, hl, hsm, he2, hl2, hbg⟩ := hp
 generalize dT xs = ts at *
 generalize dSn ys = q at *
 subst he he2
 have hT : (E_exq).X = T := rfl
 have hx0 := And.intro @rect_eT (And.intro @rect_eSn (And.intro @dT_rows (And.intro @dSn_rows (And.intro @dI_rows (And.intro @refS_is (And.intro @dec_t (And.intro @dec_f @Tryz.results3)))))))
 have hx := hx0
 refine ⟨by rfl, ?_⟩
 intro F W0 hnp hmk
 refine vc_seq_k fun N1 h1 => ?_
 refine u_reg ?_
 try refine lg_mk ?_
 refine u_bx (hq := by exact sq_) ?_
 refine u_mv (hq := by exact sq_) ?_
 refine lg_nil ?_
 refine h1 _ ?_; clear h1; try clear N1
 refine vc_seq_k fun N2 h2 => ?_
 refine vc_seq_k fun N3 h3 => ?_
 refine u_reg ?_
 try refine lg_mk ?_
 have hc := call_rule (E := (E_exq.at_ 45)) (f := 9) (sp := Spec.pure exG) rfl
 have hs := @exG.eq_1
 refine u_cp (hq := by exact sq_) ?_
 refine u_un (hq := by exact sq_) ?_
 refine lg_nil ?_
 refine h3 _ ?_; clear h3; try clear N3
 refine u_cond (fun hb4 => ?_) (fun hb4 => ?_)
 ·first | omega | exact absurd trivial hb4 | contradiction | (simp_all; done)
 refine vc_skip ?_
 try simp only [k_rules]
 refine h2 _ ?_; clear h2; try clear N2
 refine vc_seq_k fun N5 h5 => ?_
 rcases fn_cases ts q with ⟨c, k, e1, e2, hr⟩ | ⟨e1, hv, h20, hsz, hr⟩
 have c1 : (c = 0) = False := eq_false e2
 have f9 := c1
 have hx := And.intro @hr hx0
 refine u_reg ?_
 try refine lg_mk ?_
 refine u_mv (hq := by exact sq_) ?_
 refine u_ld (hq := by exact sq_) ?_
 have hc := call_rule (E := (E_exq.at_ 45)) (f := 10) (sp := Spec.pure fnG) rfl
 have hs := @fnG.eq_1
 refine u_hp (hq := by (first | ((repeat' apply And.intro) <;> first | rfl | exact hsm | exact hbg | exact hsz | exact hv | exact True.intro | omega) | exact sd_)) ?_
 refine u_mv (hq := by exact sq_) ?_
 iterate 2 refine u_ex (hq := by exact sq_) ?_
 refine u_al (hq := by exact sq_) ?_
 refine u_mv (hq := by exact sq_) ?_
 refine u_st (hq := by exact sq_) ?_
 refine lg_nil ?_
 have hx := hx0
 refine h5 _ ?_; clear h5; try clear N5
 refine vc_seq_k fun N6 h6 => ?_
 refine vc_seq_k fun N7 h7 => ?_
 have hx := And.intro @refS_is hx0
 refine vc_regT [] (.seq [0] (.alt 1 (.seq [2, 3, 4] .nil) (.alt 2 (.seq [1, 3, 4] .nil) .nil))) hmix (by kernel_rfl) ?_
 refine at_seq ?_
 simp only [pick_rules, list_rules]
 try refine lg_mk ?_
 refine u_ld (hq := by exact sq_) ?_
 refine lg_nil ?_
 refine at_alt ?_ ?_
 simp only [pick_rules, list_rules]
 try refine lg_mk ?_
 have hc := call_rule (E := (E_exq.at_ 45)) (f := 11) (sp := Spec.pure valG) rfl
 have hs := @valG.eq_1
 refine u_cp (hq := by (first | ((repeat' apply And.intro) <;> first | rfl | exact hsm | exact hbg | exact hsz | exact hv | exact True.intro | omega) | exact sd_)) ?_
 refine lg_nil ?_
 refine at_seq ?_
 simp only [pick_rules, list_rules]
 try refine lg_mk ?_
 refine u_ld (hq := by exact sq_) ?_
 have hc := call_rule (E := (E_exq.at_ 45)) (f := 12) (sp := Spec.pure refSG) rfl
 have hs := @refSG.eq_1
 refine u_cp (hq := by (first | ((repeat' apply And.intro) <;> first | rfl | exact hsm | exact hbg | exact hsz | exact hv | exact True.intro | omega) | exact sd_)) ?_
 refine u_bn (hq := by exact sq_) ?_
 refine lg_nil ?_
 refine at_nil ?_
 have hx := hx0
 refine h7 _ ?_; clear h7; try clear N7
 refine u_cond (fun hb8 => ?_) (fun hb8 => ?_)
 ·first | omega | exact absurd trivial hb8 | contradiction | (simp_all; done)
 refine vc_skip ?_
 try simp only [k_rules]
 refine h6 _ ?_; clear h6; try clear N6
 refine vc_seq_k fun N9 h9 => ?_
 refine vc_seq_k fun N10 h10 => ?_
 have hx := And.intro @e1 hx0
 refine u_reg ?_
 try refine lg_mk ?_
 refine u_mv (hq := by exact sq_) ?_
 refine u_ld (hq := by exact sq_) ?_
 have hc := call_rule (E := (E_exq.at_ 45)) (f := 13) (sp := Spec.pure fdG) rfl
 have hs := @fdG.eq_1
 refine u_cp (hq := by (first | ((repeat' apply And.intro) <;> first | rfl | exact hsm | exact hbg | exact hsz | exact hv | exact True.intro | omega) | exact sd_)) ?_
 refine u_al (hq := by exact sq_) ?_
 refine u_st (hq := by exact sq_) ?_
 refine lg_nil ?_
 have hx := hx0
 refine h10 _ ?_; clear h10; try clear N10
 refine vc_seq_k fun N11 h11 => ?_
 have hx := And.intro @c1 hx0
 refine u_reg ?_
 try refine lg_mk ?_
 refine u_pt (hq := by exact sq_) ?_
 refine u_ld (hq := by exact sq_) ?_
 refine u_bn (hq := by exact sq_) ?_
 refine lg_nil ?_
 have hx := hx0
 refine h11 _ ?_; clear h11; try clear N11
 refine u_cond (fun hb12 => ?_) (fun hb12 => ?_)
 refine vc_seq_k fun N13 h13 => ?_
 refine u_reg ?_
 try refine lg_mk ?_
 iterate 2 refine u_ld (hq := by exact sq_) ?_
 refine u_bn (hq := by exact sq_) ?_
 refine u_mv (hq := by exact sq_) ?_
 refine s_mv (hq := by (intro hg; (try simp only [b_rules, bif_and, bif_or] at hg); exact sq_)) ?_
 refine s_ln (hq := by (intro hg; (try simp only [b_rules, bif_and, bif_or] at hg); exact sq_)) ?_
 refine s_bn (hq := by (intro hg; (try simp only [b_rules, bif_and, bif_or] at hg); exact sq_)) ?_
 refine u_pk (hq := by exact sq_) ?_
 refine u_mv (hq := by exact sq_) ?_
 refine lg_nil ?_
 refine h13 _ ?_; clear h13; try clear N13
 refine vc_ret ?_
 try simp only [k_rules]
 refine fin2_ ?_
 ·(repeat' apply And.intro) <;> (first | (first | rfl | trivial | (simp; done)) | exact cl_)
 ·first | omega | exact absurd trivial hb12 | contradiction | (simp_all; done)
 refine at_alt ?_ ?_
 simp only [pick_rules, list_rules]
 try refine lg_mk ?_
 refine u_ld (hq := by exact sq_) ?_
 refine lg_nil ?_
 refine at_seq ?_
 simp only [pick_rules, list_rules]
 try refine lg_mk ?_
 have hc := call_rule (E := (E_exq.at_ 45)) (f := 11) (sp := Spec.pure valG) rfl
 have hs := @valG.eq_1
 refine u_cp (hq := by (first | ((repeat' apply And.intro) <;> first | rfl | exact hsm | exact hbg | exact hsz | exact hv | exact True.intro | omega) | exact sd_)) ?_
 have hc := call_rule (E := (E_exq.at_ 45)) (f := 12) (sp := Spec.pure refSG) rfl
 have hs := @refSG.eq_1
 refine u_cp (hq := by (first | ((repeat' apply And.intro) <;> first | rfl | exact hsm | exact hbg | exact hsz | exact hv | exact True.intro | omega) | exact sd_)) ?_
 refine u_bn (hq := by exact sq_) ?_
 refine lg_nil ?_
 refine at_nil ?_
 have hx := hx0
 refine h7 _ ?_; clear h7; try clear N7
 refine u_cond (fun hb14 => ?_) (fun hb14 => ?_)
 ·first | omega | exact absurd trivial hb14 | contradiction | (simp_all; done)
 refine vc_skip ?_
 try simp only [k_rules]
 refine h6 _ ?_; clear h6; try clear N6
 refine vc_seq_k fun N15 h15 => ?_
 refine vc_seq_k fun N16 h16 => ?_
 have hx := And.intro @e1 hx0
 refine u_reg ?_
 try refine lg_mk ?_
 refine u_mv (hq := by exact sq_) ?_
 refine u_ld (hq := by exact sq_) ?_
 have hc := call_rule (E := (E_exq.at_ 45)) (f := 13) (sp := Spec.pure fdG) rfl
 have hs := @fdG.eq_1
 refine u_cp (hq := by (first | ((repeat' apply And.intro) <;> first | rfl | exact hsm | exact hbg | exact hsz | exact hv | exact True.intro | omega) | exact sd_)) ?_
 refine u_al (hq := by exact sq_) ?_
 refine u_st (hq := by exact sq_) ?_
 refine lg_nil ?_
 have hx := hx0
 refine h16 _ ?_; clear h16; try clear N16
 refine vc_seq_k fun N17 h17 => ?_
 have hx := And.intro @c1 hx0
 refine u_reg ?_
 try refine lg_mk ?_
 refine u_pt (hq := by exact sq_) ?_
 refine u_ld (hq := by exact sq_) ?_
 refine u_bn (hq := by exact sq_) ?_
 refine lg_nil ?_
 have hx := hx0
 refine h17 _ ?_; clear h17; try clear N17
 refine u_cond (fun hb18 => ?_) (fun hb18 => ?_)
 refine vc_seq_k fun N19 h19 => ?_
 refine u_reg ?_
 try refine lg_mk ?_
 iterate 2 refine u_ld (hq := by exact sq_) ?_
 refine u_bn (hq := by exact sq_) ?_
 refine u_mv (hq := by exact sq_) ?_
 refine s_mv (hq := by (intro hg; (try simp only [b_rules, bif_and, bif_or] at hg); exact sq_)) ?_
 refine s_ln (hq := by (intro hg; (try simp only [b_rules, bif_and, bif_or] at hg); exact sq_)) ?_
 refine s_bn (hq := by (intro hg; (try simp only [b_rules, bif_and, bif_or] at hg); exact sq_)) ?_
 refine u_pk (hq := by exact sq_) ?_
 refine u_mv (hq := by exact sq_) ?_
 refine lg_nil ?_
 refine h19 _ ?_; clear h19; try clear N19
 refine vc_ret ?_
 try simp only [k_rules]
 refine fin2_ ?_
 ·(repeat' apply And.intro) <;> (first | (first | rfl | trivial | (simp; done)) | exact cl_)
 ·first | omega | exact absurd trivial hb18 | contradiction | (simp_all; done)
 exact at_end
 have c1 := True.intro
 have f9 : fdF ts q = (0, 0) := e1
 have hfl := fnL_len ts q ts.length
 have hx := And.intro @hr hx0
 refine u_reg ?_
 try refine lg_mk ?_
 refine u_mv (hq := by exact sq_) ?_
 refine u_ld (hq := by exact sq_) ?_
 have hc := call_rule (E := (E_exq.at_ 45)) (f := 10) (sp := Spec.pure fnG) rfl
 have hs := @fnG.eq_1
 refine u_hp (hq := by (first | ((repeat' apply And.intro) <;> first | rfl | exact hsm | exact hbg | exact hsz | exact hv | exact True.intro | omega) | exact sd_)) ?_
 refine u_mv (hq := by exact sq_) ?_
 iterate 2 refine u_ex (hq := by exact sq_) ?_
 refine u_al (hq := by exact sq_) ?_
 refine u_mv (hq := by exact sq_) ?_
 refine u_st (hq := by exact sq_) ?_
 refine lg_nil ?_
 have hx := hx0
 refine h5 _ ?_; clear h5; try clear N5
 refine vc_seq_k fun N20 h20 => ?_
 refine vc_seq_k fun N21 h21 => ?_
 have hx := And.intro @refS_is hx0
 refine vc_regT [] (.seq [0] (.alt 1 (.seq [2, 3, 4] .nil) (.alt 2 (.seq [1, 3, 4] .nil) .nil))) hmix (by kernel_rfl) ?_
 refine at_seq ?_
 simp only [pick_rules, list_rules]
 try refine lg_mk ?_
 refine u_ld (hq := by exact sq_) ?_
 refine lg_nil ?_
 refine at_alt ?_ ?_
 simp only [pick_rules, list_rules]
 try refine lg_mk ?_
 have hc := call_rule (E := (E_exq.at_ 45)) (f := 11) (sp := Spec.pure valG) rfl
 have hs := @valG.eq_1
 refine u_cp (hq := by (first | ((repeat' apply And.intro) <;> first | rfl | exact hsm | exact hbg | exact hsz | exact hv | exact True.intro | omega) | exact sd_)) ?_
 refine lg_nil ?_
 refine at_seq ?_
 simp only [pick_rules, list_rules]
 try refine lg_mk ?_
 refine u_ld (hq := by exact sq_) ?_
 have hc := call_rule (E := (E_exq.at_ 45)) (f := 12) (sp := Spec.pure refSG) rfl
 have hs := @refSG.eq_1
 refine u_cp (hq := by (first | ((repeat' apply And.intro) <;> first | rfl | exact hsm | exact hbg | exact hsz | exact hv | exact True.intro | omega) | exact sd_)) ?_
 refine u_bn (hq := by exact sq_) ?_
 refine lg_nil ?_
 refine at_nil ?_
 have hx := hx0
 refine h21 _ ?_; clear h21; try clear N21
 refine u_cond (fun hb22 => ?_) (fun hb22 => ?_)
 ·first | omega | exact absurd trivial hb22 | contradiction | (simp_all; done)
 refine vc_skip ?_
 try simp only [k_rules]
 refine h20 _ ?_; clear h20; try clear N20
 refine vc_seq_k fun N23 h23 => ?_
 refine vc_seq_k fun N24 h24 => ?_
 have hx := And.intro @e1 hx0
 refine u_reg ?_
 try refine lg_mk ?_
 refine u_mv (hq := by exact sq_) ?_
 refine u_ld (hq := by exact sq_) ?_
 have hc := call_rule (E := (E_exq.at_ 45)) (f := 13) (sp := Spec.pure fdG) rfl
 have hs := @fdG.eq_1
 refine u_cp (hq := by (first | ((repeat' apply And.intro) <;> first | rfl | exact hsm | exact hbg | exact hsz | exact hv | exact True.intro | omega) | exact sd_)) ?_
 refine u_al (hq := by exact sq_) ?_
 refine u_st (hq := by exact sq_) ?_
 refine lg_nil ?_
 have hx := hx0
 refine h24 _ ?_; clear h24; try clear N24
 refine vc_seq_k fun N25 h25 => ?_
 have hx := And.intro @c1 hx0
 refine u_reg ?_
 try refine lg_mk ?_
 refine u_pt (hq := by exact sq_) ?_
 refine u_ld (hq := by exact sq_) ?_
 refine u_bn (hq := by exact sq_) ?_
 refine lg_nil ?_
 have hx := hx0
 refine h25 _ ?_; clear h25; try clear N25
 refine u_cond (fun hb26 => ?_) (fun hb26 => ?_)
 ·first | omega | exact absurd trivial hb26 | contradiction | (simp_all; done)
 refine vc_skip ?_
 try simp only [k_rules]
 refine h23 _ ?_; clear h23; try clear N23
 refine vc_seq_k fun N27 h27 => ?_
 refine u_reg ?_
 try refine lg_mk ?_
 refine u_pt (hq := by exact sq_) ?_
 refine u_ld (hq := by exact sq_) ?_
 refine u_bn (hq := by exact sq_) ?_
 refine u_mv (hq := by exact sq_) ?_
 refine s_mv (hq := by (intro hg; (try simp only [b_rules, bif_and, bif_or] at hg); exact sq_)) ?_
 refine s_mv (hq := by (intro hg; (try simp only [b_rules, bif_and, bif_or] at hg); exact sq_)) ?_
 refine s_ld (hq := by (intro hg; (try simp only [b_rules, bif_and, bif_or] at hg); exact sq_)) ?_
 have hc := call_rule (E := (E_exq.at_ 45)) (f := 15) (sp := Spec.pure fniG) rfl
 have hs := @fniG.eq_1
 refine t_hp (hq := by (first | ((repeat' apply And.intro) <;> first | rfl | exact hsm | exact hbg | exact hsz | exact hv | exact True.intro | omega) | exact sd_)) ?_
 have hc := call_rule (E := (E_exq.at_ 45)) (f := 14) (sp := Spec.pure intsG) rfl
 have hs := @intsG.eq_1
 refine s_cp (hq := by (intro hg; (try simp only [b_rules, bif_and, bif_or] at hg); (first | ((repeat' apply And.intro) <;> first | rfl | exact hsm | exact hbg | exact hsz | exact hv | exact True.intro | omega) | exact sd_))) ?_
 refine u_pk (hq := by exact sq_) ?_
 refine u_mv (hq := by exact sq_) ?_
 refine lg_nil ?_
 refine h27 _ ?_; clear h27; try clear N27
 refine vc_ret ?_
 try simp only [k_rules]
 refine fin2_ ?_
 ·(repeat' apply And.intro) <;> (first | (first | rfl | trivial | (simp; done)) | exact cl_)
 refine at_alt ?_ ?_
 simp only [pick_rules, list_rules]
 try refine lg_mk ?_
 refine u_ld (hq := by exact sq_) ?_
 refine lg_nil ?_
 refine at_seq ?_
 simp only [pick_rules, list_rules]
 try refine lg_mk ?_
 have hc := call_rule (E := (E_exq.at_ 45)) (f := 11) (sp := Spec.pure valG) rfl
 have hs := @valG.eq_1
 refine u_cp (hq := by (first | ((repeat' apply And.intro) <;> first | rfl | exact hsm | exact hbg | exact hsz | exact hv | exact True.intro | omega) | exact sd_)) ?_
 have hc := call_rule (E := (E_exq.at_ 45)) (f := 12) (sp := Spec.pure refSG) rfl
 have hs := @refSG.eq_1
 refine u_cp (hq := by (first | ((repeat' apply And.intro) <;> first | rfl | exact hsm | exact hbg | exact hsz | exact hv | exact True.intro | omega) | exact sd_)) ?_
 refine u_bn (hq := by exact sq_) ?_
 refine lg_nil ?_
 refine at_nil ?_
 have hx := hx0
 refine h21 _ ?_; clear h21; try clear N21
 refine u_cond (fun hb28 => ?_) (fun hb28 => ?_)
 ·first | omega | exact absurd trivial hb28 | contradiction | (simp_all; done)
 refine vc_skip ?_
 try simp only [k_rules]
 refine h20 _ ?_; clear h20; try clear N20
 refine vc_seq_k fun N29 h29 => ?_
 refine vc_seq_k fun N30 h30 => ?_
 have hx := And.intro @e1 hx0
 refine u_reg ?_
 try refine lg_mk ?_
 refine u_mv (hq := by exact sq_) ?_
 refine u_ld (hq := by exact sq_) ?_
 have hc := call_rule (E := (E_exq.at_ 45)) (f := 13) (sp := Spec.pure fdG) rfl
 have hs := @fdG.eq_1
 refine u_cp (hq := by (first | ((repeat' apply And.intro) <;> first | rfl | exact hsm | exact hbg | exact hsz | exact hv | exact True.intro | omega) | exact sd_)) ?_
 refine u_al (hq := by exact sq_) ?_
 refine u_st (hq := by exact sq_) ?_
 refine lg_nil ?_
 have hx := hx0
 refine h30 _ ?_; clear h30; try clear N30
 refine vc_seq_k fun N31 h31 => ?_
 have hx := And.intro @c1 hx0
 refine u_reg ?_
 try refine lg_mk ?_
 refine u_pt (hq := by exact sq_) ?_
 refine u_ld (hq := by exact sq_) ?_
 refine u_bn (hq := by exact sq_) ?_
 refine lg_nil ?_
 have hx := hx0
 refine h31 _ ?_; clear h31; try clear N31
 refine u_cond (fun hb32 => ?_) (fun hb32 => ?_)
 ·first | omega | exact absurd trivial hb32 | contradiction | (simp_all; done)
 refine vc_skip ?_
 try simp only [k_rules]
 refine h29 _ ?_; clear h29; try clear N29
 refine vc_seq_k fun N33 h33 => ?_
 refine u_reg ?_
 try refine lg_mk ?_
 refine u_pt (hq := by exact sq_) ?_
 refine u_ld (hq := by exact sq_) ?_
 refine u_bn (hq := by exact sq_) ?_
 refine u_mv (hq := by exact sq_) ?_
 refine s_mv (hq := by (intro hg; (try simp only [b_rules, bif_and, bif_or] at hg); exact sq_)) ?_
 refine s_mv (hq := by (intro hg; (try simp only [b_rules, bif_and, bif_or] at hg); exact sq_)) ?_
 refine s_ld (hq := by (intro hg; (try simp only [b_rules, bif_and, bif_or] at hg); exact sq_)) ?_
 have hc := call_rule (E := (E_exq.at_ 45)) (f := 15) (sp := Spec.pure fniG) rfl
 have hs := @fniG.eq_1
 refine t_hp (hq := by (first | ((repeat' apply And.intro) <;> first | rfl | exact hsm | exact hbg | exact hsz | exact hv | exact True.intro | omega) | exact sd_)) ?_
 have hc := call_rule (E := (E_exq.at_ 45)) (f := 14) (sp := Spec.pure intsG) rfl
 have hs := @intsG.eq_1
 refine s_cp (hq := by (intro hg; (try simp only [b_rules, bif_and, bif_or] at hg); (first | ((repeat' apply And.intro) <;> first | rfl | exact hsm | exact hbg | exact hsz | exact hv | exact True.intro | omega) | exact sd_))) ?_
 refine u_pk (hq := by exact sq_) ?_
 refine u_mv (hq := by exact sq_) ?_
 refine lg_nil ?_
 refine h33 _ ?_; clear h33; try clear N33
 refine vc_ret ?_
 try simp only [k_rules]
 refine fin2_ ?_
 ·(repeat' apply And.intro) <;> (first | (first | rfl | trivial | (simp; done)) | exact cl_)
 exact at_end
 cases hg
end Go.Proofs.YtmbjnkgpcbpclaaGreat
