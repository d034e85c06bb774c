/- Walks, printed by wip/gen/walk.py. -/
import Derived.Test.YtmbjnkgpcbpclaaGreatT64
import Derived.Test.YtmbjnkgpcbpclaaGreatV5
set_option linter.all false
set_option maxRecDepth 100000
set_option maxHeartbeats 4000000
namespace Go.Proofs.YtmbjnkgpcbpclaaGreat
open Go Go.Vc Go.RowKit
def E_sh (n : Nat) (ks : Meets Tryz.prog 48 (Spec.pure (shwG n))) : Env Tryz.prog := E_nrp.add 48 (Spec.pure (shwG n)) ks (by kernel_rfl)

theorem shw_step (fu : Nat) (ks : Meets Tryz.prog 48 (Spec.pure (shwG fu))) : Meets Tryz.prog 48 (Spec.pure (shwG (fu + 1))) := by
 refine meets_fun ((E_sh fu ks).at_ 71) Tryz.func48 rfl rfl rfl ?_
 intro args p r hg hp
 unfold shwG at hg
 split at hg
 rename_i xs i l
 simp only [Option.some.injEq, Prod.mk.injEq] at hg
 obtain ⟨rfl, rfl⟩ := hg
 obtain ⟨he, hok, hi0, hl0, hl2, hsm⟩ := hp
 generalize dSn xs = q at *
 subst he
 obtain ⟨i, rfl⟩ := Int.eq_ofNat_of_zero_le hi0
 obtain ⟨l, rfl⟩ := Int.eq_ofNat_of_zero_le hl0
 simp only [Int.toNat_natCast] at hsm ⊢
 obtain ⟨r, hr⟩ := Option.isSome_iff_exists.1 hsm
 rw [hr, getD_bs]
 obtain ⟨n, S, hn, hS, hSl, hrS⟩ := shS_step hr
 have hil : i < q.length := (List.getElem?_eq_some_iff.1 hn).1
 have hq40 := hok.1
 have hon := hok.2 n (mem_at hn)
 have hel := esc_le n.tx
 obtain ⟨a, b, c, d⟩ := n
 dsimp only at hon hel hrS
 obtain ⟨o1, o2, o3, o4, o5⟩ := hon
 have hlv := lvS_le a
 have hsv := slv_is a
 have hsg := sgS_len a
 have hl1 : ((lvS a : Int) + 1).toNat = lvS a + 1 := by omega
 have hT : ((E_sh fu ks)).X = T := rfl
 have hx0 := And.intro @dec_t (And.intro @dec_f (And.intro @rect_eSn (And.intro @dSn_rows (And.intro @rect_eT (And.intro @Int.toNat_natCast (And.intro @getD_bs @Tryz.results48))))))
 have hx := hx0
 refine ⟨by rfl, ?_⟩
 intro F W0 hnp hmk
 refine vc_seq_k fun N1 h1 => ?_
 refine u_reg ?_
 try refine lg_mk ?_
 refine u_bx ?_
 refine u_mv ?_
 refine lg_nil ?_
 refine h1 _ ?_; clear h1; try clear N1
 refine vc_seq_k fun N2 h2 => ?_
 have hx := And.intro @hn (And.intro @eSn.eq_1 hx0)
 refine u_reg ?_
 try refine lg_mk ?_
 refine u_pt ?_
 refine u_ld ?_
 refine u_mv ?_
 refine u_pt ?_
 refine u_ld ?_
 refine u_al ?_
 refine u_st ?_
 refine lg_nil ?_
 have hx := hx0
 refine h2 _ ?_; clear h2; try clear N2
 refine vc_seq_k fun N3 h3 => ?_
 have hx := And.intro @hsv hx0
 refine u_reg ?_
 try refine lg_mk ?_
 refine u_pt ?_
 refine u_ld ?_
 have hc := call_rule (E := ((E_sh fu ks).at_ 71)) (f := 66) (sp := Spec.pure slvG) rfl
 have hs := @slvG.eq_1
 refine u_cp ?_
 refine u_mv ?_
 refine lg_nil ?_
 have hx := hx0
 refine h3 _ ?_; clear h3; try clear N3
 refine vc_seq_k fun N4 h4 => ?_
 refine u_reg ?_
 try refine lg_mk ?_
 refine u_mv ?_
 refine lg_nil ?_
 refine h4 _ ?_; clear h4; try clear N4
 refine vc_seq_m (σ := Unit) (fun s => (fun u => True) s)
  (fun s => (fun u => [(2, .d (.int .i64 (l : Nat))), (7, .ptr 1 0 0), (8, .d (.int .i64 (lvS a : Nat))), (9, .d (.str S))]) s)
  (fun s => (fun u => [some (.one 25 [.d (.sl (rows eSn q))]), some (.one 55 [.d (.int .i64 a), .d (.str b), .d (.int .i64 c), .d (.int .i64 d)])]) s) hnp ?_ ?_
 rintro u hinv
 dsimp only at hinv ⊢
 refine vc_seq_k fun N6 h6 => ?_
 refine vc_seq_k fun N7 h7 => ?_
 refine u_reg ?_
 try refine lg_mk ?_
 iterate 2 refine u_mv ?_
 refine u_bn ?_
 refine lg_nil ?_
 refine h7 _ ?_; clear h7; try clear N7
 refine u_cond (fun hb8 => ?_) (fun hb8 => ?_)
 refine vc_seq_k fun N9 h9 => ?_
 refine u_reg ?_
 try refine lg_mk ?_
 refine u_mv (hq := by (first | ((simp only [List.length_append, List.length_cons, List.length_nil]; omega)) | exact sd_)) ?_
 refine u_bn (hq := by (first | ((simp only [List.length_append, List.length_cons, List.length_nil]; omega)) | exact sd_)) ?_
 refine u_bn (hq := by (first | ((simp only [List.length_append, List.length_cons, List.length_nil]; omega)) | exact sd_)) ?_
 refine u_mv (hq := by (first | ((simp only [List.length_append, List.length_cons, List.length_nil]; omega)) | exact sd_)) ?_
 refine lg_nil ?_
 refine h9 _ ?_; clear h9; try clear N9
 refine vc_ret ?_
 try simp only [k_rules]
 rw [hrS, if_pos (by have := hb8; (try simp at this); omega)]
 refine fin2_ ?_
 exact cl_
 refine vc_skip ?_
 try simp only [k_rules]
 refine h6 _ ?_; clear h6; try clear N6
 refine vc_seq_k fun N10 h10 => ?_
 refine u_reg ?_
 try refine lg_mk ?_
 iterate 2 refine u_mv ?_
 refine lg_nil ?_
 refine h10 _ ?_; clear h10; try clear N10
 refine vc_ret ?_
 try simp only [k_rules]
 rw [hrS, if_neg (by have := hb8; (try simp at this); omega)]
 refine fin2_ ?_
 exact cl_
 intro N5 h5
 refine vc_seq_k fun N11 h11 => ?_
 refine u_reg ?_
 try refine lg_mk ?_
 refine u_pt ?_
 refine u_ld ?_
 refine lg_nil ?_
 refine h11 _ ?_; clear h11; try clear N11
 refine vc_block ?_
 refine vc_seq_k fun N12 h12 => ?_
 refine u_reg ?_
 try refine lg_mk ?_
 refine u_bn ?_
 refine u_mv ?_
 refine lg_nil ?_
 refine h12 _ ?_; clear h12; try clear N12
 refine u_cond (fun hb13 => ?_) (fun hb13 => ?_)
 have hk := hb13
 have hS2 := hS
 unfold shB at hS2
 dsimp only at hS2
 rw [if_pos (by (try simp at hk); omega)] at hS2
 obtain rfl := Option.some.inj hS2
 refine vc_seq_k fun N14 h14 => ?_
 refine vc_regT [] (.alt 0 (.alt 1 (.seq [2, 3, 4, 5, 6, 7] .nil) (.alt 2 (.alt 1 (.seq [3, 4, 5, 6, 7] .nil) (.alt 3 (.seq [1, 4, 5, 6, 7] .nil) .nil)) .nil)) (.alt 2 (.alt 0 (.alt 1 (.seq [3, 4, 5, 6, 7] .nil) (.alt 3 (.seq [1, 4, 5, 6, 7] .nil) .nil)) (.alt 3 (.seq [0, 1, 4, 5, 6, 7] .nil) .nil)) .nil)) hmix (by kernel_rfl) ?_
 refine at_alt ?_ ?_
 simp only [pick_rules, list_rules]
 try refine lg_mk ?_
 refine u_bs (hq := by (first | (first | rfl | omega | (simp only [List.length_append, List.length_cons, List.length_nil]; omega)) | exact sd_)) ?_
 refine lg_nil ?_
 refine at_alt ?_ ?_
 simp only [pick_rules, list_rules]
 try refine lg_mk ?_
 have hc := call_rule (E := ((E_sh fu ks).at_ 71)) (f := 67) (sp := Spec.fresh nrpG) rfl
 have hs := @nrpG.eq_1
 refine u_hg (hq := by (first | (first | rfl | omega | (simp only [List.length_append, List.length_cons, List.length_nil]; omega)) | exact sd_)) ?_
 refine lg_nil ?_
 refine at_seq ?_
 simp only [pick_rules, list_rules]
 try refine lg_mk ?_
 refine u_pt (hq := by (first | (first | rfl | omega | (simp only [List.length_append, List.length_cons, List.length_nil]; omega)) | exact sd_)) ?_
 refine u_ld (hq := by (first | (first | rfl | omega | (simp only [List.length_append, List.length_cons, List.length_nil]; omega)) | exact sd_)) ?_
 have hc := call_rule (E := ((E_sh fu ks).at_ 71)) (f := 68) (sp := Spec.gen repG) rfl
 have hs := @repG.eq_1
 refine u_hg (hq := by (first | (first | rfl | omega | (simp only [List.length_append, List.length_cons, List.length_nil]; omega)) | exact sd_)) ?_
 refine u_bn (hq := by (first | (first | rfl | omega | (simp only [List.length_append, List.length_cons, List.length_nil]; omega)) | exact sd_)) ?_
 refine u_bn (hq := by (first | (first | rfl | omega | (simp only [List.length_append, List.length_cons, List.length_nil]; omega)) | exact sd_)) ?_
 refine u_mv (hq := by (first | (first | rfl | omega | (simp only [List.length_append, List.length_cons, List.length_nil]; omega)) | exact sd_)) ?_
 refine lg_nil ?_
 refine at_nil ?_
 refine h14 _ ?_; clear h14; try clear N14
 refine vc_ret ?_
 try simp only [k_rules]
 obtain rfl : a = 1 := by omega
 rw [hrS, if_neg (by show ¬2 < l; omega)]
 refine fin2_ ?_
 exact cl_
 refine at_alt ?_ ?_
 simp only [pick_rules, list_rules]
 try refine lg_mk ?_
 refine u_pt (hq := by (first | (first | rfl | omega | (simp only [List.length_append, List.length_cons, List.length_nil]; omega)) | exact sd_)) ?_
 refine lg_nil ?_
 refine at_alt ?_ ?_
 simp only [pick_rules, list_rules]
 try refine lg_mk ?_
 have hc := call_rule (E := ((E_sh fu ks).at_ 71)) (f := 67) (sp := Spec.fresh nrpG) rfl
 have hs := @nrpG.eq_1
 refine u_hg (hq := by (first | (first | rfl | omega | (simp only [List.length_append, List.length_cons, List.length_nil]; omega)) | exact sd_)) ?_
 refine lg_nil ?_
 refine at_seq ?_
 simp only [pick_rules, list_rules]
 try refine lg_mk ?_
 refine u_ld (hq := by (first | (first | rfl | omega | (simp only [List.length_append, List.length_cons, List.length_nil]; omega)) | exact sd_)) ?_
 have hc := call_rule (E := ((E_sh fu ks).at_ 71)) (f := 68) (sp := Spec.gen repG) rfl
 have hs := @repG.eq_1
 refine u_hg (hq := by (first | (first | rfl | omega | (simp only [List.length_append, List.length_cons, List.length_nil]; omega)) | exact sd_)) ?_
 refine u_bn (hq := by (first | (first | rfl | omega | (simp only [List.length_append, List.length_cons, List.length_nil]; omega)) | exact sd_)) ?_
 refine u_bn (hq := by (first | (first | rfl | omega | (simp only [List.length_append, List.length_cons, List.length_nil]; omega)) | exact sd_)) ?_
 refine u_mv (hq := by (first | (first | rfl | omega | (simp only [List.length_append, List.length_cons, List.length_nil]; omega)) | exact sd_)) ?_
 refine lg_nil ?_
 refine at_nil ?_
 refine h14 _ ?_; clear h14; try clear N14
 refine vc_ret ?_
 try simp only [k_rules]
 obtain rfl : a = 1 := by omega
 rw [hrS, if_neg (by show ¬2 < l; omega)]
 refine fin2_ ?_
 exact cl_
 refine at_alt ?_ ?_
 simp only [pick_rules, list_rules]
 try refine lg_mk ?_
 refine u_ld (hq := by (first | (first | rfl | omega | (simp only [List.length_append, List.length_cons, List.length_nil]; omega)) | exact sd_)) ?_
 refine lg_nil ?_
 refine at_seq ?_
 simp only [pick_rules, list_rules]
 try refine lg_mk ?_
 have hc := call_rule (E := ((E_sh fu ks).at_ 71)) (f := 67) (sp := Spec.fresh nrpG) rfl
 have hs := @nrpG.eq_1
 refine u_hg (hq := by (first | (first | rfl | omega | (simp only [List.length_append, List.length_cons, List.length_nil]; omega)) | exact sd_)) ?_
 have hc := call_rule (E := ((E_sh fu ks).at_ 71)) (f := 68) (sp := Spec.gen repG) rfl
 have hs := @repG.eq_1
 refine u_hg (hq := by (first | (first | rfl | omega | (simp only [List.length_append, List.length_cons, List.length_nil]; omega)) | exact sd_)) ?_
 refine u_bn (hq := by (first | (first | rfl | omega | (simp only [List.length_append, List.length_cons, List.length_nil]; omega)) | exact sd_)) ?_
 refine u_bn (hq := by (first | (first | rfl | omega | (simp only [List.length_append, List.length_cons, List.length_nil]; omega)) | exact sd_)) ?_
 refine u_mv (hq := by (first | (first | rfl | omega | (simp only [List.length_append, List.length_cons, List.length_nil]; omega)) | exact sd_)) ?_
 refine lg_nil ?_
 refine at_nil ?_
 refine h14 _ ?_; clear h14; try clear N14
 refine vc_ret ?_
 try simp only [k_rules]
 obtain rfl : a = 1 := by omega
 rw [hrS, if_neg (by show ¬2 < l; omega)]
 refine fin2_ ?_
 exact cl_
 exact at_end
 exact at_end
 refine at_alt ?_ ?_
 simp only [pick_rules, list_rules]
 try refine lg_mk ?_
 refine u_pt (hq := by (first | (first | rfl | omega | (simp only [List.length_append, List.length_cons, List.length_nil]; omega)) | exact sd_)) ?_
 refine lg_nil ?_
 refine at_alt ?_ ?_
 simp only [pick_rules, list_rules]
 try refine lg_mk ?_
 refine u_bs (hq := by (first | (first | rfl | omega | (simp only [List.length_append, List.length_cons, List.length_nil]; omega)) | exact sd_)) ?_
 refine lg_nil ?_
 refine at_alt ?_ ?_
 simp only [pick_rules, list_rules]
 try refine lg_mk ?_
 have hc := call_rule (E := ((E_sh fu ks).at_ 71)) (f := 67) (sp := Spec.fresh nrpG) rfl
 have hs := @nrpG.eq_1
 refine u_hg (hq := by (first | (first | rfl | omega | (simp only [List.length_append, List.length_cons, List.length_nil]; omega)) | exact sd_)) ?_
 refine lg_nil ?_
 refine at_seq ?_
 simp only [pick_rules, list_rules]
 try refine lg_mk ?_
 refine u_ld (hq := by (first | (first | rfl | omega | (simp only [List.length_append, List.length_cons, List.length_nil]; omega)) | exact sd_)) ?_
 have hc := call_rule (E := ((E_sh fu ks).at_ 71)) (f := 68) (sp := Spec.gen repG) rfl
 have hs := @repG.eq_1
 refine u_hg (hq := by (first | (first | rfl | omega | (simp only [List.length_append, List.length_cons, List.length_nil]; omega)) | exact sd_)) ?_
 refine u_bn (hq := by (first | (first | rfl | omega | (simp only [List.length_append, List.length_cons, List.length_nil]; omega)) | exact sd_)) ?_
 refine u_bn (hq := by (first | (first | rfl | omega | (simp only [List.length_append, List.length_cons, List.length_nil]; omega)) | exact sd_)) ?_
 refine u_mv (hq := by (first | (first | rfl | omega | (simp only [List.length_append, List.length_cons, List.length_nil]; omega)) | exact sd_)) ?_
 refine lg_nil ?_
 refine at_nil ?_
 refine h14 _ ?_; clear h14; try clear N14
 refine vc_ret ?_
 try simp only [k_rules]
 obtain rfl : a = 1 := by omega
 rw [hrS, if_neg (by show ¬2 < l; omega)]
 refine fin2_ ?_
 exact cl_
 refine at_alt ?_ ?_
 simp only [pick_rules, list_rules]
 try refine lg_mk ?_
 refine u_ld (hq := by (first | (first | rfl | omega | (simp only [List.length_append, List.length_cons, List.length_nil]; omega)) | exact sd_)) ?_
 refine lg_nil ?_
 refine at_seq ?_
 simp only [pick_rules, list_rules]
 try refine lg_mk ?_
 have hc := call_rule (E := ((E_sh fu ks).at_ 71)) (f := 67) (sp := Spec.fresh nrpG) rfl
 have hs := @nrpG.eq_1
 refine u_hg (hq := by (first | (first | rfl | omega | (simp only [List.length_append, List.length_cons, List.length_nil]; omega)) | exact sd_)) ?_
 have hc := call_rule (E := ((E_sh fu ks).at_ 71)) (f := 68) (sp := Spec.gen repG) rfl
 have hs := @repG.eq_1
 refine u_hg (hq := by (first | (first | rfl | omega | (simp only [List.length_append, List.length_cons, List.length_nil]; omega)) | exact sd_)) ?_
 refine u_bn (hq := by (first | (first | rfl | omega | (simp only [List.length_append, List.length_cons, List.length_nil]; omega)) | exact sd_)) ?_
 refine u_bn (hq := by (first | (first | rfl | omega | (simp only [List.length_append, List.length_cons, List.length_nil]; omega)) | exact sd_)) ?_
 refine u_mv (hq := by (first | (first | rfl | omega | (simp only [List.length_append, List.length_cons, List.length_nil]; omega)) | exact sd_)) ?_
 refine lg_nil ?_
 refine at_nil ?_
 refine h14 _ ?_; clear h14; try clear N14
 refine vc_ret ?_
 try simp only [k_rules]
 obtain rfl : a = 1 := by omega
 rw [hrS, if_neg (by show ¬2 < l; omega)]
 refine fin2_ ?_
 exact cl_
 exact at_end
 refine at_alt ?_ ?_
 simp only [pick_rules, list_rules]
 try refine lg_mk ?_
 refine u_ld (hq := by (first | (first | rfl | omega | (simp only [List.length_append, List.length_cons, List.length_nil]; omega)) | exact sd_)) ?_
 refine lg_nil ?_
 refine at_seq ?_
 simp only [pick_rules, list_rules]
 try refine lg_mk ?_
 refine u_bs (hq := by (first | (first | rfl | omega | (simp only [List.length_append, List.length_cons, List.length_nil]; omega)) | exact sd_)) ?_
 have hc := call_rule (E := ((E_sh fu ks).at_ 71)) (f := 67) (sp := Spec.fresh nrpG) rfl
 have hs := @nrpG.eq_1
 refine u_hg (hq := by (first | (first | rfl | omega | (simp only [List.length_append, List.length_cons, List.length_nil]; omega)) | exact sd_)) ?_
 have hc := call_rule (E := ((E_sh fu ks).at_ 71)) (f := 68) (sp := Spec.gen repG) rfl
 have hs := @repG.eq_1
 refine u_hg (hq := by (first | (first | rfl | omega | (simp only [List.length_append, List.length_cons, List.length_nil]; omega)) | exact sd_)) ?_
 refine u_bn (hq := by (first | (first | rfl | omega | (simp only [List.length_append, List.length_cons, List.length_nil]; omega)) | exact sd_)) ?_
 refine u_bn (hq := by (first | (first | rfl | omega | (simp only [List.length_append, List.length_cons, List.length_nil]; omega)) | exact sd_)) ?_
 refine u_mv (hq := by (first | (first | rfl | omega | (simp only [List.length_append, List.length_cons, List.length_nil]; omega)) | exact sd_)) ?_
 refine lg_nil ?_
 refine at_nil ?_
 refine h14 _ ?_; clear h14; try clear N14
 refine vc_ret ?_
 try simp only [k_rules]
 obtain rfl : a = 1 := by omega
 rw [hrS, if_neg (by show ¬2 < l; omega)]
 refine fin2_ ?_
 exact cl_
 exact at_end
 exact at_end
 have h33 := hb13
 refine vc_seq_k fun N15 h15 => ?_
 refine u_reg ?_
 try refine lg_mk ?_
 refine u_bn ?_
 refine u_mv ?_
 refine lg_nil ?_
 refine h15 _ ?_; clear h15; try clear N15
 refine u_cond (fun hb16 => ?_) (fun hb16 => ?_)
 have hk := hb16
 have hS2 := hS
 unfold shB at hS2
 dsimp only at hS2
 rw [if_neg (by (try simp at h33); omega)] at hS2
 rw [if_pos (by (try simp at hk); omega)] at hS2
 obtain ⟨A, hA, hA2⟩ := Option.map_eq_some_iff.1 hS2
 subst hA2
 have hAl := shS_len hA
 refine vc_seq_k fun N17 h17 => ?_
 have hx := And.intro @hA hx0
 refine u_reg ?_
 try refine lg_mk ?_
 refine u_ld (hq := by (first | (first | omega | (simp only [List.length_append, List.length_cons, List.length_nil]; omega)) | exact sd_)) ?_
 refine u_pt (hq := by (first | (first | omega | (simp only [List.length_append, List.length_cons, List.length_nil]; omega)) | exact sd_)) ?_
 refine u_ld (hq := by (first | (first | omega | (simp only [List.length_append, List.length_cons, List.length_nil]; omega)) | exact sd_)) ?_
 have hc := call_rule (E := ((E_sh fu ks).at_ 71)) (f := 48) (sp := Spec.pure (shwG fu)) rfl
 have hs := @shwG.eq_1
 refine u_cp (hq := by (first | ((repeat' apply And.intro) <;> first | rfl | omega | exact hok.2 | (rw [hA]; rfl) | (rw [hB]; rfl) | (simp [hA]; done)) | exact sd_)) ?_
 refine u_bn (hq := by (first | (first | omega | (simp only [List.length_append, List.length_cons, List.length_nil]; omega)) | exact sd_)) ?_
 refine u_mv (hq := by (first | (first | omega | (simp only [List.length_append, List.length_cons, List.length_nil]; omega)) | exact sd_)) ?_
 refine lg_nil ?_
 have hx := hx0
 refine h17 _ ?_; clear h17; try clear N17
 refine vc_ret ?_
 try simp only [k_rules]
 obtain rfl : a = 4 := by omega
 rw [hrS, if_neg (by show ¬2 < l; omega)]
 refine fin2_ ?_
 exact cl_
 have h42 := hb16
 refine vc_seq_k fun N18 h18 => ?_
 refine u_reg ?_
 try refine lg_mk ?_
 refine u_bn ?_
 refine u_mv ?_
 refine lg_nil ?_
 refine h18 _ ?_; clear h18; try clear N18
 refine u_cond (fun hb19 => ?_) (fun hb19 => ?_)
 have hk := hb19
 have hS2 := hS
 unfold shB at hS2
 dsimp only at hS2
 rw [if_neg (by (try simp at h33); omega)] at hS2
 rw [if_neg (by (try simp at h42); omega)] at hS2
 obtain ⟨A, hA, hS3⟩ := Option.bind_eq_some_iff.1 hS2
 obtain ⟨B, hB, hB2⟩ := Option.map_eq_some_iff.1 hS3
 subst hB2
 have hAl := shS_len hA
 have hBl := shS_len hB
 obtain rfl : a = 2 := by have := hb19; (try simp at this); omega
 have hsg2 : sgS 2 = [32, 38, 32] := rfl
 have hx := And.intro @hl1 (And.intro @hA (And.intro @hB hx0))
 refine vc_regO [48] [0, 1, 2, 3, 6, 7, 8, 9, 10, 4, 5, 11, 12, 13] hmix (by kernel_rfl) ?_
 simp only [pick_rules, list_rules]
 try refine lg_mk ?_
 refine u_ld (hq := by (first | (first | omega | (simp only [List.length_append, List.length_cons, List.length_nil]; omega)) | exact sd_)) ?_
 refine u_pt (hq := by (first | (first | omega | (simp only [List.length_append, List.length_cons, List.length_nil]; omega)) | exact sd_)) ?_
 refine u_ld (hq := by (first | (first | omega | (simp only [List.length_append, List.length_cons, List.length_nil]; omega)) | exact sd_)) ?_
 refine u_mv (hq := by (first | (first | omega | (simp only [List.length_append, List.length_cons, List.length_nil]; omega)) | exact sd_)) ?_
 refine u_ld (hq := by (first | (first | omega | (simp only [List.length_append, List.length_cons, List.length_nil]; omega)) | exact sd_)) ?_
 refine u_pt (hq := by (first | (first | omega | (simp only [List.length_append, List.length_cons, List.length_nil]; omega)) | exact sd_)) ?_
 refine u_ld (hq := by (first | (first | omega | (simp only [List.length_append, List.length_cons, List.length_nil]; omega)) | exact sd_)) ?_
 refine u_mv (hq := by (first | (first | omega | (simp only [List.length_append, List.length_cons, List.length_nil]; omega)) | exact sd_)) ?_
 refine u_bn (hq := by (first | (first | omega | (simp only [List.length_append, List.length_cons, List.length_nil]; omega)) | exact sd_)) ?_
 have hc := call_rule (E := ((E_sh fu ks).at_ 71)) (f := 48) (sp := Spec.pure (shwG fu)) rfl
 have hs := @shwG.eq_1
 refine u_cp (hq := by (first | ((repeat' apply And.intro) <;> first | rfl | omega | exact hok.2 | (rw [hA]; rfl) | (rw [hB]; rfl) | (simp [hA]; done)) | exact sd_)) ?_
 refine u_bn (hq := by (first | (first | omega | (simp only [List.length_append, List.length_cons, List.length_nil]; omega)) | exact sd_)) ?_
 have hc := call_rule (E := ((E_sh fu ks).at_ 71)) (f := 48) (sp := Spec.pure (shwG fu)) rfl
 have hs := @shwG.eq_1
 refine u_cp (hq := by (first | ((repeat' apply And.intro) <;> first | rfl | omega | exact hok.2 | (rw [hA]; rfl) | (rw [hB]; rfl) | (simp [hA]; done)) | exact sd_)) ?_
 refine u_bn (hq := by (first | (first | omega | (simp only [List.length_append, List.length_cons, List.length_nil]; omega)) | exact sd_)) ?_
 refine u_mv (hq := by (first | (first | omega | (simp only [List.length_append, List.length_cons, List.length_nil]; omega)) | exact sd_)) ?_
 refine lg_nil ?_
 have hx := hx0
 refine h5 _ ⟨(), trivial, [some 0, some 1], ?_⟩
 dsimp only
 refine ⟨by rfl, ?_, ?_⟩
 refine fin_ ?_
 exact cl_
 refine fin_ ?_
 exact cl_
 have hk := hb19
 have hS2 := hS
 unfold shB at hS2
 dsimp only at hS2
 rw [if_neg (by (try simp at h33); omega)] at hS2
 rw [if_neg (by (try simp at h42); omega)] at hS2
 obtain ⟨A, hA, hS3⟩ := Option.bind_eq_some_iff.1 hS2
 obtain ⟨B, hB, hB2⟩ := Option.map_eq_some_iff.1 hS3
 subst hB2
 have hAl := shS_len hA
 have hBl := shS_len hB
 obtain rfl : a = 3 := by have := hb19; (try simp at this); (try simp at h33); (try simp at h42); omega
 have hsg2 : sgS 3 = [32, 124, 32] := rfl
 have hx := And.intro @hl1 (And.intro @hA (And.intro @hB hx0))
 refine vc_regO [48] [0, 1, 2, 3, 6, 7, 8, 9, 10, 4, 5, 11, 12, 13] hmix (by kernel_rfl) ?_
 simp only [pick_rules, list_rules]
 try refine lg_mk ?_
 refine u_ld (hq := by (first | (first | omega | (simp only [List.length_append, List.length_cons, List.length_nil]; omega)) | exact sd_)) ?_
 refine u_pt (hq := by (first | (first | omega | (simp only [List.length_append, List.length_cons, List.length_nil]; omega)) | exact sd_)) ?_
 refine u_ld (hq := by (first | (first | omega | (simp only [List.length_append, List.length_cons, List.length_nil]; omega)) | exact sd_)) ?_
 refine u_mv (hq := by (first | (first | omega | (simp only [List.length_append, List.length_cons, List.length_nil]; omega)) | exact sd_)) ?_
 refine u_ld (hq := by (first | (first | omega | (simp only [List.length_append, List.length_cons, List.length_nil]; omega)) | exact sd_)) ?_
 refine u_pt (hq := by (first | (first | omega | (simp only [List.length_append, List.length_cons, List.length_nil]; omega)) | exact sd_)) ?_
 refine u_ld (hq := by (first | (first | omega | (simp only [List.length_append, List.length_cons, List.length_nil]; omega)) | exact sd_)) ?_
 refine u_mv (hq := by (first | (first | omega | (simp only [List.length_append, List.length_cons, List.length_nil]; omega)) | exact sd_)) ?_
 refine u_bn (hq := by (first | (first | omega | (simp only [List.length_append, List.length_cons, List.length_nil]; omega)) | exact sd_)) ?_
 have hc := call_rule (E := ((E_sh fu ks).at_ 71)) (f := 48) (sp := Spec.pure (shwG fu)) rfl
 have hs := @shwG.eq_1
 refine u_cp (hq := by (first | ((repeat' apply And.intro) <;> first | rfl | omega | exact hok.2 | (rw [hA]; rfl) | (rw [hB]; rfl) | (simp [hA]; done)) | exact sd_)) ?_
 refine u_bn (hq := by (first | (first | omega | (simp only [List.length_append, List.length_cons, List.length_nil]; omega)) | exact sd_)) ?_
 have hc := call_rule (E := ((E_sh fu ks).at_ 71)) (f := 48) (sp := Spec.pure (shwG fu)) rfl
 have hs := @shwG.eq_1
 refine u_cp (hq := by (first | ((repeat' apply And.intro) <;> first | rfl | omega | exact hok.2 | (rw [hA]; rfl) | (rw [hB]; rfl) | (simp [hA]; done)) | exact sd_)) ?_
 refine u_bn (hq := by (first | (first | omega | (simp only [List.length_append, List.length_cons, List.length_nil]; omega)) | exact sd_)) ?_
 refine u_mv (hq := by (first | (first | omega | (simp only [List.length_append, List.length_cons, List.length_nil]; omega)) | exact sd_)) ?_
 refine lg_nil ?_
 have hx := hx0
 refine h5 _ ⟨(), trivial, [some 0, some 1], ?_⟩
 dsimp only
 refine ⟨by rfl, ?_, ?_⟩
 refine fin_ ?_
 exact cl_
 refine fin_ ?_
 exact cl_
 cases hg
end Go.Proofs.YtmbjnkgpcbpclaaGreat
