/- Walks, printed by wip/gen/walk.py. -/
import Derived.Test.YtlbjffdaooadoaaDoorT53
import Derived.Test.YtlbjffdaooadoaaDoorV5
set_option linter.all false
set_option maxRecDepth 100000
set_option maxHeartbeats 4000000
namespace Go.Proofs.YtlbjffdaooadoaaDoor
open Go Go.Vc Go.RowKit
theorem one_all : ∀ n, Meets Tryd.prog 66 (Spec.pure (oneRG n))
  | 0 => meets_voidP fun a p r h hp => by
    unfold oneRG at h
    split at h
    · simp only [Option.some.injEq, Prod.mk.injEq] at h
      obtain ⟨rfl, _⟩ := h
      have := szT_pos (okT_ne hp.2.1)
      have := hp.2.2.2.2
      omega
    · cases h
  | n + 1 => one_step n (one_all n)
def twoG : List AV → Option (Prop × AV)
  | [.d (.int .i64 k), .d x, .d y] => some (x = dT (tD x) ∧ y = dT (tD y) ∧ okT (tD x) ∧ okT (tD y) ∧ 14 ≤ k ∧ k ≤ 16 ∧ szT (tD x) ≤ 1000 ∧ szT (tD y) ≤ 1000, .d (dT (twoT k (tD x) (tD y))))
  | _ => none
theorem eqI_t {x y : Tr} (h : x = y) : decide (x = y) = true ∧ eqI x y = 1 := ⟨decide_eq_true h, if_pos h⟩
theorem eqI_f {x y : Tr} (h : x ≠ y) : decide (x = y) = false ∧ eqI x y = 0 := ⟨decide_eq_false h, if_neg h⟩

def E_oneA : Env Tryd.prog := E_samA.add 66 (Spec.pure (oneRG 1000)) (one_all 1000) (by kernel_rfl)

theorem two_meets : Meets Tryd.prog 67 (Spec.pure twoG) := by
 refine meets_fun (E_oneA.at_ 105) Tryd.func67 rfl rfl rfl ?_
 intro args p r hg hp
 unfold twoG at hg
 split at hg
 rename_i k x y
 simp only [Option.some.injEq, Prod.mk.injEq] at hg
 obtain ⟨rfl, rfl⟩ := hg
 obtain ⟨he, he2, hx, hy, hk1, hk2, hf1, hf2⟩ := hp
 generalize tD x = s at *
 generalize tD y = t at *
 subst he he2
 obtain ⟨xk, xm, xl, xr, rfl⟩ := dT_ne (okT_ne hx)
 obtain ⟨yk, ym, yl, yr, rfl⟩ := dT_ne (okT_ne hy)
 rw [szT_nd] at hf1 hf2
 have sA := sc_dT (okT_ne (one_ok (k := 7) (by omega) hy).1)
 have hT : (E_oneA).X = T := rfl
 have hx0 := And.intro @dec_t (And.intro @dec_f (And.intro @rect_eN (And.intro @dN_rows (And.intro @Int.toNat_natCast (And.intro @tD_dT (And.intro @tD_nd (And.intro @tD_lf (And.intro @cl_dT (And.intro @cm_dT (And.intro @dT_nd (And.intro @dT_nil (And.intro @eq_dT (And.intro @ne_dT (And.intro @getD_tr (And.intro @szT_nd @Tryd.results67)))))))))))))))
 have hx := hx0
 refine ⟨by rfl, ?_⟩
 intro F W0 hnp hmk
 refine vc_seq_k fun N1 h1 => ?_
 refine u_reg ?_
 try refine lg_mk ?_
 refine u_mv ?_
 refine lg_nil ?_
 refine h1 _ ?_; clear h1; try clear N1
 refine vc_seq_k fun N2 h2 => ?_
 refine u_reg ?_
 try refine lg_mk ?_
 iterate 2 refine u_mv ?_
 refine lg_nil ?_
 refine h2 _ ?_; clear h2; try clear N2
 refine vc_seq_k fun N3 h3 => ?_
 refine vc_seq_k fun N4 h4 => ?_
 refine u_reg ?_
 try refine lg_mk ?_
 refine u_mv ?_
 refine lg_nil ?_
 refine h4 _ ?_; clear h4; try clear N4
 refine vc_block ?_
 refine vc_seq_k fun N5 h5 => ?_
 refine u_reg ?_
 try refine lg_mk ?_
 refine u_bn ?_
 refine u_mv ?_
 refine lg_nil ?_
 refine h5 _ ?_; clear h5; try clear N5
 refine u_cond (fun hb6 => ?_) (fun hb6 => ?_)
 refine vc_seq_k fun N7 h7 => ?_
 refine vc_block ?_
 refine vc_seq_k fun N8 h8 => ?_
 by_cases hxy : (.nd xk xm xl xr : Tr) = .nd yk ym yl yr
 obtain ⟨hde, hei⟩ := eqI_t hxy
 have hx := And.intro @hde hx0
 refine u_reg ?_
 try refine lg_mk ?_
 refine u_mv (hq := by (first | ((repeat' apply And.intro) <;> first | rfl | omega | exact hx | exact hy) | exact sd_)) ?_
 refine u_mv (hq := by (first | ((repeat' apply And.intro) <;> first | rfl | omega | exact hx | exact hy) | exact sd_)) ?_
 have hc := call_rule (E := (E_oneA.at_ 105)) (f := 83) (sp := Spec.pure (samG 1001)) rfl
 have hs := @samG.eq_1
 refine u_cp (hq := by (first | ((repeat' apply And.intro) <;> first | rfl | omega | exact hx | exact hy) | exact sd_)) ?_
 refine u_mv (hq := by (first | ((repeat' apply And.intro) <;> first | rfl | omega | exact hx | exact hy) | exact sd_)) ?_
 refine s_mv (hq := by (intro hg; (try simp only [b_rules, bif_and, bif_or] at hg); (first | ((repeat' apply And.intro) <;> first | rfl | omega | exact hx | exact hy) | exact sd_))) ?_
 refine s_nl (hq := by (intro hg; (try simp only [b_rules, bif_and, bif_or] at hg); (first | ((repeat' apply And.intro) <;> first | rfl | omega | exact hx | exact hy) | exact sd_))) ?_
 refine s_pt (hq := by (intro hg; (try simp only [b_rules, bif_and, bif_or] at hg); (first | ((repeat' apply And.intro) <;> first | rfl | omega | exact hx | exact hy) | exact sd_))) ?_
 refine s_ld (hq := by (intro hg; (try simp only [b_rules, bif_and, bif_or] at hg); (first | ((repeat' apply And.intro) <;> first | rfl | omega | exact hx | exact hy) | exact sd_))) ?_
 refine s_mv (hq := by (intro hg; (try simp only [b_rules, bif_and, bif_or] at hg); (first | ((repeat' apply And.intro) <;> first | rfl | omega | exact hx | exact hy) | exact sd_))) ?_
 refine s_bn (hq := by (intro hg; (try simp only [b_rules, bif_and, bif_or] at hg); (first | ((repeat' apply And.intro) <;> first | rfl | omega | exact hx | exact hy) | exact sd_))) ?_
 refine u_pk (hq := by (first | ((repeat' apply And.intro) <;> first | rfl | omega | exact hx | exact hy) | exact sd_)) ?_
 refine u_mv (hq := by (first | ((repeat' apply And.intro) <;> first | rfl | omega | exact hx | exact hy) | exact sd_)) ?_
 refine s_mv (hq := by (intro hg; (try simp only [b_rules, bif_and, bif_or] at hg); (first | ((repeat' apply And.intro) <;> first | rfl | omega | exact hx | exact hy) | exact sd_))) ?_
 refine s_nl (hq := by (intro hg; (try simp only [b_rules, bif_and, bif_or] at hg); (first | ((repeat' apply And.intro) <;> first | rfl | omega | exact hx | exact hy) | exact sd_))) ?_
 refine s_pt (hq := by (intro hg; (try simp only [b_rules, bif_and, bif_or] at hg); (first | ((repeat' apply And.intro) <;> first | rfl | omega | exact hx | exact hy) | exact sd_))) ?_
 refine s_ld (hq := by (intro hg; (try simp only [b_rules, bif_and, bif_or] at hg); (first | ((repeat' apply And.intro) <;> first | rfl | omega | exact hx | exact hy) | exact sd_))) ?_
 refine s_mv (hq := by (intro hg; (try simp only [b_rules, bif_and, bif_or] at hg); (first | ((repeat' apply And.intro) <;> first | rfl | omega | exact hx | exact hy) | exact sd_))) ?_
 refine s_bn (hq := by (intro hg; (try simp only [b_rules, bif_and, bif_or] at hg); (first | ((repeat' apply And.intro) <;> first | rfl | omega | exact hx | exact hy) | exact sd_))) ?_
 refine u_pk (hq := by (first | ((repeat' apply And.intro) <;> first | rfl | omega | exact hx | exact hy) | exact sd_)) ?_
 refine u_mv (hq := by (first | ((repeat' apply And.intro) <;> first | rfl | omega | exact hx | exact hy) | exact sd_)) ?_
 refine lg_nil ?_
 have hx := hx0
 refine h8 _ ?_; clear h8; try clear N8
 refine u_cond (fun hb9 => ?_) (fun hb9 => ?_)
 refine vc_seq_k fun N10 h10 => ?_
 refine u_reg ?_
 try refine lg_mk ?_
 refine u_mv ?_
 refine u_bd ?_
 refine u_bx ?_
 refine u_mv ?_
 refine lg_nil ?_
 refine h10 _ ?_; clear h10; try clear N10
 refine vc_ret ?_
 try simp only [k_rules]
 have hr : twoT k (.nd xk xm xl xr) (.nd yk ym yl yr) = .nd 2 0 .nil .nil := by
  show twoE (eqI (.nd xk xm xl xr) (.nd yk ym yl yr)) k xk yk (.nd xk xm xl xr) (.nd yk ym yl yr) = _
  rw [hei]
  unfold twoE
  rw [if_pos (by have := hb6; (try simp at this); omega), if_pos (by omega)]
 rw [hr]
 refine fin2_ ?_
 exact cl_
 ·first | omega | exact absurd trivial hb9 | contradiction | (simp_all; done)
 obtain ⟨hde, hei⟩ := eqI_f hxy
 have hx := And.intro @hde hx0
 refine u_reg ?_
 try refine lg_mk ?_
 refine u_mv (hq := by (first | ((repeat' apply And.intro) <;> first | rfl | omega | exact hx | exact hy) | exact sd_)) ?_
 refine u_mv (hq := by (first | ((repeat' apply And.intro) <;> first | rfl | omega | exact hx | exact hy) | exact sd_)) ?_
 have hc := call_rule (E := (E_oneA.at_ 105)) (f := 83) (sp := Spec.pure (samG 1001)) rfl
 have hs := @samG.eq_1
 refine u_cp (hq := by (first | ((repeat' apply And.intro) <;> first | rfl | omega | exact hx | exact hy) | exact sd_)) ?_
 refine u_mv (hq := by (first | ((repeat' apply And.intro) <;> first | rfl | omega | exact hx | exact hy) | exact sd_)) ?_
 refine s_mv (hq := by (intro hg; (try simp only [b_rules, bif_and, bif_or] at hg); (first | ((repeat' apply And.intro) <;> first | rfl | omega | exact hx | exact hy) | exact sd_))) ?_
 refine s_nl (hq := by (intro hg; (try simp only [b_rules, bif_and, bif_or] at hg); (first | ((repeat' apply And.intro) <;> first | rfl | omega | exact hx | exact hy) | exact sd_))) ?_
 refine s_pt (hq := by (intro hg; (try simp only [b_rules, bif_and, bif_or] at hg); (first | ((repeat' apply And.intro) <;> first | rfl | omega | exact hx | exact hy) | exact sd_))) ?_
 refine s_ld (hq := by (intro hg; (try simp only [b_rules, bif_and, bif_or] at hg); (first | ((repeat' apply And.intro) <;> first | rfl | omega | exact hx | exact hy) | exact sd_))) ?_
 refine s_mv (hq := by (intro hg; (try simp only [b_rules, bif_and, bif_or] at hg); (first | ((repeat' apply And.intro) <;> first | rfl | omega | exact hx | exact hy) | exact sd_))) ?_
 refine s_bn (hq := by (intro hg; (try simp only [b_rules, bif_and, bif_or] at hg); (first | ((repeat' apply And.intro) <;> first | rfl | omega | exact hx | exact hy) | exact sd_))) ?_
 refine u_pk (hq := by (first | ((repeat' apply And.intro) <;> first | rfl | omega | exact hx | exact hy) | exact sd_)) ?_
 refine u_mv (hq := by (first | ((repeat' apply And.intro) <;> first | rfl | omega | exact hx | exact hy) | exact sd_)) ?_
 refine s_mv (hq := by (intro hg; (try simp only [b_rules, bif_and, bif_or] at hg); (first | ((repeat' apply And.intro) <;> first | rfl | omega | exact hx | exact hy) | exact sd_))) ?_
 refine s_nl (hq := by (intro hg; (try simp only [b_rules, bif_and, bif_or] at hg); (first | ((repeat' apply And.intro) <;> first | rfl | omega | exact hx | exact hy) | exact sd_))) ?_
 refine s_pt (hq := by (intro hg; (try simp only [b_rules, bif_and, bif_or] at hg); (first | ((repeat' apply And.intro) <;> first | rfl | omega | exact hx | exact hy) | exact sd_))) ?_
 refine s_ld (hq := by (intro hg; (try simp only [b_rules, bif_and, bif_or] at hg); (first | ((repeat' apply And.intro) <;> first | rfl | omega | exact hx | exact hy) | exact sd_))) ?_
 refine s_mv (hq := by (intro hg; (try simp only [b_rules, bif_and, bif_or] at hg); (first | ((repeat' apply And.intro) <;> first | rfl | omega | exact hx | exact hy) | exact sd_))) ?_
 refine s_bn (hq := by (intro hg; (try simp only [b_rules, bif_and, bif_or] at hg); (first | ((repeat' apply And.intro) <;> first | rfl | omega | exact hx | exact hy) | exact sd_))) ?_
 refine u_pk (hq := by (first | ((repeat' apply And.intro) <;> first | rfl | omega | exact hx | exact hy) | exact sd_)) ?_
 refine u_mv (hq := by (first | ((repeat' apply And.intro) <;> first | rfl | omega | exact hx | exact hy) | exact sd_)) ?_
 refine lg_nil ?_
 have hx := hx0
 refine h8 _ ?_; clear h8; try clear N8
 refine u_cond (fun hb11 => ?_) (fun hb11 => ?_)
 refine vc_seq_k fun N12 h12 => ?_
 refine u_reg ?_
 try refine lg_mk ?_
 refine u_mv ?_
 refine u_bd ?_
 refine u_bx ?_
 refine u_mv ?_
 refine lg_nil ?_
 refine h12 _ ?_; clear h12; try clear N12
 refine vc_ret ?_
 try simp only [k_rules]
 have hr : twoT k (.nd xk xm xl xr) (.nd yk ym yl yr) = .nd 2 0 .nil .nil := by
  show twoE (eqI (.nd xk xm xl xr) (.nd yk ym yl yr)) k xk yk (.nd xk xm xl xr) (.nd yk ym yl yr) = _
  rw [hei]
  unfold twoE
  rw [if_pos (by have := hb6; (try simp at this); omega), if_pos (by have := hb11; (try simp at this); omega)]
 rw [hr]
 refine fin2_ ?_
 exact cl_
 refine vc_seq_k fun N13 h13 => ?_
 refine u_reg ?_
 try refine lg_mk ?_
 refine u_mv ?_
 refine u_nl ?_
 refine u_pt ?_
 refine u_ld ?_
 refine u_mv ?_
 refine u_bn ?_
 refine u_mv ?_
 refine lg_nil ?_
 refine h13 _ ?_; clear h13; try clear N13
 refine u_cond (fun hb14 => ?_) (fun hb14 => ?_)
 refine vc_seq_k fun N15 h15 => ?_
 refine u_reg ?_
 try refine lg_mk ?_
 iterate 2 refine u_mv ?_
 refine lg_nil ?_
 refine h15 _ ?_; clear h15; try clear N15
 refine vc_ret ?_
 try simp only [k_rules]
 have hr : twoT k (.nd xk xm xl xr) (.nd yk ym yl yr) = .nd xk xm xl xr := by
  show twoE (eqI (.nd xk xm xl xr) (.nd yk ym yl yr)) k xk yk (.nd xk xm xl xr) (.nd yk ym yl yr) = _
  rw [hei]
  unfold twoE
  rw [if_pos (by have := hb6; (try simp at this); omega), if_neg (by have := hb11; (try simp at this); omega), if_pos (by have := hb14; (try simp at this); omega)]
 rw [hr]
 refine fin2_ ?_
 exact cl_
 refine vc_seq_k fun N16 h16 => ?_
 refine u_reg ?_
 try refine lg_mk ?_
 refine u_mv ?_
 refine u_nl ?_
 refine u_pt ?_
 refine u_ld ?_
 refine u_mv ?_
 refine u_bn ?_
 refine u_mv ?_
 refine lg_nil ?_
 refine h16 _ ?_; clear h16; try clear N16
 refine u_cond (fun hb17 => ?_) (fun hb17 => ?_)
 refine vc_seq_k fun N18 h18 => ?_
 have hx := And.intro @sA hx0
 refine u_reg ?_
 try refine lg_mk ?_
 refine u_mv ?_
 have hc := call_rule (E := (E_oneA.at_ 105)) (f := 66) (sp := Spec.pure (oneRG 1000)) rfl
 have hs := @oneRG.eq_1
 refine u_hp (hq := by (first | (exact ⟨hy, by omega, by omega, by omega⟩) | exact sd_)) ?_
 refine u_mv ?_
 refine lg_nil ?_
 have hx := hx0
 refine h18 _ ?_; clear h18; try clear N18
 refine vc_ret ?_
 try simp only [k_rules]
 have hr : twoT k (.nd xk xm xl xr) (.nd yk ym yl yr) = oneT 7 (.nd yk ym yl yr) := by
  show twoE (eqI (.nd xk xm xl xr) (.nd yk ym yl yr)) k xk yk (.nd xk xm xl xr) (.nd yk ym yl yr) = _
  rw [hei]
  unfold twoE
  rw [if_pos (by have := hb6; (try simp at this); omega), if_neg (by have := hb11; (try simp at this); omega), if_neg (by have := hb14; (try simp at this); omega), if_pos (by have := hb17; (try simp at this); omega)]
 rw [hr]
 refine fin2_ ?_
 exact cl_
 refine vc_skip ?_
 try simp only [k_rules]
 refine h7 _ ?_; clear h7; try clear N7
 refine vc_seq_k fun N19 h19 => ?_
 refine u_reg ?_
 try refine lg_mk ?_
 iterate 3 refine u_mv ?_
 refine u_bd ?_
 refine u_bx ?_
 refine u_mv ?_
 refine lg_nil ?_
 refine h19 _ ?_; clear h19; try clear N19
 refine vc_ret ?_
 try simp only [k_rules]
 have hr : twoT k (.nd xk xm xl xr) (.nd yk ym yl yr) = .nd k 0 (.nd xk xm xl xr) (.nd yk ym yl yr) := by
  show twoE (eqI (.nd xk xm xl xr) (.nd yk ym yl yr)) k xk yk (.nd xk xm xl xr) (.nd yk ym yl yr) = _
  rw [hei]
  unfold twoE
  rw [if_pos (by have := hb6; (try simp at this); omega), if_neg (by have := hb11; (try simp at this); omega), if_neg (by have := hb14; (try simp at this); omega), if_neg (by have := hb17; (try simp at this); omega)]
 rw [hr]
 refine fin2_ ?_
 exact cl_
 refine vc_seq_k fun N20 h20 => ?_
 refine u_reg ?_
 try refine lg_mk ?_
 refine u_bn ?_
 refine u_mv ?_
 refine lg_nil ?_
 refine h20 _ ?_; clear h20; try clear N20
 refine u_cond (fun hb21 => ?_) (fun hb21 => ?_)
 refine u_reg ?_
 try refine lg_mk ?_
 iterate 4 refine u_mv ?_
 refine lg_nil ?_
 refine h3 _ ?_; clear h3; try clear N3
 refine vc_seq_k fun N22 h22 => ?_
 refine vc_block ?_
 refine vc_seq_k fun N23 h23 => ?_
 by_cases hxy : (.nd xk xm xl xr : Tr) = .nd yk ym yl yr
 obtain ⟨hde, hei⟩ := eqI_t hxy
 have hx := And.intro @hde hx0
 refine u_reg ?_
 try refine lg_mk ?_
 refine u_mv (hq := by (first | ((repeat' apply And.intro) <;> first | rfl | omega | exact hx | exact hy) | exact sd_)) ?_
 refine u_mv (hq := by (first | ((repeat' apply And.intro) <;> first | rfl | omega | exact hx | exact hy) | exact sd_)) ?_
 have hc := call_rule (E := (E_oneA.at_ 105)) (f := 83) (sp := Spec.pure (samG 1001)) rfl
 have hs := @samG.eq_1
 refine u_cp (hq := by (first | ((repeat' apply And.intro) <;> first | rfl | omega | exact hx | exact hy) | exact sd_)) ?_
 refine u_mv (hq := by (first | ((repeat' apply And.intro) <;> first | rfl | omega | exact hx | exact hy) | exact sd_)) ?_
 refine s_mv (hq := by (intro hg; (try simp only [b_rules, bif_and, bif_or] at hg); (first | ((repeat' apply And.intro) <;> first | rfl | omega | exact hx | exact hy) | exact sd_))) ?_
 refine s_nl (hq := by (intro hg; (try simp only [b_rules, bif_and, bif_or] at hg); (first | ((repeat' apply And.intro) <;> first | rfl | omega | exact hx | exact hy) | exact sd_))) ?_
 refine s_pt (hq := by (intro hg; (try simp only [b_rules, bif_and, bif_or] at hg); (first | ((repeat' apply And.intro) <;> first | rfl | omega | exact hx | exact hy) | exact sd_))) ?_
 refine s_ld (hq := by (intro hg; (try simp only [b_rules, bif_and, bif_or] at hg); (first | ((repeat' apply And.intro) <;> first | rfl | omega | exact hx | exact hy) | exact sd_))) ?_
 refine s_mv (hq := by (intro hg; (try simp only [b_rules, bif_and, bif_or] at hg); (first | ((repeat' apply And.intro) <;> first | rfl | omega | exact hx | exact hy) | exact sd_))) ?_
 refine s_bn (hq := by (intro hg; (try simp only [b_rules, bif_and, bif_or] at hg); (first | ((repeat' apply And.intro) <;> first | rfl | omega | exact hx | exact hy) | exact sd_))) ?_
 refine u_pk (hq := by (first | ((repeat' apply And.intro) <;> first | rfl | omega | exact hx | exact hy) | exact sd_)) ?_
 refine u_mv (hq := by (first | ((repeat' apply And.intro) <;> first | rfl | omega | exact hx | exact hy) | exact sd_)) ?_
 refine lg_nil ?_
 have hx := hx0
 refine h23 _ ?_; clear h23; try clear N23
 refine u_cond (fun hb24 => ?_) (fun hb24 => ?_)
 refine vc_seq_k fun N25 h25 => ?_
 refine u_reg ?_
 try refine lg_mk ?_
 iterate 2 refine u_mv ?_
 refine lg_nil ?_
 refine h25 _ ?_; clear h25; try clear N25
 refine vc_ret ?_
 try simp only [k_rules]
 have hr : twoT k (.nd xk xm xl xr) (.nd yk ym yl yr) = .nd xk xm xl xr := by
  show twoE (eqI (.nd xk xm xl xr) (.nd yk ym yl yr)) k xk yk (.nd xk xm xl xr) (.nd yk ym yl yr) = _
  rw [hei]
  unfold twoE
  rw [if_neg (by have := hb6; (try simp at this); omega), if_pos (by have := hb21; (try simp at this); omega), if_pos (by omega)]
 rw [hr]
 refine fin2_ ?_
 exact cl_
 ·first | omega | exact absurd trivial hb24 | contradiction | (simp_all; done)
 obtain ⟨hde, hei⟩ := eqI_f hxy
 have hx := And.intro @hde hx0
 refine u_reg ?_
 try refine lg_mk ?_
 refine u_mv (hq := by (first | ((repeat' apply And.intro) <;> first | rfl | omega | exact hx | exact hy) | exact sd_)) ?_
 refine u_mv (hq := by (first | ((repeat' apply And.intro) <;> first | rfl | omega | exact hx | exact hy) | exact sd_)) ?_
 have hc := call_rule (E := (E_oneA.at_ 105)) (f := 83) (sp := Spec.pure (samG 1001)) rfl
 have hs := @samG.eq_1
 refine u_cp (hq := by (first | ((repeat' apply And.intro) <;> first | rfl | omega | exact hx | exact hy) | exact sd_)) ?_
 refine u_mv (hq := by (first | ((repeat' apply And.intro) <;> first | rfl | omega | exact hx | exact hy) | exact sd_)) ?_
 refine s_mv (hq := by (intro hg; (try simp only [b_rules, bif_and, bif_or] at hg); (first | ((repeat' apply And.intro) <;> first | rfl | omega | exact hx | exact hy) | exact sd_))) ?_
 refine s_nl (hq := by (intro hg; (try simp only [b_rules, bif_and, bif_or] at hg); (first | ((repeat' apply And.intro) <;> first | rfl | omega | exact hx | exact hy) | exact sd_))) ?_
 refine s_pt (hq := by (intro hg; (try simp only [b_rules, bif_and, bif_or] at hg); (first | ((repeat' apply And.intro) <;> first | rfl | omega | exact hx | exact hy) | exact sd_))) ?_
 refine s_ld (hq := by (intro hg; (try simp only [b_rules, bif_and, bif_or] at hg); (first | ((repeat' apply And.intro) <;> first | rfl | omega | exact hx | exact hy) | exact sd_))) ?_
 refine s_mv (hq := by (intro hg; (try simp only [b_rules, bif_and, bif_or] at hg); (first | ((repeat' apply And.intro) <;> first | rfl | omega | exact hx | exact hy) | exact sd_))) ?_
 refine s_bn (hq := by (intro hg; (try simp only [b_rules, bif_and, bif_or] at hg); (first | ((repeat' apply And.intro) <;> first | rfl | omega | exact hx | exact hy) | exact sd_))) ?_
 refine u_pk (hq := by (first | ((repeat' apply And.intro) <;> first | rfl | omega | exact hx | exact hy) | exact sd_)) ?_
 refine u_mv (hq := by (first | ((repeat' apply And.intro) <;> first | rfl | omega | exact hx | exact hy) | exact sd_)) ?_
 refine lg_nil ?_
 have hx := hx0
 refine h23 _ ?_; clear h23; try clear N23
 refine u_cond (fun hb26 => ?_) (fun hb26 => ?_)
 refine vc_seq_k fun N27 h27 => ?_
 refine u_reg ?_
 try refine lg_mk ?_
 iterate 2 refine u_mv ?_
 refine lg_nil ?_
 refine h27 _ ?_; clear h27; try clear N27
 refine vc_ret ?_
 try simp only [k_rules]
 have hr : twoT k (.nd xk xm xl xr) (.nd yk ym yl yr) = .nd xk xm xl xr := by
  show twoE (eqI (.nd xk xm xl xr) (.nd yk ym yl yr)) k xk yk (.nd xk xm xl xr) (.nd yk ym yl yr) = _
  rw [hei]
  unfold twoE
  rw [if_neg (by have := hb6; (try simp at this); omega), if_pos (by have := hb21; (try simp at this); omega), if_pos (by have := hb26; (try simp at this); omega)]
 rw [hr]
 refine fin2_ ?_
 exact cl_
 refine vc_seq_k fun N28 h28 => ?_
 refine u_reg ?_
 try refine lg_mk ?_
 refine u_mv ?_
 refine u_nl ?_
 refine u_pt ?_
 refine u_ld ?_
 refine u_mv ?_
 refine u_bn ?_
 refine u_mv ?_
 refine lg_nil ?_
 refine h28 _ ?_; clear h28; try clear N28
 refine u_cond (fun hb29 => ?_) (fun hb29 => ?_)
 refine vc_seq_k fun N30 h30 => ?_
 refine u_reg ?_
 try refine lg_mk ?_
 iterate 2 refine u_mv ?_
 refine lg_nil ?_
 refine h30 _ ?_; clear h30; try clear N30
 refine vc_ret ?_
 try simp only [k_rules]
 have hr : twoT k (.nd xk xm xl xr) (.nd yk ym yl yr) = .nd yk ym yl yr := by
  show twoE (eqI (.nd xk xm xl xr) (.nd yk ym yl yr)) k xk yk (.nd xk xm xl xr) (.nd yk ym yl yr) = _
  rw [hei]
  unfold twoE
  rw [if_neg (by have := hb6; (try simp at this); omega), if_pos (by have := hb21; (try simp at this); omega), if_neg (by have := hb26; (try simp at this); omega), if_pos (by have := hb29; (try simp at this); omega)]
 rw [hr]
 refine fin2_ ?_
 exact cl_
 refine vc_seq_k fun N31 h31 => ?_
 refine u_reg ?_
 try refine lg_mk ?_
 refine u_mv ?_
 refine u_nl ?_
 refine u_pt ?_
 refine u_ld ?_
 refine u_mv ?_
 refine u_bn ?_
 refine u_mv ?_
 refine g_mv ?_
 refine g_nl ?_
 refine g_pt ?_
 refine g_ld ?_
 refine g_mv ?_
 refine g_bn ?_
 refine u_pk ?_
 refine u_mv ?_
 refine lg_nil ?_
 refine h31 _ ?_; clear h31; try clear N31
 refine u_cond (fun hb32 => ?_) (fun hb32 => ?_)
 refine vc_seq_k fun N33 h33 => ?_
 refine u_reg ?_
 try refine lg_mk ?_
 refine u_mv ?_
 refine u_bd ?_
 refine u_bx ?_
 refine u_mv ?_
 refine lg_nil ?_
 refine h33 _ ?_; clear h33; try clear N33
 refine vc_ret ?_
 try simp only [k_rules]
 have hr : twoT k (.nd xk xm xl xr) (.nd yk ym yl yr) = .nd 2 0 .nil .nil := by
  show twoE (eqI (.nd xk xm xl xr) (.nd yk ym yl yr)) k xk yk (.nd xk xm xl xr) (.nd yk ym yl yr) = _
  rw [hei]
  unfold twoE
  rw [if_neg (by have := hb6; (try simp at this); omega), if_pos (by have := hb21; (try simp at this); omega), if_neg (by have := hb26; (try simp at this); omega), if_neg (by have := hb29; (try simp at this); omega), if_pos (by have := hb32; (try simp at this); omega)]
 rw [hr]
 refine fin2_ ?_
 exact cl_
 refine vc_skip ?_
 try simp only [k_rules]
 refine h22 _ ?_; clear h22; try clear N22
 refine vc_seq_k fun N34 h34 => ?_
 refine u_reg ?_
 try refine lg_mk ?_
 iterate 3 refine u_mv ?_
 refine u_bd ?_
 refine u_bx ?_
 refine u_mv ?_
 refine lg_nil ?_
 refine h34 _ ?_; clear h34; try clear N34
 refine vc_ret ?_
 try simp only [k_rules]
 have hr : twoT k (.nd xk xm xl xr) (.nd yk ym yl yr) = .nd k 0 (.nd xk xm xl xr) (.nd yk ym yl yr) := by
  show twoE (eqI (.nd xk xm xl xr) (.nd yk ym yl yr)) k xk yk (.nd xk xm xl xr) (.nd yk ym yl yr) = _
  rw [hei]
  unfold twoE
  rw [if_neg (by have := hb6; (try simp at this); omega), if_pos (by have := hb21; (try simp at this); omega), if_neg (by have := hb26; (try simp at this); omega), if_neg (by have := hb29; (try simp at this); omega), if_neg (by have := hb32; (try simp at this); omega)]
 rw [hr]
 refine fin2_ ?_
 exact cl_
 refine vc_skip ?_
 try simp only [k_rules]
 refine h3 _ ?_; clear h3; try clear N3
 refine vc_seq_k fun N35 h35 => ?_
 refine vc_block ?_
 refine vc_seq_k fun N36 h36 => ?_
 by_cases hxy : (.nd xk xm xl xr : Tr) = .nd yk ym yl yr
 obtain ⟨hde, hei⟩ := eqI_t hxy
 have hx := And.intro @hde hx0
 refine u_reg ?_
 try refine lg_mk ?_
 refine u_mv (hq := by (first | ((repeat' apply And.intro) <;> first | rfl | omega | exact hx | exact hy) | exact sd_)) ?_
 refine u_mv (hq := by (first | ((repeat' apply And.intro) <;> first | rfl | omega | exact hx | exact hy) | exact sd_)) ?_
 have hc := call_rule (E := (E_oneA.at_ 105)) (f := 83) (sp := Spec.pure (samG 1001)) rfl
 have hs := @samG.eq_1
 refine u_cp (hq := by (first | ((repeat' apply And.intro) <;> first | rfl | omega | exact hx | exact hy) | exact sd_)) ?_
 refine u_mv (hq := by (first | ((repeat' apply And.intro) <;> first | rfl | omega | exact hx | exact hy) | exact sd_)) ?_
 refine s_mv (hq := by (intro hg; (try simp only [b_rules, bif_and, bif_or] at hg); (first | ((repeat' apply And.intro) <;> first | rfl | omega | exact hx | exact hy) | exact sd_))) ?_
 refine s_nl (hq := by (intro hg; (try simp only [b_rules, bif_and, bif_or] at hg); (first | ((repeat' apply And.intro) <;> first | rfl | omega | exact hx | exact hy) | exact sd_))) ?_
 refine s_pt (hq := by (intro hg; (try simp only [b_rules, bif_and, bif_or] at hg); (first | ((repeat' apply And.intro) <;> first | rfl | omega | exact hx | exact hy) | exact sd_))) ?_
 refine s_ld (hq := by (intro hg; (try simp only [b_rules, bif_and, bif_or] at hg); (first | ((repeat' apply And.intro) <;> first | rfl | omega | exact hx | exact hy) | exact sd_))) ?_
 refine s_mv (hq := by (intro hg; (try simp only [b_rules, bif_and, bif_or] at hg); (first | ((repeat' apply And.intro) <;> first | rfl | omega | exact hx | exact hy) | exact sd_))) ?_
 refine s_bn (hq := by (intro hg; (try simp only [b_rules, bif_and, bif_or] at hg); (first | ((repeat' apply And.intro) <;> first | rfl | omega | exact hx | exact hy) | exact sd_))) ?_
 refine u_pk (hq := by (first | ((repeat' apply And.intro) <;> first | rfl | omega | exact hx | exact hy) | exact sd_)) ?_
 refine u_mv (hq := by (first | ((repeat' apply And.intro) <;> first | rfl | omega | exact hx | exact hy) | exact sd_)) ?_
 refine lg_nil ?_
 have hx := hx0
 refine h36 _ ?_; clear h36; try clear N36
 refine u_cond (fun hb37 => ?_) (fun hb37 => ?_)
 refine vc_seq_k fun N38 h38 => ?_
 refine u_reg ?_
 try refine lg_mk ?_
 iterate 2 refine u_mv ?_
 refine lg_nil ?_
 refine h38 _ ?_; clear h38; try clear N38
 refine vc_ret ?_
 try simp only [k_rules]
 have hr : twoT k (.nd xk xm xl xr) (.nd yk ym yl yr) = .nd xk xm xl xr := by
  show twoE (eqI (.nd xk xm xl xr) (.nd yk ym yl yr)) k xk yk (.nd xk xm xl xr) (.nd yk ym yl yr) = _
  rw [hei]
  unfold twoE
  rw [if_neg (by have := hb6; (try simp at this); omega), if_neg (by have := hb21; (try simp at this); omega), if_pos (by omega)]
 rw [hr]
 refine fin2_ ?_
 exact cl_
 ·first | omega | exact absurd trivial hb37 | contradiction | (simp_all; done)
 obtain ⟨hde, hei⟩ := eqI_f hxy
 have hx := And.intro @hde hx0
 refine u_reg ?_
 try refine lg_mk ?_
 refine u_mv (hq := by (first | ((repeat' apply And.intro) <;> first | rfl | omega | exact hx | exact hy) | exact sd_)) ?_
 refine u_mv (hq := by (first | ((repeat' apply And.intro) <;> first | rfl | omega | exact hx | exact hy) | exact sd_)) ?_
 have hc := call_rule (E := (E_oneA.at_ 105)) (f := 83) (sp := Spec.pure (samG 1001)) rfl
 have hs := @samG.eq_1
 refine u_cp (hq := by (first | ((repeat' apply And.intro) <;> first | rfl | omega | exact hx | exact hy) | exact sd_)) ?_
 refine u_mv (hq := by (first | ((repeat' apply And.intro) <;> first | rfl | omega | exact hx | exact hy) | exact sd_)) ?_
 refine s_mv (hq := by (intro hg; (try simp only [b_rules, bif_and, bif_or] at hg); (first | ((repeat' apply And.intro) <;> first | rfl | omega | exact hx | exact hy) | exact sd_))) ?_
 refine s_nl (hq := by (intro hg; (try simp only [b_rules, bif_and, bif_or] at hg); (first | ((repeat' apply And.intro) <;> first | rfl | omega | exact hx | exact hy) | exact sd_))) ?_
 refine s_pt (hq := by (intro hg; (try simp only [b_rules, bif_and, bif_or] at hg); (first | ((repeat' apply And.intro) <;> first | rfl | omega | exact hx | exact hy) | exact sd_))) ?_
 refine s_ld (hq := by (intro hg; (try simp only [b_rules, bif_and, bif_or] at hg); (first | ((repeat' apply And.intro) <;> first | rfl | omega | exact hx | exact hy) | exact sd_))) ?_
 refine s_mv (hq := by (intro hg; (try simp only [b_rules, bif_and, bif_or] at hg); (first | ((repeat' apply And.intro) <;> first | rfl | omega | exact hx | exact hy) | exact sd_))) ?_
 refine s_bn (hq := by (intro hg; (try simp only [b_rules, bif_and, bif_or] at hg); (first | ((repeat' apply And.intro) <;> first | rfl | omega | exact hx | exact hy) | exact sd_))) ?_
 refine u_pk (hq := by (first | ((repeat' apply And.intro) <;> first | rfl | omega | exact hx | exact hy) | exact sd_)) ?_
 refine u_mv (hq := by (first | ((repeat' apply And.intro) <;> first | rfl | omega | exact hx | exact hy) | exact sd_)) ?_
 refine lg_nil ?_
 have hx := hx0
 refine h36 _ ?_; clear h36; try clear N36
 refine u_cond (fun hb39 => ?_) (fun hb39 => ?_)
 refine vc_seq_k fun N40 h40 => ?_
 refine u_reg ?_
 try refine lg_mk ?_
 iterate 2 refine u_mv ?_
 refine lg_nil ?_
 refine h40 _ ?_; clear h40; try clear N40
 refine vc_ret ?_
 try simp only [k_rules]
 have hr : twoT k (.nd xk xm xl xr) (.nd yk ym yl yr) = .nd xk xm xl xr := by
  show twoE (eqI (.nd xk xm xl xr) (.nd yk ym yl yr)) k xk yk (.nd xk xm xl xr) (.nd yk ym yl yr) = _
  rw [hei]
  unfold twoE
  rw [if_neg (by have := hb6; (try simp at this); omega), if_neg (by have := hb21; (try simp at this); omega), if_pos (by have := hb39; (try simp at this); omega)]
 rw [hr]
 refine fin2_ ?_
 exact cl_
 refine vc_seq_k fun N41 h41 => ?_
 refine u_reg ?_
 try refine lg_mk ?_
 refine u_mv ?_
 refine u_nl ?_
 refine u_pt ?_
 refine u_ld ?_
 refine u_mv ?_
 refine u_bn ?_
 refine u_mv ?_
 refine lg_nil ?_
 refine h41 _ ?_; clear h41; try clear N41
 refine u_cond (fun hb42 => ?_) (fun hb42 => ?_)
 refine vc_seq_k fun N43 h43 => ?_
 refine u_reg ?_
 try refine lg_mk ?_
 iterate 2 refine u_mv ?_
 refine lg_nil ?_
 refine h43 _ ?_; clear h43; try clear N43
 refine vc_ret ?_
 try simp only [k_rules]
 have hr : twoT k (.nd xk xm xl xr) (.nd yk ym yl yr) = .nd yk ym yl yr := by
  show twoE (eqI (.nd xk xm xl xr) (.nd yk ym yl yr)) k xk yk (.nd xk xm xl xr) (.nd yk ym yl yr) = _
  rw [hei]
  unfold twoE
  rw [if_neg (by have := hb6; (try simp at this); omega), if_neg (by have := hb21; (try simp at this); omega), if_neg (by have := hb39; (try simp at this); omega), if_pos (by have := hb42; (try simp at this); omega)]
 rw [hr]
 refine fin2_ ?_
 exact cl_
 refine vc_seq_k fun N44 h44 => ?_
 refine u_reg ?_
 try refine lg_mk ?_
 refine u_mv ?_
 refine u_nl ?_
 refine u_pt ?_
 refine u_ld ?_
 refine u_mv ?_
 refine u_bn ?_
 refine u_mv ?_
 refine g_mv ?_
 refine g_nl ?_
 refine g_pt ?_
 refine g_ld ?_
 refine g_mv ?_
 refine g_bn ?_
 refine u_pk ?_
 refine u_mv ?_
 refine lg_nil ?_
 refine h44 _ ?_; clear h44; try clear N44
 refine u_cond (fun hb45 => ?_) (fun hb45 => ?_)
 refine vc_seq_k fun N46 h46 => ?_
 refine u_reg ?_
 try refine lg_mk ?_
 refine u_mv ?_
 refine u_bd ?_
 refine u_bx ?_
 refine u_mv ?_
 refine lg_nil ?_
 refine h46 _ ?_; clear h46; try clear N46
 refine vc_ret ?_
 try simp only [k_rules]
 have hr : twoT k (.nd xk xm xl xr) (.nd yk ym yl yr) = .nd 1 0 .nil .nil := by
  show twoE (eqI (.nd xk xm xl xr) (.nd yk ym yl yr)) k xk yk (.nd xk xm xl xr) (.nd yk ym yl yr) = _
  rw [hei]
  unfold twoE
  rw [if_neg (by have := hb6; (try simp at this); omega), if_neg (by have := hb21; (try simp at this); omega), if_neg (by have := hb39; (try simp at this); omega), if_neg (by have := hb42; (try simp at this); omega), if_pos (by have := hb45; (try simp at this); omega)]
 rw [hr]
 refine fin2_ ?_
 exact cl_
 refine vc_skip ?_
 try simp only [k_rules]
 refine h35 _ ?_; clear h35; try clear N35
 refine vc_seq_k fun N47 h47 => ?_
 refine u_reg ?_
 try refine lg_mk ?_
 iterate 3 refine u_mv ?_
 refine u_bd ?_
 refine u_bx ?_
 refine u_mv ?_
 refine lg_nil ?_
 refine h47 _ ?_; clear h47; try clear N47
 refine vc_ret ?_
 try simp only [k_rules]
 have hr : twoT k (.nd xk xm xl xr) (.nd yk ym yl yr) = .nd k 0 (.nd xk xm xl xr) (.nd yk ym yl yr) := by
  show twoE (eqI (.nd xk xm xl xr) (.nd yk ym yl yr)) k xk yk (.nd xk xm xl xr) (.nd yk ym yl yr) = _
  rw [hei]
  unfold twoE
  rw [if_neg (by have := hb6; (try simp at this); omega), if_neg (by have := hb21; (try simp at this); omega), if_neg (by have := hb39; (try simp at this); omega), if_neg (by have := hb42; (try simp at this); omega), if_neg (by have := hb45; (try simp at this); omega)]
 rw [hr]
 refine fin2_ ?_
 exact cl_
 cases hg

def E_two : Env Tryd.prog := E_oneA.add 67 (Spec.pure twoG) two_meets (by kernel_rfl)
end Go.Proofs.YtlbjffdaooadoaaDoor
