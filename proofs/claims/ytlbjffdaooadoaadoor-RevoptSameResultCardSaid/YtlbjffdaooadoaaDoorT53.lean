/- Walks, printed by wip/gen/walk.py. -/
import Derived.Test.YtlbjffdaooadoaaDoorT52
import Derived.Test.YtlbjffdaooadoaaDoorV5
set_option linter.all false
set_option maxRecDepth 100000
set_option maxHeartbeats 4000000
namespace Go.Proofs.YtlbjffdaooadoaaDoor
open Go Go.Vc Go.RowKit
theorem sam_all : ∀ n, Meets Tryd.prog 83 (Spec.pure (samG n))
  | 0 => meets_voidP fun a p r h hp => by
    unfold samG at h
    split at h
    · simp only [Option.some.injEq, Prod.mk.injEq] at h
      obtain ⟨rfl, _⟩ := h
      exact absurd hp.2.2 (Nat.not_lt_zero _)
    · cases h
  | n + 1 => sam_step n (sam_all n)
def oneRG (fu : Nat) : List AV → Option (Prop × AV)
  | [.d (.int .i64 k), .d x] => some (x = dT (tD x) ∧ okT (tD x) ∧ 7 ≤ k ∧ k ≤ 13 ∧ szT (tD x) ≤ fu, .d (dT (oneT k (tD x))))
  | _ => none
def innerD : List D := [.int .i64 0, .int .i64 0, .int .i64 0, .int .i64 0, .int .i64 0, .int .i64 0, .int .i64 0, .int .i64 0, .int .i64 12, .int .i64 13, .int .i64 0, .int .i64 0, .int .i64 8, .int .i64 9, .int .i64 0, .int .i64 0, .int .i64 0]
theorem gl_inner [Far] (fr : Nat → AV) : evO fr (.global 2) = .d (.ptr innerD) := rfl
theorem in_len : innerD.length = 17 := rfl
theorem innerD_at {k : Int} (h0 : 7 ≤ k) (h : k ≤ 13) : innerD[k.toNat]? = some (.int .i64 (inr k)) := by
  have : k = 7 ∨ k = 8 ∨ k = 9 ∨ k = 10 ∨ k = 11 ∨ k = 12 ∨ k = 13 := by omega
  rcases this with rfl | rfl | rfl | rfl | rfl | rfl | rfl <;> rfl

def E_samA : Env Tryd.prog := E_lstA.add 83 (Spec.pure (samG 1001)) (sam_all 1001) (by kernel_rfl)

def E_on (n : Nat) (ks : Meets Tryd.prog 66 (Spec.pure (oneRG n))) : Env Tryd.prog := E_samA.add 66 (Spec.pure (oneRG n)) ks (by kernel_rfl)

theorem one_step (fu : Nat) (ks : Meets Tryd.prog 66 (Spec.pure (oneRG fu))) : Meets Tryd.prog 66 (Spec.pure (oneRG (fu + 1))) := by
 refine meets_fun ((E_on fu ks).at_ 114) Tryd.func66 rfl rfl rfl ?_
 intro args p r hg hp
 unfold oneRG at hg
 split at hg
 rename_i k x
 simp only [Option.some.injEq, Prod.mk.injEq] at hg
 obtain ⟨rfl, rfl⟩ := hg
 obtain ⟨he, hok, hk1, hk2, hfu⟩ := hp
 generalize tD x = t at *
 subst he
 obtain ⟨xk, m, l, r, rfl⟩ := dT_ne (okT_ne hok)
 rw [szT_nd] at hfu
 have hin17 := innerD_at hk1 hk2
 have hT : ((E_on fu ks)).X = T := rfl
 have hx0 := And.intro @dec_t (And.intro @dec_f (And.intro @rect_eN (And.intro @dN_rows (And.intro @Int.toNat_natCast (And.intro @tD_dT (And.intro @tD_nd (And.intro @tD_lf (And.intro @cl_dT (And.intro @cm_dT (And.intro @dT_nd (And.intro @dT_nil (And.intro @eq_dT (And.intro @ne_dT (And.intro @getD_tr @Tryd.results66))))))))))))))
 have hx := hx0
 refine ⟨by rfl, ?_⟩
 intro F W0 hnp hmk
 refine vc_seq_k fun N1 h1 => ?_
 refine u_reg ?_
 try refine lg_mk ?_
 refine u_mv ?_
 refine lg_nil ?_
 refine h1 _ ?_; clear h1; try clear N1
 refine vc_seq_k fun N2 h2 => ?_
 refine u_reg ?_
 try refine lg_mk ?_
 refine u_mv ?_
 refine u_bn ?_
 refine u_mv ?_
 refine g_mv ?_
 refine g_bn ?_
 refine u_pk ?_
 refine u_mv ?_
 refine lg_nil ?_
 refine h2 _ ?_; clear h2; try clear N2
 refine vc_seq_k fun N3 h3 => ?_
 refine u_reg ?_
 try refine lg_mk ?_
 iterate 2 refine u_mv ?_
 refine g_mv ?_
 refine g_bn ?_
 refine u_pk ?_
 refine u_mv ?_
 refine g_mv ?_
 refine g_bn ?_
 refine u_pk ?_
 refine u_mv ?_
 refine lg_nil ?_
 refine h3 _ ?_; clear h3; try clear N3
 refine vc_seq_k fun N4 h4 => ?_
 refine vc_block ?_
 refine vc_seq_k fun N5 h5 => ?_
 refine u_reg ?_
 try refine lg_mk ?_
 refine u_mv ?_
 refine u_bn ?_
 refine u_mv ?_
 refine g_mv ?_
 refine g_nl ?_
 refine g_pt ?_
 refine g_ld ?_
 refine g_bn ?_
 refine u_pk ?_
 refine u_mv ?_
 refine lg_nil ?_
 refine h5 _ ?_; clear h5; try clear N5
 refine u_cond (fun hb6 => ?_) (fun hb6 => ?_)
 refine vc_seq_k fun N7 h7 => ?_
 refine u_reg ?_
 try refine lg_mk ?_
 refine u_bd ?_
 refine u_bx ?_
 refine u_mv ?_
 refine lg_nil ?_
 refine h7 _ ?_; clear h7; try clear N7
 refine vc_ret ?_
 try simp only [k_rules]
 have hr : oneT k (.nd xk m l r) = .nd 1 0 .nil .nil := by
  rw [oneT]
  rw [if_pos (by have := hb6; (try simp at this); omega)]
 rw [hr]
 refine fin2_ ?_
 exact cl_
 refine vc_seq_k fun N8 h8 => ?_
 refine u_reg ?_
 try refine lg_mk ?_
 refine u_mv ?_
 refine u_bn ?_
 refine u_mv ?_
 refine g_mv ?_
 refine g_nl ?_
 refine g_pt ?_
 refine g_ld ?_
 refine g_bn ?_
 refine u_pk ?_
 refine u_mv ?_
 refine lg_nil ?_
 refine h8 _ ?_; clear h8; try clear N8
 refine u_cond (fun hb9 => ?_) (fun hb9 => ?_)
 refine vc_seq_k fun N10 h10 => ?_
 refine u_reg ?_
 try refine lg_mk ?_
 refine u_bd ?_
 refine u_bx ?_
 refine u_mv ?_
 refine lg_nil ?_
 refine h10 _ ?_; clear h10; try clear N10
 refine vc_ret ?_
 try simp only [k_rules]
 have hr : oneT k (.nd xk m l r) = .nd 2 0 .nil .nil := by
  rw [oneT]
  rw [if_neg (by have := hb6; (try simp at this); omega), if_pos (by have := hb9; (try simp at this); omega)]
 rw [hr]
 refine fin2_ ?_
 exact cl_
 refine vc_seq_k fun N11 h11 => ?_
 refine u_reg ?_
 try refine lg_mk ?_
 refine u_mv ?_
 refine u_bn ?_
 refine u_mv ?_
 refine g_mv ?_
 refine g_nl ?_
 refine g_pt ?_
 refine g_ld ?_
 refine g_bn ?_
 refine u_pk ?_
 refine u_mv ?_
 refine lg_nil ?_
 refine h11 _ ?_; clear h11; try clear N11
 refine u_cond (fun hb12 => ?_) (fun hb12 => ?_)
 refine vc_seq_k fun N13 h13 => ?_
 refine u_reg ?_
 try refine lg_mk ?_
 refine u_mv ?_
 refine u_nl ?_
 refine u_pt ?_
 refine u_ld ?_
 refine u_mv ?_
 refine lg_nil ?_
 refine h13 _ ?_; clear h13; try clear N13
 refine vc_ret ?_
 try simp only [k_rules]
 have hr : oneT k (.nd xk m l r) = l := by
  rw [oneT]
  rw [if_neg (by have := hb6; (try simp at this); omega), if_neg (by have := hb9; (try simp at this); omega), if_pos (by have := hb12; (try simp at this); omega)]
 rw [hr]
 refine fin2_ ?_
 exact cl_
 refine vc_seq_k fun N14 h14 => ?_
 refine u_reg ?_
 try refine lg_mk ?_
 refine u_mv ?_
 refine u_bn ?_
 refine u_mv ?_
 refine g_mv ?_
 refine g_nl ?_
 refine g_pt ?_
 refine g_ld ?_
 refine g_bn ?_
 refine u_pk ?_
 refine u_mv ?_
 refine lg_nil ?_
 refine h14 _ ?_; clear h14; try clear N14
 refine u_cond (fun hb15 => ?_) (fun hb15 => ?_)
 refine vc_seq_k fun N16 h16 => ?_
 refine u_reg ?_
 try refine lg_mk ?_
 iterate 2 refine u_mv ?_
 refine lg_nil ?_
 refine h16 _ ?_; clear h16; try clear N16
 refine vc_ret ?_
 try simp only [k_rules]
 have hr : oneT k (.nd xk m l r) = .nd xk m l r := by
  rw [oneT]
  rw [if_neg (by have := hb6; (try simp at this); omega), if_neg (by have := hb9; (try simp at this); omega), if_neg (by have := hb12; (try simp at this); omega), if_pos (by have := hb15; (try simp at this); omega)]
 rw [hr]
 refine fin2_ ?_
 exact cl_
 refine vc_seq_k fun N17 h17 => ?_
 refine u_reg ?_
 try refine lg_mk ?_
 iterate 2 refine u_mv ?_
 refine g_mv ?_
 refine g_nl ?_
 refine g_pt ?_
 refine g_ld ?_
 refine g_bn ?_
 refine u_pk ?_
 refine u_mv ?_
 refine lg_nil ?_
 refine h17 _ ?_; clear h17; try clear N17
 refine u_cond (fun hb18 => ?_) (fun hb18 => ?_)
 refine vc_seq_k fun N19 h19 => ?_
 refine u_reg ?_
 try refine lg_mk ?_
 iterate 2 refine u_mv ?_
 refine lg_nil ?_
 refine h19 _ ?_; clear h19; try clear N19
 refine vc_ret ?_
 try simp only [k_rules]
 have hr : oneT k (.nd xk m l r) = .nd xk m l r := by
  rw [oneT]
  rw [if_neg (by have := hb6; (try simp at this); omega), if_neg (by have := hb9; (try simp at this); omega), if_neg (by have := hb12; (try simp at this); omega), if_neg (by have := hb15; (try simp at this); omega), if_pos (by have := hb18; (try simp at this); omega)]
 rw [hr]
 refine fin2_ ?_
 exact cl_
 refine vc_seq_k fun N20 h20 => ?_
 refine u_reg ?_
 try refine lg_mk ?_
 iterate 2 refine u_mv ?_
 refine g_mv ?_
 refine g_nl ?_
 refine g_pt ?_
 refine g_ld ?_
 refine g_mv ?_
 refine g_bn ?_
 refine u_pk ?_
 refine u_mv ?_
 refine lg_nil ?_
 refine h20 _ ?_; clear h20; try clear N20
 refine u_cond (fun hb21 => ?_) (fun hb21 => ?_)
 refine vc_seq_k fun N22 h22 => ?_
 refine u_reg ?_
 try refine lg_mk ?_
 iterate 2 refine u_mv ?_
 refine lg_nil ?_
 refine h22 _ ?_; clear h22; try clear N22
 refine vc_ret ?_
 try simp only [k_rules]
 have hr : oneT k (.nd xk m l r) = .nd xk m l r := by
  rw [oneT]
  rw [if_neg (by have := hb6; (try simp at this); omega), if_neg (by have := hb9; (try simp at this); omega), if_neg (by have := hb12; (try simp at this); omega), if_neg (by have := hb15; (try simp at this); omega), if_neg (by have := hb18; (try simp at this); omega), if_pos (by have := hb21; (try simp at this); omega)]
 rw [hr]
 refine fin2_ ?_
 exact cl_
 refine vc_seq_k fun N23 h23 => ?_
 have hx := And.intro @gl_inner (And.intro @hin17 (And.intro @in_len (And.intro @Nat.mul_one hx0)))
 refine u_reg ?_
 try refine lg_mk ?_
 refine u_mv (hq := by (first | ((intros; omega)) | exact sd_)) ?_
 refine u_mv (hq := by (first | ((intros; omega)) | exact sd_)) ?_
 refine s_mv (hq := by (intro hg; (try simp only [b_rules, bif_and, bif_or] at hg); (first | ((intros; omega)) | exact sd_))) ?_
 refine s_nl (hq := by (intro hg; (try simp only [b_rules, bif_and, bif_or] at hg); (first | ((intros; omega)) | exact sd_))) ?_
 refine s_pt (hq := by (intro hg; (try simp only [b_rules, bif_and, bif_or] at hg); (first | ((intros; omega)) | exact sd_))) ?_
 refine s_ld (hq := by (intro hg; (try simp only [b_rules, bif_and, bif_or] at hg); (first | ((intros; omega)) | exact sd_))) ?_
 refine s_mv (hq := by (intro hg; (try simp only [b_rules, bif_and, bif_or] at hg); (first | ((intros; omega)) | exact sd_))) ?_
 refine s_pt (hq := by (intro hg; (try simp only [b_rules, bif_and, bif_or] at hg); (first | ((intros; omega)) | exact sd_))) ?_
 refine s_ld (hq := by (intro hg; (try simp only [b_rules, bif_and, bif_or] at hg); (first | ((intros; omega)) | exact sd_))) ?_
 refine s_bn (hq := by (intro hg; (try simp only [b_rules, bif_and, bif_or] at hg); (first | ((intros; omega)) | exact sd_))) ?_
 refine u_pk (hq := by (first | ((intros; omega)) | exact sd_)) ?_
 refine u_mv (hq := by (first | ((intros; omega)) | exact sd_)) ?_
 refine lg_nil ?_
 have hx := hx0
 refine h23 _ ?_; clear h23; try clear N23
 refine u_cond (fun hb24 => ?_) (fun hb24 => ?_)
 have hcc : (k = 8 ∨ k = 9 ∨ k = 12 ∨ k = 13) ∧ xk = inr k := by have := hb24; (try simp at this); omega
 have hl := ok_op hok (by obtain ⟨(rfl | rfl | rfl | rfl), h2⟩ := hcc <;> rw [h2] <;> decide)
 have sA := sc_dT (okT_ne (one_ok ⟨hk1, hk2⟩ hl).1)
 refine vc_seq_k fun N25 h25 => ?_
 have hx := And.intro @sA hx0
 refine u_reg ?_
 try refine lg_mk ?_
 iterate 2 refine u_mv ?_
 refine u_nl ?_
 refine u_pt ?_
 refine u_ld ?_
 have hc := call_rule (E := ((E_on fu ks).at_ 114)) (f := 66) (sp := Spec.pure (oneRG fu)) rfl
 have hs := @oneRG.eq_1
 refine u_hp (hq := by (first | ((repeat' apply And.intro) <;> first | rfl | omega | exact hl) | exact sd_)) ?_
 refine u_mv ?_
 refine lg_nil ?_
 have hx := hx0
 refine h25 _ ?_; clear h25; try clear N25
 refine vc_ret ?_
 try simp only [k_rules]
 have hr : oneT k (.nd xk m l r) = oneT k l := by
  rw [oneT]
  rw [if_neg (by have := hb6; (try simp at this); omega), if_neg (by have := hb9; (try simp at this); omega), if_neg (by have := hb12; (try simp at this); omega), if_neg (by have := hb15; (try simp at this); omega), if_neg (by have := hb18; (try simp at this); omega), if_neg (by have := hb21; (try simp at this); omega), if_pos (by have := hb24; (try simp at this); omega)]
 rw [hr]
 refine fin2_ ?_
 exact cl_
 refine vc_skip ?_
 try simp only [k_rules]
 refine h4 _ ?_; clear h4; try clear N4
 refine vc_seq_k fun N26 h26 => ?_
 refine u_reg ?_
 try refine lg_mk ?_
 iterate 2 refine u_mv ?_
 refine u_bd ?_
 refine u_bx ?_
 refine u_mv ?_
 refine lg_nil ?_
 refine h26 _ ?_; clear h26; try clear N26
 refine vc_ret ?_
 try simp only [k_rules]
 have hr : oneT k (.nd xk m l r) = .nd k 0 (.nd xk m l r) .nil := by
  rw [oneT]
  rw [if_neg (by have := hb6; (try simp at this); omega), if_neg (by have := hb9; (try simp at this); omega), if_neg (by have := hb12; (try simp at this); omega), if_neg (by have := hb15; (try simp at this); omega), if_neg (by have := hb18; (try simp at this); omega), if_neg (by have := hb21; (try simp at this); omega), if_neg (by have := hb24; (try simp at this); omega)]
 rw [hr]
 refine fin2_ ?_
 exact cl_
 cases hg
end Go.Proofs.YtlbjffdaooadoaaDoor
