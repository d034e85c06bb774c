/- Walks, printed by wip/gen/walk.py. -/
import Derived.Test.YtlbjffdaooadoaaDoorT50
import Derived.Test.YtlbjffdaooadoaaDoorV5
set_option linter.all false
set_option maxRecDepth 100000
set_option maxHeartbeats 4000000
namespace Go.Proofs.YtlbjffdaooadoaaDoor
open Go Go.Vc Go.RowKit
theorem opn_all : ∀ n, Meets Tryd.prog 36 (Spec.pure (opnG n))
  | 0 => meets_voidP fun a p r h hp => by
    unfold opnG at h
    split at h
    · simp only [Option.some.injEq, Prod.mk.injEq] at h
      obtain ⟨rfl, _⟩ := h
      exact absurd hp.2.2.2 (by simp [opnT])
    · cases h
  | n + 1 => opn_step n (opn_all n)
def lstG (fu : Nat) : GFun
  | [.d x, .ptr 0 0 0], [some (.one ty [.sl 1 0 n]), some (.vec vt sz xs)] => some (x = dT (tD x) ∧ tD x ≠ .nil ∧ szT (tD x) ≤ fu ∧ ty = 24 ∧ vt = 39 ∧ sz = 4 ∧ xs = rows eN (dN xs) ∧ n = (dN xs).length ∧ (dN xs).length + szT (tD x) ≤ 1000000,
      .d (.int .i64 ((((dN xs).length + szT (tD x) : Nat) : Int) - 1)), [some (.one 24 [.sl 2 0 ((dN xs).length + szT (tD x))]), none, some (.vec 39 4 (rows eN (dN xs ++ lsT (dN xs).length (tD x))))])
  | _, _ => none

def E_opnA : Env Tryd.prog := E_ev.add 36 (Spec.pure (opnG 41)) (opn_all 41) (by kernel_rfl)

def E_ls (n : Nat) (ks : Meets Tryd.prog 37 (Spec.gen (lstG n))) : Env Tryd.prog := E_opnA.add 37 (Spec.gen (lstG n)) ks (by kernel_rfl)
theorem lsT_nd (s : Nat) (k m : Int) (l r : Tr) : lsT s (.nd k m l r) = lsT s l ++ lsT (s + szT l) r ++ [⟨k, m, if l = .nil then 0 else ((s + szT l : Nat) : Int) - 1, if r = .nil then 0 else ((s + szT l + szT r : Nat) : Int) - 1⟩] := rfl
theorem la_N (a b : List Nd) : (a ++ b).length = a.length + b.length := List.length_append
theorem lsT_nil (s : Nat) : lsT s .nil = [] := rfl

theorem lst_step (fu : Nat) (ks : Meets Tryd.prog 37 (Spec.gen (lstG fu))) : Meets Tryd.prog 37 (Spec.gen (lstG (fu + 1))) := by
 refine meets_handed ((E_ls fu ks).at_ 55) Tryd.func37 rfl rfl rfl ?_
 intro args bl p r bf hg hp
 unfold lstG at hg
 split at hg
 rename_i x ty n vt sz xs
 simp only [Option.some.injEq, Prod.mk.injEq] at hg
 obtain ⟨rfl, rfl, rfl⟩ := hg
 obtain ⟨he, hne, hfu, rfl, rfl, rfl, he2, hn, hlen⟩ := hp
 generalize dN xs = q at *
 generalize tD x = t at *
 subst he he2 hn
 obtain ⟨k, m, l, r, rfl⟩ := dT_ne hne
 rw [szT_nd] at hfu hlen
 have hT : ((E_ls fu ks)).X = T := rfl
 have hx0 := And.intro @dec_t (And.intro @dec_f (And.intro @rect_eN (And.intro @dN_rows (And.intro @Int.toNat_natCast (And.intro @tD_dT (And.intro @tD_nd (And.intro @tD_lf (And.intro @cl_dT (And.intro @cm_dT (And.intro @dT_nd (And.intro @dT_nil (And.intro @eq_dT (And.intro @ne_dT (And.intro @getD_tr (And.intro @szT_nd (And.intro @lsT_len (And.intro @la_N @Tryd.results37)))))))))))))))))
 have hx := hx0
 refine ⟨Nat.le_of_ble_eq_true rfl, ?_⟩
 intro F W0 M0 hnp hmk
 have hnp : Far.np = 2 := hnp
 refine vc_seq_k fun N1 h1 => ?_
 refine u_reg ?_
 try refine lg_mk ?_
 refine u_mv ?_
 refine lg_nil ?_
 refine h1 _ ?_; clear h1; try clear N1
 refine vc_seq_k fun N2 h2 => ?_
 refine u_reg ?_
 try refine lg_mk ?_
 refine u_mv ?_
 refine u_nl ?_
 refine u_pt ?_
 refine u_ld ?_
 refine u_mv ?_
 refine u_nl ?_
 refine u_pt ?_
 refine u_ld ?_
 refine u_bd ?_
 refine u_al ?_
 refine u_st ?_
 refine lg_nil ?_
 refine h2 _ ?_; clear h2; try clear N2
 refine vc_seq_k fun N3 h3 => ?_
 refine vc_seq_k fun N4 h4 => ?_
 refine u_reg ?_
 try refine lg_mk ?_
 refine u_mv ?_
 refine u_nl ?_
 refine u_pt ?_
 refine u_ld ?_
 refine u_bn ?_
 refine lg_nil ?_
 refine h4 _ ?_; clear h4; try clear N4
 refine u_cond (fun hb5 => ?_) (fun hb5 => ?_)
 have hl : l ≠ .nil := by have := hb5; simpa using this
 have hl1 := szT_pos hl
 have el : (if l = .nil then 0 else ((q.length + szT l : Nat) : Int) - 1) = ((q.length + szT l : Nat) : Int) - 1 := if_neg hl
 refine u_reg ?_
 try refine lg_mk ?_
 refine u_mv ?_
 refine u_nl ?_
 refine u_pt ?_
 refine u_ld ?_
 refine u_mv ?_
 have hc := call_rule (E := ((E_ls fu ks).at_ 55)) (f := 37) (sp := Spec.gen (lstG fu)) rfl
 have hs := @lstG.eq_1
 refine u_hg (hq := by (first | ((repeat' apply And.intro) <;> first | rfl | omega | exact hl | exact hr | (simp; done) | (simp [lsT_len]; omega)) | exact sd_)) ?_
 refine u_pt ?_
 refine u_st ?_
 refine lg_nil ?_
 refine h3 _ ?_; clear h3; try clear N3
 refine vc_seq_k fun N6 h6 => ?_
 refine vc_seq_k fun N7 h7 => ?_
 refine u_reg ?_
 try refine lg_mk ?_
 refine u_mv ?_
 refine u_nl ?_
 refine u_pt ?_
 refine u_ld ?_
 refine u_bn ?_
 refine lg_nil ?_
 refine h7 _ ?_; clear h7; try clear N7
 refine u_cond (fun hb8 => ?_) (fun hb8 => ?_)
 have hr : r ≠ .nil := by have := hb8; simpa using this
 have hr1 := szT_pos hr
 have er : (if r = .nil then 0 else ((q.length + szT l + szT r : Nat) : Int) - 1) = ((q.length + szT l + szT r : Nat) : Int) - 1 := if_neg hr
 refine u_reg ?_
 try refine lg_mk ?_
 refine u_mv ?_
 refine u_nl ?_
 refine u_pt ?_
 refine u_ld ?_
 refine u_mv ?_
 have hc := call_rule (E := ((E_ls fu ks).at_ 55)) (f := 37) (sp := Spec.gen (lstG fu)) rfl
 have hs := @lstG.eq_1
 refine u_hg (hq := by (first | ((repeat' apply And.intro) <;> first | rfl | omega | exact hl | exact hr | (simp; done) | (simp [lsT_len]; omega)) | exact sd_)) ?_
 refine u_pt ?_
 refine u_st ?_
 refine lg_nil ?_
 refine h6 _ ?_; clear h6; try clear N6
 refine vc_seq_k fun N9 h9 => ?_
 refine u_reg ?_
 try refine lg_mk ?_
 refine u_mv (hq := by (first | ((simp [lsT_len]; omega)) | exact sd_)) ?_
 refine u_mv (hq := by (first | ((simp [lsT_len]; omega)) | exact sd_)) ?_
 refine u_nl (hq := by (first | ((simp [lsT_len]; omega)) | exact sd_)) ?_
 refine u_pt (hq := by (first | ((simp [lsT_len]; omega)) | exact sd_)) ?_
 refine u_ld (hq := by (first | ((simp [lsT_len]; omega)) | exact sd_)) ?_
 refine u_ld (hq := by (first | ((simp [lsT_len]; omega)) | exact sd_)) ?_
 refine u_bs (hq := by (first | ((simp [lsT_len]; omega)) | exact sd_)) ?_
 refine u_ap (hq := by (first | ((simp [lsT_len]; omega)) | exact sd_)) ?_
 refine u_nl (hq := by (first | ((simp [lsT_len]; omega)) | exact sd_)) ?_
 refine u_pt (hq := by (first | ((simp [lsT_len]; omega)) | exact sd_)) ?_
 refine u_st (hq := by (first | ((simp [lsT_len]; omega)) | exact sd_)) ?_
 refine lg_nil ?_
 refine h9 _ ?_; clear h9; try clear N9
 refine vc_seq_k fun N10 h10 => ?_
 refine u_reg ?_
 try refine lg_mk ?_
 refine u_mv (hq := by (first | ((simp [lsT_len]; omega)) | exact sd_)) ?_
 refine u_nl (hq := by (first | ((simp [lsT_len]; omega)) | exact sd_)) ?_
 refine u_pt (hq := by (first | ((simp [lsT_len]; omega)) | exact sd_)) ?_
 refine u_ld (hq := by (first | ((simp [lsT_len]; omega)) | exact sd_)) ?_
 refine u_ln (hq := by (first | ((simp [lsT_len]; omega)) | exact sd_)) ?_
 refine u_bn (hq := by (first | ((simp [lsT_len]; omega)) | exact sd_)) ?_
 refine u_mv (hq := by (first | ((simp [lsT_len]; omega)) | exact sd_)) ?_
 refine lg_nil ?_
 refine h10 _ ?_; clear h10; try clear N10
 refine vc_ret ?_
 try simp only [k_rules]
 have hap := addN_rows (q ++ lsT q.length l ++ lsT (q.length + szT l) r) k m (if l = .nil then 0 else ((q.length + szT l : Nat) : Int) - 1) (if r = .nil then 0 else ((q.length + szT l + szT r : Nat) : Int) - 1)
 have hfin : q ++ lsT q.length l ++ lsT (q.length + szT l) r ++ [⟨k, m, (if l = .nil then 0 else ((q.length + szT l : Nat) : Int) - 1), (if r = .nil then 0 else ((q.length + szT l + szT r : Nat) : Int) - 1)⟩] = q ++ lsT q.length (.nd k m l r) := by rw [lsT_nd]; simp
 rw [hfin, el, er] at hap
 refine fin_ ?_
 refine ⟨[some 0, some 1, some 6], by rfl, ?_, ?_⟩
 refine fin_ ?_
 ·(repeat' apply And.intro) <;> (first | (first | rfl | omega | (left; congr 1; omega) | (rw [List.take_of_length_le (by simp only [la_N, lsT_len]; omega), ← hap]; done) | (rw [← hap]; done)) | exact cl_)
 refine fin_ ?_
 ·(repeat' apply And.intro) <;> (first | (first | rfl | omega | (left; congr 1; omega) | (rw [List.take_of_length_le (by simp only [la_N, lsT_len]; omega), ← hap]; done) | (rw [← hap]; done)) | exact cl_)
 have hr : r = .nil := by have := hb8; simpa using this
 have hr0 : szT r = 0 := by rw [hr]; rfl
 have hrs : ∀ s, lsT s r = [] := fun s => by rw [hr]; rfl
 have er : (if r = .nil then 0 else ((q.length + szT l + szT r : Nat) : Int) - 1) = 0 := if_pos hr
 refine vc_skip ?_
 try simp only [k_rules]
 refine h6 _ ?_; clear h6; try clear N6
 refine vc_seq_k fun N11 h11 => ?_
 refine u_reg ?_
 try refine lg_mk ?_
 refine u_mv (hq := by (first | ((simp [lsT_len]; omega)) | exact sd_)) ?_
 refine u_mv (hq := by (first | ((simp [lsT_len]; omega)) | exact sd_)) ?_
 refine u_nl (hq := by (first | ((simp [lsT_len]; omega)) | exact sd_)) ?_
 refine u_pt (hq := by (first | ((simp [lsT_len]; omega)) | exact sd_)) ?_
 refine u_ld (hq := by (first | ((simp [lsT_len]; omega)) | exact sd_)) ?_
 refine u_ld (hq := by (first | ((simp [lsT_len]; omega)) | exact sd_)) ?_
 refine u_bs (hq := by (first | ((simp [lsT_len]; omega)) | exact sd_)) ?_
 refine u_ap (hq := by (first | ((simp [lsT_len]; omega)) | exact sd_)) ?_
 refine u_nl (hq := by (first | ((simp [lsT_len]; omega)) | exact sd_)) ?_
 refine u_pt (hq := by (first | ((simp [lsT_len]; omega)) | exact sd_)) ?_
 refine u_st (hq := by (first | ((simp [lsT_len]; omega)) | exact sd_)) ?_
 refine lg_nil ?_
 refine h11 _ ?_; clear h11; try clear N11
 refine vc_seq_k fun N12 h12 => ?_
 refine u_reg ?_
 try refine lg_mk ?_
 refine u_mv (hq := by (first | ((simp [lsT_len]; omega)) | exact sd_)) ?_
 refine u_nl (hq := by (first | ((simp [lsT_len]; omega)) | exact sd_)) ?_
 refine u_pt (hq := by (first | ((simp [lsT_len]; omega)) | exact sd_)) ?_
 refine u_ld (hq := by (first | ((simp [lsT_len]; omega)) | exact sd_)) ?_
 refine u_ln (hq := by (first | ((simp [lsT_len]; omega)) | exact sd_)) ?_
 refine u_bn (hq := by (first | ((simp [lsT_len]; omega)) | exact sd_)) ?_
 refine u_mv (hq := by (first | ((simp [lsT_len]; omega)) | exact sd_)) ?_
 refine lg_nil ?_
 refine h12 _ ?_; clear h12; try clear N12
 refine vc_ret ?_
 try simp only [k_rules]
 have hap := addN_rows (q ++ lsT q.length l ++ lsT (q.length + szT l) r) k m (if l = .nil then 0 else ((q.length + szT l : Nat) : Int) - 1) (if r = .nil then 0 else ((q.length + szT l + szT r : Nat) : Int) - 1)
 have hfin : q ++ lsT q.length l ++ lsT (q.length + szT l) r ++ [⟨k, m, (if l = .nil then 0 else ((q.length + szT l : Nat) : Int) - 1), (if r = .nil then 0 else ((q.length + szT l + szT r : Nat) : Int) - 1)⟩] = q ++ lsT q.length (.nd k m l r) := by rw [lsT_nd]; simp
 rw [hfin, el, er] at hap
 simp only [hrs, List.append_nil] at hap
 refine fin_ ?_
 refine ⟨[some 0, some 1, some 5], by rfl, ?_, ?_⟩
 refine fin_ ?_
 ·(repeat' apply And.intro) <;> (first | (first | rfl | omega | (left; congr 1; omega) | (rw [List.take_of_length_le (by simp only [la_N, lsT_len]; omega), ← hap]; done) | (rw [← hap]; done)) | exact cl_)
 refine fin_ ?_
 ·(repeat' apply And.intro) <;> (first | (first | rfl | omega | (left; congr 1; omega) | (rw [List.take_of_length_le (by simp only [la_N, lsT_len]; omega), ← hap]; done) | (rw [← hap]; done)) | exact cl_)
 have hl : l = .nil := by have := hb5; simpa using this
 have hs0 : szT l = 0 := by rw [hl]; rfl
 have hls : ∀ s, lsT s l = [] := fun s => by rw [hl]; rfl
 have el : (if l = .nil then 0 else ((q.length + szT l : Nat) : Int) - 1) = 0 := if_pos hl
 refine vc_skip ?_
 try simp only [k_rules]
 refine h3 _ ?_; clear h3; try clear N3
 refine vc_seq_k fun N13 h13 => ?_
 refine vc_seq_k fun N14 h14 => ?_
 refine u_reg ?_
 try refine lg_mk ?_
 refine u_mv ?_
 refine u_nl ?_
 refine u_pt ?_
 refine u_ld ?_
 refine u_bn ?_
 refine lg_nil ?_
 refine h14 _ ?_; clear h14; try clear N14
 refine u_cond (fun hb15 => ?_) (fun hb15 => ?_)
 have hr : r ≠ .nil := by have := hb15; simpa using this
 have hr1 := szT_pos hr
 have er : (if r = .nil then 0 else ((q.length + szT l + szT r : Nat) : Int) - 1) = ((q.length + szT l + szT r : Nat) : Int) - 1 := if_neg hr
 refine u_reg ?_
 try refine lg_mk ?_
 refine u_mv ?_
 refine u_nl ?_
 refine u_pt ?_
 refine u_ld ?_
 refine u_mv ?_
 have hc := call_rule (E := ((E_ls fu ks).at_ 55)) (f := 37) (sp := Spec.gen (lstG fu)) rfl
 have hs := @lstG.eq_1
 refine u_hg (hq := by (first | ((repeat' apply And.intro) <;> first | rfl | omega | exact hl | exact hr | (simp; done) | (simp [lsT_len]; omega)) | exact sd_)) ?_
 refine u_pt ?_
 refine u_st ?_
 refine lg_nil ?_
 refine h13 _ ?_; clear h13; try clear N13
 refine vc_seq_k fun N16 h16 => ?_
 refine u_reg ?_
 try refine lg_mk ?_
 refine u_mv (hq := by (first | ((simp [lsT_len]; omega)) | exact sd_)) ?_
 refine u_mv (hq := by (first | ((simp [lsT_len]; omega)) | exact sd_)) ?_
 refine u_nl (hq := by (first | ((simp [lsT_len]; omega)) | exact sd_)) ?_
 refine u_pt (hq := by (first | ((simp [lsT_len]; omega)) | exact sd_)) ?_
 refine u_ld (hq := by (first | ((simp [lsT_len]; omega)) | exact sd_)) ?_
 refine u_ld (hq := by (first | ((simp [lsT_len]; omega)) | exact sd_)) ?_
 refine u_bs (hq := by (first | ((simp [lsT_len]; omega)) | exact sd_)) ?_
 refine u_ap (hq := by (first | ((simp [lsT_len]; omega)) | exact sd_)) ?_
 refine u_nl (hq := by (first | ((simp [lsT_len]; omega)) | exact sd_)) ?_
 refine u_pt (hq := by (first | ((simp [lsT_len]; omega)) | exact sd_)) ?_
 refine u_st (hq := by (first | ((simp [lsT_len]; omega)) | exact sd_)) ?_
 refine lg_nil ?_
 refine h16 _ ?_; clear h16; try clear N16
 refine vc_seq_k fun N17 h17 => ?_
 refine u_reg ?_
 try refine lg_mk ?_
 refine u_mv (hq := by (first | ((simp [lsT_len]; omega)) | exact sd_)) ?_
 refine u_nl (hq := by (first | ((simp [lsT_len]; omega)) | exact sd_)) ?_
 refine u_pt (hq := by (first | ((simp [lsT_len]; omega)) | exact sd_)) ?_
 refine u_ld (hq := by (first | ((simp [lsT_len]; omega)) | exact sd_)) ?_
 refine u_ln (hq := by (first | ((simp [lsT_len]; omega)) | exact sd_)) ?_
 refine u_bn (hq := by (first | ((simp [lsT_len]; omega)) | exact sd_)) ?_
 refine u_mv (hq := by (first | ((simp [lsT_len]; omega)) | exact sd_)) ?_
 refine lg_nil ?_
 refine h17 _ ?_; clear h17; try clear N17
 refine vc_ret ?_
 try simp only [k_rules]
 have hap := addN_rows (q ++ lsT q.length l ++ lsT (q.length + szT l) r) k m (if l = .nil then 0 else ((q.length + szT l : Nat) : Int) - 1) (if r = .nil then 0 else ((q.length + szT l + szT r : Nat) : Int) - 1)
 have hfin : q ++ lsT q.length l ++ lsT (q.length + szT l) r ++ [⟨k, m, (if l = .nil then 0 else ((q.length + szT l : Nat) : Int) - 1), (if r = .nil then 0 else ((q.length + szT l + szT r : Nat) : Int) - 1)⟩] = q ++ lsT q.length (.nd k m l r) := by rw [lsT_nd]; simp
 rw [hfin, el, er] at hap
 simp only [hls, hs0, List.append_nil, Nat.add_zero] at hap
 refine fin_ ?_
 refine ⟨[some 0, some 1, some 5], by rfl, ?_, ?_⟩
 refine fin_ ?_
 ·(repeat' apply And.intro) <;> (first | (first | rfl | omega | (left; congr 1; omega) | (rw [List.take_of_length_le (by simp only [la_N, lsT_len]; omega), ← hap]; done) | (rw [← hap]; done)) | exact cl_)
 refine fin_ ?_
 ·(repeat' apply And.intro) <;> (first | (first | rfl | omega | (left; congr 1; omega) | (rw [List.take_of_length_le (by simp only [la_N, lsT_len]; omega), ← hap]; done) | (rw [← hap]; done)) | exact cl_)
 have hr : r = .nil := by have := hb15; simpa using this
 have hr0 : szT r = 0 := by rw [hr]; rfl
 have hrs : ∀ s, lsT s r = [] := fun s => by rw [hr]; rfl
 have er : (if r = .nil then 0 else ((q.length + szT l + szT r : Nat) : Int) - 1) = 0 := if_pos hr
 refine vc_skip ?_
 try simp only [k_rules]
 refine h13 _ ?_; clear h13; try clear N13
 refine vc_seq_k fun N18 h18 => ?_
 refine u_reg ?_
 try refine lg_mk ?_
 refine u_mv (hq := by (first | ((simp [lsT_len]; omega)) | exact sd_)) ?_
 refine u_mv (hq := by (first | ((simp [lsT_len]; omega)) | exact sd_)) ?_
 refine u_nl (hq := by (first | ((simp [lsT_len]; omega)) | exact sd_)) ?_
 refine u_pt (hq := by (first | ((simp [lsT_len]; omega)) | exact sd_)) ?_
 refine u_ld (hq := by (first | ((simp [lsT_len]; omega)) | exact sd_)) ?_
 refine u_ld (hq := by (first | ((simp [lsT_len]; omega)) | exact sd_)) ?_
 refine u_bs (hq := by (first | ((simp [lsT_len]; omega)) | exact sd_)) ?_
 refine u_ap (hq := by (first | ((simp [lsT_len]; omega)) | exact sd_)) ?_
 refine u_nl (hq := by (first | ((simp [lsT_len]; omega)) | exact sd_)) ?_
 refine u_pt (hq := by (first | ((simp [lsT_len]; omega)) | exact sd_)) ?_
 refine u_st (hq := by (first | ((simp [lsT_len]; omega)) | exact sd_)) ?_
 refine lg_nil ?_
 refine h18 _ ?_; clear h18; try clear N18
 refine vc_seq_k fun N19 h19 => ?_
 refine u_reg ?_
 try refine lg_mk ?_
 refine u_mv (hq := by (first | ((simp [lsT_len]; omega)) | exact sd_)) ?_
 refine u_nl (hq := by (first | ((simp [lsT_len]; omega)) | exact sd_)) ?_
 refine u_pt (hq := by (first | ((simp [lsT_len]; omega)) | exact sd_)) ?_
 refine u_ld (hq := by (first | ((simp [lsT_len]; omega)) | exact sd_)) ?_
 refine u_ln (hq := by (first | ((simp [lsT_len]; omega)) | exact sd_)) ?_
 refine u_bn (hq := by (first | ((simp [lsT_len]; omega)) | exact sd_)) ?_
 refine u_mv (hq := by (first | ((simp [lsT_len]; omega)) | exact sd_)) ?_
 refine lg_nil ?_
 refine h19 _ ?_; clear h19; try clear N19
 refine vc_ret ?_
 try simp only [k_rules]
 have hap := addN_rows (q ++ lsT q.length l ++ lsT (q.length + szT l) r) k m (if l = .nil then 0 else ((q.length + szT l : Nat) : Int) - 1) (if r = .nil then 0 else ((q.length + szT l + szT r : Nat) : Int) - 1)
 have hfin : q ++ lsT q.length l ++ lsT (q.length + szT l) r ++ [⟨k, m, (if l = .nil then 0 else ((q.length + szT l : Nat) : Int) - 1), (if r = .nil then 0 else ((q.length + szT l + szT r : Nat) : Int) - 1)⟩] = q ++ lsT q.length (.nd k m l r) := by rw [lsT_nd]; simp
 rw [hfin, el, er] at hap
 simp only [hls, hrs, List.append_nil] at hap
 refine fin_ ?_
 refine ⟨[some 0, some 1, some 4], by rfl, ?_, ?_⟩
 refine fin_ ?_
 ·(repeat' apply And.intro) <;> (first | (first | rfl | omega | (left; congr 1; omega) | (rw [List.take_of_length_le (by simp only [la_N, lsT_len]; omega), ← hap]; done) | (rw [← hap]; done)) | exact cl_)
 refine fin_ ?_
 ·(repeat' apply And.intro) <;> (first | (first | rfl | omega | (left; congr 1; omega) | (rw [List.take_of_length_le (by simp only [la_N, lsT_len]; omega), ← hap]; done) | (rw [← hap]; done)) | exact cl_)
 cases hg
end Go.Proofs.YtlbjffdaooadoaaDoor
