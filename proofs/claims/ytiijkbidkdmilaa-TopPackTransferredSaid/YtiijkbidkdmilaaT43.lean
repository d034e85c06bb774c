/- Walks, printed by wip/gen/walk.py. -/
import Derived.Test.YtiijkbidkdmilaaT42
import Derived.Test.YtiijkbidkdmilaaV5
set_option linter.all false
set_option maxRecDepth 100000
set_option maxHeartbeats 4000000
namespace Go.Proofs.Ytiijkbidkdmilaa
open Go Go.Vc Go.RowKit
def okN (l : List Int) (n : Int) : Bool := decide (0 ≤ n) && decide (n < l.length)
def dropN (l : List Int) (n : Int) : List Int := if okN l n then l.eraseIdx n.toNat else l
def getN (l : List Int) (n : Int) : Int := if okN l n then l.getD n.toNat 0 else 0
def pickG : GFun
  | [.ptr 0 0 3, .d (.int .i64 n)], [some (.one t [.d a, .d b, .d c, .sl 1 0 lf, .sl 2 0 lw]), some (.vec t1 s1 xs), some (.vec t2 s2 ys)] =>
    some (xs = rows eI (dI xs) ∧ t1 = 3 ∧ s1 = 1 ∧ lf = (dI xs).length ∧ (dI xs).length ≤ 9223372036854775806, .tup [.d (.int .i64 (getN (dI xs) n)), .d (.bool (okN (dI xs) n))],
      [some (.one t [.d a, .d b, .d c, .sl 1 0 (dropN (dI xs) n).length, .sl 2 0 lw]), some (.vec 3 1 (rows eI (dropN (dI xs) n))), some (.vec t2 s2 ys)])
  | [.ptr 0 0 4, .d (.int .i64 n)], [some (.one t [.d a, .d b, .d c, .sl 1 0 lf, .sl 2 0 lw]), some (.vec t1 s1 xs), some (.vec t2 s2 ys)] =>
    some (ys = rows eI (dI ys) ∧ t2 = 3 ∧ s2 = 1 ∧ lw = (dI ys).length ∧ (dI ys).length ≤ 9223372036854775806, .tup [.d (.int .i64 (getN (dI ys) n)), .d (.bool (okN (dI ys) n))],
      [some (.one t [.d a, .d b, .d c, .sl 1 0 lf, .sl 2 0 (dropN (dI ys) n).length]), some (.vec t1 s1 xs), some (.vec 3 1 (rows eI (dropN (dI ys) n)))])
  | _, _ => none

theorem pick_meets : Meets Try.prog 28 (Spec.gen pickG) := by
 refine meets_handed (E_deleteI.at_ 33) Try.func28 rfl rfl rfl ?_
 intro args bl p r bf hg hp
 unfold pickG at hg
 split at hg
 ·rename_i n t a b c lf lw t1 s1 xs t2 s2 ys
  simp only [Option.some.injEq, Prod.mk.injEq] at hg
  obtain ⟨rfl, rfl, rfl⟩ := hg
  obtain ⟨hx, rfl, rfl, rfl, hl⟩ := hp
  generalize dI xs = fs at *
  subst hx
  have hT : (E_deleteI).X = T := rfl
  have hx0 := @Try.results28
  have hx := hx0
  refine ⟨Nat.le_of_ble_eq_true rfl, ?_⟩
  intro F W0 M0 hnp hmk
  have hnp : Far.np = 3 := hnp
  refine vc_seq_k fun N1 h1 => ?_
  refine u_reg ?_
  try refine lg_mk ?_
  refine u_mv ?_
  refine u_mv ?_
  refine lg_nil ?_
  refine h1 _ ?_; clear h1; try clear N1
  refine vc_seq_k fun N2 h2 => ?_
  refine vc_seq_k fun N3 h3 => ?_
  refine u_reg ?_
  try refine lg_mk ?_
  refine u_mv ?_
  refine u_bn ?_
  refine u_mv ?_
  refine g_mv ?_
  refine g_mv ?_
  refine g_nl ?_
  refine g_ld ?_
  refine g_ln ?_
  refine g_bn ?_
  refine u_pk ?_
  refine lg_nil ?_
  refine h3 _ ?_; clear h3; try clear N3
  refine u_cond (fun hb4 => ?_) (fun hb4 => ?_)
  ·have ho : okN fs n = false := by simp [okN]; omega
   refine vc_seq_k fun N5 h5 => ?_
   refine u_reg ?_
   try refine lg_mk ?_
   refine u_mv ?_
   refine u_mv ?_
   refine lg_nil ?_
   refine h5 _ ?_; clear h5; try clear N5
   refine vc_ret ?_
   try simp only [k_rules]
   refine fin_ ?_
   refine ⟨[some 0, some 1, some 2], by rfl, ?_, ?_⟩
   ·refine fin_ ?_
    (repeat' apply And.intro) <;> (first | (first | rfl | exact hgn.symm | (rw [hgn]; done) | (left; rw [hgn]; done) | trivial | omega | (left; simp [dropN, getN, ho, hx]; done) | (simp [dropN, getN, ho, hx, List.eraseIdx_eq_take_drop_succ]; done) | (simp [dropN, ho, List.length_eraseIdx]; omega) | (left; simp [getN, ho]; done) | (simp [dropN, getN, ho]; done)) | exact cl_)
   ·refine fin_ ?_
    (repeat' apply And.intro) <;> (first | (first | rfl | exact hgn.symm | (rw [hgn]; done) | (left; rw [hgn]; done) | trivial | omega | (left; simp [dropN, getN, ho, hx]; done) | (simp [dropN, getN, ho, hx, List.eraseIdx_eq_take_drop_succ]; done) | (simp [dropN, ho, List.length_eraseIdx]; omega) | (left; simp [getN, ho]; done) | (simp [dropN, getN, ho]; done)) | exact cl_)
  ·have ho : okN fs n = true := by simp [okN]; omega
   obtain ⟨n, rfl⟩ := Int.eq_ofNat_of_zero_le (by omega : 0 ≤ n)
   obtain ⟨x, hx⟩ : ∃ x, fs[n]? = some x := ⟨_, List.getElem?_eq_getElem (by omega)⟩
   have hgn : getN fs (n : Int) = x := by simp [getN, ho, hx]
   refine vc_skip ?_
   try simp only [k_rules]
   refine h2 _ ?_; clear h2; try clear N2
   refine vc_seq_k fun N6 h6 => ?_
   have hx := And.intro @hx hx0
   refine u_reg ?_
   try refine lg_mk ?_
   refine u_mv ?_
   refine u_nl ?_
   refine u_ld ?_
   refine u_mv ?_
   refine u_pt ?_
   refine u_ld ?_
   refine u_mv ?_
   refine lg_nil ?_
   have hx := hx0
   refine h6 _ ?_; clear h6; try clear N6
   refine vc_seq_k fun N7 h7 => ?_
   refine u_reg ?_
   try refine lg_mk ?_
   refine u_mv ?_
   refine u_mv ?_
   refine u_nl ?_
   refine u_ld ?_
   refine u_mv ?_
   refine u_mv ?_
   refine u_bn ?_
   have hc := call_rule (E := (E_deleteI.at_ 33)) (f := 41) (sp := Spec.gen (deleteG 3)) rfl
   have hs := @deleteG.eq_1
   refine u_hg (hq := by (first | (simp [rect_eI, rows_len]; omega) | exact sd_)) ?_
   refine u_nl ?_
   refine u_st ?_
   refine lg_nil ?_
   refine h7 _ ?_; clear h7; try clear N7
   refine vc_seq_k fun N8 h8 => ?_
   refine u_reg ?_
   try refine lg_mk ?_
   refine u_mv ?_
   refine u_mv ?_
   refine u_mv ?_
   refine lg_nil ?_
   refine h8 _ ?_; clear h8; try clear N8
   refine vc_ret ?_
   try simp only [k_rules]
   refine fin_ ?_
   refine ⟨[some 0, some 1, some 2], by rfl, ?_, ?_⟩
   ·refine fin_ ?_
    (repeat' apply And.intro) <;> (first | (first | rfl | exact hgn.symm | (rw [hgn]; done) | (left; rw [hgn]; done) | trivial | omega | (left; simp [dropN, getN, ho, hx]; done) | (simp [dropN, getN, ho, hx, List.eraseIdx_eq_take_drop_succ]; done) | (simp [dropN, ho, List.length_eraseIdx]; omega) | (left; simp [getN, ho]; done) | (simp [dropN, getN, ho]; done)) | exact cl_)
   ·refine fin_ ?_
    (repeat' apply And.intro) <;> (first | (first | rfl | exact hgn.symm | (rw [hgn]; done) | (left; rw [hgn]; done) | trivial | omega | (left; simp [dropN, getN, ho, hx]; done) | (simp [dropN, getN, ho, hx, List.eraseIdx_eq_take_drop_succ]; done) | (simp [dropN, ho, List.length_eraseIdx]; omega) | (left; simp [getN, ho]; done) | (simp [dropN, getN, ho]; done)) | exact cl_)
 ·rename_i n t a b c lf lw t1 s1 xs t2 s2 ys
  simp only [Option.some.injEq, Prod.mk.injEq] at hg
  obtain ⟨rfl, rfl, rfl⟩ := hg
  obtain ⟨hx, rfl, rfl, rfl, hl⟩ := hp
  generalize dI ys = fs at *
  subst hx
  have hT : (E_deleteI).X = T := rfl
  have hx0 := @Try.results28
  have hx := hx0
  refine ⟨Nat.le_of_ble_eq_true rfl, ?_⟩
  intro F W0 M0 hnp hmk
  have hnp : Far.np = 3 := hnp
  refine vc_seq_k fun N1 h1 => ?_
  refine u_reg ?_
  try refine lg_mk ?_
  refine u_mv ?_
  refine u_mv ?_
  refine lg_nil ?_
  refine h1 _ ?_; clear h1; try clear N1
  refine vc_seq_k fun N2 h2 => ?_
  refine vc_seq_k fun N3 h3 => ?_
  refine u_reg ?_
  try refine lg_mk ?_
  refine u_mv ?_
  refine u_bn ?_
  refine u_mv ?_
  refine g_mv ?_
  refine g_mv ?_
  refine g_nl ?_
  refine g_ld ?_
  refine g_ln ?_
  refine g_bn ?_
  refine u_pk ?_
  refine lg_nil ?_
  refine h3 _ ?_; clear h3; try clear N3
  refine u_cond (fun hb4 => ?_) (fun hb4 => ?_)
  ·have ho : okN fs n = false := by simp [okN]; omega
   refine vc_seq_k fun N5 h5 => ?_
   refine u_reg ?_
   try refine lg_mk ?_
   refine u_mv ?_
   refine u_mv ?_
   refine lg_nil ?_
   refine h5 _ ?_; clear h5; try clear N5
   refine vc_ret ?_
   try simp only [k_rules]
   refine fin_ ?_
   refine ⟨[some 0, some 1, some 2], by rfl, ?_, ?_⟩
   ·refine fin_ ?_
    (repeat' apply And.intro) <;> (first | (first | rfl | exact hgn.symm | (rw [hgn]; done) | (left; rw [hgn]; done) | trivial | omega | (left; simp [dropN, getN, ho, hx]; done) | (simp [dropN, getN, ho, hx, List.eraseIdx_eq_take_drop_succ]; done) | (simp [dropN, ho, List.length_eraseIdx]; omega) | (left; simp [getN, ho]; done) | (simp [dropN, getN, ho]; done)) | exact cl_)
   ·refine fin_ ?_
    (repeat' apply And.intro) <;> (first | (first | rfl | exact hgn.symm | (rw [hgn]; done) | (left; rw [hgn]; done) | trivial | omega | (left; simp [dropN, getN, ho, hx]; done) | (simp [dropN, getN, ho, hx, List.eraseIdx_eq_take_drop_succ]; done) | (simp [dropN, ho, List.length_eraseIdx]; omega) | (left; simp [getN, ho]; done) | (simp [dropN, getN, ho]; done)) | exact cl_)
  ·have ho : okN fs n = true := by simp [okN]; omega
   obtain ⟨n, rfl⟩ := Int.eq_ofNat_of_zero_le (by omega : 0 ≤ n)
   obtain ⟨x, hx⟩ : ∃ x, fs[n]? = some x := ⟨_, List.getElem?_eq_getElem (by omega)⟩
   have hgn : getN fs (n : Int) = x := by simp [getN, ho, hx]
   refine vc_skip ?_
   try simp only [k_rules]
   refine h2 _ ?_; clear h2; try clear N2
   refine vc_seq_k fun N6 h6 => ?_
   have hx := And.intro @hx hx0
   refine u_reg ?_
   try refine lg_mk ?_
   refine u_mv ?_
   refine u_nl ?_
   refine u_ld ?_
   refine u_mv ?_
   refine u_pt ?_
   refine u_ld ?_
   refine u_mv ?_
   refine lg_nil ?_
   have hx := hx0
   refine h6 _ ?_; clear h6; try clear N6
   refine vc_seq_k fun N7 h7 => ?_
   refine u_reg ?_
   try refine lg_mk ?_
   refine u_mv ?_
   refine u_mv ?_
   refine u_nl ?_
   refine u_ld ?_
   refine u_mv ?_
   refine u_mv ?_
   refine u_bn ?_
   have hc := call_rule (E := (E_deleteI.at_ 33)) (f := 41) (sp := Spec.gen (deleteG 3)) rfl
   have hs := @deleteG.eq_1
   refine u_hg (hq := by (first | (simp [rect_eI, rows_len]; omega) | exact sd_)) ?_
   refine u_nl ?_
   refine u_st ?_
   refine lg_nil ?_
   refine h7 _ ?_; clear h7; try clear N7
   refine vc_seq_k fun N8 h8 => ?_
   refine u_reg ?_
   try refine lg_mk ?_
   refine u_mv ?_
   refine u_mv ?_
   refine u_mv ?_
   refine lg_nil ?_
   refine h8 _ ?_; clear h8; try clear N8
   refine vc_ret ?_
   try simp only [k_rules]
   refine fin_ ?_
   refine ⟨[some 0, some 1, some 2], by rfl, ?_, ?_⟩
   ·refine fin_ ?_
    (repeat' apply And.intro) <;> (first | (first | rfl | exact hgn.symm | (rw [hgn]; done) | (left; rw [hgn]; done) | trivial | omega | (left; simp [dropN, getN, ho, hx]; done) | (simp [dropN, getN, ho, hx, List.eraseIdx_eq_take_drop_succ]; done) | (simp [dropN, ho, List.length_eraseIdx]; omega) | (left; simp [getN, ho]; done) | (simp [dropN, getN, ho]; done)) | exact cl_)
   ·refine fin_ ?_
    (repeat' apply And.intro) <;> (first | (first | rfl | exact hgn.symm | (rw [hgn]; done) | (left; rw [hgn]; done) | trivial | omega | (left; simp [dropN, getN, ho, hx]; done) | (simp [dropN, getN, ho, hx, List.eraseIdx_eq_take_drop_succ]; done) | (simp [dropN, ho, List.length_eraseIdx]; omega) | (left; simp [getN, ho]; done) | (simp [dropN, getN, ho]; done)) | exact cl_)
 ·cases hg

def E_pick : Env Try.prog := E_deleteI.add 28 (Spec.gen pickG) pick_meets (by kernel_rfl)
end Go.Proofs.Ytiijkbidkdmilaa
