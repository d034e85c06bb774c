/- Walks, printed by wip/gen/walk.py. -/
import Derived.Test.YtcjipciiljjfhaaDoorT11
import Derived.Test.YtcjipciiljjfhaaDoorV5
set_option linter.all false
set_option maxRecDepth 100000
set_option maxHeartbeats 4000000
namespace Go.Proofs.YtcjipciiljjfhaaDoor
open Go Go.Vc Go.RowKit
theorem takeS_len (S : List SO) : S.take S.length = S := List.take_length
theorem takeS_ap (S : List SO) (x : SO) : (S ++ [x]).take (S.length + 1) = S ++ [x] := List.take_of_length_le (by simp)

theorem addO_meets : Meets Tryd.prog 18 (Spec.gen addG) := by
 refine meets_handed (E_storesR.at_ 42) Tryd.func18 rfl rfl rfl ?_
 intro args bl p r bf hg hp
 unfold addG at hg
 split at hg
 ·rename_i d k ls ds t n t1 s1 xs
  simp only [Option.some.injEq, Prod.mk.injEq] at hg
  obtain ⟨rfl, rfl, rfl⟩ := hg
  obtain ⟨he, rfl, rfl, rfl, hv, e1, e2, hov⟩ := hp
  generalize dO xs = S at *
  generalize dI ls = l at *
  generalize dU ds = u at *
  subst he e1 e2
  have hlen := hv.len
  have hol : l.length ≤ 30 := hov.ln
  have hll := lbS_le S d
  have hT : (E_storesR).X = T := rfl
  have hx0 := And.intro @rect_eO (And.intro @dI_rows (And.intro @dU_rows (And.intro @dO_rows (And.intro @takeS_len @Tryd.results18))))
  have hx := hx0
  refine ⟨Nat.le_of_ble_eq_true rfl, ?_⟩
  intro F W0 M0 hnp hmk
  have hnp : Far.np = 2 := hnp
  refine vc_seq_k fun N1 h1 => ?_
  refine vc_regG [25] hmix (by kernel_rfl) ?_
  try refine lg_mk ?_
  refine u_bx ?_
  refine u_mv ?_
  refine lg_nil ?_
  refine h1 _ ?_; clear h1; try clear N1
  refine vc_seq_k fun N2 h2 => ?_
  rcases (show (inS S d = true ∧ ∃ y, S[lbS S d]? = some y ∧ y.dg = d) ∨ inS S d = false by cases h : inS S d with | true => exact .inl ⟨rfl, inS_get hv.sort h⟩ | false => exact .inr rfl) with ⟨hin, y, hye, hyd⟩ | hin
  ·have hyo := hv.ok y (mem_at hye)
   have hklt := (List.getElem?_eq_some_iff.1 hye).1
   obtain ⟨d', k', l', u'⟩ := y
   obtain rfl : d' = d := hyd
   have hol' : l'.length ≤ 30 := hyo.ln
   have hye2 := hye
   have hx := And.intro @hin hx0
   refine vc_regG [25] hmix (by kernel_rfl) ?_
   try refine lg_mk ?_
   refine u_mv ?_
   refine u_nl ?_
   refine u_ld ?_
   refine u_mv ?_
   have hc := call_rule (E := (E_storesR.at_ 42)) (f := 24) (sp := Spec.pure findG) rfl
   have hs := @findG.eq_1
   refine u_cp (hq := by (first | (exact ⟨Nat.le_refl _, hv.sort, by omega⟩) | exact sd_)) ?_
   refine u_mv ?_
   refine u_ex ?_
   refine u_ex ?_
   refine u_mv ?_
   refine u_mv ?_
   refine lg_nil ?_
   have hx := hx0
   refine h2 _ ?_; clear h2; try clear N2
   refine vc_seq_k fun N3 h3 => ?_
   refine vc_seq_k fun N4 h4 => ?_
   refine vc_regG [25] hmix (by kernel_rfl) ?_
   try refine lg_mk ?_
   refine u_mv ?_
   refine lg_nil ?_
   refine h4 _ ?_; clear h4; try clear N4
   refine u_cond (fun hb5 => ?_) (fun hb5 => ?_)
   ·refine vc_seq_k fun N6 h6 => ?_
    have hx := And.intro @hye2 (And.intro @eO.eq_1 hx0)
    refine vc_regG [25] hmix (by kernel_rfl) ?_
    try refine lg_mk ?_
    refine u_mv ?_
    refine u_nl ?_
    refine u_pt ?_
    refine u_ld ?_
    refine u_mv ?_
    refine u_pt ?_
    refine u_pt ?_
    refine u_ld ?_
    refine u_ld ?_
    have hc := call_rule (E := (E_storesR.at_ 42)) (f := 30) (sp := Spec.pure sameG) rfl
    have hs := @sameG.eq_1
    refine u_cp (hq := by (first | (constructor <;> omega) | exact sd_)) ?_
    refine u_mv ?_
    refine lg_nil ?_
    have hx := hx0
    refine h6 _ ?_; clear h6; try clear N6
    refine vc_ret ?_
    try simp only [k_rules]
    have hb : bAdd t S ⟨d', ⟨k, l, u⟩⟩ = _ := if_pos hin
    have hr : rAdd S ⟨d', ⟨k, l, u⟩⟩ = decide (k' = k ∧ l' = l ∧ u' = u) := by
     unfold rAdd; rw [if_pos hin]; apply decide_eq_decide.2
     constructor
     ·intro h; have := dg_uni hv.sort (mem_at hye) h rfl; rw [so_eq] at this; exact this.2
     ·rintro ⟨rfl, rfl, rfl⟩; exact mem_at hye
    rw [hb, hr]
    refine fin_ ?_
    refine ⟨[some 0, some 1], by rfl, ?_, ?_⟩
    ·refine fin_ ?_
     exact cl_
    ·refine fin_ ?_
     exact cl_
   ·cases hb5
  ·have hye2 := hin
   have hx := And.intro @hin hx0
   refine vc_regG [25] hmix (by kernel_rfl) ?_
   try refine lg_mk ?_
   refine u_mv ?_
   refine u_nl ?_
   refine u_ld ?_
   refine u_mv ?_
   have hc := call_rule (E := (E_storesR.at_ 42)) (f := 24) (sp := Spec.pure findG) rfl
   have hs := @findG.eq_1
   refine u_cp (hq := by (first | (exact ⟨Nat.le_refl _, hv.sort, by omega⟩) | exact sd_)) ?_
   refine u_mv ?_
   refine u_ex ?_
   refine u_ex ?_
   refine u_mv ?_
   refine u_mv ?_
   refine lg_nil ?_
   have hx := hx0
   refine h2 _ ?_; clear h2; try clear N2
   refine vc_seq_k fun N7 h7 => ?_
   refine vc_seq_k fun N8 h8 => ?_
   refine vc_regG [25] hmix (by kernel_rfl) ?_
   try refine lg_mk ?_
   refine u_mv ?_
   refine lg_nil ?_
   refine h8 _ ?_; clear h8; try clear N8
   refine u_cond (fun hb9 => ?_) (fun hb9 => ?_)
   ·cases hb9
   ·refine vc_skip ?_
    try simp only [k_rules]
    refine h7 _ ?_; clear h7; try clear N7
    refine vc_seq_k fun N10 h10 => ?_
    refine vc_regG [25] hmix (by kernel_rfl) ?_
    try refine lg_mk ?_
    refine u_mv ?_
    refine u_mv ?_
    refine u_nl ?_
    refine u_pt ?_
    refine u_ld ?_
    refine u_mv ?_
    refine u_mv ?_
    refine u_ld ?_
    have hc := call_rule (E := (E_storesR.at_ 42)) (f := 25) (sp := Spec.pure cobG) rfl
    have hs := @cobG.eq_1
    refine u_hp (hq := by (first | (exact hov) | exact sd_)) ?_
    refine u_bd ?_
    refine u_bs ?_
    have hc := call_rule (E := (E_storesR.at_ 42)) (f := 31) (sp := Spec.gen (insertG 58 4)) rfl
    have hs := And.intro @insertG.eq_1 @insertG.eq_2
    refine u_hg (hq := by (first | (first | exact ⟨rfl, rfl, rfl, rfl, of_eq_true (rect_eO S), (by intro x hx; simp at hx; subst hx; rfl), rows_len .., rfl, rfl, by omega, by omega, by omega⟩ | ((repeat' apply And.intro) <;> first | rfl | trivial | omega | exact of_eq_true (rect_eO S) | (intro x hx; simp at hx; subst hx; rfl) | (simp [rows]; done) | (simp; omega))) | exact sd_)) ?_
    refine u_nl ?_
    refine u_pt ?_
    refine u_st ?_
    refine lg_nil ?_
    refine h10 _ ?_; clear h10; try clear N10
    refine vc_seq_k fun N11 h11 => ?_
    refine vc_regG [25] hmix (by kernel_rfl) ?_
    try refine lg_mk ?_
    refine u_mv ?_
    refine lg_nil ?_
    refine h11 _ ?_; clear h11; try clear N11
    refine vc_ret ?_
    try simp only [k_rules]
    have hb : bAdd t S ⟨d, ⟨k, l, u⟩⟩ = _ := if_neg (by dsimp only; rw [hin]; simp)
    have hr : rAdd S ⟨d, ⟨k, l, u⟩⟩ = true := if_neg (by dsimp only; rw [hin]; simp)
    rw [hb, hr]
    unfold addS
    dsimp only
    refine fin_ ?_
    refine ⟨[some 0, some 1, some 4], by rfl, ?_, ?_⟩
    ·refine fin_ ?_
     (repeat' apply And.intro) <;> (first | (first | rfl | trivial | (simp [rows, eO, List.map_take, List.map_drop]; done) | omega) | exact cl_)
    ·refine fin_ ?_
     (repeat' apply And.intro) <;> (first | (first | rfl | trivial | (simp [rows, eO, List.map_take, List.map_drop]; done) | omega) | exact cl_)
 ·cases hg

def E_addO : Env Tryd.prog := E_storesR.add 18 (Spec.gen addG) addO_meets (by kernel_rfl)
end Go.Proofs.YtcjipciiljjfhaaDoor
