/- Walks, printed by wip/gen/walk.py. -/
import Derived.Test.YtcjipciiljjfhaaDoorT60
import Derived.Test.YtcjipciiljjfhaaDoorV5
set_option linter.all false
set_option maxRecDepth 100000
set_option maxHeartbeats 4000000
namespace Go.Proofs.YtcjipciiljjfhaaDoor
open Go Go.Vc Go.RowKit
def of3G : GFun
  | [.sl 0 0 n], [some (.vec t s xs)] => some (xs = rows eU (dU xs) ∧ t = 5 ∧ s = 1 ∧ n = (dU xs).length ∧ (dU xs).length ≤ 1000000000, .tup [.d (.int .i64 (if (dU xs).length ≤ 4096 then dig (dU xs) else 0)), .agg [.d (.int .i64 (if (dU xs).length ≤ 4096 then 0 else 2)), .d (.int .i64 0)]], [some (.vec 5 1 (rows eU (dU xs)))])
  | _, _ => none
theorem pk0_all (S : List SO) : S.take S.length = S := List.take_length

theorem digOf3_meets : Meets Tryd.prog 28 (Spec.gen of3G) := by
 refine meets_handed (E_entry.at_ 26) Tryd.func28 rfl rfl rfl ?_
 intro args bl p r bf hg hp
 unfold of3G at hg
 split at hg
 ·rename_i n t s xs
  simp only [Option.some.injEq, Prod.mk.injEq] at hg
  obtain ⟨rfl, rfl, rfl⟩ := hg
  obtain ⟨he, rfl, rfl, rfl, hl⟩ := hp
  generalize dU xs = l at *
  subst he
  have hT : (E_entry).X = T := rfl
  have hx0 := @Tryd.results28
  have hx := hx0
  refine ⟨Nat.le_of_ble_eq_true rfl, ?_⟩
  intro F W0 M0 hnp hmk
  have hnp : Far.np = 1 := hnp
  refine vc_seq_k fun N1 h1 => ?_
  refine u_reg ?_
  try refine lg_mk ?_
  refine u_mv (hq := by (first | (omega) | exact sd_)) ?_
  refine u_al (hq := by (first | (omega) | exact sd_)) ?_
  refine lg_nil ?_
  refine h1 _ ?_; clear h1; try clear N1
  refine vc_seq_k fun N2 h2 => ?_
  refine vc_seq_k fun N3 h3 => ?_
  refine u_reg ?_
  try refine lg_mk ?_
  refine u_mv (hq := by (first | (omega) | exact sd_)) ?_
  refine u_ln (hq := by (first | (omega) | exact sd_)) ?_
  refine u_bn (hq := by (first | (omega) | exact sd_)) ?_
  refine lg_nil ?_
  refine h3 _ ?_; clear h3; try clear N3
  refine u_cond (fun hb4 => ?_) (fun hb4 => ?_)
  ·refine vc_seq_k fun N5 h5 => ?_
   refine u_reg ?_
   try refine lg_mk ?_
   refine u_bd (hq := by (first | (omega) | exact sd_)) ?_
   refine u_mv (hq := by (first | (omega) | exact sd_)) ?_
   refine u_st (hq := by (first | (omega) | exact sd_)) ?_
   refine lg_nil ?_
   refine h5 _ ?_; clear h5; try clear N5
   refine vc_ret ?_
   try simp only [k_rules]
   have hl4 : ¬ l.length ≤ 4096 := by have := hb4; omega
   rw [if_neg hl4, if_neg hl4]
   refine fin_ ?_
   refine ⟨[some 0], by rfl, ?_, ?_⟩
   ·refine fin_ ?_
    exact cl_
   ·refine fin_ ?_
    exact cl_
  ·have hl4 : l.length ≤ 4096 := by have := hb4; omega
   refine vc_skip ?_
   try simp only [k_rules]
   refine h2 _ ?_; clear h2; try clear N2
   refine vc_seq_k fun N6 h6 => ?_
   refine u_reg ?_
   try refine lg_mk ?_
   refine u_mv (hq := by (first | (omega) | exact sd_)) ?_
   refine lg_nil ?_
   refine h6 _ ?_; clear h6; try clear N6
   refine vc_seq_k fun N7 h7 => ?_
   refine vc_seq_k fun N8 h8 => ?_
   refine u_reg ?_
   try refine lg_mk ?_
   refine u_mv (hq := by (first | (omega) | exact sd_)) ?_
   refine u_ln (hq := by (first | (omega) | exact sd_)) ?_
   refine u_mv (hq := by (first | (omega) | exact sd_)) ?_
   refine lg_nil ?_
   refine h8 _ ?_; clear h8; try clear N8
   refine vc_block ?_
   refine vc_loop_mk (σ := Nat) (fun s => (fun i => i ≤ l.length) s)
    (fun s => (fun i => [(0, .sl 0 0 l.length), (3, .ptr 1 0 0), (4, .d (.int .i64 (dig (l.take i)))), (11, .sl 0 0 l.length), (12, .d (.int .i64 (l.length : Nat))), (13, .d (.int .i64 (i : Nat)))]) s)
    (fun s => (fun i => [some (.vec 5 1 (rows eU l)), some (.one 33 [.d (.int .i64 0), .d (.int .i64 0)])]) s) (fun s => (fun i => l.length - i) s) hnp 0 ?_ [some 0, some 1] ?_ ?_
   ·dsimp only
    omega
   ·dsimp only
    refine ⟨by rfl, ?_, ?_⟩
    ·refine fin_ ?_
     exact cl_
    ·refine fin_ ?_
     exact cl_
   ·rintro i hinv N9 h9
    dsimp only at hinv ⊢
    have i1 := hinv
    refine vc_seq_k fun N10 h10 => ?_
    refine u_reg ?_
    try refine lg_mk ?_
    refine u_bn (hq := by (first | (omega) | exact sd_)) ?_
    refine lg_nil ?_
    refine h10 _ ?_; clear h10; try clear N10
    refine vc_seq_k fun N11 h11 => ?_
    refine u_cond (fun hb12 => ?_) (fun hb12 => ?_)
    ·obtain ⟨x, hxe⟩ := getE (l := l) (i := i) (by omega)
     have hxl := x.toNat_lt
     have hdn := dig_next (dig (l.take i)) x
     have hsn := dig_snoc l i x hxe
     rw [← hdn] at hsn
     have hrg := dig_rng (l.take i)
     refine vc_skip ?_
     try simp only [k_rules]
     refine h11 _ ?_; clear h11; try clear N11
     refine vc_seq_k fun N13 h13 => ?_
     refine vc_block ?_
     refine vc_seq_k fun N14 h14 => ?_
     have hx := And.intro @hxe (And.intro @eU.eq_1 hx0)
     refine u_reg ?_
     try refine lg_mk ?_
     refine u_pt (hq := by (first | (omega) | exact sd_)) ?_
     refine u_ld (hq := by (first | (omega) | exact sd_)) ?_
     refine u_mv (hq := by (first | (omega) | exact sd_)) ?_
     refine lg_nil ?_
     have hx := hx0
     refine h14 _ ?_; clear h14; try clear N14
     refine u_reg ?_
     try refine lg_mk ?_
     refine u_mv (hq := by (first | (omega) | exact sd_)) ?_
     refine u_mv (hq := by (first | (omega) | exact sd_)) ?_
     refine u_cv (hq := by (first | (omega) | exact sd_)) ?_
     refine u_bn (hq := by (first | (omega) | exact sd_)) ?_
     refine u_bd (hq := by (first | (omega) | exact sd_)) ?_
     have hc := call_rule (E := (E_entry.at_ 26)) (f := 42) (sp := Spec.pure nextG) rfl
     have hs := @nextG.eq_1
     refine u_cp (hq := by (first | (exact ⟨hrg.1, hrg.2, by omega, by omega, by omega, by omega⟩) | exact sd_)) ?_
     refine u_mv (hq := by (first | (omega) | exact sd_)) ?_
     refine lg_nil ?_
     refine h13 _ ?_; clear h13; try clear N13
     refine u_reg ?_
     try refine lg_mk ?_
     refine u_bn (hq := by (first | (omega) | exact sd_)) ?_
     refine u_mv (hq := by (first | (omega) | exact sd_)) ?_
     refine lg_nil ?_
     refine h9 _ ⟨i + 1, ?_, ?_, [some 0, some 1], ?_⟩
     ·dsimp only
      omega
     ·dsimp only
      omega
     ·dsimp only
      refine ⟨by rfl, ?_, ?_⟩
      ·refine fin_ ?_
       (repeat' apply And.intro) <;> (first | (first | rfl | trivial | omega | (rw [hsn]; done)) | exact cl_)
      ·refine fin_ ?_
       (repeat' apply And.intro) <;> (first | (first | rfl | trivial | omega | (rw [hsn]; done)) | exact cl_)
    ·refine vc_exit ?_
     simp only [k_rules, Nat.reduceEqDiff, reduceIte, eq_self]
     refine h7 _ ?_; clear h7; try clear N7
     refine vc_seq_k fun N15 h15 => ?_
     refine u_reg ?_
     try refine lg_mk ?_
     refine u_mv (hq := by (first | (omega) | exact sd_)) ?_
     refine u_bd (hq := by (first | (omega) | exact sd_)) ?_
     refine u_mv (hq := by (first | (omega) | exact sd_)) ?_
     refine u_st (hq := by (first | (omega) | exact sd_)) ?_
     refine lg_nil ?_
     refine h15 _ ?_; clear h15; try clear N15
     refine vc_ret ?_
     try simp only [k_rules]
     obtain rfl : i = l.length := by omega
     rw [List.take_length, if_pos hl4, if_pos hl4]
     refine fin_ ?_
     refine ⟨[some 0], by rfl, ?_, ?_⟩
     ·refine fin_ ?_
      exact cl_
     ·refine fin_ ?_
      exact cl_
 ·cases hg

def E_digOf3 : Env Tryd.prog := E_entry.add 28 (Spec.gen of3G) digOf3_meets (by kernel_rfl)

theorem build_meets : Meets Tryd.prog 19 (Spec.pure bldG) := by
 refine meets_fun (E_digOf3.at_ 45) Tryd.func19 rfl rfl rfl ?_
 intro args p r hg hp
 unfold bldG at hg
 split at hg
 ·rename_i xs
  simp only [Option.some.injEq, Prod.mk.injEq] at hg
  obtain ⟨rfl, rfl⟩ := hg
  obtain ⟨he, hv⟩ := hp
  generalize dO xs = S at *
  subst he
  have hlen := hv.len
  have hpa := pk0_le hv S.length S.length (Nat.le_refl _)
  rw [pk0_all] at hpa
  have hT : (E_digOf3).X = T := rfl
  have hx0 := And.intro @rect_eO (And.intro @dI_rows (And.intro @dU_rows (And.intro @dO_rows (And.intro @wrap8N (And.intro @dec_t (And.intro @dec_f @Tryd.results19))))))
  have hx := hx0
  refine ⟨by rfl, ?_⟩
  intro F W0 hnp hmk
  refine vc_seq_k fun N1 h1 => ?_
  refine u_reg ?_
  try refine lg_mk ?_
  refine u_bx (hq := by (first | (omega) | exact sd_)) ?_
  refine u_mv (hq := by (first | (omega) | exact sd_)) ?_
  refine u_mv (hq := by (first | (omega) | exact sd_)) ?_
  refine lg_nil ?_
  refine h1 _ ?_; clear h1; try clear N1
  refine vc_seq_k fun N2 h2 => ?_
  refine u_reg ?_
  try refine lg_mk ?_
  refine u_pt (hq := by (first | (omega) | exact sd_)) ?_
  refine u_ld (hq := by (first | (omega) | exact sd_)) ?_
  refine u_ln (hq := by (first | (omega) | exact sd_)) ?_
  refine u_cv (hq := by (first | (omega) | exact sd_)) ?_
  refine u_bs (hq := by (first | (omega) | exact sd_)) ?_
  refine u_mv (hq := by (first | (omega) | exact sd_)) ?_
  refine lg_nil ?_
  refine h2 _ ?_; clear h2; try clear N2
  refine vc_seq_k fun N3 h3 => ?_
  refine vc_seq_k fun N4 h4 => ?_
  refine u_reg ?_
  try refine lg_mk ?_
  refine u_pt (hq := by (first | (omega) | exact sd_)) ?_
  refine u_ld (hq := by (first | (omega) | exact sd_)) ?_
  refine u_ln (hq := by (first | (omega) | exact sd_)) ?_
  refine u_mv (hq := by (first | (omega) | exact sd_)) ?_
  refine lg_nil ?_
  refine h4 _ ?_; clear h4; try clear N4
  refine vc_block ?_
  refine vc_loop_mk (σ := Nat) (fun s => (fun i => i ≤ S.length) s)
   (fun s => (fun i => [(1, .ptr 0 0 0), (4, .sl 1 0 (pk0 S.length (S.take i)).length), (15, .d (.sl (rows eO S))), (16, .d (.int .i64 (S.length : Nat))), (17, .d (.int .i64 (i : Nat)))]) s)
   (fun s => (fun i => [some (.one 24 [.d (.sl (rows eO S))]), some (.vec 5 1 (rows eU (pk0 S.length (S.take i))))]) s) (fun s => (fun i => S.length - i) s) hnp 0 ?_ [some 0, some 1] ?_ ?_
  ·dsimp only
   omega
  ·dsimp only
   refine ⟨by rfl, ?_, ?_⟩
   ·refine fin_ ?_
    exact cl_
   ·refine fin_ ?_
    exact cl_
  ·rintro i hinv N5 h5
   dsimp only at hinv ⊢
   have i1 := hinv
   have htk : (pk0 S.length (S.take i)).take (pk0 S.length (S.take i)).length = (pk0 S.length (S.take i)) := List.take_length
   refine vc_seq_k fun N6 h6 => ?_
   refine u_reg ?_
   try refine lg_mk ?_
   refine u_bn (hq := by (first | (omega) | exact sd_)) ?_
   refine lg_nil ?_
   refine h6 _ ?_; clear h6; try clear N6
   refine vc_seq_k fun N7 h7 => ?_
   refine u_cond (fun hb8 => ?_) (fun hb8 => ?_)
   ·obtain ⟨x, hxe⟩ := getE (l := S) (i := i) (by omega)
    have hxo := hv.ok x (mem_at hxe)
    have hsn := pk0_snoc (n := S.length) hxe
    have hel := ent_le hxo
    have hpl := pk0_le hv S.length i (by omega)
    have hpn : (pk0 S.length (S.take (i + 1))).length = (pk0 S.length (S.take i)).length + (entB x.ob).length := by rw [hsn, List.length_append]
    obtain ⟨d, o⟩ := x
    obtain ⟨k, l, u⟩ := o
    dsimp only at hel hpn hsn hxo
    refine vc_skip ?_
    try simp only [k_rules]
    refine h7 _ ?_; clear h7; try clear N7
    refine vc_seq_k fun N9 h9 => ?_
    refine vc_block ?_
    refine vc_seq_k fun N10 h10 => ?_
    have hx := And.intro @hxe (And.intro @eO.eq_1 hx0)
    refine u_reg ?_
    try refine lg_mk ?_
    refine u_pt (hq := by (first | (omega) | exact sd_)) ?_
    refine u_ld (hq := by (first | (omega) | exact sd_)) ?_
    refine u_al (hq := by (first | (omega) | exact sd_)) ?_
    refine u_st (hq := by (first | (omega) | exact sd_)) ?_
    refine lg_nil ?_
    have hx := hx0
    refine h10 _ ?_; clear h10; try clear N10
    refine u_reg ?_
    try refine lg_mk ?_
    refine u_mv (hq := by (first | (omega) | exact sd_)) ?_
    refine u_pt (hq := by (first | (omega) | exact sd_)) ?_
    refine u_ld (hq := by (first | (omega) | exact sd_)) ?_
    have hc := call_rule (E := (E_digOf3.at_ 45)) (f := 32) (sp := Spec.pure entG) rfl
    have hs := @entG.eq_1
    refine u_hp (hq := by (first | (exact hxo) | exact sd_)) ?_
    refine u_ap (hq := by (first | (omega) | exact sd_)) ?_
    refine u_mv (hq := by (first | (omega) | exact sd_)) ?_
    refine lg_nil ?_
    refine h9 _ ?_; clear h9; try clear N9
    refine u_reg ?_
    try refine lg_mk ?_
    refine u_bn (hq := by (first | (omega) | exact sd_)) ?_
    refine u_mv (hq := by (first | (omega) | exact sd_)) ?_
    refine lg_nil ?_
    refine h5 _ ⟨i + 1, ?_, ?_, [some 0, some 3], ?_⟩
    ·dsimp only
     omega
    ·dsimp only
     omega
    ·dsimp only
     refine ⟨by rfl, ?_, ?_⟩
     ·refine fin_ ?_
      (repeat' apply And.intro) <;> (first | (first | rfl | trivial | omega | (rw [hsn, htk]; done) | (rw [hsn]; done)) | exact cl_)
     ·refine fin_ ?_
      (repeat' apply And.intro) <;> (first | (first | rfl | trivial | omega | (rw [hsn, htk]; done) | (rw [hsn]; done)) | exact cl_)
   ·obtain rfl : i = S.length := by omega
    rw [pk0_all] at *
    have hwl := wide_len (if (pk0 S.length S).length ≤ 4096 then dig (pk0 S.length S) else 0)
    have hdr := dig_rng (pk0 S.length S)
    refine vc_exit ?_
    simp only [k_rules, Nat.reduceEqDiff, reduceIte, eq_self]
    refine h3 _ ?_; clear h3; try clear N3
    refine vc_seq_k fun N11 h11 => ?_
    refine u_reg ?_
    try refine lg_mk ?_
    refine u_mv (hq := by (first | (omega) | exact sd_)) ?_
    have hc := call_rule (E := (E_digOf3.at_ 45)) (f := 28) (sp := Spec.gen of3G) rfl
    have hs := @of3G.eq_1
    refine u_hg (hq := by (first | (first | exact ⟨rfl, rfl, rfl, rfl, by omega⟩ | exact ⟨rfl, by omega⟩ | omega) | exact sd_)) ?_
    refine u_mv (hq := by (first | (omega) | exact sd_)) ?_
    refine u_ex (hq := by (first | (omega) | exact sd_)) ?_
    refine u_ex (hq := by (first | (omega) | exact sd_)) ?_
    refine u_al (hq := by (first | (omega) | exact sd_)) ?_
    refine u_mv (hq := by (first | (omega) | exact sd_)) ?_
    refine u_st (hq := by (first | (omega) | exact sd_)) ?_
    refine lg_nil ?_
    refine h11 _ ?_; clear h11; try clear N11
    refine vc_seq_k fun N12 h12 => ?_
    refine u_reg ?_
    try refine lg_mk ?_
    refine u_mv (hq := by (first | (omega) | exact sd_)) ?_
    refine u_mv (hq := by (first | (omega) | exact sd_)) ?_
    have hc := call_rule (E := (E_digOf3.at_ 45)) (f := 33) (sp := Spec.pure bigG) rfl
    have hs := @bigG.eq_1
    refine u_hp (hq := by (first | (split <;> omega) | exact sd_)) ?_
    refine u_ap (hq := by (first | (omega) | exact sd_)) ?_
    refine u_mv (hq := by (first | (omega) | exact sd_)) ?_
    refine lg_nil ?_
    refine h12 _ ?_; clear h12; try clear N12
    refine vc_seq_k fun N13 h13 => ?_
    rcases (show 4096 < (pk0 S.length S).length ∨ ((pk0 S.length S).length ≤ 4096 ∧ 4096 < (pk0 S.length S).length + 8) ∨ (pk0 S.length S).length + 8 ≤ 4096 by omega) with hc | ⟨hc, hc2⟩ | hc
    ·have hq : (if (pk0 S.length S).length ≤ 4096 then (0 : Int) else 2) = 2 := if_neg (by omega)
     have hok : okP S = false := decide_eq_false (by omega)
     have hqq : True := trivial
     have hx := And.intro @hq (And.intro @hqq hx0)
     refine u_reg ?_
     try refine lg_mk ?_
     refine u_mv (hq := by (first | (omega) | exact sd_)) ?_
     refine u_ld (hq := by (first | (omega) | exact sd_)) ?_
     refine u_bd (hq := by (first | (omega) | exact sd_)) ?_
     refine u_bn (hq := by (first | (omega) | exact sd_)) ?_
     refine u_mv (hq := by (first | (omega) | exact sd_)) ?_
     refine s_mv (hq := by (intro hg; (try simp only [b_rules, bif_and, bif_or] at hg); (first | (omega) | exact sd_))) ?_
     refine s_ln (hq := by (intro hg; (try simp only [b_rules, bif_and, bif_or] at hg); (first | (omega) | exact sd_))) ?_
     refine s_bn (hq := by (intro hg; (try simp only [b_rules, bif_and, bif_or] at hg); (first | (omega) | exact sd_))) ?_
     refine u_pk (hq := by (first | (omega) | exact sd_)) ?_
     refine u_mv (hq := by (first | (omega) | exact sd_)) ?_
     refine u_mv (hq := by (first | (omega) | exact sd_)) ?_
     refine lg_nil ?_
     have hx := hx0
     refine h13 _ ?_; clear h13; try clear N13
     refine vc_ret ?_
     try simp only [k_rules]
     rw [hok]
     have hta : List.take ((pk0 S.length S).length + (wide (if (pk0 S.length S).length ≤ 4096 then dig (pk0 S.length S) else 0)).length) (List.take (pk0 S.length S).length (pk0 S.length S) ++ wide (if (pk0 S.length S).length ≤ 4096 then dig (pk0 S.length S) else 0)) = pkB S := by rw [List.take_length, List.take_of_length_le (by rw [List.length_append]; exact Nat.le_refl _)]; rfl
     refine fin2_ ?_
     (repeat' apply And.intro) <;> (first | (first | rfl | trivial | (rw [hta]; done) | (left; rw [hta]; done) | (rw [List.take_length, List.length_append]; omega) | (left; rw [hwl]; simp <;> omega) | (rw [hwl]; simp <;> omega) | omega) | exact cl_)
    ·have hq : (if (pk0 S.length S).length ≤ 4096 then (0 : Int) else 2) = 0 := if_pos (by omega)
     have hok : okP S = false := decide_eq_false (by omega)
     have hqq : decide (((pk0 S.length S).length : Int) + 8 ≤ 4096) = false := decide_eq_false (by omega)
     have hx := And.intro @hq (And.intro @hqq hx0)
     refine u_reg ?_
     try refine lg_mk ?_
     refine u_mv (hq := by (first | (omega) | exact sd_)) ?_
     refine u_ld (hq := by (first | (omega) | exact sd_)) ?_
     refine u_bd (hq := by (first | (omega) | exact sd_)) ?_
     refine u_bn (hq := by (first | (omega) | exact sd_)) ?_
     refine u_mv (hq := by (first | (omega) | exact sd_)) ?_
     refine s_mv (hq := by (intro hg; (try simp only [b_rules, bif_and, bif_or] at hg); (first | (omega) | exact sd_))) ?_
     refine s_ln (hq := by (intro hg; (try simp only [b_rules, bif_and, bif_or] at hg); (first | (omega) | exact sd_))) ?_
     refine s_bn (hq := by (intro hg; (try simp only [b_rules, bif_and, bif_or] at hg); (first | (omega) | exact sd_))) ?_
     refine u_pk (hq := by (first | (omega) | exact sd_)) ?_
     refine u_mv (hq := by (first | (omega) | exact sd_)) ?_
     refine u_mv (hq := by (first | (omega) | exact sd_)) ?_
     refine lg_nil ?_
     have hx := hx0
     refine h13 _ ?_; clear h13; try clear N13
     refine vc_ret ?_
     try simp only [k_rules]
     rw [hok]
     have hta : List.take ((pk0 S.length S).length + (wide (if (pk0 S.length S).length ≤ 4096 then dig (pk0 S.length S) else 0)).length) (List.take (pk0 S.length S).length (pk0 S.length S) ++ wide (if (pk0 S.length S).length ≤ 4096 then dig (pk0 S.length S) else 0)) = pkB S := by rw [List.take_length, List.take_of_length_le (by rw [List.length_append]; exact Nat.le_refl _)]; rfl
     refine fin2_ ?_
     (repeat' apply And.intro) <;> (first | (first | rfl | trivial | (rw [hta]; done) | (left; rw [hta]; done) | (rw [List.take_length, List.length_append]; omega) | (left; rw [hwl]; simp <;> omega) | (rw [hwl]; simp <;> omega) | omega) | exact cl_)
    ·have hq : (if (pk0 S.length S).length ≤ 4096 then (0 : Int) else 2) = 0 := if_pos (by omega)
     have hok : okP S = true := decide_eq_true (by omega)
     have hqq : decide (((pk0 S.length S).length : Int) + 8 ≤ 4096) = true := decide_eq_true (by omega)
     have hx := And.intro @hq (And.intro @hqq hx0)
     refine u_reg ?_
     try refine lg_mk ?_
     refine u_mv (hq := by (first | (omega) | exact sd_)) ?_
     refine u_ld (hq := by (first | (omega) | exact sd_)) ?_
     refine u_bd (hq := by (first | (omega) | exact sd_)) ?_
     refine u_bn (hq := by (first | (omega) | exact sd_)) ?_
     refine u_mv (hq := by (first | (omega) | exact sd_)) ?_
     refine s_mv (hq := by (intro hg; (try simp only [b_rules, bif_and, bif_or] at hg); (first | (omega) | exact sd_))) ?_
     refine s_ln (hq := by (intro hg; (try simp only [b_rules, bif_and, bif_or] at hg); (first | (omega) | exact sd_))) ?_
     refine s_bn (hq := by (intro hg; (try simp only [b_rules, bif_and, bif_or] at hg); (first | (omega) | exact sd_))) ?_
     refine u_pk (hq := by (first | (omega) | exact sd_)) ?_
     refine u_mv (hq := by (first | (omega) | exact sd_)) ?_
     refine u_mv (hq := by (first | (omega) | exact sd_)) ?_
     refine lg_nil ?_
     have hx := hx0
     refine h13 _ ?_; clear h13; try clear N13
     refine vc_ret ?_
     try simp only [k_rules]
     rw [hok]
     have hta : List.take ((pk0 S.length S).length + (wide (if (pk0 S.length S).length ≤ 4096 then dig (pk0 S.length S) else 0)).length) (List.take (pk0 S.length S).length (pk0 S.length S) ++ wide (if (pk0 S.length S).length ≤ 4096 then dig (pk0 S.length S) else 0)) = pkB S := by rw [List.take_length, List.take_of_length_le (by rw [List.length_append]; exact Nat.le_refl _)]; rfl
     refine fin2_ ?_
     (repeat' apply And.intro) <;> (first | (first | rfl | trivial | (rw [hta]; done) | (left; rw [hta]; done) | (rw [List.take_length, List.length_append]; omega) | (left; rw [hwl]; simp <;> omega) | (rw [hwl]; simp <;> omega) | omega) | exact cl_)
 ·cases hg

def E_build : Env Tryd.prog := E_digOf3.add 19 (Spec.pure bldG) build_meets (by kernel_rfl)
end Go.Proofs.YtcjipciiljjfhaaDoor
