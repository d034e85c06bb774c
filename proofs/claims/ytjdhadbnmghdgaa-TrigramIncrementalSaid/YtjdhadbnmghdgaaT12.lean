/- Walks, printed by wip/gen/walk.py. -/
import Derived.Test.YtjdhadbnmghdgaaT11
import Derived.Test.YtjdhadbnmghdgaaV5
set_option linter.all false
set_option maxRecDepth 100000
set_option maxHeartbeats 4000000
namespace Go.Proofs.Ytjdhadbnmghdgaa
open Go Go.Vc Go.RowKit
def numTG : List AV → Option (Prop × AV)
  | [.d (.int .i64 n)] => some (0 ≤ n ∧ n ≤ 1000000000, .d (.sl (rows eI (iota n.toNat))))
  | _ => none
theorem iota_rows (n : Nat) : rows eI (iota n) ++ [[.int .i64 (n : Int)]] = rows eI (iota (n + 1)) := by rw [iota_succ]; simp [rows, eI]

theorem incR_meets : Meets Try.prog 40 (Spec.pure incTG) := by
 refine meets_fun (E_postR.at_ 20) Try.func40 rfl rfl rfl ?_
 intro args p r hg hp
 unfold incTG at hg
 split at hg
 ·rename_i xs
  simp only [Option.some.injEq, Prod.mk.injEq] at hg
  obtain ⟨rfl, rfl⟩ := hg
  obtain ⟨he, hl⟩ := hp
  generalize dI xs = l at *
  subst he
  have hT : (E_postR).X = T := rfl
  have hx0 := And.intro @dec_t (And.intro @dec_f @Try.results40)
  have hx := hx0
  refine ⟨by rfl, ?_⟩
  intro F W0 hnp hmk
  refine vc_seq_k fun N1 h1 => ?_
  refine u_reg ?_
  try refine lg_mk ?_
  refine u_mv ?_
  refine lg_nil ?_
  refine h1 _ ?_; clear h1; try clear N1
  refine vc_seq_k fun N2 h2 => ?_
  refine vc_seq_k fun N3 h3 => ?_
  refine u_reg ?_
  try refine lg_mk ?_
  refine u_mv ?_
  refine lg_nil ?_
  refine h3 _ ?_; clear h3; try clear N3
  refine vc_block ?_
  refine vc_loop_mk (σ := Nat) (fun s => (fun i => 1 ≤ i ∧ ∀ j, j < i → 0 < j → l.getD (j - 1) 0 < l.getD j 0) s)
   (fun s => (fun i => [(0, .d (.sl (rows eI l))), (3, .d (.int .i64 (i : Nat)))]) s)
   (fun s => (fun i => []) s) (fun s => (fun i => l.length - i) s) hnp 1 ?_ [] ?_ ?_
  ·dsimp only
   exact ⟨by omega, fun j hj h0 => by omega⟩
  ·dsimp only
   refine ⟨by rfl, ?_, ?_⟩
   ·refine fin_ ?_
    exact cl_
   ·refine fin_ ?_
    exact cl_
  ·rintro i hinv N4 h4
   dsimp only at hinv ⊢
   obtain ⟨i1, i2⟩ := hinv
   refine vc_seq_k fun N5 h5 => ?_
   refine vc_seq_k fun N6 h6 => ?_
   refine u_reg ?_
   try refine lg_mk ?_
   refine u_mv ?_
   refine u_mv ?_
   refine u_ln ?_
   refine u_bn ?_
   refine lg_nil ?_
   refine h6 _ ?_; clear h6; try clear N6
   refine u_cond (fun hb7 => ?_) (fun hb7 => ?_)
   ·obtain ⟨x, hxe⟩ := getE (l := l) (i := i) (by omega)
    obtain ⟨y, hye⟩ := getE (l := l) (i := i - 1) (by omega)
    have hpm : ((i : Int) - 1).toNat = i - 1 := by omega
    have hxd : l.getD i 0 = x := getD_at hxe
    have hyd : l.getD (i - 1) 0 = y := getD_at hye
    refine vc_skip ?_
    try simp only [k_rules]
    refine h5 _ ?_; clear h5; try clear N5
    refine vc_seq_k fun N8 h8 => ?_
    refine vc_block ?_
    refine vc_seq_k fun N9 h9 => ?_
    have hx := And.intro @hxe (And.intro @hye (And.intro @hpm (And.intro @eI.eq_1 hx0)))
    refine u_reg ?_
    try refine lg_mk ?_
    refine u_mv ?_
    refine u_mv ?_
    refine u_pt ?_
    refine u_ld ?_
    refine u_mv ?_
    refine u_mv ?_
    refine u_bn ?_
    refine u_pt ?_
    refine u_ld ?_
    refine u_bn ?_
    refine lg_nil ?_
    have hx := hx0
    refine h9 _ ?_; clear h9; try clear N9
    refine u_cond (fun hb10 => ?_) (fun hb10 => ?_)
    ·refine vc_seq_k fun N11 h11 => ?_
     refine u_reg ?_
     try refine lg_mk ?_
     refine u_mv ?_
     refine lg_nil ?_
     refine h11 _ ?_; clear h11; try clear N11
     refine vc_ret ?_
     try simp only [k_rules]
     have hr : incB l = false := incB_no (i := i) (by omega) (by omega) (by rw [hxd, hyd]; omega)
     rw [hr]
     refine fin2_ ?_
     exact cl_
    ·refine vc_skip ?_
     try simp only [k_rules]
     refine h8 _ ?_; clear h8; try clear N8
     refine u_reg ?_
     try refine lg_mk ?_
     refine u_mv ?_
     refine u_bn ?_
     refine u_mv ?_
     refine lg_nil ?_
     refine h4 _ ⟨i + 1, ?_, ?_, [], ?_⟩
     ·dsimp only
      exact ⟨by omega, lt_succ2 i2 (fun h0 => by rw [hxd, hyd]; omega)⟩
     ·dsimp only
      omega
     ·dsimp only
      refine ⟨by rfl, ?_, ?_⟩
      ·refine fin_ ?_
       exact cl_
      ·refine fin_ ?_
       exact cl_
   ·refine vc_exit ?_
    simp only [k_rules, Nat.reduceEqDiff, reduceIte, eq_self]
    refine h2 _ ?_; clear h2; try clear N2
    refine vc_seq_k fun N12 h12 => ?_
    refine u_reg ?_
    try refine lg_mk ?_
    refine u_mv ?_
    refine lg_nil ?_
    refine h12 _ ?_; clear h12; try clear N12
    refine vc_ret ?_
    try simp only [k_rules]
    have hr : incB l = true := incB_yes (fun j hj h0 => i2 j (by omega) h0)
    rw [hr]
    refine fin2_ ?_
    exact cl_
 ·cases hg

def E_incR : Env Try.prog := E_postR.add 40 (Spec.pure incTG) incR_meets (by kernel_rfl)

theorem numT_meets : Meets Try.prog 14 (Spec.pure numTG) := by
 refine meets_fun (E_incR.at_ 15) Try.func14 rfl rfl rfl ?_
 intro args p r hg hp
 unfold numTG at hg
 split at hg
 ·rename_i n
  simp only [Option.some.injEq, Prod.mk.injEq] at hg
  obtain ⟨rfl, rfl⟩ := hg
  obtain ⟨h0', hn⟩ := hp
  obtain ⟨n, rfl⟩ := Int.eq_ofNat_of_zero_le h0'
  simp only [Int.toNat_natCast]
  have hT : (E_incR).X = T := rfl
  have hx0 := @Try.results14
  have hx := hx0
  refine ⟨by rfl, ?_⟩
  intro F W0 hnp hmk
  refine vc_seq_k fun N1 h1 => ?_
  refine u_reg ?_
  try refine lg_mk ?_
  refine u_mv ?_
  refine lg_nil ?_
  refine h1 _ ?_; clear h1; try clear N1
  refine vc_seq_k fun N2 h2 => ?_
  refine u_reg ?_
  try refine lg_mk ?_
  refine u_mv ?_
  refine lg_nil ?_
  refine h2 _ ?_; clear h2; try clear N2
  refine vc_seq_k fun N3 h3 => ?_
  refine vc_seq_k fun N4 h4 => ?_
  refine u_reg ?_
  try refine lg_mk ?_
  refine u_mv ?_
  refine lg_nil ?_
  refine h4 _ ?_; clear h4; try clear N4
  refine vc_block ?_
  refine vc_loop_mk (σ := Nat) (fun s => (fun i => i ≤ n) s)
   (fun s => (fun i => [(0, .d (.int .i64 (n : Nat))), (3, .sl 0 0 i), (4, .d (.int .i64 (i : Nat)))]) s)
   (fun s => (fun i => [some (.vec 3 1 (rows eI (iota i)))]) s) (fun s => (fun i => n - i) s) hnp 0 ?_ [none] ?_ ?_
  ·dsimp only
   omega
  ·dsimp only
   refine ⟨by rfl, ?_, ?_⟩
   ·refine fin_ ?_
    exact cl_
   ·refine fin_ ?_
    exact cl_
  ·rintro i hinv N5 h5
   dsimp only at hinv ⊢
   have i1 := hinv
   refine vc_seq_k fun N6 h6 => ?_
   refine vc_seq_k fun N7 h7 => ?_
   refine u_reg ?_
   try refine lg_mk ?_
   refine u_mv ?_
   refine u_mv ?_
   refine u_bn ?_
   refine lg_nil ?_
   refine h7 _ ?_; clear h7; try clear N7
   refine u_cond (fun hb8 => ?_) (fun hb8 => ?_)
   ·refine vc_skip ?_
    try simp only [k_rules]
    refine h6 _ ?_; clear h6; try clear N6
    refine vc_seq_k fun N9 h9 => ?_
    refine vc_block ?_
    refine u_reg ?_
    try refine lg_mk ?_
    refine u_mv ?_
    refine u_mv ?_
    refine u_bs ?_
    refine u_ap (hq := by (first | (exact ⟨Nat.le_of_eq (iota_len i).symm, by omega⟩) | exact sd_)) ?_
    refine u_mv ?_
    refine lg_nil ?_
    refine h9 _ ?_; clear h9; try clear N9
    refine u_reg ?_
    try refine lg_mk ?_
    refine u_mv ?_
    refine u_bn ?_
    refine u_mv ?_
    refine lg_nil ?_
    refine h5 _ ⟨i + 1, ?_, ?_, [some 2], ?_⟩
    ·dsimp only
     omega
    ·dsimp only
     omega
    ·dsimp only
     refine ⟨by rfl, ?_, ?_⟩
     ·refine fin_ ?_
      (repeat' apply And.intro) <;> (first | (first | rfl | (rw [List.take_of_length_le (Nat.le_of_eq (iota_len i))]; exact iota_rows i)) | exact cl_)
     ·refine fin_ ?_
      (repeat' apply And.intro) <;> (first | (first | rfl | (rw [List.take_of_length_le (Nat.le_of_eq (iota_len i))]; exact iota_rows i)) | exact cl_)
   ·refine vc_exit ?_
    simp only [k_rules, Nat.reduceEqDiff, reduceIte, eq_self]
    refine h3 _ ?_; clear h3; try clear N3
    refine vc_seq_k fun N10 h10 => ?_
    refine u_reg ?_
    try refine lg_mk ?_
    refine u_mv ?_
    refine u_mv ?_
    refine lg_nil ?_
    refine h10 _ ?_; clear h10; try clear N10
    refine vc_ret ?_
    try simp only [k_rules]
    have hie : i = n := by have := hb8; omega
    subst hie
    refine fin2_ ?_
    (repeat' apply And.intro) <;> (first | (first | rfl | (rw [List.take_of_length_le (Nat.le_of_eq (iota_len _))]; done) | (simp [iota_len]; done)) | exact cl_)
 ·cases hg

def E_numT : Env Try.prog := E_incR.add 14 (Spec.pure numTG) numT_meets (by kernel_rfl)

def txfG : List AV → Option (Prop × AV)
  | [.d (.sl xs)] => some (xs = rows eT (dT xs) ∧ (dT xs).length ≤ 9223372036854775807 ∧ ∀ s ∈ dT xs, s.length ≤ 9223372036854775807, .agg [.d (.int .i64 (textsF (dT xs)).1), .d (.int .i64 (textsF (dT xs)).2)])
  | _ => none

theorem txfR_meets : Meets Try.prog 11 (Spec.pure txfG) := by
 refine meets_fun (E_numT.at_ 23) Try.func11 rfl rfl rfl ?_
 intro args p r hg hp
 unfold txfG at hg
 split at hg
 ·rename_i xs
  simp only [Option.some.injEq, Prod.mk.injEq] at hg
  obtain ⟨rfl, rfl⟩ := hg
  obtain ⟨he, hl, hsl⟩ := hp
  generalize dT xs = l at *
  subst he
  have hT : (E_numT).X = T := rfl
  have hx0 := And.intro @rect_eT (And.intro @eT.eq_1 @Try.results11)
  have hx := hx0
  refine ⟨by rfl, ?_⟩
  intro F W0 hnp hmk
  refine vc_seq_k fun N1 h1 => ?_
  refine u_reg ?_
  try refine lg_mk ?_
  refine u_al ?_
  refine lg_nil ?_
  refine h1 _ ?_; clear h1; try clear N1
  refine vc_seq_k fun N2 h2 => ?_
  refine vc_seq_k fun N3 h3 => ?_
  refine u_reg ?_
  try refine lg_mk ?_
  refine u_mv ?_
  refine u_ln ?_
  refine u_bn ?_
  refine lg_nil ?_
  refine h3 _ ?_; clear h3; try clear N3
  refine u_cond (fun hb4 => ?_) (fun hb4 => ?_)
  ·refine vc_seq_k fun N5 h5 => ?_
   refine u_reg ?_
   try refine lg_mk ?_
   have hc := call_rule (E := (E_numT.at_ 23)) (f := 18) (sp := Spec.pure faultG) rfl
   have hs := @faultG.eq_1
   refine u_cp ?_
   refine u_st ?_
   refine lg_nil ?_
   refine h5 _ ?_; clear h5; try clear N5
   refine vc_ret ?_
   try simp only [k_rules]
   have hle20 : 20 < l.length := by have := hb4; omega
   have hr : textsF l = (2, -1) := by unfold textsF; rw [if_pos hle20]
   rw [hr]
   refine fin2_ ?_
   exact cl_
  ·refine vc_skip ?_
   try simp only [k_rules]
   refine h2 _ ?_; clear h2; try clear N2
   refine vc_seq_k fun N6 h6 => ?_
   refine vc_seq_k fun N7 h7 => ?_
   refine u_reg ?_
   try refine lg_mk ?_
   refine u_mv ?_
   refine lg_nil ?_
   refine h7 _ ?_; clear h7; try clear N7
   refine vc_block ?_
   refine vc_loop_mk (σ := Nat) (fun s => (fun i => i ≤ l.length ∧ ∀ y ∈ l.take i, badT y = false) s)
    (fun s => (fun i => [(0, .d (.sl (rows eT l))), (2, .ptr 0 0 0), (3, .d (.int .i64 (i : Nat)))]) s)
    (fun s => (fun i => [some (.one 29 [.d (.int .i64 0), .d (.int .i64 0)])]) s) (fun s => (fun i => l.length - i) s) hnp 0 ?_ [some 0] ?_ ?_
   ·dsimp only
    simp
   ·dsimp only
    refine ⟨by rfl, ?_, ?_⟩
    ·refine fin_ ?_
     exact cl_
    ·refine fin_ ?_
     exact cl_
   ·rintro i hinv N8 h8
    dsimp only at hinv ⊢
    obtain ⟨i1, i2⟩ := hinv
    refine vc_seq_k fun N9 h9 => ?_
    refine vc_seq_k fun N10 h10 => ?_
    refine u_reg ?_
    try refine lg_mk ?_
    refine u_mv ?_
    refine u_mv ?_
    refine u_ln ?_
    refine u_bn ?_
    refine lg_nil ?_
    refine h10 _ ?_; clear h10; try clear N10
    refine u_cond (fun hb11 => ?_) (fun hb11 => ?_)
    ·obtain ⟨x, hxe⟩ := getE (l := l) (i := i) (by omega)
     have hxl := hsl x (mem_at hxe)
     refine vc_skip ?_
     try simp only [k_rules]
     refine h9 _ ?_; clear h9; try clear N9
     refine vc_seq_k fun N12 h12 => ?_
     refine vc_block ?_
     refine vc_seq_k fun N13 h13 => ?_
     have hx := And.intro @hxe hx0
     refine u_reg ?_
     try refine lg_mk ?_
     refine u_mv ?_
     refine u_mv ?_
     refine u_pt ?_
     refine u_ld ?_
     refine u_ln ?_
     refine u_bn ?_
     refine lg_nil ?_
     have hx := hx0
     refine h13 _ ?_; clear h13; try clear N13
     refine u_cond (fun hb14 => ?_) (fun hb14 => ?_)
     ·have hbad : badT x = true := decide_eq_true (by have := hb14; omega)
      refine vc_seq_k fun N15 h15 => ?_
      refine u_reg ?_
      try refine lg_mk ?_
      refine u_mv ?_
      have hc := call_rule (E := (E_numT.at_ 23)) (f := 18) (sp := Spec.pure faultG) rfl
      have hs := @faultG.eq_1
      refine u_cp ?_
      refine u_st ?_
      refine lg_nil ?_
      refine h15 _ ?_; clear h15; try clear N15
      refine vc_ret ?_
      try simp only [k_rules]
      have hle20 : ¬ 20 < l.length := by have := hb4; omega
      obtain ⟨ha, hf⟩ := find_at hxe hbad i2
      have hr : textsF l = (10, (i : Int)) := by unfold textsF; rw [if_neg hle20, if_pos ha, hf]
      rw [hr]
      refine fin2_ ?_
      exact cl_
     ·have hbad : badT x = false := decide_eq_false (by have := hb14; omega)
      refine vc_skip ?_
      try simp only [k_rules]
      refine h12 _ ?_; clear h12; try clear N12
      refine u_reg ?_
      try refine lg_mk ?_
      refine u_mv ?_
      refine u_bn ?_
      refine u_mv ?_
      refine lg_nil ?_
      refine h8 _ ⟨i + 1, ?_, ?_, [some 0], ?_⟩
      ·dsimp only
       exact ⟨by omega, none_snoc i2 hxe hbad⟩
      ·dsimp only
       omega
      ·dsimp only
       refine ⟨by rfl, ?_, ?_⟩
       ·refine fin_ ?_
        exact cl_
       ·refine fin_ ?_
        exact cl_
    ·refine vc_exit ?_
     simp only [k_rules, Nat.reduceEqDiff, reduceIte, eq_self]
     refine h6 _ ?_; clear h6; try clear N6
     refine vc_seq_k fun N16 h16 => ?_
     refine u_reg ?_
     try refine lg_mk ?_
     refine u_bd ?_
     refine u_st ?_
     refine lg_nil ?_
     refine h16 _ ?_; clear h16; try clear N16
     refine vc_ret ?_
     try simp only [k_rules]
     have hle20 : ¬ 20 < l.length := by have := hb4; omega
     have hall : ∀ y ∈ l, badT y = false := by rw [List.take_of_length_le (by have := hb11; omega)] at i2; exact i2
     have hr : textsF l = (0, 0) := by unfold textsF; rw [if_neg hle20, any_none hall]; rfl
     rw [hr]
     refine fin2_ ?_
     exact cl_
 ·cases hg

def E_txfR : Env Try.prog := E_numT.add 11 (Spec.pure txfG) txfR_meets (by kernel_rfl)
end Go.Proofs.Ytjdhadbnmghdgaa
