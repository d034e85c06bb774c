/- Walks, printed by wip/gen/walk.py. -/
import Derived.Test.YtcjipciiljjfhaaDoorT9
import Derived.Test.YtcjipciiljjfhaaDoorV5
set_option linter.all false
set_option maxRecDepth 100000
set_option maxHeartbeats 4000000
namespace Go.Proofs.YtcjipciiljjfhaaDoor
open Go Go.Vc Go.RowKit
theorem cloneU_meets : Meets Tryd.prog 41 (Spec.pure (cloneG 1 1)) := by
 refine meets_fun (E_find.at_ 8) Tryd.func41 rfl rfl rfl ?_
 intro args p r hg hp
 unfold cloneG at hg
 split at hg
 ·rename_i xs
  simp only [Option.some.injEq, Prod.mk.injEq] at hg
  obtain ⟨rfl, rfl⟩ := hg
  obtain ⟨hr, hb⟩ := hp
  have hT : (E_find).X = T := rfl
  have hx0 := @Tryd.results41
  have hx := hx0
  refine ⟨by rfl, ?_⟩
  intro F W0 hnp hmk
  refine vc_seq_k fun N1 h1 => ?_
  refine u_reg ?_
  try refine lg_mk ?_
  refine u_mv ?_
  refine lg_nil ?_
  refine h1 _ ?_; clear h1; try clear N1
  refine vc_seq_k fun N2 h2 => ?_
  refine vc_seq_k fun N3 h3 => ?_
  refine u_reg ?_
  try refine lg_mk ?_
  refine u_mv ?_
  refine lg_sem (by rfl) (sem_eqnil (by first | (simp only [wB, eq_self, Nat.reduceEqDiff, reduceIte]; done) | (simp only [wB, eq_self, Nat.reduceEqDiff, reduceIte]; rfl)) (by first | trivial | simp only [wB, eq_self, Nat.reduceEqDiff, reduceIte]) (by first | (simp only [wB, eq_self, Nat.reduceEqDiff, reduceIte, env_rules, tys, hT, tiAgg]; done) | (simp only [wB, eq_self, Nat.reduceEqDiff, reduceIte, env_rules, tys, hT, tiAgg]; rfl)) (by first | (simp only [slA, wB, eq_self, Nat.reduceEqDiff, reduceIte]; done) | (simp only [slA, wB, eq_self, Nat.reduceEqDiff, reduceIte]; rfl)) fun z_r1_1 hz_r1_1 hz_r1_1' => ?_)
  refine lg_nil ?_
  refine h3 _ ?_; clear h3; try clear N3
  refine u_cond (fun hb4 => ?_) (fun hb4 => ?_)
  ·have hz := hz_r1_1 hb4
   unfold emptyA at hz
   subst hz
   refine vc_seq_k fun N5 h5 => ?_
   refine u_reg ?_
   try refine lg_mk ?_
   refine u_mv ?_
   refine lg_nil ?_
   refine h5 _ ?_; clear h5; try clear N5
   refine vc_ret ?_
   try simp only [k_rules]
   refine fin2_ ?_
   exact cl_
  ·refine vc_skip ?_
   try simp only [k_rules]
   refine h2 _ ?_; clear h2; try clear N2
   refine vc_seq_k fun N6 h6 => ?_
   refine u_reg ?_
   try refine lg_mk ?_
   refine u_bs ?_
   refine u_mv ?_
   refine u_ap ?_
   refine u_mv ?_
   refine lg_nil ?_
   refine h6 _ ?_; clear h6; try clear N6
   refine vc_ret ?_
   try simp only [k_rules]
   refine fin2_ ?_
   exact cl_
 ·cases hg

def E_cloneU : Env Tryd.prog := E_find.add 41 (Spec.pure (cloneG 1 1)) cloneU_meets (by kernel_rfl)

theorem cloneI_meets : Meets Tryd.prog 23 (Spec.pure (cloneG 1 8)) := by
 refine meets_fun (E_cloneU.at_ 8) Tryd.func23 rfl rfl rfl ?_
 intro args p r hg hp
 unfold cloneG at hg
 split at hg
 ·rename_i xs
  simp only [Option.some.injEq, Prod.mk.injEq] at hg
  obtain ⟨rfl, rfl⟩ := hg
  obtain ⟨hr, hb⟩ := hp
  have hT : (E_cloneU).X = T := rfl
  have hx0 := @Tryd.results23
  have hx := hx0
  refine ⟨by rfl, ?_⟩
  intro F W0 hnp hmk
  refine vc_seq_k fun N1 h1 => ?_
  refine u_reg ?_
  try refine lg_mk ?_
  refine u_mv ?_
  refine lg_nil ?_
  refine h1 _ ?_; clear h1; try clear N1
  refine vc_seq_k fun N2 h2 => ?_
  refine vc_seq_k fun N3 h3 => ?_
  refine u_reg ?_
  try refine lg_mk ?_
  refine u_mv ?_
  refine lg_sem (by rfl) (sem_eqnil (by first | (simp only [wB, eq_self, Nat.reduceEqDiff, reduceIte]; done) | (simp only [wB, eq_self, Nat.reduceEqDiff, reduceIte]; rfl)) (by first | trivial | simp only [wB, eq_self, Nat.reduceEqDiff, reduceIte]) (by first | (simp only [wB, eq_self, Nat.reduceEqDiff, reduceIte, env_rules, tys, hT, tiAgg]; done) | (simp only [wB, eq_self, Nat.reduceEqDiff, reduceIte, env_rules, tys, hT, tiAgg]; rfl)) (by first | (simp only [slA, wB, eq_self, Nat.reduceEqDiff, reduceIte]; done) | (simp only [slA, wB, eq_self, Nat.reduceEqDiff, reduceIte]; rfl)) fun z_r1_1 hz_r1_1 hz_r1_1' => ?_)
  refine lg_nil ?_
  refine h3 _ ?_; clear h3; try clear N3
  refine u_cond (fun hb4 => ?_) (fun hb4 => ?_)
  ·have hz := hz_r1_1 hb4
   unfold emptyA at hz
   subst hz
   refine vc_seq_k fun N5 h5 => ?_
   refine u_reg ?_
   try refine lg_mk ?_
   refine u_mv ?_
   refine lg_nil ?_
   refine h5 _ ?_; clear h5; try clear N5
   refine vc_ret ?_
   try simp only [k_rules]
   refine fin2_ ?_
   exact cl_
  ·refine vc_skip ?_
   try simp only [k_rules]
   refine h2 _ ?_; clear h2; try clear N2
   refine vc_seq_k fun N6 h6 => ?_
   refine u_reg ?_
   try refine lg_mk ?_
   refine u_bs ?_
   refine u_mv ?_
   refine u_ap ?_
   refine u_mv ?_
   refine lg_nil ?_
   refine h6 _ ?_; clear h6; try clear N6
   refine vc_ret ?_
   try simp only [k_rules]
   refine fin2_ ?_
   exact cl_
 ·cases hg

def E_cloneI : Env Tryd.prog := E_cloneU.add 23 (Spec.pure (cloneG 1 8)) cloneI_meets (by kernel_rfl)

theorem copyO_meets : Meets Tryd.prog 25 (Spec.pure cobG) := by
 refine meets_fun (E_cloneI.at_ 12) Tryd.func25 rfl rfl rfl ?_
 intro args p r hg hp
 unfold cobG at hg
 split at hg
 ·rename_i k ls ds
  simp only [Option.some.injEq, Prod.mk.injEq] at hg
  obtain ⟨rfl, rfl⟩ := hg
  obtain ⟨he, he2, hok⟩ := hp
  generalize dI ls = l at *
  generalize dU ds = u at *
  subst he he2
  have hol : l.length ≤ 30 := hok.ln
  have hou : u.length ≤ 1000 := hok.da
  have hob := objB_len ⟨k, l, u⟩
  dsimp only at hob
  have hT : (E_cloneI).X = T := rfl
  have hx0 := @Tryd.results25
  have hx := hx0
  refine ⟨by rfl, ?_⟩
  intro F W0 hnp hmk
  refine vc_seq_k fun N1 h1 => ?_
  refine vc_regG [41, 23] hmix (by kernel_rfl) ?_
  try refine lg_mk ?_
  refine u_bx ?_
  refine u_al ?_
  refine lg_nil ?_
  refine h1 _ ?_; clear h1; try clear N1
  refine vc_seq_k fun N2 h2 => ?_
  refine vc_regO [41, 23] [0, 1, 2, 3, 5, 6, 4, 7, 8, 9] hmix (by kernel_rfl) ?_
  simp only [pick_rules, list_rules]
  try refine lg_mk ?_
  refine u_pt ?_
  refine u_ld ?_
  refine u_pt ?_
  refine u_ld ?_
  refine u_pt ?_
  refine u_ld ?_
  have hc := call_rule (E := (E_cloneI.at_ 12)) (f := 23) (sp := Spec.pure (cloneG 1 8)) rfl
  have hs := @cloneG.eq_1
  refine u_hp (hq := by (first | (exact ⟨rect_eI l, by rw [rows_len]; omega⟩) | exact sd_)) ?_
  have hc := call_rule (E := (E_cloneI.at_ 12)) (f := 41) (sp := Spec.pure (cloneG 1 1)) rfl
  have hs := @cloneG.eq_1
  refine u_hp (hq := by (first | (exact ⟨rect_eU u, by rw [rows_len]; omega⟩) | exact sd_)) ?_
  refine u_bd ?_
  refine u_st ?_
  refine lg_nil ?_
  refine h2 _ ?_; clear h2; try clear N2
  refine vc_ret ?_
  try simp only [k_rules]
  refine fin2_ ?_
  exact cl_
 ·cases hg

def E_copyO : Env Tryd.prog := E_cloneI.add 25 (Spec.pure cobG) copyO_meets (by kernel_rfl)

theorem equalI_meets : Meets Tryd.prog 43 (Spec.pure equalG) := by
 refine meets_fun (E_copyO.at_ 26) Tryd.func43 rfl rfl rfl ?_
 intro args p r hg hp
 unfold equalG at hg
 split at hg
 ·rename_i xs ys
  simp only [Option.some.injEq, Prod.mk.injEq] at hg
  obtain ⟨rfl, rfl⟩ := hg
  obtain ⟨hx, hy, hl, hm⟩ := hp
  generalize dI xs = l at *
  generalize dI ys = m at *
  subst hx hy
  have hT : (E_copyO).X = T := rfl
  have hx0 := @Tryd.results43
  have hx := hx0
  refine ⟨by rfl, ?_⟩
  intro F W0 hnp hmk
  refine vc_seq_k fun N1 h1 => ?_
  refine u_reg ?_
  try refine lg_mk ?_
  refine u_mv ?_
  refine lg_nil ?_
  refine h1 _ ?_; clear h1; try clear N1
  refine vc_seq_k fun N2 h2 => ?_
  refine vc_seq_k fun N3 h3 => ?_
  refine u_reg ?_
  try refine lg_mk ?_
  refine u_mv ?_
  refine u_ln ?_
  refine u_mv ?_
  refine u_ln ?_
  refine u_bn ?_
  refine lg_nil ?_
  refine h3 _ ?_; clear h3; try clear N3
  refine u_cond (fun hb4 => ?_) (fun hb4 => ?_)
  ·refine vc_seq_k fun N5 h5 => ?_
   refine u_reg ?_
   try refine lg_mk ?_
   refine u_mv ?_
   refine lg_nil ?_
   refine h5 _ ?_; clear h5; try clear N5
   refine vc_ret ?_
   try simp only [k_rules]
   have hr : decide (l = m) = false := decide_eq_false (fun h => by subst h; omega)
   rw [hr]
   refine fin2_ ?_
   exact cl_
  ·refine vc_skip ?_
   try simp only [k_rules]
   refine h2 _ ?_; clear h2; try clear N2
   refine vc_seq_k fun N6 h6 => ?_
   refine vc_seq_k fun N7 h7 => ?_
   refine u_reg ?_
   try refine lg_mk ?_
   refine u_mv ?_
   refine u_ln ?_
   refine u_mv ?_
   refine lg_nil ?_
   refine h7 _ ?_; clear h7; try clear N7
   refine vc_block ?_
   refine vc_loop_mk (σ := Nat) (fun s => (fun i => l.length = m.length ∧ i ≤ l.length ∧ l.take i = m.take i) s)
    (fun s => (fun i => [(0, .d (.sl (rows eI l))), (1, .d (.sl (rows eI m))), (12, .d (.int .i64 (l.length : Nat))), (13, .d (.int .i64 (i : Nat)))]) s)
    (fun s => (fun i => []) s) (fun s => (fun i => l.length - i) s) hnp 0 ?_ [] ?_ ?_
   ·dsimp only
    refine ⟨by omega, by omega, rfl⟩
   ·dsimp only
    refine ⟨by rfl, ?_, ?_⟩
    ·refine fin_ ?_
     exact cl_
    ·refine fin_ ?_
     exact cl_
   ·rintro i hinv N8 h8
    dsimp only at hinv ⊢
    obtain ⟨i1, i2, i3⟩ := hinv
    refine vc_seq_k fun N9 h9 => ?_
    refine u_reg ?_
    try refine lg_mk ?_
    refine u_bn ?_
    refine lg_nil ?_
    refine h9 _ ?_; clear h9; try clear N9
    refine vc_seq_k fun N10 h10 => ?_
    refine u_cond (fun hb11 => ?_) (fun hb11 => ?_)
    ·obtain ⟨a, ha⟩ := getE (l := l) (i := i) (by omega)
     obtain ⟨c, hc⟩ := getE (l := m) (i := i) (by omega)
     refine vc_skip ?_
     try simp only [k_rules]
     refine h10 _ ?_; clear h10; try clear N10
     refine vc_seq_k fun N12 h12 => ?_
     refine vc_block ?_
     refine vc_seq_k fun N13 h13 => ?_
     refine u_reg ?_
     try refine lg_mk ?_
     refine u_mv ?_
     refine u_mv ?_
     refine lg_nil ?_
     refine h13 _ ?_; clear h13; try clear N13
     refine vc_seq_k fun N14 h14 => ?_
     have hx := And.intro @ha (And.intro @hc (And.intro @eI.eq_1 hx0))
     refine u_reg ?_
     try refine lg_mk ?_
     refine u_mv ?_
     refine u_mv ?_
     refine u_pt ?_
     refine u_ld ?_
     refine u_mv ?_
     refine u_mv ?_
     refine u_pt ?_
     refine u_ld ?_
     refine u_bn ?_
     refine lg_nil ?_
     have hx := hx0
     refine h14 _ ?_; clear h14; try clear N14
     refine u_cond (fun hb15 => ?_) (fun hb15 => ?_)
     ·have hne := hb15
      refine vc_seq_k fun N16 h16 => ?_
      refine u_reg ?_
      try refine lg_mk ?_
      refine u_mv ?_
      refine lg_nil ?_
      refine h16 _ ?_; clear h16; try clear N16
      refine vc_ret ?_
      try simp only [k_rules]
      have hr : decide (l = m) = false := decide_eq_false (ne_at ha hc (by simpa using hne))
      rw [hr]
      refine fin2_ ?_
      exact cl_
     ·have hne := hb15
      refine vc_skip ?_
      try simp only [k_rules]
      refine h12 _ ?_; clear h12; try clear N12
      refine u_reg ?_
      try refine lg_mk ?_
      refine u_bn ?_
      refine u_mv ?_
      refine lg_nil ?_
      refine h8 _ ⟨i + 1, ?_, ?_, [], ?_⟩
      ·dsimp only
       refine ⟨i1, by omega, ?_⟩
       have he : a = c := by simpa using hne
       subst he
       exact take_at ha hc i3
      ·dsimp only
       omega
      ·dsimp only
       refine ⟨by rfl, ?_, ?_⟩
       ·refine fin_ ?_
        exact cl_
       ·refine fin_ ?_
        exact cl_
    ·refine vc_exit ?_
     simp only [k_rules, Nat.reduceEqDiff, reduceIte, eq_self]
     refine h6 _ ?_; clear h6; try clear N6
     refine vc_seq_k fun N17 h17 => ?_
     refine u_reg ?_
     try refine lg_mk ?_
     refine u_mv ?_
     refine lg_nil ?_
     refine h17 _ ?_; clear h17; try clear N17
     refine vc_ret ?_
     try simp only [k_rules]
     have hr : decide (l = m) = true := decide_eq_true (by rw [List.take_of_length_le (by omega), List.take_of_length_le (by omega)] at i3; exact i3)
     rw [hr]
     refine fin2_ ?_
     exact cl_
 ·cases hg

def E_equalI : Env Tryd.prog := E_copyO.add 43 (Spec.pure equalG) equalI_meets (by kernel_rfl)

theorem equalU_meets : Meets Tryd.prog 44 (Spec.pure beqG) := by
 refine meets_fun (E_equalI.at_ 10) Tryd.func44 rfl rfl rfl ?_
 intro args p r hg hp
 unfold beqG at hg
 split at hg
 ·rename_i xs ys
  simp only [Option.some.injEq, Prod.mk.injEq] at hg
  obtain ⟨rfl, rfl⟩ := hg
  obtain ⟨hx, hy⟩ := hp
  generalize dU xs = l at *
  generalize dU ys = m at *
  subst hx hy
  have hT : (E_equalI).X = T := rfl
  have hx0 := @Tryd.results44
  have hx := hx0
  refine ⟨by rfl, ?_⟩
  intro F W0 hnp hmk
  refine vc_seq_k fun N1 h1 => ?_
  refine u_reg ?_
  try refine lg_mk ?_
  refine u_mv ?_
  refine lg_nil ?_
  refine h1 _ ?_; clear h1; try clear N1
  refine vc_seq_k fun N2 h2 => ?_
  refine u_reg ?_
  try refine lg_mk ?_
  refine u_mv ?_
  refine u_cv ?_
  refine u_mv ?_
  refine u_cv ?_
  refine u_bn ?_
  refine u_mv ?_
  refine lg_nil ?_
  refine h2 _ ?_; clear h2; try clear N2
  refine vc_ret ?_
  try simp only [k_rules]
  refine fin2_ ?_
  exact cl_
 ·cases hg

def E_equalU : Env Tryd.prog := E_equalI.add 44 (Spec.pure beqG) equalU_meets (by kernel_rfl)

theorem sameO_meets : Meets Tryd.prog 30 (Spec.pure sameG) := by
 refine meets_fun (E_equalU.at_ 24) Tryd.func30 rfl rfl rfl ?_
 intro args p r hg hp
 unfold sameG at hg
 split at hg
 ·rename_i k ls ds k' ls' ds'
  simp only [Option.some.injEq, Prod.mk.injEq] at hg
  obtain ⟨rfl, rfl⟩ := hg
  obtain ⟨e1, e2, hl, e3, e4, hl'⟩ := hp
  generalize dI ls = l at *
  generalize dU ds = u at *
  generalize dI ls' = l' at *
  generalize dU ds' = u' at *
  subst e1 e2 e3 e4
  have hT : (E_equalU).X = T := rfl
  have hx0 := And.intro @dec_t (And.intro @dec_f (And.intro @dI_rows (And.intro @dU_rows (And.intro @and3 @Tryd.results30))))
  have hx := hx0
  refine ⟨by rfl, ?_⟩
  intro F W0 hnp hmk
  refine vc_seq_k fun N1 h1 => ?_
  refine u_reg ?_
  try refine lg_mk ?_
  refine u_bx ?_
  refine u_bx ?_
  refine u_mv ?_
  refine lg_nil ?_
  refine h1 _ ?_; clear h1; try clear N1
  refine vc_seq_k fun N2 h2 => ?_
  rcases (show (k = k' ∧ l = l') ∨ (k = k' ∧ l ≠ l') ∨ k ≠ k' by by_cases hk : k = k' <;> by_cases hl : l = l' <;> simp [hk, hl]) with ⟨hk, hll⟩ | ⟨hk, hll⟩ | hk
  ·have hk1 : decide (k = k') = true := decide_eq_true hk
   have hk2 : decide (l = l') = true := decide_eq_true hll
   have hx := And.intro @hk1 (And.intro @hk2 hx0)
   refine u_reg ?_
   try refine lg_mk ?_
   refine u_pt ?_
   refine u_ld ?_
   refine u_pt ?_
   refine u_ld ?_
   refine u_bn ?_
   refine u_mv ?_
   refine g_pt ?_
   refine g_ld ?_
   refine g_pt ?_
   refine g_ld ?_
   have hc := call_rule (E := (E_equalU.at_ 24)) (f := 43) (sp := Spec.pure equalG) rfl
   have hs := @equalG.eq_1
   refine g_cp ?_
   refine u_pk ?_
   refine u_mv ?_
   refine g_pt ?_
   refine g_ld ?_
   refine g_pt ?_
   refine g_ld ?_
   have hc := call_rule (E := (E_equalU.at_ 24)) (f := 44) (sp := Spec.pure beqG) rfl
   have hs := @beqG.eq_1
   refine g_cp ?_
   refine u_pk ?_
   refine u_mv ?_
   refine lg_nil ?_
   have hx := hx0
   refine h2 _ ?_; clear h2; try clear N2
   refine vc_ret ?_
   try simp only [k_rules]
   rw [and3]; simp only [hk1, hk2]
   refine fin2_ ?_
   exact cl_
  ·have hk1 : decide (k = k') = true := decide_eq_true hk
   have hk2 : decide (l = l') = false := decide_eq_false hll
   have hx := And.intro @hk1 (And.intro @hk2 hx0)
   refine u_reg ?_
   try refine lg_mk ?_
   refine u_pt ?_
   refine u_ld ?_
   refine u_pt ?_
   refine u_ld ?_
   refine u_bn ?_
   refine u_mv ?_
   refine g_pt ?_
   refine g_ld ?_
   refine g_pt ?_
   refine g_ld ?_
   have hc := call_rule (E := (E_equalU.at_ 24)) (f := 43) (sp := Spec.pure equalG) rfl
   have hs := @equalG.eq_1
   refine g_cp ?_
   refine u_pk ?_
   refine u_mv ?_
   refine g_pt ?_
   refine g_ld ?_
   refine g_pt ?_
   refine g_ld ?_
   have hc := call_rule (E := (E_equalU.at_ 24)) (f := 44) (sp := Spec.pure beqG) rfl
   have hs := @beqG.eq_1
   refine g_cp ?_
   refine u_pk ?_
   refine u_mv ?_
   refine lg_nil ?_
   have hx := hx0
   refine h2 _ ?_; clear h2; try clear N2
   refine vc_ret ?_
   try simp only [k_rules]
   rw [and3]; simp only [hk1, hk2]
   refine fin2_ ?_
   exact cl_
  ·have hk1 : decide (k = k') = false := decide_eq_false hk
   have hk2 := hk1
   have hx := And.intro @hk1 (And.intro @hk2 hx0)
   refine u_reg ?_
   try refine lg_mk ?_
   refine u_pt ?_
   refine u_ld ?_
   refine u_pt ?_
   refine u_ld ?_
   refine u_bn ?_
   refine u_mv ?_
   refine g_pt ?_
   refine g_ld ?_
   refine g_pt ?_
   refine g_ld ?_
   have hc := call_rule (E := (E_equalU.at_ 24)) (f := 43) (sp := Spec.pure equalG) rfl
   have hs := @equalG.eq_1
   refine g_cp ?_
   refine u_pk ?_
   refine u_mv ?_
   refine g_pt ?_
   refine g_ld ?_
   refine g_pt ?_
   refine g_ld ?_
   have hc := call_rule (E := (E_equalU.at_ 24)) (f := 44) (sp := Spec.pure beqG) rfl
   have hs := @beqG.eq_1
   refine g_cp ?_
   refine u_pk ?_
   refine u_mv ?_
   refine lg_nil ?_
   have hx := hx0
   refine h2 _ ?_; clear h2; try clear N2
   refine vc_ret ?_
   try simp only [k_rules]
   rw [and3]; simp only [hk1, hk2]
   refine fin2_ ?_
   exact cl_
 ·cases hg

def E_sameO : Env Tryd.prog := E_equalU.add 30 (Spec.pure sameG) sameO_meets (by kernel_rfl)

theorem sameR_meets : Meets Tryd.prog 16 (Spec.pure sameG) := by
 refine meets_fun (E_sameO.at_ 26) Tryd.func16 rfl rfl rfl ?_
 intro args p r hg hp
 unfold sameG at hg
 split at hg
 ·rename_i k ls ds k' ls' ds'
  simp only [Option.some.injEq, Prod.mk.injEq] at hg
  obtain ⟨rfl, rfl⟩ := hg
  obtain ⟨e1, e2, hl, e3, e4, hl'⟩ := hp
  generalize dI ls = l at *
  generalize dU ds = u at *
  generalize dI ls' = l' at *
  generalize dU ds' = u' at *
  subst e1 e2 e3 e4
  have hT : (E_sameO).X = T := rfl
  have hx0 := And.intro @dec_t (And.intro @dec_f (And.intro @dI_rows (And.intro @dU_rows (And.intro @and3 @Tryd.results16))))
  have hx := hx0
  refine ⟨by rfl, ?_⟩
  intro F W0 hnp hmk
  refine vc_seq_k fun N1 h1 => ?_
  refine u_reg ?_
  try refine lg_mk ?_
  refine u_bx ?_
  refine u_bx ?_
  refine u_mv ?_
  refine lg_nil ?_
  refine h1 _ ?_; clear h1; try clear N1
  refine vc_seq_k fun N2 h2 => ?_
  rcases (show (k = k' ∧ l = l') ∨ (k = k' ∧ l ≠ l') ∨ k ≠ k' by by_cases hk : k = k' <;> by_cases hl : l = l' <;> simp [hk, hl]) with ⟨hk, hll⟩ | ⟨hk, hll⟩ | hk
  ·have hk1 : decide (k = k') = true := decide_eq_true hk
   have hk2 : decide (l = l') = true := decide_eq_true hll
   have hx := And.intro @hk1 (And.intro @hk2 hx0)
   refine u_reg ?_
   try refine lg_mk ?_
   refine u_pt ?_
   refine u_ld ?_
   refine u_pt ?_
   refine u_ld ?_
   refine u_bn ?_
   refine u_mv ?_
   refine g_pt ?_
   refine g_ld ?_
   refine g_pt ?_
   refine g_ld ?_
   have hc := call_rule (E := (E_sameO.at_ 26)) (f := 26) (sp := Spec.pure intsG) rfl
   have hs := @intsG.eq_1
   refine g_cp ?_
   refine u_pk ?_
   refine u_mv ?_
   refine g_pt ?_
   refine g_ld ?_
   refine g_cv ?_
   refine g_pt ?_
   refine g_ld ?_
   refine g_cv ?_
   refine g_bn ?_
   refine u_pk ?_
   refine u_mv ?_
   refine lg_nil ?_
   have hx := hx0
   refine h2 _ ?_; clear h2; try clear N2
   refine vc_ret ?_
   try simp only [k_rules]
   rw [and3]; simp only [hk1, hk2]
   refine fin2_ ?_
   exact cl_
  ·have hk1 : decide (k = k') = true := decide_eq_true hk
   have hk2 : decide (l = l') = false := decide_eq_false hll
   have hx := And.intro @hk1 (And.intro @hk2 hx0)
   refine u_reg ?_
   try refine lg_mk ?_
   refine u_pt ?_
   refine u_ld ?_
   refine u_pt ?_
   refine u_ld ?_
   refine u_bn ?_
   refine u_mv ?_
   refine g_pt ?_
   refine g_ld ?_
   refine g_pt ?_
   refine g_ld ?_
   have hc := call_rule (E := (E_sameO.at_ 26)) (f := 26) (sp := Spec.pure intsG) rfl
   have hs := @intsG.eq_1
   refine g_cp ?_
   refine u_pk ?_
   refine u_mv ?_
   refine g_pt ?_
   refine g_ld ?_
   refine g_cv ?_
   refine g_pt ?_
   refine g_ld ?_
   refine g_cv ?_
   refine g_bn ?_
   refine u_pk ?_
   refine u_mv ?_
   refine lg_nil ?_
   have hx := hx0
   refine h2 _ ?_; clear h2; try clear N2
   refine vc_ret ?_
   try simp only [k_rules]
   rw [and3]; simp only [hk1, hk2]
   refine fin2_ ?_
   exact cl_
  ·have hk1 : decide (k = k') = false := decide_eq_false hk
   have hk2 := hk1
   have hx := And.intro @hk1 (And.intro @hk2 hx0)
   refine u_reg ?_
   try refine lg_mk ?_
   refine u_pt ?_
   refine u_ld ?_
   refine u_pt ?_
   refine u_ld ?_
   refine u_bn ?_
   refine u_mv ?_
   refine g_pt ?_
   refine g_ld ?_
   refine g_pt ?_
   refine g_ld ?_
   have hc := call_rule (E := (E_sameO.at_ 26)) (f := 26) (sp := Spec.pure intsG) rfl
   have hs := @intsG.eq_1
   refine g_cp ?_
   refine u_pk ?_
   refine u_mv ?_
   refine g_pt ?_
   refine g_ld ?_
   refine g_cv ?_
   refine g_pt ?_
   refine g_ld ?_
   refine g_cv ?_
   refine g_bn ?_
   refine u_pk ?_
   refine u_mv ?_
   refine lg_nil ?_
   have hx := hx0
   refine h2 _ ?_; clear h2; try clear N2
   refine vc_ret ?_
   try simp only [k_rules]
   rw [and3]; simp only [hk1, hk2]
   refine fin2_ ?_
   exact cl_
 ·cases hg

def E_sameR : Env Tryd.prog := E_sameO.add 16 (Spec.pure sameG) sameR_meets (by kernel_rfl)
end Go.Proofs.YtcjipciiljjfhaaDoor
