/- Walks, printed by wip/gen/walk.py. -/
import Derived.Test.YtcjipciiljjfhaaDoorT8
import Derived.Test.YtcjipciiljjfhaaDoorV5
set_option linter.all false
set_option maxRecDepth 100000
set_option maxHeartbeats 4000000
namespace Go.Proofs.YtcjipciiljjfhaaDoor
open Go Go.Vc Go.RowKit
/-- slices.Clone at elements of sz cells. -/
def cloneG (sz by_ : Nat) : List AV → Option (Prop × AV)
  | [.d (.sl xs)] => some (Rect sz xs ∧ xs.length * by_ ≤ 140737488355328, .d (.sl xs))
  | _ => none

/-- slices.Delete at elements of one cell, of a row that is one's own. -/
def deleteG (ty : Nat) : GFun
  | [.sl 0 0 len, .d (.int .i64 i), .d (.int .i64 j)], [some (.vec t s xs)] => some (t = ty ∧ s = 1 ∧ Rect 1 xs ∧ xs.length = len ∧ 0 ≤ i ∧ i < j ∧ j ≤ len ∧ len ≤ 9223372036854775807, .sl 0 0 (len - (j.toNat - i.toNat)), [some (.vec ty 1 (xs.take i.toNat ++ xs.drop j.toNat))])
  | _, _ => none
theorem delete_rows {xs : List (List D)} {i j : Nat} (hij : i < j) (hj : j ≤ xs.length) : (splice xs i ((xs.drop j).take (xs.length - j))).take (i + (xs.length - j)) = xs.take i ++ xs.drop j := by
  have h1 : (xs.drop j).take (xs.length - j) = xs.drop j := List.take_of_length_le (by simp)
  have h2 : (xs.take i ++ xs.drop j).length = i + (xs.length - j) := by simp; omega
  rw [h1, splice, ← h2, List.take_append_of_le_length (Nat.le_refl _), List.take_length]

def lessG : List AV → Option (Prop × AV)
  | [.d (.int .i64 a), .d (.int .i64 b)] => some (True, .d (.bool (decide (a < b))))
  | _ => none
def nanG : List AV → Option (Prop × AV)
  | [.d (.int .i64 _)] => some (True, .d (.bool false))
  | _ => none
/-- How many are below. -/
def lbR (l : List Int) (n : Int) : Nat := (l.filter fun x => decide (x < n)).length
theorem lb_at {l : List Int} {n : Int} {k : Nat} (h1 : ∀ x ∈ l.take k, x < n) (h2 : ∀ x ∈ l.drop k, n ≤ x) (hk : k ≤ l.length) : lbR l n = k := by
  unfold lbR
  conv => lhs; rw [← List.take_append_drop k l]
  rw [List.filter_append, List.filter_eq_self.2 (fun x hx => by simpa using h1 x hx), List.filter_eq_nil_iff.2 (fun x hx => by simpa using h2 x hx), List.append_nil, List.length_take]; omega
theorem mem_lb {l : List Int} {n : Int} {k : Nat} (h1 : ∀ x ∈ l.take k, x < n) : n ∈ l ↔ n ∈ l.drop k := by
  conv => lhs; rw [← List.take_append_drop k l]
  rw [List.mem_append]
  exact ⟨fun h => by rcases h with h | h; exact absurd (h1 n h) (by omega); exact h, .inr⟩
def bsG : List AV → Option (Prop × AV)
  | [.d (.sl xs), .d (.int .i64 n)] => some (xs = rows eI (dI xs) ∧ (dI xs).Pairwise (· < ·) ∧ (dI xs).length ≤ 1000000000, .tup [.d (.int .i64 (lbR (dI xs) n : Nat)), .d (.bool (decide (n ∈ dI xs)))])
  | _ => none
theorem take_lt {l : List Int} {n x : Int} {m : Nat} (hs : l.Pairwise (· < ·)) (hx : l[m]? = some x) (hxn : x < n) : ∀ y ∈ l.take (m + 1), y < n := by
  intro y hy
  rw [List.take_add_one, hx, List.mem_append] at hy
  rcases hy with hy | hy
  · obtain ⟨h1, h2⟩ := List.getElem?_eq_some_iff.1 hx
    have := List.take_append_drop m l
    rw [← this, List.pairwise_append] at hs
    have := hs.2.2 y hy x (by rw [List.drop_eq_getElem_cons h1, h2]; simp)
    omega
  · simp only [Option.toList_some, List.mem_singleton] at hy; omega
theorem drop_ge {l : List Int} {n x : Int} {m : Nat} (hs : l.Pairwise (· < ·)) (hx : l[m]? = some x) (hxn : n ≤ x) : ∀ y ∈ l.drop m, n ≤ y := by
  obtain ⟨h1, h2⟩ := List.getElem?_eq_some_iff.1 hx
  intro y hy
  have := List.take_append_drop m l
  rw [← this, List.pairwise_append, List.drop_eq_getElem_cons h1, h2] at hs
  rw [List.drop_eq_getElem_cons h1, h2] at hy
  rcases List.mem_cons.1 hy with rfl | hy
  · exact hxn
  · have := (List.pairwise_cons.1 hs.2.1).1 y hy; omega
theorem mid_u64 {lo hi : Nat} (h : lo + hi ≤ 1000000000000) : (IntKind.u64.wrap ((lo : Int) + (hi : Int))).fdiv (2 ^ min 1 IntKind.u64.bits) = (((lo + hi) / 2 : Nat) : Int) := by
  have e : IntKind.u64.wrap ((lo : Int) + (hi : Int)) = ((lo + hi : Nat) : Int) := by
    rw [show (lo : Int) + (hi : Int) = ((lo + hi : Nat) : Int) by omega]
    simp [IntKind.wrap, IntKind.bits, IntKind.signed]; omega
  rw [e]
  have : min 1 IntKind.u64.bits = 1 := by decide
  rw [this, show (2 : Int) ^ 1 = 2 from rfl, Int.fdiv_eq_ediv_of_nonneg _ (by omega)]; omega
theorem bs_in {l : List Int} {n x : Int} {k : Nat} (hs : l.Pairwise (· < ·)) (h1 : ∀ y ∈ l.take k, y < n) (h2 : ∀ y ∈ l.drop k, n ≤ y) (hx : l[k]? = some x) : decide (n ∈ l) = decide (x = n) := by
  apply decide_eq_decide.2
  obtain ⟨g1, g2⟩ := List.getElem?_eq_some_iff.1 hx
  rw [mem_lb h1, List.drop_eq_getElem_cons g1, g2]
  constructor
  · intro h
    rcases List.mem_cons.1 h with h | h
    · exact h.symm
    · have h3 := h2 x (by rw [List.drop_eq_getElem_cons g1, g2]; simp)
      have hd := List.take_append_drop k l
      rw [← hd, List.pairwise_append, List.drop_eq_getElem_cons g1, g2] at hs
      have := (List.pairwise_cons.1 hs.2.1).1 n h
      omega
  · rintro rfl; simp
theorem bs_out {l : List Int} {n : Int} {k : Nat} (h1 : ∀ y ∈ l.take k, y < n) (hk : l.length ≤ k) : decide (n ∈ l) = false := by
  apply decide_eq_false
  rw [mem_lb h1, List.drop_eq_nil_of_le hk]; simp

def cobG : List AV → Option (Prop × AV)
  | [.agg [.d (.int .i64 k), .d (.sl ls), .d (.sl ds)]] => some (ls = rows eI (dI ls) ∧ ds = rows eU (dU ds) ∧ OkO ⟨k, dI ls, dU ds⟩, .agg [.d (.int .i64 k), .d (.sl ls), .d (.sl ds)])
  | _ => none
def copyG : GFun
  | [.agg [.d (.sl xs)]], [] => some (xs = rows eO (dO xs) ∧ ValS (dO xs), .agg [.sl 0 0 (dO xs).length], [some (.vec 58 4 xs)])
  | _, _ => none
def equalG : List AV → Option (Prop × AV)
  | [.d (.sl xs), .d (.sl ys)] => some (xs = rows eI (dI xs) ∧ ys = rows eI (dI ys) ∧ (dI xs).length ≤ 9223372036854775807 ∧ (dI ys).length ≤ 9223372036854775807, .d (.bool (decide (dI xs = dI ys))))
  | _ => none
def beqG : List AV → Option (Prop × AV)
  | [.d (.sl xs), .d (.sl ys)] => some (xs = rows eU (dU xs) ∧ ys = rows eU (dU ys), .d (.bool (decide (dU xs = dU ys))))
  | _ => none
def sameG : List AV → Option (Prop × AV)
  | [.agg [.d (.int .i64 k), .d (.sl ls), .d (.sl ds)], .agg [.d (.int .i64 k'), .d (.sl ls'), .d (.sl ds')]] => some (ls = rows eI (dI ls) ∧ ds = rows eU (dU ds) ∧ (dI ls).length ≤ 9223372036854775807 ∧ ls' = rows eI (dI ls') ∧ ds' = rows eU (dU ds') ∧ (dI ls').length ≤ 9223372036854775807, .d (.bool (decide (k = k' ∧ dI ls = dI ls' ∧ dU ds = dU ds'))))
  | _ => none
def storesG : List AV → Option (Prop × AV)
  | [.agg [.d (.sl xs)], .agg [.d (.sl ys)]] => some (xs = rows eO (dO xs) ∧ ys = rows eO (dO ys) ∧ (dO xs).length ≤ 9223372036854775807 ∧ (dO ys).length ≤ 9223372036854775807 ∧ smallS (dO xs) ∧ smallS (dO ys), .d (.bool (decide (dO xs = dO ys))))
  | _ => none
theorem and3 (a b c : Prop) [Decidable a] [Decidable b] [Decidable c] : decide (a ∧ b ∧ c) = (decide a && (decide b && decide c)) := by simp [Bool.decide_and]
theorem small_of {S : List SO} (h : ValS S) : smallS S := fun x hx => ⟨Nat.le_trans (h.ok x hx).ln (by decide), Nat.le_trans (h.ok x hx).da (by decide)⟩

theorem cmpO_meets : Meets Tryd.prog 40 (Spec.pure cmpOG) := by
 refine meets_fun (E_valid.at_ 15) Tryd.func40 rfl rfl rfl ?_
 intro args p r hg hp
 unfold cmpOG at hg
 split at hg
 ·rename_i a x y z b
  simp only [Option.some.injEq, Prod.mk.injEq] at hg
  obtain ⟨rfl, rfl⟩ := hg
  have hT : (E_valid).X = T := rfl
  have hx0 := @Tryd.results40
  have hx := hx0
  refine ⟨by rfl, ?_⟩
  intro F W0 hnp hmk
  refine vc_seq_k fun N1 h1 => ?_
  refine u_reg ?_
  try refine lg_mk ?_
  refine u_bx ?_
  refine u_mv ?_
  refine lg_nil ?_
  refine h1 _ ?_; clear h1; try clear N1
  refine vc_seq_k fun N2 h2 => ?_
  refine vc_block ?_
  refine vc_seq_k fun N3 h3 => ?_
  refine u_reg ?_
  try refine lg_mk ?_
  refine u_pt ?_
  refine u_ld ?_
  refine u_mv ?_
  refine u_bn ?_
  refine u_mv ?_
  refine lg_nil ?_
  refine h3 _ ?_; clear h3; try clear N3
  refine u_cond (fun hb4 => ?_) (fun hb4 => ?_)
  ·refine vc_seq_k fun N5 h5 => ?_
   refine u_reg ?_
   try refine lg_mk ?_
   refine u_mv ?_
   refine lg_nil ?_
   refine h5 _ ?_; clear h5; try clear N5
   refine vc_ret ?_
   try simp only [k_rules]
   have hr : cmpO a b = -1 := by unfold cmpO; rw [if_pos (by have := hb4; omega)]
   rw [hr]
   refine fin2_ ?_
   exact cl_
  ·refine vc_seq_k fun N6 h6 => ?_
   refine u_reg ?_
   try refine lg_mk ?_
   refine u_pt ?_
   refine u_ld ?_
   refine u_mv ?_
   refine u_bn ?_
   refine u_mv ?_
   refine lg_nil ?_
   refine h6 _ ?_; clear h6; try clear N6
   refine u_cond (fun hb7 => ?_) (fun hb7 => ?_)
   ·refine vc_seq_k fun N8 h8 => ?_
    refine u_reg ?_
    try refine lg_mk ?_
    refine u_mv ?_
    refine lg_nil ?_
    refine h8 _ ?_; clear h8; try clear N8
    refine vc_ret ?_
    try simp only [k_rules]
    have hr : cmpO a b = 1 := by unfold cmpO; rw [if_neg (by have := hb4; omega), if_pos (by have := hb7; omega)]
    rw [hr]
    refine fin2_ ?_
    exact cl_
   ·refine vc_skip ?_
    try simp only [k_rules]
    refine h2 _ ?_; clear h2; try clear N2
    refine vc_seq_k fun N9 h9 => ?_
    refine u_reg ?_
    try refine lg_mk ?_
    refine u_mv ?_
    refine lg_nil ?_
    refine h9 _ ?_; clear h9; try clear N9
    refine vc_ret ?_
    try simp only [k_rules]
    have hr : cmpO a b = 0 := by unfold cmpO; rw [if_neg (by have := hb4; omega), if_neg (by have := hb7; omega)]
    rw [hr]
    refine fin2_ ?_
    exact cl_
 ·cases hg

def E_cmpO : Env Tryd.prog := E_valid.add 40 (Spec.pure cmpOG) cmpO_meets (by kernel_rfl)

theorem bsf_meets : Meets Tryd.prog 39 (Spec.pure bsfG) := by
 refine meets_fun (E_cmpO.at_ 49) Tryd.func39 rfl rfl rfl ?_
 intro args p r hg hp
 unfold bsfG at hg
 split at hg
 ·rename_i xs q
  simp only [Option.some.injEq, Prod.mk.injEq] at hg
  obtain ⟨rfl, rfl⟩ := hg
  obtain ⟨he, hso, hl⟩ := hp
  generalize dO xs = S at *
  subst he
  have hT : (E_cmpO).X = T := rfl
  have hx0 := And.intro @dec_t (And.intro @dec_f (And.intro @eO.eq_1 (And.intro @rect_eO @Tryd.results39)))
  have hx := hx0
  refine ⟨by rfl, ?_⟩
  intro F W0 hnp hmk
  refine vc_seq_k fun N1 h1 => ?_
  refine u_reg ?_
  try refine lg_mk ?_
  refine u_mv ?_
  refine u_mv ?_
  refine lg_nil ?_
  refine h1 _ ?_; clear h1; try clear N1
  refine vc_seq_k fun N2 h2 => ?_
  refine u_reg ?_
  try refine lg_mk ?_
  refine u_mv ?_
  refine u_ln ?_
  refine u_mv ?_
  refine lg_nil ?_
  refine h2 _ ?_; clear h2; try clear N2
  refine vc_seq_k fun N3 h3 => ?_
  refine u_reg ?_
  try refine lg_mk ?_
  refine u_mv ?_
  refine u_mv ?_
  refine u_mv ?_
  refine lg_nil ?_
  refine h3 _ ?_; clear h3; try clear N3
  refine vc_seq_k fun N4 h4 => ?_
  refine vc_block ?_
  refine vc_loop_mk (σ := Nat × Nat) (fun s => (fun lo hi => lo ≤ hi ∧ hi ≤ S.length ∧ (∀ x ∈ S.take lo, x.dg < q) ∧ ∀ x ∈ S.drop hi, ¬ x.dg < q) (s.1) (s.2))
   (fun s => (fun lo hi => [(0, .d (.sl (rows eO S))), (1, .d (.int .i64 q)), (2, .clo (.func 40) []), (8, .d (.int .i64 (S.length : Nat))), (9, .d (.int .i64 (lo : Nat))), (10, .d (.int .i64 (hi : Nat)))]) (s.1) (s.2))
   (fun s => (fun lo hi => []) (s.1) (s.2)) (fun s => (fun lo hi => hi - lo) (s.1) (s.2)) hnp (0, S.length) ?_ [] ?_ ?_
  ·dsimp only
   simp
  ·dsimp only
   refine ⟨by rfl, ?_, ?_⟩
   ·refine fin_ ?_
    exact cl_
   ·refine fin_ ?_
    exact cl_
  ·rintro ⟨lo, hi⟩ hinv N5 h5
   dsimp only at hinv ⊢
   obtain ⟨i1, i2, i3, i4⟩ := hinv
   refine vc_seq_k fun N6 h6 => ?_
   refine vc_seq_k fun N7 h7 => ?_
   refine u_reg ?_
   try refine lg_mk ?_
   refine u_mv ?_
   refine u_mv ?_
   refine u_bn ?_
   refine lg_nil ?_
   refine h7 _ ?_; clear h7; try clear N7
   refine u_cond (fun hb8 => ?_) (fun hb8 => ?_)
   ·have hmid := mid_u64 (lo := lo) (hi := hi) (by omega)
    obtain ⟨x, hxe⟩ := getE (l := S) (i := (lo + hi) / 2) (by omega)
    refine vc_skip ?_
    try simp only [k_rules]
    refine h6 _ ?_; clear h6; try clear N6
    refine vc_block ?_
    refine vc_seq_k fun N9 h9 => ?_
    have hx := And.intro @hmid hx0
    refine u_reg ?_
    try refine lg_mk ?_
    refine u_mv ?_
    refine u_mv ?_
    refine u_bn ?_
    refine u_cv ?_
    refine u_bn ?_
    refine u_cv ?_
    refine u_mv ?_
    refine lg_nil ?_
    have hx := hx0
    refine h9 _ ?_; clear h9; try clear N9
    refine vc_seq_k fun N10 h10 => ?_
    have hx := And.intro @hxe hx0
    refine u_reg ?_
    try refine lg_mk ?_
    refine u_mv ?_
    refine u_mv ?_
    refine u_mv ?_
    refine u_pt ?_
    refine u_ld ?_
    refine u_mv ?_
    have hc := (rfl : ((E_cmpO.at_ 49)).Γ 40 = some (Spec.pure cmpOG))
    have hs := (@cmpOG.eq_1)
    refine u_kp ?_
    refine u_bn ?_
    refine lg_nil ?_
    have hx := hx0
    refine h10 _ ?_; clear h10; try clear N10
    refine u_cond (fun hb11 => ?_) (fun hb11 => ?_)
    ·have hcm := cmpO_neg.1 hb11
     refine u_reg ?_
     try refine lg_mk ?_
     refine u_mv ?_
     refine u_bn ?_
     refine u_mv ?_
     refine lg_nil ?_
     refine h5 _ ⟨((lo + hi) / 2 + 1, hi), ?_, ?_, [], ?_⟩
     ·dsimp only
      exact ⟨by omega, by omega, takeS_lt hso hxe hcm, i4⟩
     ·dsimp only
      omega
     ·dsimp only
      refine ⟨by rfl, ?_, ?_⟩
      ·refine fin_ ?_
       exact cl_
      ·refine fin_ ?_
       exact cl_
    ·have hcm : ¬ x.dg < q := fun h => hb11 (cmpO_neg.2 h)
     refine u_reg ?_
     try refine lg_mk ?_
     refine u_mv ?_
     refine u_mv ?_
     refine lg_nil ?_
     refine h5 _ ⟨(lo, (lo + hi) / 2), ?_, ?_, [], ?_⟩
     ·dsimp only
      exact ⟨by omega, by omega, i3, dropS_ge hso hxe hcm⟩
     ·dsimp only
      omega
     ·dsimp only
      refine ⟨by rfl, ?_, ?_⟩
      ·refine fin_ ?_
       exact cl_
      ·refine fin_ ?_
       exact cl_
   ·have hlh : lo = hi := by omega
    subst hlh
    refine vc_exit ?_
    simp only [k_rules, Nat.reduceEqDiff, reduceIte, eq_self]
    refine h4 _ ?_; clear h4; try clear N4
    refine vc_seq_k fun N12 h12 => ?_
    rcases Nat.lt_or_ge lo S.length with hk | hk
    ·obtain ⟨x, hxe⟩ := getE hk
     have hk' : decide ((lo : Int) < (S.length : Int)) = true := by simp; omega
     have hx := And.intro @hxe (And.intro @hk' hx0)
     refine u_reg ?_
     try refine lg_mk ?_
     refine u_mv ?_
     refine u_mv ?_
     refine u_mv ?_
     refine u_bn ?_
     refine u_mv ?_
     refine g_mv ?_
     refine g_mv ?_
     refine g_mv ?_
     refine g_pt ?_
     refine g_ld ?_
     refine g_mv ?_
     have hc := (rfl : ((E_cmpO.at_ 49)).Γ 40 = some (Spec.pure cmpOG))
     have hs := (@cmpOG.eq_1)
     refine g_kp ?_
     refine g_bn ?_
     refine u_pk ?_
     refine u_mv ?_
     refine u_mv ?_
     refine lg_nil ?_
     have hx := hx0
     refine h12 _ ?_; clear h12; try clear N12
     refine vc_ret ?_
     try simp only [k_rules]
     have hr := inS_at hso i3 hxe i4
     have hr3 : decide (cmpO x.dg q = 0) = decide (x.dg = q) := decide_eq_decide.2 cmpO_zero
     rw [← hr3] at hr
     have hr2 := lbS_at i3 i4 i2
     rw [hr, hr2]
     refine fin2_ ?_
     exact cl_
    ·have hxe : S[lo]? = none := List.getElem?_eq_none hk
     have hk' : decide ((lo : Int) < (S.length : Int)) = false := by simp; omega
     have hx := And.intro @hxe (And.intro @hk' hx0)
     refine u_reg ?_
     try refine lg_mk ?_
     refine u_mv ?_
     refine u_mv ?_
     refine u_mv ?_
     refine u_bn ?_
     refine u_mv ?_
     refine g_mv ?_
     refine g_mv ?_
     refine g_mv ?_
     refine g_pt ?_
     refine g_ld ?_
     refine g_mv ?_
     have hc := (rfl : ((E_cmpO.at_ 49)).Γ 40 = some (Spec.pure cmpOG))
     have hs := (@cmpOG.eq_1)
     refine g_kp ?_
     refine g_bn ?_
     refine u_pk ?_
     refine u_mv ?_
     refine u_mv ?_
     refine lg_nil ?_
     have hx := hx0
     refine h12 _ ?_; clear h12; try clear N12
     refine vc_ret ?_
     try simp only [k_rules]
     have hr := inS_out i3 hk
     have hr2 := lbS_at i3 i4 i2
     rw [hr, hr2]
     refine fin2_ ?_
     exact cl_
 ·cases hg

def E_bsf : Env Tryd.prog := E_cmpO.add 39 (Spec.pure bsfG) bsf_meets (by kernel_rfl)

theorem find_meets : Meets Tryd.prog 24 (Spec.pure findG) := by
 refine meets_fun (E_bsf.at_ 12) Tryd.func24 rfl rfl rfl ?_
 intro args p r hg hp
 unfold findG at hg
 split at hg
 ·rename_i xs q
  simp only [Option.some.injEq, Prod.mk.injEq] at hg
  obtain ⟨rfl, rfl⟩ := hg
  obtain ⟨he, hso, hl⟩ := hp
  generalize dO xs = S at *
  subst he
  have hT : (E_bsf).X = T := rfl
  have hx0 := And.intro @rect_eO (And.intro @dO_rows @Tryd.results24)
  have hx := hx0
  refine ⟨by rfl, ?_⟩
  intro F W0 hnp hmk
  refine vc_seq_k fun N1 h1 => ?_
  refine u_reg ?_
  try refine lg_mk ?_
  refine u_bx ?_
  refine u_mv ?_
  refine u_mv ?_
  refine lg_nil ?_
  refine h1 _ ?_; clear h1; try clear N1
  refine vc_seq_k fun N2 h2 => ?_
  refine u_reg ?_
  try refine lg_mk ?_
  refine u_pt ?_
  refine u_ld ?_
  refine u_mv ?_
  have hc := call_rule (E := (E_bsf.at_ 12)) (f := 39) (sp := Spec.pure bsfG) rfl
  have hs := @bsfG.eq_1
  refine u_cp (hq := by (first | (exact ⟨hso, hl⟩) | exact sd_)) ?_
  refine u_ex ?_
  refine u_ex ?_
  refine u_mv ?_
  refine u_mv ?_
  refine lg_nil ?_
  refine h2 _ ?_; clear h2; try clear N2
  refine vc_ret ?_
  try simp only [k_rules]
  refine fin2_ ?_
  exact cl_
 ·cases hg

def E_find : Env Tryd.prog := E_bsf.add 24 (Spec.pure findG) find_meets (by kernel_rfl)
end Go.Proofs.YtcjipciiljjfhaaDoor
