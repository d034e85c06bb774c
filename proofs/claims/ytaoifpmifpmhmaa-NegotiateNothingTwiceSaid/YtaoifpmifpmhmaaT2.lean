/- Walks, printed by wip/gen/walk.py. -/
import Derived.Test.YtaoifpmifpmhmaaTy
import Derived.Test.YtaoifpmifpmhmaaV4
import Derived.Test.YtaoifpmifpmhmaaV4
set_option linter.all false
set_option maxRecDepth 100000
set_option maxHeartbeats 4000000
namespace Go.Proofs.Ytaoifpmifpmhmaa
open Go Go.Vc Go.RowKit
def faultG : List AV → Option (Prop × AV)
  | [.d (.int .i64 c), .d (.int .i64 i)] => some (True, .agg [.d (.int .i64 c), .d (.int .i64 i)])
  | _ => none
def inG : List AV → Option (Prop × AV)
  | [.d (.int .i64 n), .d (.int .i64 lo), .d (.int .i64 hi)] => some (True, .d (.bool (decide (lo ≤ n) && decide (n ≤ hi))))
  | _ => none
def hasG : List AV → Option (Prop × AV)
  | [.d (.sl xs), .d (.int .i64 n)] => some (xs = rows eI (dI xs) ∧ (dI xs).length ≤ 9223372036854775807, .d (.bool (decide (n ∈ dI xs))))
  | _ => none
def intsG : List AV → Option (Prop × AV)
  | [.d (.sl xs), .d (.sl ys)] => some (xs = rows eI (dI xs) ∧ ys = rows eI (dI ys) ∧ (dI xs).length ≤ 9223372036854775807 ∧ (dI ys).length ≤ 9223372036854775807, .d (.bool (decide (dI xs = dI ys))))
  | _ => none
theorem getE {α : Type} {l : List α} {i : Nat} (h : i < l.length) : ∃ x, l[i]? = some x := ⟨_, List.getElem?_eq_getElem h⟩
theorem mem_at {α : Type} {l : List α} {i : Nat} {x : α} (h : l[i]? = some x) : x ∈ l := List.mem_of_getElem? h
theorem take_at {α : Type} {l m : List α} {i : Nat} {a : α} (h1 : l[i]? = some a) (h2 : m[i]? = some a) (h : l.take i = m.take i) : l.take (i + 1) = m.take (i + 1) := by
  rw [List.take_add_one, List.take_add_one, h1, h2, h]
theorem notin_take {α : Type} {l : List α} {i : Nat} {x n : α} (h : l[i]? = some x) (hn : n ∉ l.take i) (hx : x ≠ n) : n ∉ l.take (i + 1) := by
  rw [List.take_add_one, h]; simp only [Option.toList_some, List.mem_append, List.mem_singleton, not_or]
  exact ⟨hn, fun h => hx h.symm⟩
theorem ne_at {α : Type} {l m : List α} {i : Nat} {a b : α} (h1 : l[i]? = some a) (h2 : m[i]? = some b) (h : a ≠ b) : l ≠ m := by
  rintro rfl; rw [h1] at h2; exact h (Option.some.inj h2)

theorem fault_meets : Meets Try.prog 25 (Spec.pure faultG) := by
 refine meets_fun ((Env.empty T).at_ 8) Try.func25 rfl rfl rfl ?_
 intro args p r hg hp
 unfold faultG at hg
 split at hg
 ·rename_i c i
  simp only [Option.some.injEq, Prod.mk.injEq] at hg
  obtain ⟨rfl, rfl⟩ := hg
  have hT : ((Env.empty T)).X = T := rfl
  have hx0 := @Try.results25
  have hx := hx0
  refine ⟨by rfl, ?_⟩
  intro F W0 hnp hmk
  refine vc_seq_k fun N1 h1 => ?_
  refine u_reg ?_
  try refine lg_mk ?_
  refine u_al ?_
  refine lg_nil ?_
  refine h1 _ ?_; clear h1; try clear N1
  refine vc_seq_k fun N2 h2 => ?_
  refine u_reg ?_
  try refine lg_mk ?_
  refine u_mv ?_
  refine u_mv ?_
  refine u_bd ?_
  refine u_st ?_
  refine lg_nil ?_
  refine h2 _ ?_; clear h2; try clear N2
  refine vc_ret ?_
  try simp only [k_rules]
  refine fin2_ ?_
  exact cl_
 ·cases hg

def E_fault : Env Try.prog := (Env.empty T).add 25 (Spec.pure faultG) fault_meets (by kernel_rfl)

theorem in_meets : Meets Try.prog 19 (Spec.pure inG) := by
 refine meets_fun (E_fault.at_ 15) Try.func19 rfl rfl rfl ?_
 intro args p r hg hp
 unfold inG at hg
 split at hg
 ·rename_i n lo hi
  simp only [Option.some.injEq, Prod.mk.injEq] at hg
  obtain ⟨rfl, rfl⟩ := hg
  have hT : (E_fault).X = T := rfl
  have hx0 := @Try.results19
  have hx := hx0
  refine ⟨by rfl, ?_⟩
  intro F W0 hnp hmk
  refine vc_seq_k fun N1 h1 => ?_
  refine u_reg ?_
  try refine lg_mk ?_
  refine u_mv ?_
  refine lg_nil ?_
  refine h1 _ ?_; clear h1; try clear N1
  refine vc_seq_k fun N2 h2 => ?_
  refine u_reg ?_
  try refine lg_mk ?_
  refine u_mv ?_
  refine u_mv ?_
  refine u_bn ?_
  refine u_mv ?_
  refine g_mv ?_
  refine g_mv ?_
  refine g_bn ?_
  refine u_pk ?_
  refine u_mv ?_
  refine lg_nil ?_
  refine h2 _ ?_; clear h2; try clear N2
  refine vc_ret ?_
  try simp only [k_rules]
  refine fin2_ ?_
  exact cl_
 ·cases hg

def E_in : Env Try.prog := E_fault.add 19 (Spec.pure inG) in_meets (by kernel_rfl)

theorem has_meets : Meets Try.prog 21 (Spec.pure hasG) := by
 refine meets_fun (E_in.at_ 18) Try.func21 rfl rfl rfl ?_
 intro args p r hg hp
 unfold hasG at hg
 split at hg
 ·rename_i xs n
  simp only [Option.some.injEq, Prod.mk.injEq] at hg
  obtain ⟨rfl, rfl⟩ := hg
  obtain ⟨hx, hl⟩ := hp
  generalize dI xs = l at *
  subst hx
  have hT : (E_in).X = T := rfl
  have hx0 := @Try.results21
  have hx := hx0
  refine ⟨by rfl, ?_⟩
  intro F W0 hnp hmk
  refine vc_seq_k fun N1 h1 => ?_
  refine u_reg ?_
  try refine lg_mk ?_
  refine u_mv ?_
  refine lg_nil ?_
  refine h1 _ ?_; clear h1; try clear N1
  refine vc_seq_k fun N2 h2 => ?_
  refine vc_seq_k fun N3 h3 => ?_
  refine u_reg ?_
  try refine lg_mk ?_
  refine u_mv ?_
  refine lg_nil ?_
  refine h3 _ ?_; clear h3; try clear N3
  refine vc_block ?_
  refine vc_loop_mk (σ := Nat) (fun s => (fun i => i ≤ l.length ∧ n ∉ l.take i) s)
   (fun s => (fun i => [(0, .d (.sl (rows eI l))), (1, .d (.int .i64 n)), (5, .d (.int .i64 (i : Nat)))]) s)
   (fun s => (fun i => []) s) (fun s => (fun i => l.length - i) s) hnp 0 ?_ [] ?_ ?_
  ·dsimp only
   simp
  ·dsimp only
   refine ⟨by rfl, ?_, ?_⟩
   ·refine fin_ ?_
    exact cl_
   ·refine fin_ ?_
    exact cl_
  ·rintro i hinv N4 h4
   dsimp only at hinv ⊢
   obtain ⟨i1, i2⟩ := hinv
   refine vc_seq_k fun N5 h5 => ?_
   refine vc_seq_k fun N6 h6 => ?_
   refine u_reg ?_
   try refine lg_mk ?_
   refine u_mv ?_
   refine u_mv ?_
   refine u_ln ?_
   refine u_bn ?_
   refine lg_nil ?_
   refine h6 _ ?_; clear h6; try clear N6
   refine u_cond (fun hb7 => ?_) (fun hb7 => ?_)
   ·obtain ⟨x, hxe⟩ := getE (l := l) (i := i) (by omega)
    refine vc_skip ?_
    try simp only [k_rules]
    refine h5 _ ?_; clear h5; try clear N5
    refine vc_seq_k fun N8 h8 => ?_
    refine vc_block ?_
    refine vc_seq_k fun N9 h9 => ?_
    have hx := And.intro @hxe (And.intro @eI.eq_1 hx0)
    refine u_reg ?_
    try refine lg_mk ?_
    refine u_mv ?_
    refine u_mv ?_
    refine u_pt ?_
    refine u_ld ?_
    refine u_mv ?_
    refine u_bn ?_
    refine lg_nil ?_
    have hx := hx0
    refine h9 _ ?_; clear h9; try clear N9
    refine u_cond (fun hb10 => ?_) (fun hb10 => ?_)
    ·have he := hb10
     refine vc_seq_k fun N11 h11 => ?_
     refine u_reg ?_
     try refine lg_mk ?_
     refine u_mv ?_
     refine lg_nil ?_
     refine h11 _ ?_; clear h11; try clear N11
     refine vc_ret ?_
     try simp only [k_rules]
     have hr : decide (n ∈ l) = true := decide_eq_true (by rw [← he]; exact mem_at hxe)
     rw [hr]
     refine fin2_ ?_
     exact cl_
    ·have he := hb10
     refine vc_skip ?_
     try simp only [k_rules]
     refine h8 _ ?_; clear h8; try clear N8
     refine u_reg ?_
     try refine lg_mk ?_
     refine u_mv ?_
     refine u_bn ?_
     refine u_mv ?_
     refine lg_nil ?_
     refine h4 _ ⟨i + 1, ?_, ?_, [], ?_⟩
     ·dsimp only
      exact ⟨by omega, notin_take hxe i2 (by simpa using he)⟩
     ·dsimp only
      omega
     ·dsimp only
      refine ⟨by rfl, ?_, ?_⟩
      ·refine fin_ ?_
       exact cl_
      ·refine fin_ ?_
       exact cl_
   ·refine vc_exit ?_
    simp only [k_rules, Nat.reduceEqDiff, reduceIte, eq_self]
    refine h2 _ ?_; clear h2; try clear N2
    refine vc_seq_k fun N12 h12 => ?_
    refine u_reg ?_
    try refine lg_mk ?_
    refine u_mv ?_
    refine lg_nil ?_
    refine h12 _ ?_; clear h12; try clear N12
    refine vc_ret ?_
    try simp only [k_rules]
    have hr : decide (n ∈ l) = false := decide_eq_false (by rwa [List.take_of_length_le (by omega)] at i2)
    rw [hr]
    refine fin2_ ?_
    exact cl_
 ·cases hg

def E_has : Env Try.prog := E_in.add 21 (Spec.pure hasG) has_meets (by kernel_rfl)

theorem ints_meets : Meets Try.prog 17 (Spec.pure intsG) := by
 refine meets_fun (E_has.at_ 26) Try.func17 rfl rfl rfl ?_
 intro args p r hg hp
 unfold intsG at hg
 split at hg
 ·rename_i xs ys
  simp only [Option.some.injEq, Prod.mk.injEq] at hg
  obtain ⟨rfl, rfl⟩ := hg
  obtain ⟨hx, hy, hl, hm⟩ := hp
  generalize dI xs = l at *
  generalize dI ys = m at *
  subst hx hy
  have hT : (E_has).X = T := rfl
  have hx0 := @Try.results17
  have hx := hx0
  refine ⟨by rfl, ?_⟩
  intro F W0 hnp hmk
  refine vc_seq_k fun N1 h1 => ?_
  refine u_reg ?_
  try refine lg_mk ?_
  refine u_mv ?_
  refine lg_nil ?_
  refine h1 _ ?_; clear h1; try clear N1
  refine vc_seq_k fun N2 h2 => ?_
  refine vc_seq_k fun N3 h3 => ?_
  refine u_reg ?_
  try refine lg_mk ?_
  refine u_mv ?_
  refine u_ln ?_
  refine u_mv ?_
  refine u_ln ?_
  refine u_bn ?_
  refine lg_nil ?_
  refine h3 _ ?_; clear h3; try clear N3
  refine u_cond (fun hb4 => ?_) (fun hb4 => ?_)
  ·refine vc_seq_k fun N5 h5 => ?_
   refine u_reg ?_
   try refine lg_mk ?_
   refine u_mv ?_
   refine lg_nil ?_
   refine h5 _ ?_; clear h5; try clear N5
   refine vc_ret ?_
   try simp only [k_rules]
   have hr : decide (l = m) = false := decide_eq_false (fun h => by subst h; omega)
   rw [hr]
   refine fin2_ ?_
   exact cl_
  ·refine vc_skip ?_
   try simp only [k_rules]
   refine h2 _ ?_; clear h2; try clear N2
   refine vc_seq_k fun N6 h6 => ?_
   refine vc_seq_k fun N7 h7 => ?_
   refine u_reg ?_
   try refine lg_mk ?_
   refine u_mv ?_
   refine lg_nil ?_
   refine h7 _ ?_; clear h7; try clear N7
   refine vc_block ?_
   refine vc_loop_mk (σ := Nat) (fun s => (fun i => l.length = m.length ∧ i ≤ l.length ∧ l.take i = m.take i) s)
    (fun s => (fun i => [(0, .d (.sl (rows eI l))), (1, .d (.sl (rows eI m))), (5, .d (.int .i64 (i : Nat)))]) s)
    (fun s => (fun i => []) s) (fun s => (fun i => l.length - i) s) hnp 0 ?_ [] ?_ ?_
   ·dsimp only
    refine ⟨by omega, by omega, rfl⟩
   ·dsimp only
    refine ⟨by rfl, ?_, ?_⟩
    ·refine fin_ ?_
     exact cl_
    ·refine fin_ ?_
     exact cl_
   ·rintro i hinv N8 h8
    dsimp only at hinv ⊢
    obtain ⟨i1, i2, i3⟩ := hinv
    refine vc_seq_k fun N9 h9 => ?_
    refine vc_seq_k fun N10 h10 => ?_
    refine u_reg ?_
    try refine lg_mk ?_
    refine u_mv ?_
    refine u_mv ?_
    refine u_ln ?_
    refine u_bn ?_
    refine lg_nil ?_
    refine h10 _ ?_; clear h10; try clear N10
    refine u_cond (fun hb11 => ?_) (fun hb11 => ?_)
    ·obtain ⟨a, ha⟩ := getE (l := l) (i := i) (by omega)
     obtain ⟨c, hc⟩ := getE (l := m) (i := i) (by omega)
     refine vc_skip ?_
     try simp only [k_rules]
     refine h9 _ ?_; clear h9; try clear N9
     refine vc_seq_k fun N12 h12 => ?_
     refine vc_block ?_
     refine vc_seq_k fun N13 h13 => ?_
     have hx := And.intro @ha (And.intro @hc (And.intro @eI.eq_1 hx0))
     refine u_reg ?_
     try refine lg_mk ?_
     refine u_mv ?_
     refine u_mv ?_
     refine u_pt ?_
     refine u_ld ?_
     refine u_mv ?_
     refine u_mv ?_
     refine u_pt ?_
     refine u_ld ?_
     refine u_bn ?_
     refine lg_nil ?_
     have hx := hx0
     refine h13 _ ?_; clear h13; try clear N13
     refine u_cond (fun hb14 => ?_) (fun hb14 => ?_)
     ·have hne := hb14
      refine vc_seq_k fun N15 h15 => ?_
      refine u_reg ?_
      try refine lg_mk ?_
      refine u_mv ?_
      refine lg_nil ?_
      refine h15 _ ?_; clear h15; try clear N15
      refine vc_ret ?_
      try simp only [k_rules]
      have hr : decide (l = m) = false := decide_eq_false (ne_at ha hc (by simpa using hne))
      rw [hr]
      refine fin2_ ?_
      exact cl_
     ·have hne := hb14
      refine vc_skip ?_
      try simp only [k_rules]
      refine h12 _ ?_; clear h12; try clear N12
      refine u_reg ?_
      try refine lg_mk ?_
      refine u_mv ?_
      refine u_bn ?_
      refine u_mv ?_
      refine lg_nil ?_
      refine h8 _ ⟨i + 1, ?_, ?_, [], ?_⟩
      ·dsimp only
       refine ⟨i1, by omega, ?_⟩
       have he : a = c := by simpa using hne
       subst he
       exact take_at ha hc i3
      ·dsimp only
       omega
      ·dsimp only
       refine ⟨by rfl, ?_, ?_⟩
       ·refine fin_ ?_
        exact cl_
       ·refine fin_ ?_
        exact cl_
    ·refine vc_exit ?_
     simp only [k_rules, Nat.reduceEqDiff, reduceIte, eq_self]
     refine h6 _ ?_; clear h6; try clear N6
     refine vc_seq_k fun N16 h16 => ?_
     refine u_reg ?_
     try refine lg_mk ?_
     refine u_mv ?_
     refine lg_nil ?_
     refine h16 _ ?_; clear h16; try clear N16
     refine vc_ret ?_
     try simp only [k_rules]
     have hr : decide (l = m) = true := decide_eq_true (by rw [List.take_of_length_le (by omega), List.take_of_length_le (by omega)] at i3; exact i3)
     rw [hr]
     refine fin2_ ?_
     exact cl_
 ·cases hg

def E_ints : Env Try.prog := E_has.add 17 (Spec.pure intsG) ints_meets (by kernel_rfl)
end Go.Proofs.Ytaoifpmifpmhmaa
