/- Walks, printed by wip/gen/walk.py. -/
import Derived.Test.YtjpkgmmmmcgmeaaTy
import Derived.Test.YtjpkgmmmmcgmeaaV5
import Derived.Test.YtjpkgmmmmcgmeaaV5
set_option linter.all false
set_option maxRecDepth 100000
set_option maxHeartbeats 4000000
namespace Go.Proofs.Ytjpkgmmmmcgmeaa
open Go Go.Vc Go.RowKit
def faultG : List AV → Option (Prop × AV)
  | [.d (.int .i64 c), .d (.int .i64 i)] => some (True, .agg [.d (.int .i64 c), .d (.int .i64 i)])
  | _ => none
def inG : List AV → Option (Prop × AV)
  | [.d (.int .i64 n), .d (.int .i64 lo), .d (.int .i64 hi)] => some (True, .d (.bool (decide (lo ≤ n) && decide (n ≤ hi))))
  | _ => none
def hasG : List AV → Option (Prop × AV)
  | [.d (.sl xs), .d (.int .i64 n)] => some (xs = rows eI (dI xs) ∧ (dI xs).length ≤ 9223372036854775807, .d (.bool (decide (n ∈ dI xs))))
  | _ => none
def intsG : List AV → Option (Prop × AV)
  | [.d (.sl xs), .d (.sl ys)] => some (xs = rows eI (dI xs) ∧ ys = rows eI (dI ys) ∧ (dI xs).length ≤ 9223372036854775807 ∧ (dI ys).length ≤ 9223372036854775807, .d (.bool (decide (dI xs = dI ys))))
  | _ => none
theorem getE {α : Type} {l : List α} {i : Nat} (h : i < l.length) : ∃ x, l[i]? = some x := ⟨_, List.getElem?_eq_getElem h⟩
theorem mem_at {α : Type} {l : List α} {i : Nat} {x : α} (h : l[i]? = some x) : x ∈ l := List.mem_of_getElem? h
theorem take_at {α : Type} {l m : List α} {i : Nat} {a : α} (h1 : l[i]? = some a) (h2 : m[i]? = some a) (h : l.take i = m.take i) : l.take (i + 1) = m.take (i + 1) := by
  rw [List.take_add_one, List.take_add_one, h1, h2, h]
theorem notin_take {α : Type} {l : List α} {i : Nat} {x n : α} (h : l[i]? = some x) (hn : n ∉ l.take i) (hx : x ≠ n) : n ∉ l.take (i + 1) := by
  rw [List.take_add_one, h]; simp only [Option.toList_some, List.mem_append, List.mem_singleton, not_or]
  exact ⟨hn, fun h => hx h.symm⟩
theorem ne_at {α : Type} {l m : List α} {i : Nat} {a b : α} (h1 : l[i]? = some a) (h2 : m[i]? = some b) (h : a ≠ b) : l ≠ m := by
  rintro rfl; rw [h1] at h2; exact h (Option.some.inj h2)

theorem fault_meets : Meets Try.prog 12 (Spec.pure faultG) := by
 refine meets_fun ((Env.empty T).at_ 8) Try.func12 rfl rfl rfl ?_
 intro args p r hg hp
 unfold faultG at hg
 split at hg
 ·rename_i c i
  simp only [Option.some.injEq, Prod.mk.injEq] at hg
  obtain ⟨rfl, rfl⟩ := hg
  have hT : ((Env.empty T)).X = T := rfl
  have hx0 := @Try.results12
  have hx := hx0
  refine ⟨by rfl, ?_⟩
  intro F W0 hnp hmk
  refine vc_seq_k fun N1 h1 => ?_
  refine u_reg ?_
  try refine lg_mk ?_
  refine u_al ?_
  refine lg_nil ?_
  refine h1 _ ?_; clear h1; try clear N1
  refine vc_seq_k fun N2 h2 => ?_
  refine u_reg ?_
  try refine lg_mk ?_
  refine u_mv ?_
  refine u_mv ?_
  refine u_bd ?_
  refine u_st ?_
  refine lg_nil ?_
  refine h2 _ ?_; clear h2; try clear N2
  refine vc_ret ?_
  try simp only [k_rules]
  refine fin2_ ?_
  exact cl_
 ·cases hg

def E_fault : Env Try.prog := (Env.empty T).add 12 (Spec.pure faultG) fault_meets (by kernel_rfl)

theorem in_meets : Meets Try.prog 21 (Spec.pure inG) := by
 refine meets_fun (E_fault.at_ 15) Try.func21 rfl rfl rfl ?_
 intro args p r hg hp
 unfold inG at hg
 split at hg
 ·rename_i n lo hi
  simp only [Option.some.injEq, Prod.mk.injEq] at hg
  obtain ⟨rfl, rfl⟩ := hg
  have hT : (E_fault).X = T := rfl
  have hx0 := @Try.results21
  have hx := hx0
  refine ⟨by rfl, ?_⟩
  intro F W0 hnp hmk
  refine vc_seq_k fun N1 h1 => ?_
  refine u_reg ?_
  try refine lg_mk ?_
  refine u_mv ?_
  refine lg_nil ?_
  refine h1 _ ?_; clear h1; try clear N1
  refine vc_seq_k fun N2 h2 => ?_
  refine u_reg ?_
  try refine lg_mk ?_
  refine u_mv ?_
  refine u_mv ?_
  refine u_bn ?_
  refine u_mv ?_
  refine g_mv ?_
  refine g_mv ?_
  refine g_bn ?_
  refine u_pk ?_
  refine u_mv ?_
  refine lg_nil ?_
  refine h2 _ ?_; clear h2; try clear N2
  refine vc_ret ?_
  try simp only [k_rules]
  refine fin2_ ?_
  exact cl_
 ·cases hg

def E_in : Env Try.prog := E_fault.add 21 (Spec.pure inG) in_meets (by kernel_rfl)

theorem has_meets : Meets Try.prog 24 (Spec.pure hasG) := by
 refine meets_fun (E_in.at_ 18) Try.func24 rfl rfl rfl ?_
 intro args p r hg hp
 unfold hasG at hg
 split at hg
 ·rename_i xs n
  simp only [Option.some.injEq, Prod.mk.injEq] at hg
  obtain ⟨rfl, rfl⟩ := hg
  obtain ⟨hx, hl⟩ := hp
  generalize dI xs = l at *
  subst hx
  have hT : (E_in).X = T := rfl
  have hx0 := @Try.results24
  have hx := hx0
  refine ⟨by rfl, ?_⟩
  intro F W0 hnp hmk
  refine vc_seq_k fun N1 h1 => ?_
  refine u_reg ?_
  try refine lg_mk ?_
  refine u_mv ?_
  refine lg_nil ?_
  refine h1 _ ?_; clear h1; try clear N1
  refine vc_seq_k fun N2 h2 => ?_
  refine vc_seq_k fun N3 h3 => ?_
  refine u_reg ?_
  try refine lg_mk ?_
  refine u_mv ?_
  refine lg_nil ?_
  refine h3 _ ?_; clear h3; try clear N3
  refine vc_block ?_
  refine vc_loop_mk (σ := Nat) (fun s => (fun i => i ≤ l.length ∧ n ∉ l.take i) s)
   (fun s => (fun i => [(0, .d (.sl (rows eI l))), (1, .d (.int .i64 n)), (5, .d (.int .i64 (i : Nat)))]) s)
   (fun s => (fun i => []) s) (fun s => (fun i => l.length - i) s) hnp 0 ?_ [] ?_ ?_
  ·dsimp only
   simp
  ·dsimp only
   refine ⟨by rfl, ?_, ?_⟩
   ·refine fin_ ?_
    exact cl_
   ·refine fin_ ?_
    exact cl_
  ·rintro i hinv N4 h4
   dsimp only at hinv ⊢
   obtain ⟨i1, i2⟩ := hinv
   refine vc_seq_k fun N5 h5 => ?_
   refine vc_seq_k fun N6 h6 => ?_
   refine u_reg ?_
   try refine lg_mk ?_
   refine u_mv ?_
   refine u_mv ?_
   refine u_ln ?_
   refine u_bn ?_
   refine lg_nil ?_
   refine h6 _ ?_; clear h6; try clear N6
   refine u_cond (fun hb7 => ?_) (fun hb7 => ?_)
   ·obtain ⟨x, hxe⟩ := getE (l := l) (i := i) (by omega)
    refine vc_skip ?_
    try simp only [k_rules]
    refine h5 _ ?_; clear h5; try clear N5
    refine vc_seq_k fun N8 h8 => ?_
    refine vc_block ?_
    refine vc_seq_k fun N9 h9 => ?_
    have hx := And.intro @hxe (And.intro @eI.eq_1 hx0)
    refine u_reg ?_
    try refine lg_mk ?_
    refine u_mv ?_
    refine u_mv ?_
    refine u_pt ?_
    refine u_ld ?_
    refine u_mv ?_
    refine u_bn ?_
    refine lg_nil ?_
    have hx := hx0
    refine h9 _ ?_; clear h9; try clear N9
    refine u_cond (fun hb10 => ?_) (fun hb10 => ?_)
    ·have he := hb10
     refine vc_seq_k fun N11 h11 => ?_
     refine u_reg ?_
     try refine lg_mk ?_
     refine u_mv ?_
     refine lg_nil ?_
     refine h11 _ ?_; clear h11; try clear N11
     refine vc_ret ?_
     try simp only [k_rules]
     have hr : decide (n ∈ l) = true := decide_eq_true (by rw [← he]; exact mem_at hxe)
     rw [hr]
     refine fin2_ ?_
     exact cl_
    ·have he := hb10
     refine vc_skip ?_
     try simp only [k_rules]
     refine h8 _ ?_; clear h8; try clear N8
     refine u_reg ?_
     try refine lg_mk ?_
     refine u_mv ?_
     refine u_bn ?_
     refine u_mv ?_
     refine lg_nil ?_
     refine h4 _ ⟨i + 1, ?_, ?_, [], ?_⟩
     ·dsimp only
      exact ⟨by omega, notin_take hxe i2 (by simpa using he)⟩
     ·dsimp only
      omega
     ·dsimp only
      refine ⟨by rfl, ?_, ?_⟩
      ·refine fin_ ?_
       exact cl_
      ·refine fin_ ?_
       exact cl_
   ·refine vc_exit ?_
    simp only [k_rules, Nat.reduceEqDiff, reduceIte, eq_self]
    refine h2 _ ?_; clear h2; try clear N2
    refine vc_seq_k fun N12 h12 => ?_
    refine u_reg ?_
    try refine lg_mk ?_
    refine u_mv ?_
    refine lg_nil ?_
    refine h12 _ ?_; clear h12; try clear N12
    refine vc_ret ?_
    try simp only [k_rules]
    have hr : decide (n ∈ l) = false := decide_eq_false (by rwa [List.take_of_length_le (by omega)] at i2)
    rw [hr]
    refine fin2_ ?_
    exact cl_
 ·cases hg

def E_has : Env Try.prog := E_in.add 24 (Spec.pure hasG) has_meets (by kernel_rfl)

theorem ints_meets : Meets Try.prog 19 (Spec.pure intsG) := by
 refine meets_fun (E_has.at_ 26) Try.func19 rfl rfl rfl ?_
 intro args p r hg hp
 unfold intsG at hg
 split at hg
 ·rename_i xs ys
  simp only [Option.some.injEq, Prod.mk.injEq] at hg
  obtain ⟨rfl, rfl⟩ := hg
  obtain ⟨hx, hy, hl, hm⟩ := hp
  generalize dI xs = l at *
  generalize dI ys = m at *
  subst hx hy
  have hT : (E_has).X = T := rfl
  have hx0 := @Try.results19
  have hx := hx0
  refine ⟨by rfl, ?_⟩
  intro F W0 hnp hmk
  refine vc_seq_k fun N1 h1 => ?_
  refine u_reg ?_
  try refine lg_mk ?_
  refine u_mv ?_
  refine lg_nil ?_
  refine h1 _ ?_; clear h1; try clear N1
  refine vc_seq_k fun N2 h2 => ?_
  refine vc_seq_k fun N3 h3 => ?_
  refine u_reg ?_
  try refine lg_mk ?_
  refine u_mv ?_
  refine u_ln ?_
  refine u_mv ?_
  refine u_ln ?_
  refine u_bn ?_
  refine lg_nil ?_
  refine h3 _ ?_; clear h3; try clear N3
  refine u_cond (fun hb4 => ?_) (fun hb4 => ?_)
  ·refine vc_seq_k fun N5 h5 => ?_
   refine u_reg ?_
   try refine lg_mk ?_
   refine u_mv ?_
   refine lg_nil ?_
   refine h5 _ ?_; clear h5; try clear N5
   refine vc_ret ?_
   try simp only [k_rules]
   have hr : decide (l = m) = false := decide_eq_false (fun h => by subst h; omega)
   rw [hr]
   refine fin2_ ?_
   exact cl_
  ·refine vc_skip ?_
   try simp only [k_rules]
   refine h2 _ ?_; clear h2; try clear N2
   refine vc_seq_k fun N6 h6 => ?_
   refine vc_seq_k fun N7 h7 => ?_
   refine u_reg ?_
   try refine lg_mk ?_
   refine u_mv ?_
   refine lg_nil ?_
   refine h7 _ ?_; clear h7; try clear N7
   refine vc_block ?_
   refine vc_loop_mk (σ := Nat) (fun s => (fun i => l.length = m.length ∧ i ≤ l.length ∧ l.take i = m.take i) s)
    (fun s => (fun i => [(0, .d (.sl (rows eI l))), (1, .d (.sl (rows eI m))), (5, .d (.int .i64 (i : Nat)))]) s)
    (fun s => (fun i => []) s) (fun s => (fun i => l.length - i) s) hnp 0 ?_ [] ?_ ?_
   ·dsimp only
    refine ⟨by omega, by omega, rfl⟩
   ·dsimp only
    refine ⟨by rfl, ?_, ?_⟩
    ·refine fin_ ?_
     exact cl_
    ·refine fin_ ?_
     exact cl_
   ·rintro i hinv N8 h8
    dsimp only at hinv ⊢
    obtain ⟨i1, i2, i3⟩ := hinv
    refine vc_seq_k fun N9 h9 => ?_
    refine vc_seq_k fun N10 h10 => ?_
    refine u_reg ?_
    try refine lg_mk ?_
    refine u_mv ?_
    refine u_mv ?_
    refine u_ln ?_
    refine u_bn ?_
    refine lg_nil ?_
    refine h10 _ ?_; clear h10; try clear N10
    refine u_cond (fun hb11 => ?_) (fun hb11 => ?_)
    ·obtain ⟨a, ha⟩ := getE (l := l) (i := i) (by omega)
     obtain ⟨c, hc⟩ := getE (l := m) (i := i) (by omega)
     refine vc_skip ?_
     try simp only [k_rules]
     refine h9 _ ?_; clear h9; try clear N9
     refine vc_seq_k fun N12 h12 => ?_
     refine vc_block ?_
     refine vc_seq_k fun N13 h13 => ?_
     have hx := And.intro @ha (And.intro @hc (And.intro @eI.eq_1 hx0))
     refine u_reg ?_
     try refine lg_mk ?_
     refine u_mv ?_
     refine u_mv ?_
     refine u_pt ?_
     refine u_ld ?_
     refine u_mv ?_
     refine u_mv ?_
     refine u_pt ?_
     refine u_ld ?_
     refine u_bn ?_
     refine lg_nil ?_
     have hx := hx0
     refine h13 _ ?_; clear h13; try clear N13
     refine u_cond (fun hb14 => ?_) (fun hb14 => ?_)
     ·have hne := hb14
      refine vc_seq_k fun N15 h15 => ?_
      refine u_reg ?_
      try refine lg_mk ?_
      refine u_mv ?_
      refine lg_nil ?_
      refine h15 _ ?_; clear h15; try clear N15
      refine vc_ret ?_
      try simp only [k_rules]
      have hr : decide (l = m) = false := decide_eq_false (ne_at ha hc (by simpa using hne))
      rw [hr]
      refine fin2_ ?_
      exact cl_
     ·have hne := hb14
      refine vc_skip ?_
      try simp only [k_rules]
      refine h12 _ ?_; clear h12; try clear N12
      refine u_reg ?_
      try refine lg_mk ?_
      refine u_mv ?_
      refine u_bn ?_
      refine u_mv ?_
      refine lg_nil ?_
      refine h8 _ ⟨i + 1, ?_, ?_, [], ?_⟩
      ·dsimp only
       refine ⟨i1, by omega, ?_⟩
       have he : a = c := by simpa using hne
       subst he
       exact take_at ha hc i3
      ·dsimp only
       omega
      ·dsimp only
       refine ⟨by rfl, ?_, ?_⟩
       ·refine fin_ ?_
        exact cl_
       ·refine fin_ ?_
        exact cl_
    ·refine vc_exit ?_
     simp only [k_rules, Nat.reduceEqDiff, reduceIte, eq_self]
     refine h6 _ ?_; clear h6; try clear N6
     refine vc_seq_k fun N16 h16 => ?_
     refine u_reg ?_
     try refine lg_mk ?_
     refine u_mv ?_
     refine lg_nil ?_
     refine h16 _ ?_; clear h16; try clear N16
     refine vc_ret ?_
     try simp only [k_rules]
     have hr : decide (l = m) = true := decide_eq_true (by rw [List.take_of_length_le (by omega), List.take_of_length_le (by omega)] at i3; exact i3)
     rw [hr]
     refine fin2_ ?_
     exact cl_
 ·cases hg

def E_ints : Env Try.prog := E_has.add 19 (Spec.pure intsG) ints_meets (by kernel_rfl)

/-- A set of numbers below n, as a row of bits. -/
def vec (n : Nat) (f : Nat → Bool) : List Bool := (List.range n).map f
def setB (f : Nat → Bool) (k : Nat) (b : Bool) : Nat → Bool := fun j => if j = k then b else f j
theorem vec_len (n : Nat) (f : Nat → Bool) : (vec n f).length = n := by simp [vec]
theorem vec_get {n : Nat} {f : Nat → Bool} {k : Nat} (h : k < n) : (vec n f)[k]? = some (f k) := by simp [vec, List.getElem?_range h]
theorem vec_ext {n : Nat} {f g : Nat → Bool} (h : ∀ k, k < n → f k = g k) : vec n f = vec n g := List.map_congr_left fun k hk => h k (List.mem_range.1 hk)
theorem vec_set {n : Nat} {f : Nat → Bool} {k : Nat} {b : Bool} : (vec n f).set k b = vec n (setB f k b) := by
  apply List.ext_getElem?
  intro i
  rw [List.getElem?_set, vec_len]
  by_cases hi : i < n
  · rw [vec_get hi, vec_get hi]
    by_cases hk : k = i
    · subst hk; rw [if_pos rfl, if_pos hi]; simp [setB]
    · rw [if_neg hk]; simp only [setB]; rw [if_neg (fun h => hk h.symm)]
  · rw [List.getElem?_eq_none (l := vec n f) (by rw [vec_len]; omega), List.getElem?_eq_none (l := vec n (setB f k b)) (by rw [vec_len]; omega)]
    split
    · rw [if_neg (by omega)]
    · rfl
theorem vec_false (n : Nat) : vec n (fun _ => false) = List.replicate n false := by
  apply List.ext_getElem?
  intro i
  by_cases hi : i < n
  · rw [vec_get hi, List.getElem?_replicate, if_pos hi]
  · rw [List.getElem?_eq_none (by rw [vec_len]; omega), List.getElem?_eq_none (by simp; omega)]
/-- Its members, in order. -/
def lst (n : Nat) (f : Nat → Bool) : List Int := ((List.range n).filter f).map fun (k : Nat) => (k : Int)
theorem lst_mem {n : Nat} {f : Nat → Bool} {x : Int} : x ∈ lst n f ↔ ∃ k : Nat, k < n ∧ f k = true ∧ x = k := by
  simp only [lst, List.mem_map, List.mem_filter, List.mem_range]
  exact ⟨fun ⟨k, ⟨h1, h2⟩, h3⟩ => ⟨k, h1, h2, h3.symm⟩, fun ⟨k, h1, h2, h3⟩ => ⟨k, ⟨h1, h2⟩, h3.symm⟩⟩
theorem lst_succ (n : Nat) (f : Nat → Bool) : lst (n + 1) f = lst n f ++ if f n = true then [(n : Int)] else [] := by
  simp only [lst, List.range_succ, List.filter_append, List.map_append]
  by_cases h : f n = true
  · simp [h]
  · simp [h]
theorem lst_zero (f : Nat → Bool) : lst 0 f = [] := rfl
theorem lst_ext {n : Nat} {f g : Nat → Bool} (h : ∀ k, k < n → f k = g k) : lst n f = lst n g := by
  induction n with
  | zero => rfl
  | succ n ih => rw [lst_succ, lst_succ, ih fun k hk => h k (by omega), h n (by omega)]
theorem lst_len (n : Nat) (f : Nat → Bool) : (lst n f).length ≤ n := by
  simp only [lst, List.length_map]
  exact Nat.le_trans (List.length_filter_le ..) (by simp)
theorem lst_sorted (n : Nat) (f : Nat → Bool) : (lst n f).Pairwise (· < ·) := by
  induction n with
  | zero => exact List.Pairwise.nil
  | succ n ih =>
    rw [lst_succ]
    split
    · refine List.pairwise_append.2 ⟨ih, List.pairwise_singleton _ _, fun a ha b hb => ?_⟩
      obtain ⟨k, h1, _, rfl⟩ := lst_mem.1 ha
      rw [List.mem_singleton.1 hb]; omega
    · rwa [List.append_nil]
/-- Sorted lists with the same members are the same. -/
theorem sorted_ext : ∀ {l m : List Int}, l.Pairwise (· < ·) → m.Pairwise (· < ·) → (∀ x, x ∈ l ↔ x ∈ m) → l = m := by
  intro l
  induction l with
  | nil =>
    intro m _ _ h
    cases m with
    | nil => rfl
    | cons b m => exact absurd ((h b).2 (by simp)) (by simp)
  | cons a l ih =>
    intro m hl hm h
    cases m with
    | nil => exact absurd ((h a).1 (by simp)) (by simp)
    | cons b m =>
      have hl' := List.pairwise_cons.1 hl
      have hm' := List.pairwise_cons.1 hm
      have hab : a = b := by
        have h1 := (h a).1 (by simp)
        have h2 := (h b).2 (by simp)
        rcases List.mem_cons.1 h1 with h1 | h1
        · exact h1
        · rcases List.mem_cons.1 h2 with h2 | h2
          · exact h2.symm
          · have := hm'.1 a h1; have := hl'.1 b h2; omega
      subst hab
      refine congrArg _ (ih hl'.2 hm'.2 fun x => ⟨fun hx => ?_, fun hx => ?_⟩)
      · rcases List.mem_cons.1 ((h x).1 (by simp [hx])) with h' | h'
        · have := hl'.1 x hx; omega
        · exact h'
      · rcases List.mem_cons.1 ((h x).2 (by simp [hx])) with h' | h'
        · have := hm'.1 x hx; omega
        · exact h'
/-- A sorted list with one more number. -/
def ins (l : List Int) (n : Int) : List Int := if n ∈ l then l else l.takeWhile (fun x => decide (x < n)) ++ n :: l.dropWhile (fun x => decide (x < n))
theorem ins_at {l : List Int} {n : Int} {k : Nat} (hn : n ∉ l) (h : ∀ x ∈ l.take k, x < n) (hk : k = l.length ∨ ∃ x, l[k]? = some x ∧ ¬x < n) : ins l n = l.take k ++ n :: l.drop k := by
  have key : l.takeWhile (fun x => decide (x < n)) = l.take k ∧ l.dropWhile (fun x => decide (x < n)) = l.drop k := by
    clear hn
    induction l generalizing k with
    | nil => simp
    | cons a l ih =>
      cases k with
      | zero =>
        rcases hk with hk | ⟨x, hx, hxn⟩
        · simp at hk
        · simp only [List.getElem?_cons_zero, Option.some.injEq] at hx
          subst hx
          simp [List.takeWhile_cons, List.dropWhile_cons, hxn]
      | succ k =>
        have ha : a < n := h a (by simp)
        have := ih (k := k) (fun x hx => h x (by simp [hx])) (by simpa using hk)
        simp [List.takeWhile_cons, List.dropWhile_cons, ha, this.1, this.2]
  unfold ins; rw [if_neg hn, key.1, key.2]
theorem ins_mem {l : List Int} {n x : Int} : x ∈ ins l n ↔ x = n ∨ x ∈ l := by
  unfold ins
  split
  · rename_i h
    exact ⟨.inr, fun h' => by rcases h' with rfl | h'; exact h; exact h'⟩
  · rw [List.mem_append, List.mem_cons]
    have := List.takeWhile_append_dropWhile (p := fun x => decide (x < n)) (l := l)
    conv => rhs; rw [← this, List.mem_append]
    constructor
    · rintro (h | h | h)
      · exact .inr (.inl h)
      · exact .inl h
      · exact .inr (.inr h)
    · rintro (h | h | h)
      · exact .inr (.inl h)
      · exact .inl h
      · exact .inr (.inr h)
theorem ins_sorted {l : List Int} {n : Int} (h : l.Pairwise (· < ·)) : (ins l n).Pairwise (· < ·) := by
  unfold ins
  split
  · exact h
  · rename_i hn
    induction l with
    | nil => simp
    | cons a l ih =>
      have ha := List.pairwise_cons.1 h
      simp only [List.mem_cons, not_or] at hn
      by_cases hlt : a < n
      · simp only [List.takeWhile_cons, List.dropWhile_cons, hlt, decide_true, if_true, List.cons_append]
        refine List.pairwise_cons.2 ⟨fun x hx => ?_, ih ha.2 hn.2⟩
        rcases List.mem_append.1 hx with hx | hx
        · exact ha.1 x ((List.takeWhile_sublist _).subset hx)
        · rcases List.mem_cons.1 hx with rfl | hx
          · exact hlt
          · exact ha.1 x ((List.dropWhile_sublist _).subset hx)
      · simp only [List.takeWhile_cons, List.dropWhile_cons, hlt, decide_false, List.nil_append, Bool.false_eq_true, if_false]
        refine List.pairwise_cons.2 ⟨fun x hx => ?_, h⟩
        rcases List.mem_cons.1 hx with rfl | hx
        · omega
        · have := ha.1 x hx; omega
theorem ins_len {l : List Int} {n : Int} : (ins l n).length ≤ l.length + 1 := by
  unfold ins
  split
  · omega
  · rw [List.length_append, List.length_cons]
    have := congrArg List.length (List.takeWhile_append_dropWhile (p := fun x => decide (x < n)) (l := l))
    rw [List.length_append] at this; omega
theorem ins_lst {n : Nat} {f : Nat → Bool} {p : Int} (h0 : 0 ≤ p) (h : p < n) : ins (lst n f) p = lst n (setB f p.toNat true) := by
  refine sorted_ext (ins_sorted (lst_sorted _ _)) (lst_sorted _ _) fun x => ?_
  rw [ins_mem, lst_mem, lst_mem]
  constructor
  · rintro (rfl | ⟨k, h1, h2, rfl⟩)
    · exact ⟨x.toNat, by omega, by simp [setB], by omega⟩
    · refine ⟨k, h1, ?_, rfl⟩; unfold setB; split; rfl; exact h2
  · rintro ⟨k, h1, h2, rfl⟩
    unfold setB at h2
    split at h2
    · left; omega
    · right; exact ⟨k, h1, h2, rfl⟩
/-- The set of a list's numbers. -/
def mark (ns : List Int) : Nat → Bool := fun k => decide ((k : Int) ∈ ns)
theorem mark_set {n : Nat} {ns : List Int} {j : Nat} {x : Int} (h : ns[j]? = some x) (h0 : 0 ≤ x) : (vec n (mark (ns.take j))).set x.toNat true = vec n (mark (ns.take (j + 1))) := by
  rw [vec_set]
  refine vec_ext fun k _ => ?_
  simp only [setB, mark, List.take_add_one, h, Option.toList_some, List.mem_append, List.mem_singleton]
  split
  · rename_i hk; rw [hk]; symm; rw [decide_eq_true_eq]; right; omega
  · rename_i hk; apply decide_eq_decide.2; constructor
    · exact .inl
    · rintro (h | h); exact h; omega

/-- A commit. -/
structure Cm where
  par : List Int
  au : Int
  ti : Int
  tr : Int
  ms : List UInt8
  deriving DecidableEq, Inhabited
def eC (c : Cm) : List D := [.sl (rows eI c.par), .int .i64 c.au, .int .i64 c.ti, .int .i64 c.tr, .str c.ms]
def dC1 (x : List D) : Cm := match x with
  | [.sl p, .int _ a, .int _ t, .int _ r, .str s] => ⟨dI p, a, t, r, s⟩
  | _ => ⟨[], 0, 0, 0, []⟩
def dC : List (List D) → List Cm := List.map dC1
theorem dC_rows (l : List Cm) : dC (rows eC l) = l := by
  simp only [dC, rows, List.map_map]
  conv => rhs; rw [← List.map_id l]
  refine List.map_congr_left fun c _ => ?_
  simp only [Function.comp, eC, dC1, dI_rows, id]
theorem rect_eC (l : List Cm) : Rect 5 (rows eC l) := rows_rect (f := eC) (fun _ => rfl) l
/-- The first of n places whose value is not nought. -/
def scan (f : Nat → Int) : Nat → Int
  | 0 => 0
  | n + 1 => if scan f n ≠ 0 then scan f n else f n
theorem scan_none {f : Nat → Int} {n : Nat} (h : ∀ j, j < n → f j = 0) : scan f n = 0 := by
  induction n with
  | zero => rfl
  | succ n ih => rw [scan, ih fun j hj => h j (by omega), if_neg (by simp), h n (by omega)]
theorem scan_hit {f : Nat → Int} {k n : Nat} (hk : k < n) (h : ∀ j, j < k → f j = 0) (hf : f k ≠ 0) : scan f n = f k := by
  induction n with
  | zero => omega
  | succ n ih =>
    rw [scan]
    by_cases hkn : k = n
    · subst hkn; rw [scan_none h, if_neg (by simp)]
    · have := ih (by omega); rw [this, if_pos hf]
theorem scan_zero {f : Nat → Int} {n : Nat} (h : scan f n = 0) : ∀ j, j < n → f j = 0 := by
  induction n with
  | zero => intro j hj; omega
  | succ n ih =>
    rw [scan] at h
    split at h
    · rename_i h'; exact absurd h h'
    · rename_i h'
      simp only [ne_eq, Decidable.not_not] at h'
      intro j hj
      by_cases hjn : j = n
      · subst hjn; exact h
      · exact ih h' j (by omega)
/-- The same for pairs: what counts is the first number. -/
def scanW (f : Nat → Int × Int) : Nat → Int × Int
  | 0 => (0, 0)
  | n + 1 => if (scanW f n).1 ≠ 0 then scanW f n else if (f n).1 ≠ 0 then f n else (0, 0)
theorem scanW_none {f : Nat → Int × Int} {n : Nat} (h : ∀ j, j < n → (f j).1 = 0) : scanW f n = (0, 0) := by
  induction n with
  | zero => rfl
  | succ n ih => rw [scanW, ih fun j hj => h j (by omega), if_neg (by simp), if_neg (by simp [h n (by omega)])]
theorem scanW_hit {f : Nat → Int × Int} {k n : Nat} (hk : k < n) (h : ∀ j, j < k → (f j).1 = 0) (hf : (f k).1 ≠ 0) : scanW f n = f k := by
  induction n with
  | zero => omega
  | succ n ih =>
    rw [scanW]
    by_cases hkn : k = n
    · subst hkn; rw [scanW_none h, if_neg (by simp), if_pos hf]
    · have := ih (by omega); rw [this, if_pos hf]
theorem scanW_zero {f : Nat → Int × Int} {n : Nat} (h : (scanW f n).1 = 0) : ∀ j, j < n → (f j).1 = 0 := by
  induction n with
  | zero => intro j hj; omega
  | succ n ih =>
    rw [scanW] at h
    split at h
    · rename_i h'; exact absurd h h'
    · rename_i h'
      simp only [ne_eq, Decidable.not_not] at h'
      intro j hj
      by_cases hjn : j = n
      · subst hjn
        split at h
        · rename_i h2; exact absurd h h2
        · rename_i h2; simpa using h2
      · exact ih h' j (by omega)
theorem scanW_fst {f : Nat → Int × Int} {n : Nat} (h : (scanW f n).1 = 0) : scanW f n = (0, 0) := scanW_none (scanW_zero h)
/-- A parent's fault. -/
def parAt (l : List Int) (i : Int) (k : Nat) : Int :=
  if ¬(0 ≤ l.getD k 0 ∧ l.getD k 0 < i) then 3 else if 0 < k ∧ l.getD k 0 ≤ l.getD (k - 1) 0 then 5 else 0
/-- A commit's fault. -/
def cmF (c : Cm) (i : Int) : Int :=
  if 3 < c.par.length then 2 else if scan (parAt c.par i) c.par.length ≠ 0 then scan (parAt c.par i) c.par.length
  else if ¬(0 ≤ c.au ∧ c.au ≤ 7) ∨ ¬(0 ≤ c.ti ∧ c.ti ≤ 100000) ∨ ¬(0 ≤ c.tr ∧ c.tr < 2305843009213693951) then 3 else if 80 < c.ms.length then 10 else 0
def histF (l : List Cm) : Int × Int := if 60 < l.length then (2, -1) else scanW (fun i => (cmF (l.getD i default) i, (i : Int))) l.length
/-- A valid history. -/
structure Valid (l : List Cm) : Prop where
  len : l.length ≤ 60
  few : ∀ {i : Nat} {c : Cm}, l[i]? = some c → c.par.length ≤ 3
  par : ∀ {i : Nat} {c : Cm}, l[i]? = some c → ∀ {k : Nat} {p : Int}, c.par[k]? = some p → 0 ≤ p ∧ p < i
  inc : ∀ {i : Nat} {c : Cm}, l[i]? = some c → ∀ {k : Nat} {p q : Int}, c.par[k]? = some p → c.par[k + 1]? = some q → p < q
  nums : ∀ {i : Nat} {c : Cm}, l[i]? = some c → (0 ≤ c.au ∧ c.au ≤ 7) ∧ (0 ≤ c.ti ∧ c.ti ≤ 100000) ∧ (0 ≤ c.tr ∧ c.tr < 2305843009213693951) ∧ c.ms.length ≤ 80
theorem getD_of {α : Type} {l : List α} {i : Nat} {c d : α} (h : l[i]? = some c) : l.getD i d = c := by simp [List.getD, h]
theorem cmF_zero {c : Cm} {i : Int} (h : cmF c i = 0) : c.par.length ≤ 3 ∧ (∀ k, k < c.par.length → parAt c.par i k = 0) ∧ (0 ≤ c.au ∧ c.au ≤ 7) ∧ (0 ≤ c.ti ∧ c.ti ≤ 100000) ∧ (0 ≤ c.tr ∧ c.tr < 2305843009213693951) ∧ c.ms.length ≤ 80 := by
  unfold cmF at h
  split at h
  · cases h
  · rename_i h1
    split at h
    · rename_i h2; exact absurd h h2
    · rename_i h2
      split at h
      · cases h
      · rename_i h3
        split at h
        · cases h
        · rename_i h4
          have h5 := scan_zero (by simpa using h2)
          have h3' : (0 ≤ c.au ∧ c.au ≤ 7) ∧ (0 ≤ c.ti ∧ c.ti ≤ 100000) ∧ (0 ≤ c.tr ∧ c.tr < 2305843009213693951) := by omega
          exact ⟨by omega, h5, h3'.1, h3'.2.1, h3'.2.2, by omega⟩
theorem valid_of {l : List Cm} (h : (histF l).1 = 0) : Valid l := by
  unfold histF at h
  split at h
  · cases h
  · rename_i hl
    have hz := scanW_zero h
    have key : ∀ {i : Nat} {c : Cm}, l[i]? = some c → cmF c i = 0 := fun {i c} hc => by
      have hi := (List.getElem?_eq_some_iff.1 hc).1
      have := hz i hi
      simp only [getD_of hc] at this
      exact this
    refine ⟨by omega, fun hc => (cmF_zero (key hc)).1, fun {i c} hc {k p} hp => ?_, fun {i c} hc {k p q} hp hq => ?_, fun hc => (cmF_zero (key hc)).2.2⟩
    · have h1 := (cmF_zero (key hc)).2.1 k (List.getElem?_eq_some_iff.1 hp).1
      unfold parAt at h1
      rw [getD_of hp] at h1
      split at h1
      · cases h1
      · rename_i h2; exact Decidable.not_not.1 h2
    · have h1 := (cmF_zero (key hc)).2.1 (k + 1) (List.getElem?_eq_some_iff.1 hq).1
      unfold parAt at h1
      rw [Nat.add_sub_cancel, getD_of hp, getD_of hq] at h1
      split at h1
      · cases h1
      · split at h1
        · cases h1
        · rename_i h3; omega
theorem histF_zero {l : List Cm} (h : (histF l).1 = 0) : histF l = (0, 0) := by
  unfold histF at *
  split at h
  · cases h
  · rename_i hl; rw [if_neg hl]; exact scanW_fst h

theorem any_snoc {α : Type} {l : List α} {i : Nat} {x : α} (h : l[i]? = some x) (P : α → Bool) : (l.take (i + 1)).any P = ((l.take i).any P || P x) := by
  rw [List.take_add_one, h, List.any_append]; simp

/-- Ancestors: a commit, its parents, and theirs. -/
inductive Anc (l : List Cm) : Nat → Nat → Prop
  | refl (i : Nat) : Anc l i i
  | step {i j k : Nat} (hp : (j : Int) ∈ (l.getD i default).par) (h' : Anc l j k) : Anc l i k
def ancF (l : List Cm) : Nat → Nat → Nat → Bool
  | 0, i, k => decide (i = k)
  | n + 1, i, k => decide (i = k) || (l.getD i default).par.any fun p => ancF l n p.toNat k
def ancB (l : List Cm) (i k : Nat) : Bool := ancF l i i k
theorem Anc.trans {l : List Cm} {i j k : Nat} (h : Anc l i j) (h' : Anc l j k) : Anc l i k := by
  induction h with
  | refl i => exact h'
  | step hp _ ih => exact .step hp (ih h')
theorem Anc.snoc {l : List Cm} {i j k : Nat} (h : Anc l i j) (hp : (k : Int) ∈ (l.getD j default).par) : Anc l i k := h.trans (.step hp (.refl k))
theorem getD_ge {l : List Cm} {i : Nat} (h : l.length ≤ i) : l.getD i default = default := by simp [List.getD, List.getElem?_eq_none h]
theorem Valid.parD {l : List Cm} (hv : Valid l) {i : Nat} {p : Int} (hp : p ∈ (l.getD i default).par) : 0 ≤ p ∧ p < i ∧ i < l.length := by
  rcases Nat.lt_or_ge i l.length with h | h
  · obtain ⟨c, hc⟩ := getE h
    rw [getD_of hc] at hp
    obtain ⟨k, hk⟩ := List.getElem?_of_mem hp
    have := hv.par hc hk
    omega
  · rw [getD_ge h, show (default : Cm).par = [] from rfl] at hp; exact absurd hp (by simp)
theorem ancF_anc {l : List Cm} (hv : Valid l) : ∀ {n i k : Nat}, ancF l n i k = true → Anc l i k := by
  intro n
  induction n with
  | zero => intro i k h; simp only [ancF, decide_eq_true_eq] at h; subst h; exact .refl i
  | succ n ih =>
    intro i k h
    simp only [ancF, Bool.or_eq_true, decide_eq_true_eq, List.any_eq_true] at h
    rcases h with h | ⟨p, hp, h⟩
    · subst h; exact .refl i
    · have := hv.parD hp
      exact .step (j := p.toNat) (by rw [show ((p.toNat : Nat) : Int) = p by omega]; exact hp) (ih h)
theorem anc_ancF {l : List Cm} (hv : Valid l) {i k : Nat} (h : Anc l i k) : ∀ n, i ≤ n → ancF l n i k = true := by
  induction h with
  | refl i => intro n _; cases n <;> simp [ancF]
  | @step i j k hp _ ih =>
    intro n hn
    have := hv.parD hp
    cases n with
    | zero => omega
    | succ n =>
      simp only [ancF, Bool.or_eq_true, List.any_eq_true]
      exact .inr ⟨_, hp, by simpa using ih n (by omega)⟩
theorem anc_iff {l : List Cm} (hv : Valid l) {i k : Nat} : ancB l i k = true ↔ Anc l i k := ⟨ancF_anc hv, fun h => anc_ancF hv h i (Nat.le_refl i)⟩
theorem Anc.le {l : List Cm} (hv : Valid l) {i k : Nat} (h : Anc l i k) : k ≤ i := by
  induction h with
  | refl i => exact Nat.le_refl i
  | step hp _ ih => have := hv.parD hp; omega
theorem Anc.cases' {l : List Cm} {i k : Nat} (h : Anc l i k) : i = k ∨ ∃ j : Nat, (j : Int) ∈ (l.getD i default).par ∧ Anc l j k := by
  cases h with
  | refl => exact .inl rfl
  | step hp h' => exact .inr ⟨_, hp, h'⟩
theorem Anc.last {l : List Cm} {i k : Nat} (h : Anc l i k) : i = k ∨ ∃ j : Nat, Anc l i j ∧ (k : Int) ∈ (l.getD j default).par := by
  induction h with
  | refl i => exact .inl rfl
  | @step i j k hp h' ih =>
    rcases ih with rfl | ⟨m, h1, h2⟩
    · exact .inr ⟨i, .refl i, hp⟩
    · exact .inr ⟨m, .step hp h1, h2⟩
/-- A commit's row: what is done at place k of it, with j parents. -/
theorem ancB_step {l : List Cm} (hv : Valid l) {i k : Nat} (h : k < i) : ancB l i k = (l.getD i default).par.any fun p => ancB l p.toNat k := by
  rw [Bool.eq_iff_iff, anc_iff hv, List.any_eq_true]
  constructor
  · intro ha
    rcases ha.cases' with rfl | ⟨j, hj, ha⟩
    · omega
    · exact ⟨_, hj, by rw [anc_iff hv]; simpa using ha⟩
  · rintro ⟨p, hp, ha⟩
    have := hv.parD hp
    rw [anc_iff hv] at ha
    exact .step (j := p.toNat) (by rw [show ((p.toNat : Nat) : Int) = p by omega]; exact hp) ha
theorem ancB_self {l : List Cm} (hv : Valid l) (i : Nat) : ancB l i i = true := (anc_iff hv).2 (.refl i)
theorem ancB_gt {l : List Cm} (hv : Valid l) {i k : Nat} (h : i < k) : ancB l i k = false := by
  rw [Bool.eq_false_iff]; intro ha
  have := ((anc_iff hv).1 ha).le hv; omega
def rowK (l : List Cm) (i k : Nat) : Nat → Bool := fun x => if x < k then ancB l i x else decide (x = i)
def rowJ (l : List Cm) (i k j : Nat) : Nat → Bool := fun x => if x = k then ((l.getD i default).par.take j).any fun p => ancB l p.toNat x else rowK l i k x
theorem row_zero {l : List Cm} (i : Nat) {n : Nat} : (vec n (mark [])).set i true = vec n (rowK l i 0) := by
  rw [vec_set]; refine vec_ext fun x _ => ?_
  simp only [setB, mark, rowK, Nat.not_lt_zero, if_false]
  split <;> simp_all
theorem rowJ_zero {l : List Cm} {i k : Nat} (h : k < i) : rowJ l i k 0 = rowK l i k := by
  funext x; unfold rowJ; split
  · rename_i hx; subst hx; unfold rowK; rw [if_neg (by omega)]; simp; omega
  · rfl
theorem rowJ_set {l : List Cm} {i k j : Nat} {c : Cm} {p : Int} (hc : l[i]? = some c) (hp : c.par[j]? = some p) {n : Nat} :
    (vec n (rowJ l i k j)).set k (rowJ l i k j k || ancB l p.toNat k) = vec n (rowJ l i k (j + 1)) := by
  rw [vec_set]; refine vec_ext fun x _ => ?_
  simp only [setB, rowJ]
  split
  · rename_i hx; subst hx; rw [if_pos trivial, getD_of hc, any_snoc hp]
  · rfl
theorem rowJ_all {l : List Cm} (hv : Valid l) {i k : Nat} {c : Cm} (hc : l[i]? = some c) (h : k < i) : rowJ l i k c.par.length = rowK l i (k + 1) := by
  funext x; unfold rowJ; split
  · rename_i hx; subst hx; unfold rowK; rw [if_pos (by omega), ancB_step hv h, getD_of hc, List.take_length]
  · rename_i hx; unfold rowK
    by_cases h1 : x < k
    · rw [if_pos h1, if_pos (by omega)]
    · rw [if_neg h1, if_neg (by omega)]
theorem rowK_all {l : List Cm} (hv : Valid l) {i n : Nat} : vec n (rowK l i i) = vec n (ancB l i) := by
  refine vec_ext fun x _ => ?_
  unfold rowK; split
  · rfl
  · by_cases h : x = i
    · subst h; rw [ancB_self hv]; simp
    · rw [ancB_gt hv (by omega)]; simp [h]
/-- All rows. -/
def ancR (l : List Cm) (m : Nat) : List (List Bool) := (List.range m).map fun i => vec l.length (ancB l i)
theorem ancR_len (l : List Cm) (m : Nat) : (ancR l m).length = m := by simp [ancR]
theorem ancR_get {l : List Cm} {m i : Nat} (h : i < m) : (ancR l m)[i]? = some (vec l.length (ancB l i)) := by simp [ancR, List.getElem?_range h]
theorem ancR_snoc (l : List Cm) (m : Nat) : ancR l (m + 1) = ancR l m ++ [vec l.length (ancB l m)] := by simp [ancR, List.range_succ]
def reachRG : List AV → Option (Prop × AV)
  | [.d (.sl xs)] => some (xs = rows eC (dC xs) ∧ Valid (dC xs), .d (.sl (rows (eL eB) (ancR (dC xs) (dC xs).length))))
  | _ => none

theorem vec_rep (n : Nat) : List.replicate n [D.bool false] = rows eB (vec n (mark [])) := by
  have : mark [] = fun _ => false := by funext k; simp [mark]
  rw [this, vec_false, rows, List.map_replicate]; rfl

theorem vec_take (n : Nat) (f : Nat → Bool) : (vec n f).take n = vec n f := List.take_of_length_le (by rw [vec_len]; exact Nat.le_refl _)

theorem cm_few {c : Cm} {i : Int} (h : 3 < c.par.length) : cmF c i = 2 := by unfold cmF; rw [if_pos h]
theorem cm_par {c : Cm} {i : Int} {k : Nat} (h0 : ¬3 < c.par.length) (hk : k < c.par.length) (h : ∀ j, j < k → parAt c.par i j = 0) {v : Int} (hv : parAt c.par i k = v) (hv0 : v ≠ 0) : cmF c i = v := by
  unfold cmF; rw [if_neg h0, scan_hit hk h (by rw [hv]; exact hv0), hv, if_pos hv0]
theorem cm_num {c : Cm} {i : Int} (h0 : ¬3 < c.par.length) (h : ∀ j, j < c.par.length → parAt c.par i j = 0) (hn : ¬(0 ≤ c.au ∧ c.au ≤ 7) ∨ ¬(0 ≤ c.ti ∧ c.ti ≤ 100000) ∨ ¬(0 ≤ c.tr ∧ c.tr < 2305843009213693951)) : cmF c i = 3 := by
  unfold cmF; rw [if_neg h0, scan_none h, if_neg (by simp), if_pos hn]
theorem cm_msg {c : Cm} {i : Int} (h0 : ¬3 < c.par.length) (h : ∀ j, j < c.par.length → parAt c.par i j = 0) (h1 : 0 ≤ c.au ∧ c.au ≤ 7) (h2 : 0 ≤ c.ti ∧ c.ti ≤ 100000) (h3 : 0 ≤ c.tr ∧ c.tr < 2305843009213693951) {v : Int} (hv : (if 80 < c.ms.length then (10 : Int) else 0) = v) : cmF c i = v := by
  unfold cmF; rw [if_neg h0, scan_none h, if_neg (by simp), if_neg (by omega), hv]
theorem par_3 {l : List Int} {i p : Int} {k : Nat} (h : l[k]? = some p) (h1 : p < 0 ∨ i ≤ p) : parAt l i k = 3 := by
  unfold parAt; rw [getD_of h, if_pos (by omega)]
theorem par_5 {l : List Int} {i p q : Int} {k : Nat} (h : l[k]? = some p) (hq : l[((k : Int) - 1).toNat]? = some q) (h1 : 0 ≤ p) (h2 : p < i) (hk : 0 < k) (hpq : p ≤ q) : parAt l i k = 5 := by
  have e : ((k : Int) - 1).toNat = k - 1 := by omega
  rw [e] at hq
  unfold parAt; rw [getD_of h, getD_of hq, if_neg (by omega), if_pos ⟨hk, hpq⟩]
theorem par_0 {l : List Int} {i p q : Int} {k : Nat} (h : l[k]? = some p) (hq : l[((k : Int) - 1).toNat]? = some q) (h1 : 0 ≤ p) (h2 : p < i) (hpq : 0 < k → q < p) : parAt l i k = 0 := by
  have e : ((k : Int) - 1).toNat = k - 1 := by omega
  rw [e] at hq
  unfold parAt; rw [getD_of h, getD_of hq, if_neg (by omega), if_neg (by rintro ⟨h3, h4⟩; have := hpq h3; omega)]
theorem lt_snoc {P : Nat → Prop} {k : Nat} (h : ∀ j, j < k → P j) (hk : P k) : ∀ j, j < k + 1 → P j := fun j hj => by
  rcases Nat.lt_or_ge j k with h' | h'
  · exact h j h'
  · have : j = k := by omega
    subst this; exact hk
/-- All its commits' sizes. -/
def smallC (l : List Cm) : Prop := ∀ c ∈ l, c.par.length ≤ 9223372036854775807 ∧ c.ms.length ≤ 9223372036854775807
def checkG : List AV → Option (Prop × AV)
  | [.agg [.d (.sl ps), .d (.int .i64 a), .d (.int .i64 t), .d (.int .i64 r), .d (.str s)], .d (.int .i64 i)] => some (ps = rows eI (dI ps) ∧ (dI ps).length ≤ 9223372036854775807 ∧ s.length ≤ 9223372036854775807, .d (.int .i64 (cmF ⟨dI ps, a, t, r, s⟩ i)))
  | _ => none
def isDigG : List AV → Option (Prop × AV)
  | [.d (.int .i64 n)] => some (True, .d (.bool (decide (0 ≤ n) && decide (n ≤ 2305843009213693950))))
  | _ => none
def histG : List AV → Option (Prop × AV)
  | [.d (.sl xs)] => some (xs = rows eC (dC xs) ∧ (dC xs).length ≤ 9223372036854775807 ∧ smallC (dC xs), .agg [.d (.int .i64 (histF (dC xs)).1), .d (.int .i64 (histF (dC xs)).2)])
  | _ => none
def isG : List AV → Option (Prop × AV)
  | [.d (.sl xs), .d (.int .i64 n)] => some (xs.length ≤ 9223372036854775807, .d (.bool (decide (0 ≤ n) && decide (n < xs.length))))
  | _ => none
theorem hist_big {l : List Cm} (h : 60 < l.length) : histF l = (2, -1) := by unfold histF; rw [if_pos h]
theorem hist_at {l : List Cm} {i : Nat} {c : Cm} (h0 : ¬60 < l.length) (h : l[i]? = some c) (hj : ∀ j, j < i → cmF (l.getD j default) j = 0) {v : Int} (hv : cmF c i = v) (hv0 : v ≠ 0) : histF l = (v, (i : Int)) := by
  have hi := (List.getElem?_eq_some_iff.1 h).1
  unfold histF; rw [if_neg h0, scanW_hit hi (fun j hj' => hj j hj') (by simp only [getD_of h, hv]; exact hv0)]
  simp only [getD_of h, hv]
theorem hist_ok {l : List Cm} (h0 : ¬60 < l.length) (hj : ∀ j, j < l.length → cmF (l.getD j default) j = 0) : histF l = (0, 0) := by
  unfold histF; rw [if_neg h0, scanW_none hj]

theorem isDig_meets : Meets Try.prog 48 (Spec.pure isDigG) := by
 refine meets_fun (E_ints.at_ 5) Try.func48 rfl rfl rfl ?_
 intro args p r hg hp
 unfold isDigG at hg
 split at hg
 ·rename_i n
  simp only [Option.some.injEq, Prod.mk.injEq] at hg
  obtain ⟨rfl, rfl⟩ := hg
  have hT : (E_ints).X = T := rfl
  have hx0 := @Try.results48
  have hx := hx0
  refine ⟨by rfl, ?_⟩
  intro F W0 hnp hmk
  refine vc_seq_k fun N1 h1 => ?_
  refine u_reg ?_
  try refine lg_mk ?_
  refine u_mv ?_
  refine lg_nil ?_
  refine h1 _ ?_; clear h1; try clear N1
  refine vc_seq_k fun N2 h2 => ?_
  refine u_reg ?_
  try refine lg_mk ?_
  refine u_mv ?_
  have hc := call_rule (E := (E_ints.at_ 5)) (f := 21) (sp := Spec.pure inG) rfl
  have hs := @inG.eq_1
  refine u_cp ?_
  refine u_mv ?_
  refine lg_nil ?_
  refine h2 _ ?_; clear h2; try clear N2
  refine vc_ret ?_
  try simp only [k_rules]
  refine fin2_ ?_
  exact cl_
 ·cases hg

def E_isDig : Env Try.prog := E_ints.add 48 (Spec.pure isDigG) isDig_meets (by kernel_rfl)

theorem check_meets : Meets Try.prog 59 (Spec.pure checkG) := by
 refine meets_fun (E_isDig.at_ 69) Try.func59 rfl rfl rfl ?_
 intro args p r hg hp
 unfold checkG at hg
 split at hg
 ·rename_i ps a t r ms i
  simp only [Option.some.injEq, Prod.mk.injEq] at hg
  obtain ⟨rfl, rfl⟩ := hg
  obtain ⟨he, hl, hm⟩ := hp
  generalize dI ps = l at *
  subst he
  have hT : (E_isDig).X = T := rfl
  have hx0 := @Try.results59
  have hx := hx0
  refine ⟨by rfl, ?_⟩
  intro F W0 hnp hmk
  refine vc_seq_k fun N1 h1 => ?_
  refine u_reg ?_
  try refine lg_mk ?_
  refine u_bx ?_
  refine u_mv ?_
  refine lg_nil ?_
  refine h1 _ ?_; clear h1; try clear N1
  refine vc_seq_k fun N2 h2 => ?_
  refine vc_seq_k fun N3 h3 => ?_
  refine u_reg ?_
  try refine lg_mk ?_
  refine u_pt ?_
  refine u_ld ?_
  refine u_ln ?_
  refine u_bn ?_
  refine lg_nil ?_
  refine h3 _ ?_; clear h3; try clear N3
  refine u_cond (fun hb4 => ?_) (fun hb4 => ?_)
  ·refine vc_seq_k fun N5 h5 => ?_
   refine u_reg ?_
   try refine lg_mk ?_
   refine u_mv ?_
   refine lg_nil ?_
   refine h5 _ ?_; clear h5; try clear N5
   refine vc_ret ?_
   try simp only [k_rules]
   have hr : cmF ⟨l, a, t, r, ms⟩ i = 2 := cm_few (by simp only; omega)
   rw [hr]
   refine fin2_ ?_
   exact cl_
  ·refine vc_skip ?_
   try simp only [k_rules]
   refine h2 _ ?_; clear h2; try clear N2
   refine vc_seq_k fun N6 h6 => ?_
   refine vc_seq_k fun N7 h7 => ?_
   refine u_reg ?_
   try refine lg_mk ?_
   refine u_pt ?_
   refine u_ld ?_
   refine u_ln ?_
   refine u_mv ?_
   refine lg_nil ?_
   refine h7 _ ?_; clear h7; try clear N7
   refine vc_block ?_
   refine vc_loop_mk (σ := Nat) (fun s => (fun k => k ≤ l.length ∧ ∀ j, j < k → parAt l i j = 0) s)
    (fun s => (fun k => [(1, .d (.int .i64 i)), (2, .ptr 0 0 0), (12, .d (.sl (rows eI l))), (13, .d (.int .i64 (l.length : Nat))), (14, .d (.int .i64 (k : Nat)))]) s)
    (fun s => (fun k => [some (.one 73 [.d (.sl (rows eI l)), .d (.int .i64 a), .d (.int .i64 t), .d (.int .i64 r), .d (.str ms)])]) s) (fun s => (fun k => l.length - k) s) hnp 0 ?_ [some 0] ?_ ?_
   ·dsimp only
    simp
   ·dsimp only
    refine ⟨by rfl, ?_, ?_⟩
    ·refine fin_ ?_
     exact cl_
    ·refine fin_ ?_
     exact cl_
   ·rintro k hinv N8 h8
    dsimp only at hinv ⊢
    obtain ⟨i1, i2⟩ := hinv
    refine vc_seq_k fun N9 h9 => ?_
    refine u_reg ?_
    try refine lg_mk ?_
    refine u_bn ?_
    refine lg_nil ?_
    refine h9 _ ?_; clear h9; try clear N9
    refine vc_seq_k fun N10 h10 => ?_
    refine u_cond (fun hb11 => ?_) (fun hb11 => ?_)
    ·obtain ⟨p, hpe⟩ := getE (l := l) (i := k) (by omega)
     obtain ⟨q, hqe⟩ := getE (l := l) (i := ((k : Int) - 1).toNat) (by omega)
     refine vc_skip ?_
     try simp only [k_rules]
     refine h10 _ ?_; clear h10; try clear N10
     refine vc_seq_k fun N12 h12 => ?_
     refine vc_block ?_
     refine vc_seq_k fun N13 h13 => ?_
     have hx := And.intro @hpe (And.intro @eI.eq_1 hx0)
     refine u_reg ?_
     try refine lg_mk ?_
     refine u_mv ?_
     refine u_pt ?_
     refine u_ld ?_
     refine u_mv ?_
     refine u_mv ?_
     refine lg_nil ?_
     have hx := hx0
     refine h13 _ ?_; clear h13; try clear N13
     refine vc_seq_k fun N14 h14 => ?_
     refine vc_seq_k fun N15 h15 => ?_
     refine u_reg ?_
     try refine lg_mk ?_
     refine u_mv ?_
     refine u_bn ?_
     refine u_mv ?_
     refine g_mv ?_
     refine g_mv ?_
     refine g_bn ?_
     refine u_pk ?_
     refine lg_nil ?_
     refine h15 _ ?_; clear h15; try clear N15
     refine u_cond (fun hb16 => ?_) (fun hb16 => ?_)
     ·refine vc_seq_k fun N17 h17 => ?_
      refine u_reg ?_
      try refine lg_mk ?_
      refine u_mv ?_
      refine lg_nil ?_
      refine h17 _ ?_; clear h17; try clear N17
      refine vc_ret ?_
      try simp only [k_rules]
      have hr : cmF ⟨l, a, t, r, ms⟩ i = 3 := cm_par (by simp only; omega) (show k < l.length by omega) i2 (par_3 hpe (by omega)) (by omega)
      rw [hr]
      refine fin2_ ?_
      exact cl_
     ·refine vc_skip ?_
      try simp only [k_rules]
      refine h14 _ ?_; clear h14; try clear N14
      refine vc_seq_k fun N18 h18 => ?_
      have hx := And.intro @hqe (And.intro @eI.eq_1 hx0)
      refine u_reg ?_
      try refine lg_mk ?_
      refine u_mv ?_
      refine u_bn ?_
      refine u_mv ?_
      refine g_mv ?_
      refine g_pt ?_
      refine g_ld ?_
      refine g_mv ?_
      refine g_bn ?_
      refine g_pt ?_
      refine g_ld ?_
      refine g_bn ?_
      refine u_pk ?_
      refine lg_nil ?_
      have hx := hx0
      refine h18 _ ?_; clear h18; try clear N18
      refine u_cond (fun hb19 => ?_) (fun hb19 => ?_)
      ·refine vc_seq_k fun N20 h20 => ?_
       refine u_reg ?_
       try refine lg_mk ?_
       refine u_mv ?_
       refine lg_nil ?_
       refine h20 _ ?_; clear h20; try clear N20
       refine vc_ret ?_
       try simp only [k_rules]
       have hr : cmF ⟨l, a, t, r, ms⟩ i = 5 := cm_par (by simp only; omega) (show k < l.length by omega) i2 (par_5 hpe hqe (by omega) (by omega) (by omega) (by omega)) (by omega)
       rw [hr]
       refine fin2_ ?_
       exact cl_
      ·refine vc_skip ?_
       try simp only [k_rules]
       refine h12 _ ?_; clear h12; try clear N12
       refine u_reg ?_
       try refine lg_mk ?_
       refine u_bn ?_
       refine u_mv ?_
       refine lg_nil ?_
       refine h8 _ ⟨k + 1, ?_, ?_, [some 0], ?_⟩
       ·dsimp only
        exact ⟨by omega, lt_snoc i2 (par_0 hpe hqe (by omega) (by omega) (fun h => by omega))⟩
       ·dsimp only
        omega
       ·dsimp only
        refine ⟨by rfl, ?_, ?_⟩
        ·refine fin_ ?_
         exact cl_
        ·refine fin_ ?_
         exact cl_
    ·refine vc_exit ?_
     simp only [k_rules, Nat.reduceEqDiff, reduceIte, eq_self]
     refine h6 _ ?_; clear h6; try clear N6
     refine vc_seq_k fun N21 h21 => ?_
     refine vc_block ?_
     refine vc_seq_k fun N22 h22 => ?_
     refine vc_seq_k fun N23 h23 => ?_
     refine u_reg ?_
     try refine lg_mk ?_
     refine u_pt ?_
     refine u_ld ?_
     refine u_bn ?_
     refine u_mv ?_
     refine g_pt ?_
     refine g_ld ?_
     refine g_bn ?_
     refine u_pk ?_
     refine u_mv ?_
     refine lg_nil ?_
     refine h23 _ ?_; clear h23; try clear N23
     refine u_cond (fun hb24 => ?_) (fun hb24 => ?_)
     ·refine vc_skip ?_
      try simp only [k_rules]
      refine h22 _ ?_; clear h22; try clear N22
      refine u_cond (fun hb25 => ?_) (fun hb25 => ?_)
      ·refine vc_seq_k fun N26 h26 => ?_
       refine u_reg ?_
       try refine lg_mk ?_
       refine u_mv ?_
       refine lg_nil ?_
       refine h26 _ ?_; clear h26; try clear N26
       refine vc_ret ?_
       try simp only [k_rules]
       have hr : cmF ⟨l, a, t, r, ms⟩ i = 3 := cm_num (by simp only; omega) (fun j hj => i2 j (by simp only at hj; omega)) (by simp only; omega)
       rw [hr]
       refine fin2_ ?_
       exact cl_
      ·exfalso; first | omega | contradiction | (simp_all; done) | (simp_all; omega)
     ·refine vc_seq_k fun N27 h27 => ?_
      refine u_reg ?_
      try refine lg_mk ?_
      refine u_pt ?_
      refine u_ld ?_
      refine u_bn ?_
      refine u_mv ?_
      refine g_pt ?_
      refine g_ld ?_
      refine g_bn ?_
      refine u_pk ?_
      refine u_mv ?_
      refine lg_nil ?_
      refine h27 _ ?_; clear h27; try clear N27
      refine u_cond (fun hb28 => ?_) (fun hb28 => ?_)
      ·refine vc_skip ?_
       try simp only [k_rules]
       refine h22 _ ?_; clear h22; try clear N22
       refine u_cond (fun hb29 => ?_) (fun hb29 => ?_)
       ·refine vc_seq_k fun N30 h30 => ?_
        refine u_reg ?_
        try refine lg_mk ?_
        refine u_mv ?_
        refine lg_nil ?_
        refine h30 _ ?_; clear h30; try clear N30
        refine vc_ret ?_
        try simp only [k_rules]
        have hr : cmF ⟨l, a, t, r, ms⟩ i = 3 := cm_num (by simp only; omega) (fun j hj => i2 j (by simp only at hj; omega)) (by simp only; omega)
        rw [hr]
        refine fin2_ ?_
        exact cl_
       ·exfalso; first | omega | contradiction | (simp_all; done) | (simp_all; omega)
      ·refine u_reg ?_
       try refine lg_mk ?_
       refine u_pt ?_
       refine u_ld ?_
       refine u_bn ?_
       refine u_mv ?_
       refine g_pt ?_
       refine g_ld ?_
       refine g_bn ?_
       refine u_pk ?_
       refine u_mv ?_
       refine lg_nil ?_
       refine h22 _ ?_; clear h22; try clear N22
       refine u_cond (fun hb31 => ?_) (fun hb31 => ?_)
       ·refine vc_seq_k fun N32 h32 => ?_
        refine u_reg ?_
        try refine lg_mk ?_
        refine u_mv ?_
        refine lg_nil ?_
        refine h32 _ ?_; clear h32; try clear N32
        refine vc_ret ?_
        try simp only [k_rules]
        have hr : cmF ⟨l, a, t, r, ms⟩ i = 3 := cm_num (by simp only; omega) (fun j hj => i2 j (by simp only at hj; omega)) (by simp only; omega)
        rw [hr]
        refine fin2_ ?_
        exact cl_
       ·refine vc_seq_k fun N33 h33 => ?_
        refine u_reg ?_
        try refine lg_mk ?_
        refine u_pt ?_
        refine u_ld ?_
        refine u_ln ?_
        refine u_bn ?_
        refine u_mv ?_
        refine lg_nil ?_
        refine h33 _ ?_; clear h33; try clear N33
        refine u_cond (fun hb34 => ?_) (fun hb34 => ?_)
        ·refine vc_seq_k fun N35 h35 => ?_
         refine u_reg ?_
         try refine lg_mk ?_
         refine u_mv ?_
         refine lg_nil ?_
         refine h35 _ ?_; clear h35; try clear N35
         refine vc_ret ?_
         try simp only [k_rules]
         have hr : cmF ⟨l, a, t, r, ms⟩ i = 10 := cm_msg (by simp only; omega) (fun j hj => i2 j (by simp only at hj; omega)) (by simp only; omega) (by simp only; omega) (by simp only; omega) (if_pos (by simp only; omega))
         rw [hr]
         refine fin2_ ?_
         exact cl_
        ·refine vc_skip ?_
         try simp only [k_rules]
         refine h21 _ ?_; clear h21; try clear N21
         refine vc_seq_k fun N36 h36 => ?_
         refine u_reg ?_
         try refine lg_mk ?_
         refine u_mv ?_
         refine lg_nil ?_
         refine h36 _ ?_; clear h36; try clear N36
         refine vc_ret ?_
         try simp only [k_rules]
         have hr : cmF ⟨l, a, t, r, ms⟩ i = 0 := cm_msg (by simp only; omega) (fun j hj => i2 j (by simp only at hj; omega)) (by simp only; omega) (by simp only; omega) (by simp only; omega) (if_neg (by simp only; omega))
         rw [hr]
         refine fin2_ ?_
         exact cl_
 ·cases hg

def E_check : Env Try.prog := E_isDig.add 59 (Spec.pure checkG) check_meets (by kernel_rfl)

theorem validate_meets : Meets Try.prog 47 (Spec.pure histG) := by
 refine meets_fun (E_check.at_ 27) Try.func47 rfl rfl rfl ?_
 intro args p r hg hp
 unfold histG at hg
 split at hg
 ·rename_i xs
  simp only [Option.some.injEq, Prod.mk.injEq] at hg
  obtain ⟨rfl, rfl⟩ := hg
  obtain ⟨he, hl, hs⟩ := hp
  generalize dC xs = l at *
  subst he
  have hT : (E_check).X = T := rfl
  have hx0 := And.intro @rect_eC @Try.results47
  have hx := hx0
  refine ⟨by rfl, ?_⟩
  intro F W0 hnp hmk
  refine vc_seq_k fun N1 h1 => ?_
  refine u_reg ?_
  try refine lg_mk ?_
  refine u_al ?_
  refine lg_nil ?_
  refine h1 _ ?_; clear h1; try clear N1
  refine vc_seq_k fun N2 h2 => ?_
  refine vc_seq_k fun N3 h3 => ?_
  refine u_reg ?_
  try refine lg_mk ?_
  refine u_mv ?_
  refine u_ln ?_
  refine u_bn ?_
  refine lg_nil ?_
  refine h3 _ ?_; clear h3; try clear N3
  refine u_cond (fun hb4 => ?_) (fun hb4 => ?_)
  ·refine vc_seq_k fun N5 h5 => ?_
   refine u_reg ?_
   try refine lg_mk ?_
   refine u_bd ?_
   refine u_st ?_
   refine lg_nil ?_
   refine h5 _ ?_; clear h5; try clear N5
   refine vc_ret ?_
   try simp only [k_rules]
   rw [hist_big (l := l) (by omega)]
   refine fin2_ ?_
   exact cl_
  ·refine vc_skip ?_
   try simp only [k_rules]
   refine h2 _ ?_; clear h2; try clear N2
   refine vc_seq_k fun N6 h6 => ?_
   refine vc_seq_k fun N7 h7 => ?_
   refine u_reg ?_
   try refine lg_mk ?_
   refine u_mv ?_
   refine u_ln ?_
   refine u_mv ?_
   refine lg_nil ?_
   refine h7 _ ?_; clear h7; try clear N7
   refine vc_block ?_
   refine vc_loop_mk (σ := Nat) (fun s => (fun i => i ≤ l.length ∧ ∀ j, j < i → cmF (l.getD j default) j = 0) s)
    (fun s => (fun i => [(2, .ptr 0 0 0), (10, .d (.sl (rows eC l))), (11, .d (.int .i64 (l.length : Nat))), (12, .d (.int .i64 (i : Nat)))]) s)
    (fun s => (fun i => [some (.one 25 [.d (.int .i64 0), .d (.int .i64 0)])]) s) (fun s => (fun i => l.length - i) s) hnp 0 ?_ [some 0] ?_ ?_
   ·dsimp only
    simp
   ·dsimp only
    refine ⟨by rfl, ?_, ?_⟩
    ·refine fin_ ?_
     exact cl_
    ·refine fin_ ?_
     exact cl_
   ·rintro i hinv N8 h8
    dsimp only at hinv ⊢
    obtain ⟨i1, i2⟩ := hinv
    refine vc_seq_k fun N9 h9 => ?_
    refine u_reg ?_
    try refine lg_mk ?_
    refine u_bn ?_
    refine lg_nil ?_
    refine h9 _ ?_; clear h9; try clear N9
    refine vc_seq_k fun N10 h10 => ?_
    refine u_cond (fun hb11 => ?_) (fun hb11 => ?_)
    ·obtain ⟨c, hce⟩ := getE (l := l) (i := i) (by omega)
     obtain ⟨hc1, hc2⟩ := hs c (mem_at hce)
     refine vc_skip ?_
     try simp only [k_rules]
     refine h10 _ ?_; clear h10; try clear N10
     refine vc_seq_k fun N12 h12 => ?_
     refine vc_block ?_
     refine vc_seq_k fun N13 h13 => ?_
     have hx := And.intro @hce (And.intro @eC.eq_1 hx0)
     refine u_reg ?_
     try refine lg_mk ?_
     refine u_mv ?_
     refine u_pt ?_
     refine u_ld ?_
     refine u_al ?_
     refine u_mv ?_
     refine u_st ?_
     refine lg_nil ?_
     have hx := hx0
     refine h13 _ ?_; clear h13; try clear N13
     refine vc_seq_k fun N14 h14 => ?_
     have hx := And.intro @dI_rows hx0
     refine u_reg ?_
     try refine lg_mk ?_
     refine u_ld ?_
     refine u_mv ?_
     have hc := call_rule (E := (E_check.at_ 27)) (f := 59) (sp := Spec.pure checkG) rfl
     have hs := @checkG.eq_1
     refine u_cp (hq := by (first | (rw [dI_rows]; exact ⟨rfl, hc1, hc2⟩) | exact sd_)) ?_
     refine u_mv ?_
     refine lg_nil ?_
     have hx := hx0
     refine h14 _ ?_; clear h14; try clear N14
     refine vc_seq_k fun N15 h15 => ?_
     refine u_reg ?_
     try refine lg_mk ?_
     refine u_mv ?_
     refine u_bn ?_
     refine lg_nil ?_
     refine h15 _ ?_; clear h15; try clear N15
     refine u_cond (fun hb16 => ?_) (fun hb16 => ?_)
     ·refine vc_seq_k fun N17 h17 => ?_
      refine u_reg ?_
      try refine lg_mk ?_
      refine u_mv ?_
      refine u_mv ?_
      refine u_bd ?_
      refine u_st ?_
      refine lg_nil ?_
      refine h17 _ ?_; clear h17; try clear N17
      refine vc_ret ?_
      try simp only [k_rules]
      rw [hist_at (l := l) (by omega) hce i2 rfl hb16]
      refine fin2_ ?_
      exact cl_
     ·refine vc_skip ?_
      try simp only [k_rules]
      refine h12 _ ?_; clear h12; try clear N12
      refine u_reg ?_
      try refine lg_mk ?_
      refine u_bn ?_
      refine u_mv ?_
      refine lg_nil ?_
      refine h8 _ ⟨i + 1, ?_, ?_, [some 0], ?_⟩
      ·dsimp only
       exact ⟨by omega, lt_snoc i2 (by rw [getD_of hce]; exact hb16)⟩
      ·dsimp only
       omega
      ·dsimp only
       refine ⟨by rfl, ?_, ?_⟩
       ·refine fin_ ?_
        exact cl_
       ·refine fin_ ?_
        exact cl_
    ·refine vc_exit ?_
     simp only [k_rules, Nat.reduceEqDiff, reduceIte, eq_self]
     refine h6 _ ?_; clear h6; try clear N6
     refine vc_seq_k fun N18 h18 => ?_
     refine u_reg ?_
     try refine lg_mk ?_
     refine u_bd ?_
     refine u_st ?_
     refine lg_nil ?_
     refine h18 _ ?_; clear h18; try clear N18
     refine vc_ret ?_
     try simp only [k_rules]
     rw [hist_ok (l := l) (by omega) (fun j hj => i2 j (by omega))]
     refine fin2_ ?_
     exact cl_
 ·cases hg

def E_validate : Env Try.prog := E_check.add 47 (Spec.pure histG) validate_meets (by kernel_rfl)

theorem histFault_meets : Meets Try.prog 27 (Spec.pure histG) := by
 refine meets_fun (E_validate.at_ 87) Try.func27 rfl rfl rfl ?_
 intro args p r hg hp
 unfold histG at hg
 split at hg
 ·rename_i xs
  simp only [Option.some.injEq, Prod.mk.injEq] at hg
  obtain ⟨rfl, rfl⟩ := hg
  obtain ⟨he, hl, hs⟩ := hp
  generalize dC xs = l at *
  subst he
  have hT : (E_validate).X = T := rfl
  have hx0 := And.intro @rect_eC @Try.results27
  have hx := hx0
  refine ⟨by rfl, ?_⟩
  intro F W0 hnp hmk
  refine vc_seq_k fun N1 h1 => ?_
  refine u_reg ?_
  try refine lg_mk ?_
  refine u_al ?_
  refine lg_nil ?_
  refine h1 _ ?_; clear h1; try clear N1
  refine vc_seq_k fun N2 h2 => ?_
  refine vc_seq_k fun N3 h3 => ?_
  refine u_reg ?_
  try refine lg_mk ?_
  refine u_mv ?_
  refine u_ln ?_
  refine u_bn ?_
  refine lg_nil ?_
  refine h3 _ ?_; clear h3; try clear N3
  refine u_cond (fun hb4 => ?_) (fun hb4 => ?_)
  ·refine vc_seq_k fun N5 h5 => ?_
   refine u_reg ?_
   try refine lg_mk ?_
   have hc := call_rule (E := (E_validate.at_ 87)) (f := 12) (sp := Spec.pure faultG) rfl
   have hs := @faultG.eq_1
   refine u_cp ?_
   refine u_st ?_
   refine lg_nil ?_
   refine h5 _ ?_; clear h5; try clear N5
   refine vc_ret ?_
   try simp only [k_rules]
   rw [hist_big (l := l) (by omega)]
   refine fin2_ ?_
   exact cl_
  ·refine vc_skip ?_
   try simp only [k_rules]
   refine h2 _ ?_; clear h2; try clear N2
   refine vc_seq_k fun N6 h6 => ?_
   refine vc_seq_k fun N7 h7 => ?_
   refine u_reg ?_
   try refine lg_mk ?_
   refine u_mv ?_
   refine lg_nil ?_
   refine h7 _ ?_; clear h7; try clear N7
   refine vc_block ?_
   refine vc_loop_mk (σ := Nat) (fun s => (fun i => i ≤ l.length ∧ ∀ j, j < i → cmF (l.getD j default) j = 0) s)
    (fun s => (fun i => [(0, .d (.sl (rows eC l))), (2, .ptr 0 0 0), (3, .d (.int .i64 (i : Nat)))]) s)
    (fun s => (fun i => [some (.one 25 [.d (.int .i64 0), .d (.int .i64 0)])]) s) (fun s => (fun i => l.length - i) s) hnp 0 ?_ [some 0] ?_ ?_
   ·dsimp only
    simp
   ·dsimp only
    refine ⟨by rfl, ?_, ?_⟩
    ·refine fin_ ?_
     exact cl_
    ·refine fin_ ?_
     exact cl_
   ·rintro i hinv N8 h8
    dsimp only at hinv ⊢
    obtain ⟨i1, i2⟩ := hinv
    refine vc_seq_k fun N9 h9 => ?_
    refine vc_seq_k fun N10 h10 => ?_
    refine u_reg ?_
    try refine lg_mk ?_
    refine u_mv ?_
    refine u_mv ?_
    refine u_ln ?_
    refine u_bn ?_
    refine lg_nil ?_
    refine h10 _ ?_; clear h10; try clear N10
    refine u_cond (fun hb11 => ?_) (fun hb11 => ?_)
    ·obtain ⟨c, hce⟩ := getE (l := l) (i := i) (by omega)
     obtain ⟨hc1, hc2⟩ := hs c (mem_at hce)
     refine vc_skip ?_
     try simp only [k_rules]
     refine h9 _ ?_; clear h9; try clear N9
     refine vc_seq_k fun N12 h12 => ?_
     refine vc_block ?_
     refine vc_seq_k fun N13 h13 => ?_
     have hx := And.intro @hce (And.intro @eC.eq_1 hx0)
     refine u_reg ?_
     try refine lg_mk ?_
     refine u_mv ?_
     refine u_mv ?_
     refine u_pt ?_
     refine u_ld ?_
     refine u_al ?_
     refine u_st ?_
     refine lg_nil ?_
     have hx := hx0
     refine h13 _ ?_; clear h13; try clear N13
     refine vc_seq_k fun N14 h14 => ?_
     refine vc_seq_k fun N15 h15 => ?_
     refine u_reg ?_
     try refine lg_mk ?_
     refine u_pt ?_
     refine u_ld ?_
     refine u_ln ?_
     refine u_bn ?_
     refine lg_nil ?_
     refine h15 _ ?_; clear h15; try clear N15
     refine u_cond (fun hb16 => ?_) (fun hb16 => ?_)
     ·refine vc_seq_k fun N17 h17 => ?_
      refine u_reg ?_
      try refine lg_mk ?_
      refine u_mv ?_
      have hc := call_rule (E := (E_validate.at_ 87)) (f := 12) (sp := Spec.pure faultG) rfl
      have hs := @faultG.eq_1
      refine u_cp ?_
      refine u_st ?_
      refine lg_nil ?_
      refine h17 _ ?_; clear h17; try clear N17
      refine vc_ret ?_
      try simp only [k_rules]
      rw [hist_at (l := l) (by omega) hce i2 (cm_few (by omega)) (by omega)]
      refine fin2_ ?_
      exact cl_
     ·refine vc_skip ?_
      try simp only [k_rules]
      refine h14 _ ?_; clear h14; try clear N14
      refine vc_seq_k fun N18 h18 => ?_
      refine vc_seq_k fun N19 h19 => ?_
      refine u_reg ?_
      try refine lg_mk ?_
      refine u_mv ?_
      refine lg_nil ?_
      refine h19 _ ?_; clear h19; try clear N19
      refine vc_block ?_
      refine vc_loop_mk (σ := Nat) (fun s => (fun k => k ≤ c.par.length ∧ ∀ j, j < k → parAt c.par i j = 0) s)
       (fun s => (fun k => [(0, .d (.sl (rows eC l))), (2, .ptr 0 0 0), (3, .d (.int .i64 (i : Nat))), (4, .ptr 1 0 0), (5, .d (.int .i64 (k : Nat)))]) s)
       (fun s => (fun k => [some (.one 25 [.d (.int .i64 0), .d (.int .i64 0)]), some (.one 73 [.d (.sl (rows eI c.par)), .d (.int .i64 c.au), .d (.int .i64 c.ti), .d (.int .i64 c.tr), .d (.str c.ms)])]) s) (fun s => (fun k => c.par.length - k) s) hnp 0 ?_ [some 0, some 1] ?_ ?_
      ·dsimp only
       simp
      ·dsimp only
       refine ⟨by rfl, ?_, ?_⟩
       ·refine fin_ ?_
        exact cl_
       ·refine fin_ ?_
        exact cl_
      ·rintro k hinv N20 h20
       dsimp only at hinv ⊢
       obtain ⟨j1, j2⟩ := hinv
       refine vc_seq_k fun N21 h21 => ?_
       refine vc_seq_k fun N22 h22 => ?_
       refine u_reg ?_
       try refine lg_mk ?_
       refine u_mv ?_
       refine u_pt ?_
       refine u_ld ?_
       refine u_ln ?_
       refine u_bn ?_
       refine lg_nil ?_
       refine h22 _ ?_; clear h22; try clear N22
       refine u_cond (fun hb23 => ?_) (fun hb23 => ?_)
       ·obtain ⟨p, hpe⟩ := getE (l := c.par) (i := k) (by omega)
        obtain ⟨q, hqe⟩ := getE (l := c.par) (i := ((k : Int) - 1).toNat) (by omega)
        refine vc_skip ?_
        try simp only [k_rules]
        refine h21 _ ?_; clear h21; try clear N21
        refine vc_seq_k fun N24 h24 => ?_
        refine vc_block ?_
        refine vc_seq_k fun N25 h25 => ?_
        refine vc_seq_k fun N26 h26 => ?_
        have hx := And.intro @hpe (And.intro @eI.eq_1 hx0)
        refine u_reg ?_
        try refine lg_mk ?_
        refine u_pt ?_
        refine u_ld ?_
        refine u_mv ?_
        refine u_pt ?_
        refine u_ld ?_
        refine u_mv ?_
        refine u_bn ?_
        have hc := call_rule (E := (E_validate.at_ 87)) (f := 21) (sp := Spec.pure inG) rfl
        have hs := @inG.eq_1
        refine u_cp ?_
        refine u_un ?_
        refine lg_nil ?_
        have hx := hx0
        refine h26 _ ?_; clear h26; try clear N26
        refine u_cond (fun hb27 => ?_) (fun hb27 => ?_)
        ·refine vc_seq_k fun N28 h28 => ?_
         refine u_reg ?_
         try refine lg_mk ?_
         refine u_mv ?_
         have hc := call_rule (E := (E_validate.at_ 87)) (f := 12) (sp := Spec.pure faultG) rfl
         have hs := @faultG.eq_1
         refine u_cp ?_
         refine u_st ?_
         refine lg_nil ?_
         refine h28 _ ?_; clear h28; try clear N28
         refine vc_ret ?_
         try simp only [k_rules]
         rw [hist_at (l := l) (by omega) hce i2 (cm_par (by omega) (show k < c.par.length by omega) j2 (par_3 hpe (by omega)) (by omega)) (by omega)]
         refine fin2_ ?_
         exact cl_
        ·refine vc_skip ?_
         try simp only [k_rules]
         refine h25 _ ?_; clear h25; try clear N25
         refine vc_seq_k fun N29 h29 => ?_
         have hx := And.intro @hpe (And.intro @hqe (And.intro @eI.eq_1 hx0))
         refine u_reg ?_
         try refine lg_mk ?_
         refine u_mv ?_
         refine u_bn ?_
         refine u_mv ?_
         refine g_pt ?_
         refine g_ld ?_
         refine g_mv ?_
         refine g_pt ?_
         refine g_ld ?_
         refine g_pt ?_
         refine g_ld ?_
         refine g_mv ?_
         refine g_bn ?_
         refine g_pt ?_
         refine g_ld ?_
         refine g_bn ?_
         refine u_pk ?_
         refine lg_nil ?_
         have hx := hx0
         refine h29 _ ?_; clear h29; try clear N29
         refine u_cond (fun hb30 => ?_) (fun hb30 => ?_)
         ·refine vc_seq_k fun N31 h31 => ?_
          refine u_reg ?_
          try refine lg_mk ?_
          refine u_mv ?_
          have hc := call_rule (E := (E_validate.at_ 87)) (f := 12) (sp := Spec.pure faultG) rfl
          have hs := @faultG.eq_1
          refine u_cp ?_
          refine u_st ?_
          refine lg_nil ?_
          refine h31 _ ?_; clear h31; try clear N31
          refine vc_ret ?_
          try simp only [k_rules]
          rw [hist_at (l := l) (by omega) hce i2 (cm_par (by omega) (show k < c.par.length by omega) j2 (par_5 hpe hqe (by omega) (by omega) (by omega) (by omega)) (by omega)) (by omega)]
          refine fin2_ ?_
          exact cl_
         ·refine vc_skip ?_
          try simp only [k_rules]
          refine h24 _ ?_; clear h24; try clear N24
          refine u_reg ?_
          try refine lg_mk ?_
          refine u_mv ?_
          refine u_bn ?_
          refine u_mv ?_
          refine lg_nil ?_
          refine h20 _ ⟨k + 1, ?_, ?_, [some 0, some 1], ?_⟩
          ·dsimp only
           exact ⟨by omega, lt_snoc j2 (par_0 hpe hqe (by omega) (by omega) (fun h => by omega))⟩
          ·dsimp only
           omega
          ·dsimp only
           refine ⟨by rfl, ?_, ?_⟩
           ·refine fin_ ?_
            exact cl_
           ·refine fin_ ?_
            exact cl_
       ·refine vc_exit ?_
        simp only [k_rules, Nat.reduceEqDiff, reduceIte, eq_self]
        refine h18 _ ?_; clear h18; try clear N18
        refine vc_seq_k fun N32 h32 => ?_
        refine vc_seq_k fun N33 h33 => ?_
        refine u_reg ?_
        try refine lg_mk ?_
        refine u_pt ?_
        refine u_ld ?_
        have hc := call_rule (E := (E_validate.at_ 87)) (f := 21) (sp := Spec.pure inG) rfl
        have hs := @inG.eq_1
        refine u_cp ?_
        refine u_un ?_
        refine u_mv ?_
        refine g_pt ?_
        refine g_ld ?_
        have hc := call_rule (E := (E_validate.at_ 87)) (f := 21) (sp := Spec.pure inG) rfl
        have hs := @inG.eq_1
        refine g_cp ?_
        refine g_un ?_
        refine u_pk ?_
        refine u_mv ?_
        refine g_pt ?_
        refine g_ld ?_
        have hc := call_rule (E := (E_validate.at_ 87)) (f := 48) (sp := Spec.pure isDigG) rfl
        have hs := @isDigG.eq_1
        refine g_cp ?_
        refine g_un ?_
        refine u_pk ?_
        refine lg_nil ?_
        refine h33 _ ?_; clear h33; try clear N33
        refine u_cond (fun hb34 => ?_) (fun hb34 => ?_)
        ·refine vc_seq_k fun N35 h35 => ?_
         refine u_reg ?_
         try refine lg_mk ?_
         refine u_mv ?_
         have hc := call_rule (E := (E_validate.at_ 87)) (f := 12) (sp := Spec.pure faultG) rfl
         have hs := @faultG.eq_1
         refine u_cp ?_
         refine u_st ?_
         refine lg_nil ?_
         refine h35 _ ?_; clear h35; try clear N35
         refine vc_ret ?_
         try simp only [k_rules]
         rw [hist_at (l := l) (by omega) hce i2 (cm_num (by omega) (fun j hj => j2 j (by omega)) (by omega)) (by omega)]
         refine fin2_ ?_
         exact cl_
        ·refine vc_skip ?_
         try simp only [k_rules]
         refine h32 _ ?_; clear h32; try clear N32
         refine vc_seq_k fun N36 h36 => ?_
         refine u_reg ?_
         try refine lg_mk ?_
         refine u_pt ?_
         refine u_ld ?_
         refine u_ln ?_
         refine u_bn ?_
         refine lg_nil ?_
         refine h36 _ ?_; clear h36; try clear N36
         refine u_cond (fun hb37 => ?_) (fun hb37 => ?_)
         ·refine vc_seq_k fun N38 h38 => ?_
          refine u_reg ?_
          try refine lg_mk ?_
          refine u_mv ?_
          have hc := call_rule (E := (E_validate.at_ 87)) (f := 12) (sp := Spec.pure faultG) rfl
          have hs := @faultG.eq_1
          refine u_cp ?_
          refine u_st ?_
          refine lg_nil ?_
          refine h38 _ ?_; clear h38; try clear N38
          refine vc_ret ?_
          try simp only [k_rules]
          rw [hist_at (l := l) (by omega) hce i2 (cm_msg (by omega) (fun j hj => j2 j (by omega)) (by omega) (by omega) (by omega) (if_pos (by omega))) (by omega)]
          refine fin2_ ?_
          exact cl_
         ·refine vc_skip ?_
          try simp only [k_rules]
          refine h12 _ ?_; clear h12; try clear N12
          refine u_reg ?_
          try refine lg_mk ?_
          refine u_mv ?_
          refine u_bn ?_
          refine u_mv ?_
          refine lg_nil ?_
          refine h8 _ ⟨i + 1, ?_, ?_, [some 0], ?_⟩
          ·dsimp only
           exact ⟨by omega, lt_snoc i2 (by rw [getD_of hce]; exact cm_msg (by omega) (fun j hj => j2 j (by omega)) (by omega) (by omega) (by omega) (if_neg (by omega)))⟩
          ·dsimp only
           omega
          ·dsimp only
           refine ⟨by rfl, ?_, ?_⟩
           ·refine fin_ ?_
            exact cl_
           ·refine fin_ ?_
            exact cl_
    ·refine vc_exit ?_
     simp only [k_rules, Nat.reduceEqDiff, reduceIte, eq_self]
     refine h6 _ ?_; clear h6; try clear N6
     refine vc_seq_k fun N39 h39 => ?_
     refine u_reg ?_
     try refine lg_mk ?_
     refine u_bd ?_
     refine u_st ?_
     refine lg_nil ?_
     refine h39 _ ?_; clear h39; try clear N39
     refine vc_ret ?_
     try simp only [k_rules]
     rw [hist_ok (l := l) (by omega) (fun j hj => i2 j (by omega))]
     refine fin2_ ?_
     exact cl_
 ·cases hg

def E_histFault : Env Try.prog := E_validate.add 27 (Spec.pure histG) histFault_meets (by kernel_rfl)

def insG : List AV → Option (Prop × AV)
  | [.d (.sl xs), .d (.int .i64 n)] => some (xs = rows eI (dI xs) ∧ (dI xs).length ≤ 1000000000, .d (.sl (rows eI (ins (dI xs) n))))
  | _ => none
theorem all_snoc {l : List Int} {k : Nat} {x : Int} {P : Int → Prop} (h : ∀ y ∈ l.take k, P y) (hx : l[k]? = some x) (hp : P x) : ∀ y ∈ l.take (k + 1), P y := fun y hy => by
  rw [List.take_add_one, hx] at hy
  rcases List.mem_append.1 hy with hy | hy
  · exact h y hy
  · simp only [Option.toList_some, List.mem_singleton] at hy; rw [hy]; exact hp
def indexG : List AV → Option (Prop × AV)
  | [.d (.sl xs), .d (.int .i64 n)] => some (xs = rows eI (dI xs) ∧ (dI xs).length ≤ 1000000000, .d (.int .i64 (if n ∈ dI xs then ((dI xs).idxOf n : Nat) else -1)))
  | _ => none
theorem idxOf_at {l : List Int} {i : Nat} {n : Int} (h : l[i]? = some n) (hn : n ∉ l.take i) : l.idxOf n = i := by
  induction l generalizing i with
  | nil => simp at h
  | cons a l ih =>
    cases i with
    | zero => simp only [List.getElem?_cons_zero, Option.some.injEq] at h; subst h; exact List.idxOf_cons_self
    | succ i =>
      simp only [List.take_succ_cons, List.mem_cons, not_or] at hn
      rw [List.idxOf_cons, ih (by simpa using h) hn.2, show (a == n) = false by simpa using fun h => hn.1 h.symm]; rfl
theorem app1 {A : List (List D)} {x : List D} {m : Nat} (h : m = A.length + 1) : List.take m (A ++ [x]) = A ++ [x] := List.take_of_length_le (by rw [h]; simp)
theorem ins_rows {l : List Int} {k : Nat} {n : Int} : List.take ((l.take (k - 0)).length + 1 + ((l.drop k).take (l.length - k)).length) (List.take ((l.take (k - 0)).length + 1) (rows eI ((l.take (k - 0)).take (l.take (k - 0)).length) ++ [[.int .i64 n]]) ++ rows eI ((l.drop k).take (l.length - k))) = rows eI (l.take k ++ n :: l.drop k) := by
  have e1 : (l.drop k).take (l.length - k) = l.drop k := List.take_of_length_le (by simp)
  rw [Nat.sub_zero, List.take_length, e1, app1 (by rw [rows_len]), List.take_of_length_le (by simp only [List.length_append, rows_len, List.length_singleton]; omega)]
  simp [rows, eI]
def containsG : List AV → Option (Prop × AV)
  | [.d (.sl xs), .d (.int .i64 n)] => some (xs = rows eI (dI xs) ∧ (dI xs).length ≤ 1000000000, .d (.bool (decide (n ∈ dI xs))))
  | _ => none

theorem insert_meets : Meets Try.prog 44 (Spec.pure insG) := by
 refine meets_fun (E_histFault.at_ 35) Try.func44 rfl rfl rfl ?_
 intro args p r hg hp
 unfold insG at hg
 split at hg
 ·rename_i xs n
  simp only [Option.some.injEq, Prod.mk.injEq] at hg
  obtain ⟨rfl, rfl⟩ := hg
  obtain ⟨he, hl⟩ := hp
  generalize dI xs = l at *
  subst he
  have hT : (E_histFault).X = T := rfl
  have hx0 := @Try.results44
  have hx := hx0
  refine ⟨by rfl, ?_⟩
  intro F W0 hnp hmk
  refine vc_seq_k fun N1 h1 => ?_
  refine u_reg ?_
  try refine lg_mk ?_
  refine u_mv ?_
  refine lg_nil ?_
  refine h1 _ ?_; clear h1; try clear N1
  refine vc_seq_k fun N2 h2 => ?_
  refine vc_seq_k fun N3 h3 => ?_
  refine u_reg ?_
  try refine lg_mk ?_
  refine u_mv ?_
  refine u_mv ?_
  have hc := call_rule (E := (E_histFault.at_ 35)) (f := 24) (sp := Spec.pure hasG) rfl
  have hs := @hasG.eq_1
  refine u_cp ?_
  refine lg_nil ?_
  refine h3 _ ?_; clear h3; try clear N3
  refine u_cond (fun hb4 => ?_) (fun hb4 => ?_)
  ·refine vc_seq_k fun N5 h5 => ?_
   refine u_reg ?_
   try refine lg_mk ?_
   refine u_mv ?_
   refine u_mv ?_
   refine lg_nil ?_
   refine h5 _ ?_; clear h5; try clear N5
   refine vc_ret ?_
   try simp only [k_rules]
   have hr : ins l n = l := by unfold ins; rw [if_pos (by simpa using hb4)]
   rw [hr]
   refine fin2_ ?_
   exact cl_
  ·refine vc_skip ?_
   try simp only [k_rules]
   refine h2 _ ?_; clear h2; try clear N2
   refine vc_seq_k fun N6 h6 => ?_
   refine u_reg ?_
   try refine lg_mk ?_
   refine u_mv ?_
   refine lg_nil ?_
   refine h6 _ ?_; clear h6; try clear N6
   refine vc_seq_k fun N7 h7 => ?_
   refine vc_block ?_
   refine vc_loop_mk (σ := Nat) (fun s => (fun k => k ≤ l.length ∧ ∀ x ∈ l.take k, x < n) s)
    (fun s => (fun k => [(0, .d (.sl (rows eI l))), (1, .d (.int .i64 n)), (5, .d (.int .i64 (k : Nat)))]) s)
    (fun s => (fun k => []) s) (fun s => (fun k => l.length - k) s) hnp 0 ?_ [] ?_ ?_
   ·dsimp only
    simp
   ·dsimp only
    refine ⟨by rfl, ?_, ?_⟩
    ·refine fin_ ?_
     exact cl_
    ·refine fin_ ?_
     exact cl_
   ·rintro k hinv N8 h8
    dsimp only at hinv ⊢
    obtain ⟨k1, k2⟩ := hinv
    refine vc_seq_k fun N9 h9 => ?_
    refine vc_seq_k fun N10 h10 => ?_
    rcases Nat.lt_or_ge k l.length with hk | hk
    ·obtain ⟨x, hxe⟩ := getE hk
     have hk' : decide ((k : Int) < (l.length : Int)) = true := by simp; omega
     have hx := And.intro @hxe (And.intro @hk' (And.intro @eI.eq_1 hx0))
     refine u_reg ?_
     try refine lg_mk ?_
     refine u_mv ?_
     refine u_mv ?_
     refine u_ln ?_
     refine u_bn ?_
     refine u_mv ?_
     refine g_mv ?_
     refine g_mv ?_
     refine g_pt ?_
     refine g_ld ?_
     refine g_mv ?_
     refine g_bn ?_
     refine u_pk ?_
     refine lg_nil ?_
     have hx := hx0
     refine h10 _ ?_; clear h10; try clear N10
     refine u_cond (fun hb11 => ?_) (fun hb11 => ?_)
     ·refine vc_skip ?_
      try simp only [k_rules]
      refine h9 _ ?_; clear h9; try clear N9
      refine vc_block ?_
      refine u_reg ?_
      try refine lg_mk ?_
      refine u_mv ?_
      refine u_bn ?_
      refine u_mv ?_
      refine lg_nil ?_
      refine h8 _ ⟨k + 1, ?_, ?_, [], ?_⟩
      ·dsimp only
       exact ⟨by omega, all_snoc k2 hxe (by simpa using hb11)⟩
      ·dsimp only
       omega
      ·dsimp only
       refine ⟨by rfl, ?_, ?_⟩
       ·refine fin_ ?_
        exact cl_
       ·refine fin_ ?_
        exact cl_
     ·refine vc_exit ?_
      simp only [k_rules, Nat.reduceEqDiff, reduceIte, eq_self]
      refine h7 _ ?_; clear h7; try clear N7
      refine vc_seq_k fun N12 h12 => ?_
      refine vc_regT [1000027] (.seq [0, 1, 2, 4, 7, 8] (.alt 3 (.alt 5 (.alt 6 (.seq [9, 10, 11] .nil) (.alt 9 (.seq [6, 10, 11] .nil) .nil)) (.alt 9 (.seq [5, 6, 10, 11] .nil) .nil)) (.alt 5 (.alt 3 (.alt 6 (.seq [9, 10, 11] .nil) (.alt 9 (.seq [6, 10, 11] .nil) .nil)) (.alt 9 (.seq [3, 6, 10, 11] .nil) .nil)) (.alt 9 (.alt 3 (.seq [5, 6, 10, 11] .nil) (.alt 5 (.seq [3, 6, 10, 11] .nil) .nil)) .nil)))) hmix (by kernel_rfl) ?_
      refine at_seq ?_
      simp only [pick_rules, list_rules]
      try refine lg_mk ?_
      refine u_mv ?_
      refine u_mv ?_
      refine u_sl ?_
      refine u_mv ?_
      refine u_mv ?_
      refine u_mv ?_
      refine lg_nil ?_
      refine at_alt ?_ ?_
      ·simp only [pick_rules, list_rules]
       try refine lg_mk ?_
       refine u_ap ?_
       refine lg_nil ?_
       refine at_alt ?_ ?_
       ·simp only [pick_rules, list_rules]
        try refine lg_mk ?_
        refine u_bs ?_
        refine lg_nil ?_
        refine at_alt ?_ ?_
        ·simp only [pick_rules, list_rules]
         try refine lg_mk ?_
         refine u_ap ?_
         refine lg_nil ?_
         refine at_seq ?_
         simp only [pick_rules, list_rules]
         try refine lg_mk ?_
         refine u_sl ?_
         refine u_ap (hq := by (first | (constructor <;> simp only [List.length_append, rows_len, List.length_singleton, List.length_take, List.length_drop] <;> omega) | exact sd_)) ?_
         refine u_mv ?_
         refine lg_nil ?_
         refine at_nil ?_
         refine h12 _ ?_; clear h12; try clear N12
         refine vc_ret ?_
         try simp only [k_rules]
         have hr : ins l n = l.take k ++ n :: l.drop k := ins_at (by simpa using hb4) k2 (by first | exact Or.inl (by omega) | exact Or.inr ⟨x, hxe, by simpa using hb11⟩)
         rw [hr]
         refine fin2_ ?_
         (repeat' apply And.intro) <;> (first | (first | rfl | exact congrArg D.sl ins_rows | exact Or.inl (congrArg D.sl ins_rows) | (simp only [List.length_append, rows_len, List.length_singleton, List.length_take, List.length_drop]; omega)) | exact cl_)
        refine at_alt ?_ ?_
        ·simp only [pick_rules, list_rules]
         try refine lg_mk ?_
         refine u_sl ?_
         refine lg_nil ?_
         refine at_seq ?_
         simp only [pick_rules, list_rules]
         try refine lg_mk ?_
         refine u_ap ?_
         refine u_ap (hq := by (first | (constructor <;> simp only [List.length_append, rows_len, List.length_singleton, List.length_take, List.length_drop] <;> omega) | exact sd_)) ?_
         refine u_mv ?_
         refine lg_nil ?_
         refine at_nil ?_
         refine h12 _ ?_; clear h12; try clear N12
         refine vc_ret ?_
         try simp only [k_rules]
         have hr : ins l n = l.take k ++ n :: l.drop k := ins_at (by simpa using hb4) k2 (by first | exact Or.inl (by omega) | exact Or.inr ⟨x, hxe, by simpa using hb11⟩)
         rw [hr]
         refine fin2_ ?_
         (repeat' apply And.intro) <;> (first | (first | rfl | exact congrArg D.sl ins_rows | exact Or.inl (congrArg D.sl ins_rows) | (simp only [List.length_append, rows_len, List.length_singleton, List.length_take, List.length_drop]; omega)) | exact cl_)
        exact at_end
       refine at_alt ?_ ?_
       ·simp only [pick_rules, list_rules]
        try refine lg_mk ?_
        refine u_sl ?_
        refine lg_nil ?_
        refine at_seq ?_
        simp only [pick_rules, list_rules]
        try refine lg_mk ?_
        refine u_bs ?_
        refine u_ap ?_
        refine u_ap (hq := by (first | (constructor <;> simp only [List.length_append, rows_len, List.length_singleton, List.length_take, List.length_drop] <;> omega) | exact sd_)) ?_
        refine u_mv ?_
        refine lg_nil ?_
        refine at_nil ?_
        refine h12 _ ?_; clear h12; try clear N12
        refine vc_ret ?_
        try simp only [k_rules]
        have hr : ins l n = l.take k ++ n :: l.drop k := ins_at (by simpa using hb4) k2 (by first | exact Or.inl (by omega) | exact Or.inr ⟨x, hxe, by simpa using hb11⟩)
        rw [hr]
        refine fin2_ ?_
        (repeat' apply And.intro) <;> (first | (first | rfl | exact congrArg D.sl ins_rows | exact Or.inl (congrArg D.sl ins_rows) | (simp only [List.length_append, rows_len, List.length_singleton, List.length_take, List.length_drop]; omega)) | exact cl_)
       exact at_end
      refine at_alt ?_ ?_
      ·simp only [pick_rules, list_rules]
       try refine lg_mk ?_
       refine u_bs ?_
       refine lg_nil ?_
       refine at_alt ?_ ?_
       ·simp only [pick_rules, list_rules]
        try refine lg_mk ?_
        refine u_ap ?_
        refine lg_nil ?_
        refine at_alt ?_ ?_
        ·simp only [pick_rules, list_rules]
         try refine lg_mk ?_
         refine u_ap ?_
         refine lg_nil ?_
         refine at_seq ?_
         simp only [pick_rules, list_rules]
         try refine lg_mk ?_
         refine u_sl ?_
         refine u_ap (hq := by (first | (constructor <;> simp only [List.length_append, rows_len, List.length_singleton, List.length_take, List.length_drop] <;> omega) | exact sd_)) ?_
         refine u_mv ?_
         refine lg_nil ?_
         refine at_nil ?_
         refine h12 _ ?_; clear h12; try clear N12
         refine vc_ret ?_
         try simp only [k_rules]
         have hr : ins l n = l.take k ++ n :: l.drop k := ins_at (by simpa using hb4) k2 (by first | exact Or.inl (by omega) | exact Or.inr ⟨x, hxe, by simpa using hb11⟩)
         rw [hr]
         refine fin2_ ?_
         (repeat' apply And.intro) <;> (first | (first | rfl | exact congrArg D.sl ins_rows | exact Or.inl (congrArg D.sl ins_rows) | (simp only [List.length_append, rows_len, List.length_singleton, List.length_take, List.length_drop]; omega)) | exact cl_)
        refine at_alt ?_ ?_
        ·simp only [pick_rules, list_rules]
         try refine lg_mk ?_
         refine u_sl ?_
         refine lg_nil ?_
         refine at_seq ?_
         simp only [pick_rules, list_rules]
         try refine lg_mk ?_
         refine u_ap ?_
         refine u_ap (hq := by (first | (constructor <;> simp only [List.length_append, rows_len, List.length_singleton, List.length_take, List.length_drop] <;> omega) | exact sd_)) ?_
         refine u_mv ?_
         refine lg_nil ?_
         refine at_nil ?_
         refine h12 _ ?_; clear h12; try clear N12
         refine vc_ret ?_
         try simp only [k_rules]
         have hr : ins l n = l.take k ++ n :: l.drop k := ins_at (by simpa using hb4) k2 (by first | exact Or.inl (by omega) | exact Or.inr ⟨x, hxe, by simpa using hb11⟩)
         rw [hr]
         refine fin2_ ?_
         (repeat' apply And.intro) <;> (first | (first | rfl | exact congrArg D.sl ins_rows | exact Or.inl (congrArg D.sl ins_rows) | (simp only [List.length_append, rows_len, List.length_singleton, List.length_take, List.length_drop]; omega)) | exact cl_)
        exact at_end
       refine at_alt ?_ ?_
       ·simp only [pick_rules, list_rules]
        try refine lg_mk ?_
        refine u_sl ?_
        refine lg_nil ?_
        refine at_seq ?_
        simp only [pick_rules, list_rules]
        try refine lg_mk ?_
        refine u_ap ?_
        refine u_ap ?_
        refine u_ap (hq := by (first | (constructor <;> simp only [List.length_append, rows_len, List.length_singleton, List.length_take, List.length_drop] <;> omega) | exact sd_)) ?_
        refine u_mv ?_
        refine lg_nil ?_
        refine at_nil ?_
        refine h12 _ ?_; clear h12; try clear N12
        refine vc_ret ?_
        try simp only [k_rules]
        have hr : ins l n = l.take k ++ n :: l.drop k := ins_at (by simpa using hb4) k2 (by first | exact Or.inl (by omega) | exact Or.inr ⟨x, hxe, by simpa using hb11⟩)
        rw [hr]
        refine fin2_ ?_
        (repeat' apply And.intro) <;> (first | (first | rfl | exact congrArg D.sl ins_rows | exact Or.inl (congrArg D.sl ins_rows) | (simp only [List.length_append, rows_len, List.length_singleton, List.length_take, List.length_drop]; omega)) | exact cl_)
       exact at_end
      refine at_alt ?_ ?_
      ·simp only [pick_rules, list_rules]
       try refine lg_mk ?_
       refine u_sl ?_
       refine lg_nil ?_
       refine at_alt ?_ ?_
       ·simp only [pick_rules, list_rules]
        try refine lg_mk ?_
        refine u_ap ?_
        refine lg_nil ?_
        refine at_seq ?_
        simp only [pick_rules, list_rules]
        try refine lg_mk ?_
        refine u_bs ?_
        refine u_ap ?_
        refine u_ap (hq := by (first | (constructor <;> simp only [List.length_append, rows_len, List.length_singleton, List.length_take, List.length_drop] <;> omega) | exact sd_)) ?_
        refine u_mv ?_
        refine lg_nil ?_
        refine at_nil ?_
        refine h12 _ ?_; clear h12; try clear N12
        refine vc_ret ?_
        try simp only [k_rules]
        have hr : ins l n = l.take k ++ n :: l.drop k := ins_at (by simpa using hb4) k2 (by first | exact Or.inl (by omega) | exact Or.inr ⟨x, hxe, by simpa using hb11⟩)
        rw [hr]
        refine fin2_ ?_
        (repeat' apply And.intro) <;> (first | (first | rfl | exact congrArg D.sl ins_rows | exact Or.inl (congrArg D.sl ins_rows) | (simp only [List.length_append, rows_len, List.length_singleton, List.length_take, List.length_drop]; omega)) | exact cl_)
       refine at_alt ?_ ?_
       ·simp only [pick_rules, list_rules]
        try refine lg_mk ?_
        refine u_bs ?_
        refine lg_nil ?_
        refine at_seq ?_
        simp only [pick_rules, list_rules]
        try refine lg_mk ?_
        refine u_ap ?_
        refine u_ap ?_
        refine u_ap (hq := by (first | (constructor <;> simp only [List.length_append, rows_len, List.length_singleton, List.length_take, List.length_drop] <;> omega) | exact sd_)) ?_
        refine u_mv ?_
        refine lg_nil ?_
        refine at_nil ?_
        refine h12 _ ?_; clear h12; try clear N12
        refine vc_ret ?_
        try simp only [k_rules]
        have hr : ins l n = l.take k ++ n :: l.drop k := ins_at (by simpa using hb4) k2 (by first | exact Or.inl (by omega) | exact Or.inr ⟨x, hxe, by simpa using hb11⟩)
        rw [hr]
        refine fin2_ ?_
        (repeat' apply And.intro) <;> (first | (first | rfl | exact congrArg D.sl ins_rows | exact Or.inl (congrArg D.sl ins_rows) | (simp only [List.length_append, rows_len, List.length_singleton, List.length_take, List.length_drop]; omega)) | exact cl_)
       exact at_end
      exact at_end
    ·have hxe : l[k]? = none := List.getElem?_eq_none hk
     have hk' : decide ((k : Int) < (l.length : Int)) = false := by simp; omega
     have hx := And.intro @hxe (And.intro @hk' (And.intro @eI.eq_1 hx0))
     refine u_reg ?_
     try refine lg_mk ?_
     refine u_mv ?_
     refine u_mv ?_
     refine u_ln ?_
     refine u_bn ?_
     refine u_mv ?_
     refine g_mv ?_
     refine g_mv ?_
     refine g_pt ?_
     refine g_ld ?_
     refine g_mv ?_
     refine g_bn ?_
     refine u_pk ?_
     refine lg_nil ?_
     have hx := hx0
     refine h10 _ ?_; clear h10; try clear N10
     refine u_cond (fun hb13 => ?_) (fun hb13 => ?_)
     ·cases hb13
     ·refine vc_exit ?_
      simp only [k_rules, Nat.reduceEqDiff, reduceIte, eq_self]
      refine h7 _ ?_; clear h7; try clear N7
      refine vc_seq_k fun N14 h14 => ?_
      refine vc_regT [1000027] (.seq [0, 1, 2, 4, 7, 8] (.alt 3 (.alt 5 (.alt 6 (.seq [9, 10, 11] .nil) (.alt 9 (.seq [6, 10, 11] .nil) .nil)) (.alt 9 (.seq [5, 6, 10, 11] .nil) .nil)) (.alt 5 (.alt 3 (.alt 6 (.seq [9, 10, 11] .nil) (.alt 9 (.seq [6, 10, 11] .nil) .nil)) (.alt 9 (.seq [3, 6, 10, 11] .nil) .nil)) (.alt 9 (.alt 3 (.seq [5, 6, 10, 11] .nil) (.alt 5 (.seq [3, 6, 10, 11] .nil) .nil)) .nil)))) hmix (by kernel_rfl) ?_
      refine at_seq ?_
      simp only [pick_rules, list_rules]
      try refine lg_mk ?_
      refine u_mv ?_
      refine u_mv ?_
      refine u_sl ?_
      refine u_mv ?_
      refine u_mv ?_
      refine u_mv ?_
      refine lg_nil ?_
      refine at_alt ?_ ?_
      ·simp only [pick_rules, list_rules]
       try refine lg_mk ?_
       refine u_ap ?_
       refine lg_nil ?_
       refine at_alt ?_ ?_
       ·simp only [pick_rules, list_rules]
        try refine lg_mk ?_
        refine u_bs ?_
        refine lg_nil ?_
        refine at_alt ?_ ?_
        ·simp only [pick_rules, list_rules]
         try refine lg_mk ?_
         refine u_ap ?_
         refine lg_nil ?_
         refine at_seq ?_
         simp only [pick_rules, list_rules]
         try refine lg_mk ?_
         refine u_sl ?_
         refine u_ap (hq := by (first | (constructor <;> simp only [List.length_append, rows_len, List.length_singleton, List.length_take, List.length_drop] <;> omega) | exact sd_)) ?_
         refine u_mv ?_
         refine lg_nil ?_
         refine at_nil ?_
         refine h14 _ ?_; clear h14; try clear N14
         refine vc_ret ?_
         try simp only [k_rules]
         have hr : ins l n = l.take k ++ n :: l.drop k := ins_at (by simpa using hb4) k2 (by first | exact Or.inl (by omega) | exact Or.inr ⟨x, hxe, by simpa using hb13⟩)
         rw [hr]
         refine fin2_ ?_
         (repeat' apply And.intro) <;> (first | (first | rfl | exact congrArg D.sl ins_rows | exact Or.inl (congrArg D.sl ins_rows) | (simp only [List.length_append, rows_len, List.length_singleton, List.length_take, List.length_drop]; omega)) | exact cl_)
        refine at_alt ?_ ?_
        ·simp only [pick_rules, list_rules]
         try refine lg_mk ?_
         refine u_sl ?_
         refine lg_nil ?_
         refine at_seq ?_
         simp only [pick_rules, list_rules]
         try refine lg_mk ?_
         refine u_ap ?_
         refine u_ap (hq := by (first | (constructor <;> simp only [List.length_append, rows_len, List.length_singleton, List.length_take, List.length_drop] <;> omega) | exact sd_)) ?_
         refine u_mv ?_
         refine lg_nil ?_
         refine at_nil ?_
         refine h14 _ ?_; clear h14; try clear N14
         refine vc_ret ?_
         try simp only [k_rules]
         have hr : ins l n = l.take k ++ n :: l.drop k := ins_at (by simpa using hb4) k2 (by first | exact Or.inl (by omega) | exact Or.inr ⟨x, hxe, by simpa using hb13⟩)
         rw [hr]
         refine fin2_ ?_
         (repeat' apply And.intro) <;> (first | (first | rfl | exact congrArg D.sl ins_rows | exact Or.inl (congrArg D.sl ins_rows) | (simp only [List.length_append, rows_len, List.length_singleton, List.length_take, List.length_drop]; omega)) | exact cl_)
        exact at_end
       refine at_alt ?_ ?_
       ·simp only [pick_rules, list_rules]
        try refine lg_mk ?_
        refine u_sl ?_
        refine lg_nil ?_
        refine at_seq ?_
        simp only [pick_rules, list_rules]
        try refine lg_mk ?_
        refine u_bs ?_
        refine u_ap ?_
        refine u_ap (hq := by (first | (constructor <;> simp only [List.length_append, rows_len, List.length_singleton, List.length_take, List.length_drop] <;> omega) | exact sd_)) ?_
        refine u_mv ?_
        refine lg_nil ?_
        refine at_nil ?_
        refine h14 _ ?_; clear h14; try clear N14
        refine vc_ret ?_
        try simp only [k_rules]
        have hr : ins l n = l.take k ++ n :: l.drop k := ins_at (by simpa using hb4) k2 (by first | exact Or.inl (by omega) | exact Or.inr ⟨x, hxe, by simpa using hb13⟩)
        rw [hr]
        refine fin2_ ?_
        (repeat' apply And.intro) <;> (first | (first | rfl | exact congrArg D.sl ins_rows | exact Or.inl (congrArg D.sl ins_rows) | (simp only [List.length_append, rows_len, List.length_singleton, List.length_take, List.length_drop]; omega)) | exact cl_)
       exact at_end
      refine at_alt ?_ ?_
      ·simp only [pick_rules, list_rules]
       try refine lg_mk ?_
       refine u_bs ?_
       refine lg_nil ?_
       refine at_alt ?_ ?_
       ·simp only [pick_rules, list_rules]
        try refine lg_mk ?_
        refine u_ap ?_
        refine lg_nil ?_
        refine at_alt ?_ ?_
        ·simp only [pick_rules, list_rules]
         try refine lg_mk ?_
         refine u_ap ?_
         refine lg_nil ?_
         refine at_seq ?_
         simp only [pick_rules, list_rules]
         try refine lg_mk ?_
         refine u_sl ?_
         refine u_ap (hq := by (first | (constructor <;> simp only [List.length_append, rows_len, List.length_singleton, List.length_take, List.length_drop] <;> omega) | exact sd_)) ?_
         refine u_mv ?_
         refine lg_nil ?_
         refine at_nil ?_
         refine h14 _ ?_; clear h14; try clear N14
         refine vc_ret ?_
         try simp only [k_rules]
         have hr : ins l n = l.take k ++ n :: l.drop k := ins_at (by simpa using hb4) k2 (by first | exact Or.inl (by omega) | exact Or.inr ⟨x, hxe, by simpa using hb13⟩)
         rw [hr]
         refine fin2_ ?_
         (repeat' apply And.intro) <;> (first | (first | rfl | exact congrArg D.sl ins_rows | exact Or.inl (congrArg D.sl ins_rows) | (simp only [List.length_append, rows_len, List.length_singleton, List.length_take, List.length_drop]; omega)) | exact cl_)
        refine at_alt ?_ ?_
        ·simp only [pick_rules, list_rules]
         try refine lg_mk ?_
         refine u_sl ?_
         refine lg_nil ?_
         refine at_seq ?_
         simp only [pick_rules, list_rules]
         try refine lg_mk ?_
         refine u_ap ?_
         refine u_ap (hq := by (first | (constructor <;> simp only [List.length_append, rows_len, List.length_singleton, List.length_take, List.length_drop] <;> omega) | exact sd_)) ?_
         refine u_mv ?_
         refine lg_nil ?_
         refine at_nil ?_
         refine h14 _ ?_; clear h14; try clear N14
         refine vc_ret ?_
         try simp only [k_rules]
         have hr : ins l n = l.take k ++ n :: l.drop k := ins_at (by simpa using hb4) k2 (by first | exact Or.inl (by omega) | exact Or.inr ⟨x, hxe, by simpa using hb13⟩)
         rw [hr]
         refine fin2_ ?_
         (repeat' apply And.intro) <;> (first | (first | rfl | exact congrArg D.sl ins_rows | exact Or.inl (congrArg D.sl ins_rows) | (simp only [List.length_append, rows_len, List.length_singleton, List.length_take, List.length_drop]; omega)) | exact cl_)
        exact at_end
       refine at_alt ?_ ?_
       ·simp only [pick_rules, list_rules]
        try refine lg_mk ?_
        refine u_sl ?_
        refine lg_nil ?_
        refine at_seq ?_
        simp only [pick_rules, list_rules]
        try refine lg_mk ?_
        refine u_ap ?_
        refine u_ap ?_
        refine u_ap (hq := by (first | (constructor <;> simp only [List.length_append, rows_len, List.length_singleton, List.length_take, List.length_drop] <;> omega) | exact sd_)) ?_
        refine u_mv ?_
        refine lg_nil ?_
        refine at_nil ?_
        refine h14 _ ?_; clear h14; try clear N14
        refine vc_ret ?_
        try simp only [k_rules]
        have hr : ins l n = l.take k ++ n :: l.drop k := ins_at (by simpa using hb4) k2 (by first | exact Or.inl (by omega) | exact Or.inr ⟨x, hxe, by simpa using hb13⟩)
        rw [hr]
        refine fin2_ ?_
        (repeat' apply And.intro) <;> (first | (first | rfl | exact congrArg D.sl ins_rows | exact Or.inl (congrArg D.sl ins_rows) | (simp only [List.length_append, rows_len, List.length_singleton, List.length_take, List.length_drop]; omega)) | exact cl_)
       exact at_end
      refine at_alt ?_ ?_
      ·simp only [pick_rules, list_rules]
       try refine lg_mk ?_
       refine u_sl ?_
       refine lg_nil ?_
       refine at_alt ?_ ?_
       ·simp only [pick_rules, list_rules]
        try refine lg_mk ?_
        refine u_ap ?_
        refine lg_nil ?_
        refine at_seq ?_
        simp only [pick_rules, list_rules]
        try refine lg_mk ?_
        refine u_bs ?_
        refine u_ap ?_
        refine u_ap (hq := by (first | (constructor <;> simp only [List.length_append, rows_len, List.length_singleton, List.length_take, List.length_drop] <;> omega) | exact sd_)) ?_
        refine u_mv ?_
        refine lg_nil ?_
        refine at_nil ?_
        refine h14 _ ?_; clear h14; try clear N14
        refine vc_ret ?_
        try simp only [k_rules]
        have hr : ins l n = l.take k ++ n :: l.drop k := ins_at (by simpa using hb4) k2 (by first | exact Or.inl (by omega) | exact Or.inr ⟨x, hxe, by simpa using hb13⟩)
        rw [hr]
        refine fin2_ ?_
        (repeat' apply And.intro) <;> (first | (first | rfl | exact congrArg D.sl ins_rows | exact Or.inl (congrArg D.sl ins_rows) | (simp only [List.length_append, rows_len, List.length_singleton, List.length_take, List.length_drop]; omega)) | exact cl_)
       refine at_alt ?_ ?_
       ·simp only [pick_rules, list_rules]
        try refine lg_mk ?_
        refine u_bs ?_
        refine lg_nil ?_
        refine at_seq ?_
        simp only [pick_rules, list_rules]
        try refine lg_mk ?_
        refine u_ap ?_
        refine u_ap ?_
        refine u_ap (hq := by (first | (constructor <;> simp only [List.length_append, rows_len, List.length_singleton, List.length_take, List.length_drop] <;> omega) | exact sd_)) ?_
        refine u_mv ?_
        refine lg_nil ?_
        refine at_nil ?_
        refine h14 _ ?_; clear h14; try clear N14
        refine vc_ret ?_
        try simp only [k_rules]
        have hr : ins l n = l.take k ++ n :: l.drop k := ins_at (by simpa using hb4) k2 (by first | exact Or.inl (by omega) | exact Or.inr ⟨x, hxe, by simpa using hb13⟩)
        rw [hr]
        refine fin2_ ?_
        (repeat' apply And.intro) <;> (first | (first | rfl | exact congrArg D.sl ins_rows | exact Or.inl (congrArg D.sl ins_rows) | (simp only [List.length_append, rows_len, List.length_singleton, List.length_take, List.length_drop]; omega)) | exact cl_)
       exact at_end
      exact at_end
 ·cases hg

def E_insert : Env Try.prog := E_histFault.add 44 (Spec.pure insG) insert_meets (by kernel_rfl)
end Go.Proofs.Ytjpkgmmmmcgmeaa
