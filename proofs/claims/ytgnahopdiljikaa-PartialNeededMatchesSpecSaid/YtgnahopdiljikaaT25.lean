/- Walks, printed by wip/gen/walk.py. -/
import Derived.Test.YtgnahopdiljikaaT24
import Derived.Test.YtgnahopdiljikaaV5
set_option linter.all false
set_option maxRecDepth 100000
set_option maxHeartbeats 4000000
namespace Go.Proofs.Ytgnahopdiljikaa
open Go Go.Vc Go.RowKit
/-- A sorted list with one more number. -/
def ins (l : List Int) (n : Int) : List Int := if n ∈ l then l else l.takeWhile (fun x => decide (x < n)) ++ n :: l.dropWhile (fun x => decide (x < n))
theorem ins_at {l : List Int} {n : Int} {k : Nat} (hn : n ∉ l) (h : ∀ x ∈ l.take k, x < n) (hk : k = l.length ∨ ∃ x, l[k]? = some x ∧ ¬x < n) : ins l n = l.take k ++ n :: l.drop k := by
  have key : l.takeWhile (fun x => decide (x < n)) = l.take k ∧ l.dropWhile (fun x => decide (x < n)) = l.drop k := by
    clear hn
    induction l generalizing k with
    | nil => simp
    | cons a l ih =>
      cases k with
      | zero =>
        rcases hk with hk | ⟨x, hx, hxn⟩
        · simp at hk
        · simp only [List.getElem?_cons_zero, Option.some.injEq] at hx
          subst hx
          simp [List.takeWhile_cons, List.dropWhile_cons, hxn]
      | succ k =>
        have ha : a < n := h a (by simp)
        have := ih (k := k) (fun x hx => h x (by simp [hx])) (by simpa using hk)
        simp [List.takeWhile_cons, List.dropWhile_cons, ha, this.1, this.2]
  unfold ins; rw [if_neg hn, key.1, key.2]
theorem ins_mem {l : List Int} {n x : Int} : x ∈ ins l n ↔ x = n ∨ x ∈ l := by
  unfold ins
  split
  · rename_i h
    exact ⟨.inr, fun h' => by rcases h' with rfl | h'; exact h; exact h'⟩
  · rw [List.mem_append, List.mem_cons]
    have := List.takeWhile_append_dropWhile (p := fun x => decide (x < n)) (l := l)
    conv => rhs; rw [← this, List.mem_append]
    constructor
    · rintro (h | h | h)
      · exact .inr (.inl h)
      · exact .inl h
      · exact .inr (.inr h)
    · rintro (h | h | h)
      · exact .inr (.inl h)
      · exact .inl h
      · exact .inr (.inr h)
theorem ins_sorted {l : List Int} {n : Int} (h : l.Pairwise (· < ·)) : (ins l n).Pairwise (· < ·) := by
  unfold ins
  split
  · exact h
  · rename_i hn
    induction l with
    | nil => simp
    | cons a l ih =>
      have ha := List.pairwise_cons.1 h
      simp only [List.mem_cons, not_or] at hn
      by_cases hlt : a < n
      · simp only [List.takeWhile_cons, List.dropWhile_cons, hlt, decide_true, if_true, List.cons_append]
        refine List.pairwise_cons.2 ⟨fun x hx => ?_, ih ha.2 hn.2⟩
        rcases List.mem_append.1 hx with hx | hx
        · exact ha.1 x ((List.takeWhile_sublist _).subset hx)
        · rcases List.mem_cons.1 hx with rfl | hx
          · exact hlt
          · exact ha.1 x ((List.dropWhile_sublist _).subset hx)
      · simp only [List.takeWhile_cons, List.dropWhile_cons, hlt, decide_false, List.nil_append, Bool.false_eq_true, if_false]
        refine List.pairwise_cons.2 ⟨fun x hx => ?_, h⟩
        rcases List.mem_cons.1 hx with rfl | hx
        · omega
        · have := ha.1 x hx; omega
theorem ins_len {l : List Int} {n : Int} : (ins l n).length ≤ l.length + 1 := by
  unfold ins
  split
  · omega
  · rw [List.length_append, List.length_cons]
    have := congrArg List.length (List.takeWhile_append_dropWhile (p := fun x => decide (x < n)) (l := l))
    rw [List.length_append] at this; omega

def insG : List AV → Option (Prop × AV)
  | [.d (.sl xs), .d (.int .i64 n)] => some (xs = rows eI (dI xs) ∧ (dI xs).length ≤ 1000000000, .d (.sl (rows eI (ins (dI xs) n))))
  | _ => none
theorem all_snoc {l : List Int} {k : Nat} {x : Int} {P : Int → Prop} (h : ∀ y ∈ l.take k, P y) (hx : l[k]? = some x) (hp : P x) : ∀ y ∈ l.take (k + 1), P y := fun y hy => by
  rw [List.take_add_one, hx] at hy
  rcases List.mem_append.1 hy with hy | hy
  · exact h y hy
  · simp only [Option.toList_some, List.mem_singleton] at hy; rw [hy]; exact hp
theorem app1 {A : List (List D)} {x : List D} {m : Nat} (h : m = A.length + 1) : List.take m (A ++ [x]) = A ++ [x] := List.take_of_length_le (by rw [h]; simp)
theorem ins_rows {l : List Int} {k : Nat} {n : Int} : List.take ((l.take (k - 0)).length + 1 + ((l.drop k).take (l.length - k)).length) (List.take ((l.take (k - 0)).length + 1) (rows eI ((l.take (k - 0)).take (l.take (k - 0)).length) ++ [[.int .i64 n]]) ++ rows eI ((l.drop k).take (l.length - k))) = rows eI (l.take k ++ n :: l.drop k) := by
  have e1 : (l.drop k).take (l.length - k) = l.drop k := List.take_of_length_le (by simp)
  rw [Nat.sub_zero, List.take_length, e1, app1 (by rw [rows_len]), List.take_of_length_le (by simp only [List.length_append, rows_len, List.length_singleton]; omega)]
  simp [rows, eI]

theorem insert_meets : Meets Try.prog 38 (Spec.pure insG) := by
 refine meets_fun (E_markR.at_ 35) Try.func38 rfl rfl rfl ?_
 intro args p r hg hp
 unfold insG at hg
 split at hg
 ·rename_i xs n
  simp only [Option.some.injEq, Prod.mk.injEq] at hg
  obtain ⟨rfl, rfl⟩ := hg
  obtain ⟨he, hl⟩ := hp
  generalize dI xs = l at *
  subst he
  have hT : (E_markR).X = T := rfl
  have hx0 := @Try.results38
  have hx := hx0
  refine ⟨by rfl, ?_⟩
  intro F W0 hnp hmk
  refine vc_seq_k fun N1 h1 => ?_
  refine u_reg ?_
  try refine lg_mk ?_
  refine u_mv ?_
  refine lg_nil ?_
  refine h1 _ ?_; clear h1; try clear N1
  refine vc_seq_k fun N2 h2 => ?_
  refine vc_seq_k fun N3 h3 => ?_
  refine u_reg ?_
  try refine lg_mk ?_
  refine u_mv ?_
  refine u_mv ?_
  have hc := call_rule (E := (E_markR.at_ 35)) (f := 24) (sp := Spec.pure hasG) rfl
  have hs := @hasG.eq_1
  refine u_cp ?_
  refine lg_nil ?_
  refine h3 _ ?_; clear h3; try clear N3
  refine u_cond (fun hb4 => ?_) (fun hb4 => ?_)
  ·refine vc_seq_k fun N5 h5 => ?_
   refine u_reg ?_
   try refine lg_mk ?_
   refine u_mv ?_
   refine u_mv ?_
   refine lg_nil ?_
   refine h5 _ ?_; clear h5; try clear N5
   refine vc_ret ?_
   try simp only [k_rules]
   have hr : ins l n = l := by unfold ins; rw [if_pos (by simpa using hb4)]
   rw [hr]
   refine fin2_ ?_
   exact cl_
  ·refine vc_skip ?_
   try simp only [k_rules]
   refine h2 _ ?_; clear h2; try clear N2
   refine vc_seq_k fun N6 h6 => ?_
   refine u_reg ?_
   try refine lg_mk ?_
   refine u_mv ?_
   refine lg_nil ?_
   refine h6 _ ?_; clear h6; try clear N6
   refine vc_seq_k fun N7 h7 => ?_
   refine vc_block ?_
   refine vc_loop_mk (σ := Nat) (fun s => (fun k => k ≤ l.length ∧ ∀ x ∈ l.take k, x < n) s)
    (fun s => (fun k => [(0, .d (.sl (rows eI l))), (1, .d (.int .i64 n)), (5, .d (.int .i64 (k : Nat)))]) s)
    (fun s => (fun k => []) s) (fun s => (fun k => l.length - k) s) hnp 0 ?_ [] ?_ ?_
   ·dsimp only
    simp
   ·dsimp only
    refine ⟨by rfl, ?_, ?_⟩
    ·refine fin_ ?_
     exact cl_
    ·refine fin_ ?_
     exact cl_
   ·rintro k hinv N8 h8
    dsimp only at hinv ⊢
    obtain ⟨k1, k2⟩ := hinv
    refine vc_seq_k fun N9 h9 => ?_
    refine vc_seq_k fun N10 h10 => ?_
    rcases Nat.lt_or_ge k l.length with hk | hk
    ·obtain ⟨x, hxe⟩ := getE hk
     have hk' : decide ((k : Int) < (l.length : Int)) = true := by simp; omega
     have hx := And.intro @hxe (And.intro @hk' (And.intro @eI.eq_1 hx0))
     refine u_reg ?_
     try refine lg_mk ?_
     refine u_mv ?_
     refine u_mv ?_
     refine u_ln ?_
     refine u_bn ?_
     refine u_mv ?_
     refine g_mv ?_
     refine g_mv ?_
     refine g_pt ?_
     refine g_ld ?_
     refine g_mv ?_
     refine g_bn ?_
     refine u_pk ?_
     refine lg_nil ?_
     have hx := hx0
     refine h10 _ ?_; clear h10; try clear N10
     refine u_cond (fun hb11 => ?_) (fun hb11 => ?_)
     ·refine vc_skip ?_
      try simp only [k_rules]
      refine h9 _ ?_; clear h9; try clear N9
      refine vc_block ?_
      refine u_reg ?_
      try refine lg_mk ?_
      refine u_mv ?_
      refine u_bn ?_
      refine u_mv ?_
      refine lg_nil ?_
      refine h8 _ ⟨k + 1, ?_, ?_, [], ?_⟩
      ·dsimp only
       exact ⟨by omega, all_snoc k2 hxe (by simpa using hb11)⟩
      ·dsimp only
       omega
      ·dsimp only
       refine ⟨by rfl, ?_, ?_⟩
       ·refine fin_ ?_
        exact cl_
       ·refine fin_ ?_
        exact cl_
     ·refine vc_exit ?_
      simp only [k_rules, Nat.reduceEqDiff, reduceIte, eq_self]
      refine h7 _ ?_; clear h7; try clear N7
      refine vc_seq_k fun N12 h12 => ?_
      refine vc_regT [1000027] (.seq [0, 1, 2, 4, 7, 8] (.alt 3 (.alt 5 (.alt 6 (.seq [9, 10, 11] .nil) (.alt 9 (.seq [6, 10, 11] .nil) .nil)) (.alt 9 (.seq [5, 6, 10, 11] .nil) .nil)) (.alt 5 (.alt 3 (.alt 6 (.seq [9, 10, 11] .nil) (.alt 9 (.seq [6, 10, 11] .nil) .nil)) (.alt 9 (.seq [3, 6, 10, 11] .nil) .nil)) (.alt 9 (.alt 3 (.seq [5, 6, 10, 11] .nil) (.alt 5 (.seq [3, 6, 10, 11] .nil) .nil)) .nil)))) hmix (by kernel_rfl) ?_
      refine at_seq ?_
      simp only [pick_rules, list_rules]
      try refine lg_mk ?_
      refine u_mv ?_
      refine u_mv ?_
      refine u_sl ?_
      refine u_mv ?_
      refine u_mv ?_
      refine u_mv ?_
      refine lg_nil ?_
      refine at_alt ?_ ?_
      ·simp only [pick_rules, list_rules]
       try refine lg_mk ?_
       refine u_ap ?_
       refine lg_nil ?_
       refine at_alt ?_ ?_
       ·simp only [pick_rules, list_rules]
        try refine lg_mk ?_
        refine u_bs ?_
        refine lg_nil ?_
        refine at_alt ?_ ?_
        ·simp only [pick_rules, list_rules]
         try refine lg_mk ?_
         refine u_ap ?_
         refine lg_nil ?_
         refine at_seq ?_
         simp only [pick_rules, list_rules]
         try refine lg_mk ?_
         refine u_sl ?_
         refine u_ap (hq := by (first | (constructor <;> simp only [List.length_append, rows_len, List.length_singleton, List.length_take, List.length_drop] <;> omega) | exact sd_)) ?_
         refine u_mv ?_
         refine lg_nil ?_
         refine at_nil ?_
         refine h12 _ ?_; clear h12; try clear N12
         refine vc_ret ?_
         try simp only [k_rules]
         have hr : ins l n = l.take k ++ n :: l.drop k := ins_at (by simpa using hb4) k2 (by first | exact Or.inl (by omega) | exact Or.inr ⟨x, hxe, by simpa using hb11⟩)
         rw [hr]
         refine fin2_ ?_
         (repeat' apply And.intro) <;> (first | (first | rfl | exact congrArg D.sl ins_rows | exact Or.inl (congrArg D.sl ins_rows) | (simp only [List.length_append, rows_len, List.length_singleton, List.length_take, List.length_drop]; omega)) | exact cl_)
        refine at_alt ?_ ?_
        ·simp only [pick_rules, list_rules]
         try refine lg_mk ?_
         refine u_sl ?_
         refine lg_nil ?_
         refine at_seq ?_
         simp only [pick_rules, list_rules]
         try refine lg_mk ?_
         refine u_ap ?_
         refine u_ap (hq := by (first | (constructor <;> simp only [List.length_append, rows_len, List.length_singleton, List.length_take, List.length_drop] <;> omega) | exact sd_)) ?_
         refine u_mv ?_
         refine lg_nil ?_
         refine at_nil ?_
         refine h12 _ ?_; clear h12; try clear N12
         refine vc_ret ?_
         try simp only [k_rules]
         have hr : ins l n = l.take k ++ n :: l.drop k := ins_at (by simpa using hb4) k2 (by first | exact Or.inl (by omega) | exact Or.inr ⟨x, hxe, by simpa using hb11⟩)
         rw [hr]
         refine fin2_ ?_
         (repeat' apply And.intro) <;> (first | (first | rfl | exact congrArg D.sl ins_rows | exact Or.inl (congrArg D.sl ins_rows) | (simp only [List.length_append, rows_len, List.length_singleton, List.length_take, List.length_drop]; omega)) | exact cl_)
        exact at_end
       refine at_alt ?_ ?_
       ·simp only [pick_rules, list_rules]
        try refine lg_mk ?_
        refine u_sl ?_
        refine lg_nil ?_
        refine at_seq ?_
        simp only [pick_rules, list_rules]
        try refine lg_mk ?_
        refine u_bs ?_
        refine u_ap ?_
        refine u_ap (hq := by (first | (constructor <;> simp only [List.length_append, rows_len, List.length_singleton, List.length_take, List.length_drop] <;> omega) | exact sd_)) ?_
        refine u_mv ?_
        refine lg_nil ?_
        refine at_nil ?_
        refine h12 _ ?_; clear h12; try clear N12
        refine vc_ret ?_
        try simp only [k_rules]
        have hr : ins l n = l.take k ++ n :: l.drop k := ins_at (by simpa using hb4) k2 (by first | exact Or.inl (by omega) | exact Or.inr ⟨x, hxe, by simpa using hb11⟩)
        rw [hr]
        refine fin2_ ?_
        (repeat' apply And.intro) <;> (first | (first | rfl | exact congrArg D.sl ins_rows | exact Or.inl (congrArg D.sl ins_rows) | (simp only [List.length_append, rows_len, List.length_singleton, List.length_take, List.length_drop]; omega)) | exact cl_)
       exact at_end
      refine at_alt ?_ ?_
      ·simp only [pick_rules, list_rules]
       try refine lg_mk ?_
       refine u_bs ?_
       refine lg_nil ?_
       refine at_alt ?_ ?_
       ·simp only [pick_rules, list_rules]
        try refine lg_mk ?_
        refine u_ap ?_
        refine lg_nil ?_
        refine at_alt ?_ ?_
        ·simp only [pick_rules, list_rules]
         try refine lg_mk ?_
         refine u_ap ?_
         refine lg_nil ?_
         refine at_seq ?_
         simp only [pick_rules, list_rules]
         try refine lg_mk ?_
         refine u_sl ?_
         refine u_ap (hq := by (first | (constructor <;> simp only [List.length_append, rows_len, List.length_singleton, List.length_take, List.length_drop] <;> omega) | exact sd_)) ?_
         refine u_mv ?_
         refine lg_nil ?_
         refine at_nil ?_
         refine h12 _ ?_; clear h12; try clear N12
         refine vc_ret ?_
         try simp only [k_rules]
         have hr : ins l n = l.take k ++ n :: l.drop k := ins_at (by simpa using hb4) k2 (by first | exact Or.inl (by omega) | exact Or.inr ⟨x, hxe, by simpa using hb11⟩)
         rw [hr]
         refine fin2_ ?_
         (repeat' apply And.intro) <;> (first | (first | rfl | exact congrArg D.sl ins_rows | exact Or.inl (congrArg D.sl ins_rows) | (simp only [List.length_append, rows_len, List.length_singleton, List.length_take, List.length_drop]; omega)) | exact cl_)
        refine at_alt ?_ ?_
        ·simp only [pick_rules, list_rules]
         try refine lg_mk ?_
         refine u_sl ?_
         refine lg_nil ?_
         refine at_seq ?_
         simp only [pick_rules, list_rules]
         try refine lg_mk ?_
         refine u_ap ?_
         refine u_ap (hq := by (first | (constructor <;> simp only [List.length_append, rows_len, List.length_singleton, List.length_take, List.length_drop] <;> omega) | exact sd_)) ?_
         refine u_mv ?_
         refine lg_nil ?_
         refine at_nil ?_
         refine h12 _ ?_; clear h12; try clear N12
         refine vc_ret ?_
         try simp only [k_rules]
         have hr : ins l n = l.take k ++ n :: l.drop k := ins_at (by simpa using hb4) k2 (by first | exact Or.inl (by omega) | exact Or.inr ⟨x, hxe, by simpa using hb11⟩)
         rw [hr]
         refine fin2_ ?_
         (repeat' apply And.intro) <;> (first | (first | rfl | exact congrArg D.sl ins_rows | exact Or.inl (congrArg D.sl ins_rows) | (simp only [List.length_append, rows_len, List.length_singleton, List.length_take, List.length_drop]; omega)) | exact cl_)
        exact at_end
       refine at_alt ?_ ?_
       ·simp only [pick_rules, list_rules]
        try refine lg_mk ?_
        refine u_sl ?_
        refine lg_nil ?_
        refine at_seq ?_
        simp only [pick_rules, list_rules]
        try refine lg_mk ?_
        refine u_ap ?_
        refine u_ap ?_
        refine u_ap (hq := by (first | (constructor <;> simp only [List.length_append, rows_len, List.length_singleton, List.length_take, List.length_drop] <;> omega) | exact sd_)) ?_
        refine u_mv ?_
        refine lg_nil ?_
        refine at_nil ?_
        refine h12 _ ?_; clear h12; try clear N12
        refine vc_ret ?_
        try simp only [k_rules]
        have hr : ins l n = l.take k ++ n :: l.drop k := ins_at (by simpa using hb4) k2 (by first | exact Or.inl (by omega) | exact Or.inr ⟨x, hxe, by simpa using hb11⟩)
        rw [hr]
        refine fin2_ ?_
        (repeat' apply And.intro) <;> (first | (first | rfl | exact congrArg D.sl ins_rows | exact Or.inl (congrArg D.sl ins_rows) | (simp only [List.length_append, rows_len, List.length_singleton, List.length_take, List.length_drop]; omega)) | exact cl_)
       exact at_end
      refine at_alt ?_ ?_
      ·simp only [pick_rules, list_rules]
       try refine lg_mk ?_
       refine u_sl ?_
       refine lg_nil ?_
       refine at_alt ?_ ?_
       ·simp only [pick_rules, list_rules]
        try refine lg_mk ?_
        refine u_ap ?_
        refine lg_nil ?_
        refine at_seq ?_
        simp only [pick_rules, list_rules]
        try refine lg_mk ?_
        refine u_bs ?_
        refine u_ap ?_
        refine u_ap (hq := by (first | (constructor <;> simp only [List.length_append, rows_len, List.length_singleton, List.length_take, List.length_drop] <;> omega) | exact sd_)) ?_
        refine u_mv ?_
        refine lg_nil ?_
        refine at_nil ?_
        refine h12 _ ?_; clear h12; try clear N12
        refine vc_ret ?_
        try simp only [k_rules]
        have hr : ins l n = l.take k ++ n :: l.drop k := ins_at (by simpa using hb4) k2 (by first | exact Or.inl (by omega) | exact Or.inr ⟨x, hxe, by simpa using hb11⟩)
        rw [hr]
        refine fin2_ ?_
        (repeat' apply And.intro) <;> (first | (first | rfl | exact congrArg D.sl ins_rows | exact Or.inl (congrArg D.sl ins_rows) | (simp only [List.length_append, rows_len, List.length_singleton, List.length_take, List.length_drop]; omega)) | exact cl_)
       refine at_alt ?_ ?_
       ·simp only [pick_rules, list_rules]
        try refine lg_mk ?_
        refine u_bs ?_
        refine lg_nil ?_
        refine at_seq ?_
        simp only [pick_rules, list_rules]
        try refine lg_mk ?_
        refine u_ap ?_
        refine u_ap ?_
        refine u_ap (hq := by (first | (constructor <;> simp only [List.length_append, rows_len, List.length_singleton, List.length_take, List.length_drop] <;> omega) | exact sd_)) ?_
        refine u_mv ?_
        refine lg_nil ?_
        refine at_nil ?_
        refine h12 _ ?_; clear h12; try clear N12
        refine vc_ret ?_
        try simp only [k_rules]
        have hr : ins l n = l.take k ++ n :: l.drop k := ins_at (by simpa using hb4) k2 (by first | exact Or.inl (by omega) | exact Or.inr ⟨x, hxe, by simpa using hb11⟩)
        rw [hr]
        refine fin2_ ?_
        (repeat' apply And.intro) <;> (first | (first | rfl | exact congrArg D.sl ins_rows | exact Or.inl (congrArg D.sl ins_rows) | (simp only [List.length_append, rows_len, List.length_singleton, List.length_take, List.length_drop]; omega)) | exact cl_)
       exact at_end
      exact at_end
    ·have hxe : l[k]? = none := List.getElem?_eq_none hk
     have hk' : decide ((k : Int) < (l.length : Int)) = false := by simp; omega
     have hx := And.intro @hxe (And.intro @hk' (And.intro @eI.eq_1 hx0))
     refine u_reg ?_
     try refine lg_mk ?_
     refine u_mv ?_
     refine u_mv ?_
     refine u_ln ?_
     refine u_bn ?_
     refine u_mv ?_
     refine g_mv ?_
     refine g_mv ?_
     refine g_pt ?_
     refine g_ld ?_
     refine g_mv ?_
     refine g_bn ?_
     refine u_pk ?_
     refine lg_nil ?_
     have hx := hx0
     refine h10 _ ?_; clear h10; try clear N10
     refine u_cond (fun hb13 => ?_) (fun hb13 => ?_)
     ·cases hb13
     ·refine vc_exit ?_
      simp only [k_rules, Nat.reduceEqDiff, reduceIte, eq_self]
      refine h7 _ ?_; clear h7; try clear N7
      refine vc_seq_k fun N14 h14 => ?_
      refine vc_regT [1000027] (.seq [0, 1, 2, 4, 7, 8] (.alt 3 (.alt 5 (.alt 6 (.seq [9, 10, 11] .nil) (.alt 9 (.seq [6, 10, 11] .nil) .nil)) (.alt 9 (.seq [5, 6, 10, 11] .nil) .nil)) (.alt 5 (.alt 3 (.alt 6 (.seq [9, 10, 11] .nil) (.alt 9 (.seq [6, 10, 11] .nil) .nil)) (.alt 9 (.seq [3, 6, 10, 11] .nil) .nil)) (.alt 9 (.alt 3 (.seq [5, 6, 10, 11] .nil) (.alt 5 (.seq [3, 6, 10, 11] .nil) .nil)) .nil)))) hmix (by kernel_rfl) ?_
      refine at_seq ?_
      simp only [pick_rules, list_rules]
      try refine lg_mk ?_
      refine u_mv ?_
      refine u_mv ?_
      refine u_sl ?_
      refine u_mv ?_
      refine u_mv ?_
      refine u_mv ?_
      refine lg_nil ?_
      refine at_alt ?_ ?_
      ·simp only [pick_rules, list_rules]
       try refine lg_mk ?_
       refine u_ap ?_
       refine lg_nil ?_
       refine at_alt ?_ ?_
       ·simp only [pick_rules, list_rules]
        try refine lg_mk ?_
        refine u_bs ?_
        refine lg_nil ?_
        refine at_alt ?_ ?_
        ·simp only [pick_rules, list_rules]
         try refine lg_mk ?_
         refine u_ap ?_
         refine lg_nil ?_
         refine at_seq ?_
         simp only [pick_rules, list_rules]
         try refine lg_mk ?_
         refine u_sl ?_
         refine u_ap (hq := by (first | (constructor <;> simp only [List.length_append, rows_len, List.length_singleton, List.length_take, List.length_drop] <;> omega) | exact sd_)) ?_
         refine u_mv ?_
         refine lg_nil ?_
         refine at_nil ?_
         refine h14 _ ?_; clear h14; try clear N14
         refine vc_ret ?_
         try simp only [k_rules]
         have hr : ins l n = l.take k ++ n :: l.drop k := ins_at (by simpa using hb4) k2 (by first | exact Or.inl (by omega) | exact Or.inr ⟨x, hxe, by simpa using hb13⟩)
         rw [hr]
         refine fin2_ ?_
         (repeat' apply And.intro) <;> (first | (first | rfl | exact congrArg D.sl ins_rows | exact Or.inl (congrArg D.sl ins_rows) | (simp only [List.length_append, rows_len, List.length_singleton, List.length_take, List.length_drop]; omega)) | exact cl_)
        refine at_alt ?_ ?_
        ·simp only [pick_rules, list_rules]
         try refine lg_mk ?_
         refine u_sl ?_
         refine lg_nil ?_
         refine at_seq ?_
         simp only [pick_rules, list_rules]
         try refine lg_mk ?_
         refine u_ap ?_
         refine u_ap (hq := by (first | (constructor <;> simp only [List.length_append, rows_len, List.length_singleton, List.length_take, List.length_drop] <;> omega) | exact sd_)) ?_
         refine u_mv ?_
         refine lg_nil ?_
         refine at_nil ?_
         refine h14 _ ?_; clear h14; try clear N14
         refine vc_ret ?_
         try simp only [k_rules]
         have hr : ins l n = l.take k ++ n :: l.drop k := ins_at (by simpa using hb4) k2 (by first | exact Or.inl (by omega) | exact Or.inr ⟨x, hxe, by simpa using hb13⟩)
         rw [hr]
         refine fin2_ ?_
         (repeat' apply And.intro) <;> (first | (first | rfl | exact congrArg D.sl ins_rows | exact Or.inl (congrArg D.sl ins_rows) | (simp only [List.length_append, rows_len, List.length_singleton, List.length_take, List.length_drop]; omega)) | exact cl_)
        exact at_end
       refine at_alt ?_ ?_
       ·simp only [pick_rules, list_rules]
        try refine lg_mk ?_
        refine u_sl ?_
        refine lg_nil ?_
        refine at_seq ?_
        simp only [pick_rules, list_rules]
        try refine lg_mk ?_
        refine u_bs ?_
        refine u_ap ?_
        refine u_ap (hq := by (first | (constructor <;> simp only [List.length_append, rows_len, List.length_singleton, List.length_take, List.length_drop] <;> omega) | exact sd_)) ?_
        refine u_mv ?_
        refine lg_nil ?_
        refine at_nil ?_
        refine h14 _ ?_; clear h14; try clear N14
        refine vc_ret ?_
        try simp only [k_rules]
        have hr : ins l n = l.take k ++ n :: l.drop k := ins_at (by simpa using hb4) k2 (by first | exact Or.inl (by omega) | exact Or.inr ⟨x, hxe, by simpa using hb13⟩)
        rw [hr]
        refine fin2_ ?_
        (repeat' apply And.intro) <;> (first | (first | rfl | exact congrArg D.sl ins_rows | exact Or.inl (congrArg D.sl ins_rows) | (simp only [List.length_append, rows_len, List.length_singleton, List.length_take, List.length_drop]; omega)) | exact cl_)
       exact at_end
      refine at_alt ?_ ?_
      ·simp only [pick_rules, list_rules]
       try refine lg_mk ?_
       refine u_bs ?_
       refine lg_nil ?_
       refine at_alt ?_ ?_
       ·simp only [pick_rules, list_rules]
        try refine lg_mk ?_
        refine u_ap ?_
        refine lg_nil ?_
        refine at_alt ?_ ?_
        ·simp only [pick_rules, list_rules]
         try refine lg_mk ?_
         refine u_ap ?_
         refine lg_nil ?_
         refine at_seq ?_
         simp only [pick_rules, list_rules]
         try refine lg_mk ?_
         refine u_sl ?_
         refine u_ap (hq := by (first | (constructor <;> simp only [List.length_append, rows_len, List.length_singleton, List.length_take, List.length_drop] <;> omega) | exact sd_)) ?_
         refine u_mv ?_
         refine lg_nil ?_
         refine at_nil ?_
         refine h14 _ ?_; clear h14; try clear N14
         refine vc_ret ?_
         try simp only [k_rules]
         have hr : ins l n = l.take k ++ n :: l.drop k := ins_at (by simpa using hb4) k2 (by first | exact Or.inl (by omega) | exact Or.inr ⟨x, hxe, by simpa using hb13⟩)
         rw [hr]
         refine fin2_ ?_
         (repeat' apply And.intro) <;> (first | (first | rfl | exact congrArg D.sl ins_rows | exact Or.inl (congrArg D.sl ins_rows) | (simp only [List.length_append, rows_len, List.length_singleton, List.length_take, List.length_drop]; omega)) | exact cl_)
        refine at_alt ?_ ?_
        ·simp only [pick_rules, list_rules]
         try refine lg_mk ?_
         refine u_sl ?_
         refine lg_nil ?_
         refine at_seq ?_
         simp only [pick_rules, list_rules]
         try refine lg_mk ?_
         refine u_ap ?_
         refine u_ap (hq := by (first | (constructor <;> simp only [List.length_append, rows_len, List.length_singleton, List.length_take, List.length_drop] <;> omega) | exact sd_)) ?_
         refine u_mv ?_
         refine lg_nil ?_
         refine at_nil ?_
         refine h14 _ ?_; clear h14; try clear N14
         refine vc_ret ?_
         try simp only [k_rules]
         have hr : ins l n = l.take k ++ n :: l.drop k := ins_at (by simpa using hb4) k2 (by first | exact Or.inl (by omega) | exact Or.inr ⟨x, hxe, by simpa using hb13⟩)
         rw [hr]
         refine fin2_ ?_
         (repeat' apply And.intro) <;> (first | (first | rfl | exact congrArg D.sl ins_rows | exact Or.inl (congrArg D.sl ins_rows) | (simp only [List.length_append, rows_len, List.length_singleton, List.length_take, List.length_drop]; omega)) | exact cl_)
        exact at_end
       refine at_alt ?_ ?_
       ·simp only [pick_rules, list_rules]
        try refine lg_mk ?_
        refine u_sl ?_
        refine lg_nil ?_
        refine at_seq ?_
        simp only [pick_rules, list_rules]
        try refine lg_mk ?_
        refine u_ap ?_
        refine u_ap ?_
        refine u_ap (hq := by (first | (constructor <;> simp only [List.length_append, rows_len, List.length_singleton, List.length_take, List.length_drop] <;> omega) | exact sd_)) ?_
        refine u_mv ?_
        refine lg_nil ?_
        refine at_nil ?_
        refine h14 _ ?_; clear h14; try clear N14
        refine vc_ret ?_
        try simp only [k_rules]
        have hr : ins l n = l.take k ++ n :: l.drop k := ins_at (by simpa using hb4) k2 (by first | exact Or.inl (by omega) | exact Or.inr ⟨x, hxe, by simpa using hb13⟩)
        rw [hr]
        refine fin2_ ?_
        (repeat' apply And.intro) <;> (first | (first | rfl | exact congrArg D.sl ins_rows | exact Or.inl (congrArg D.sl ins_rows) | (simp only [List.length_append, rows_len, List.length_singleton, List.length_take, List.length_drop]; omega)) | exact cl_)
       exact at_end
      refine at_alt ?_ ?_
      ·simp only [pick_rules, list_rules]
       try refine lg_mk ?_
       refine u_sl ?_
       refine lg_nil ?_
       refine at_alt ?_ ?_
       ·simp only [pick_rules, list_rules]
        try refine lg_mk ?_
        refine u_ap ?_
        refine lg_nil ?_
        refine at_seq ?_
        simp only [pick_rules, list_rules]
        try refine lg_mk ?_
        refine u_bs ?_
        refine u_ap ?_
        refine u_ap (hq := by (first | (constructor <;> simp only [List.length_append, rows_len, List.length_singleton, List.length_take, List.length_drop] <;> omega) | exact sd_)) ?_
        refine u_mv ?_
        refine lg_nil ?_
        refine at_nil ?_
        refine h14 _ ?_; clear h14; try clear N14
        refine vc_ret ?_
        try simp only [k_rules]
        have hr : ins l n = l.take k ++ n :: l.drop k := ins_at (by simpa using hb4) k2 (by first | exact Or.inl (by omega) | exact Or.inr ⟨x, hxe, by simpa using hb13⟩)
        rw [hr]
        refine fin2_ ?_
        (repeat' apply And.intro) <;> (first | (first | rfl | exact congrArg D.sl ins_rows | exact Or.inl (congrArg D.sl ins_rows) | (simp only [List.length_append, rows_len, List.length_singleton, List.length_take, List.length_drop]; omega)) | exact cl_)
       refine at_alt ?_ ?_
       ·simp only [pick_rules, list_rules]
        try refine lg_mk ?_
        refine u_bs ?_
        refine lg_nil ?_
        refine at_seq ?_
        simp only [pick_rules, list_rules]
        try refine lg_mk ?_
        refine u_ap ?_
        refine u_ap ?_
        refine u_ap (hq := by (first | (constructor <;> simp only [List.length_append, rows_len, List.length_singleton, List.length_take, List.length_drop] <;> omega) | exact sd_)) ?_
        refine u_mv ?_
        refine lg_nil ?_
        refine at_nil ?_
        refine h14 _ ?_; clear h14; try clear N14
        refine vc_ret ?_
        try simp only [k_rules]
        have hr : ins l n = l.take k ++ n :: l.drop k := ins_at (by simpa using hb4) k2 (by first | exact Or.inl (by omega) | exact Or.inr ⟨x, hxe, by simpa using hb13⟩)
        rw [hr]
        refine fin2_ ?_
        (repeat' apply And.intro) <;> (first | (first | rfl | exact congrArg D.sl ins_rows | exact Or.inl (congrArg D.sl ins_rows) | (simp only [List.length_append, rows_len, List.length_singleton, List.length_take, List.length_drop]; omega)) | exact cl_)
       exact at_end
      exact at_end
 ·cases hg

def E_insert : Env Try.prog := E_markR.add 38 (Spec.pure insG) insert_meets (by kernel_rfl)

def rwN (S : List SO) (R : List Int) : Nat → List Int
  | 0 => R
  | n + 1 => (S.getD n default).ob.ln
theorem rwN_succ (S : List SO) (R : List Int) (n : Nat) : rwN S R (n + 1) = (S.getD n default).ob.ln := rfl
def useN (S : List SO) (R : List Int) (j : Nat) : Bool := decide (j = 0) || (mkV S R).getD (j - 1) false
def cdN (S : List SO) (R : List Int) (j : Nat) : List Int := (List.range j).flatMap fun i => if useN S R i = true then rwN S R i else []
theorem cdN_zero (S : List SO) (R : List Int) : cdN S R 0 = [] := by unfold cdN; rw [List.range_zero, List.flatMap_nil]
theorem cdN_succ (S : List SO) (R : List Int) (j : Nat) : cdN S R (j + 1) = cdN S R j ++ if useN S R j = true then rwN S R j else [] := by
  unfold cdN; rw [List.range_succ, List.flatMap_append, List.flatMap_singleton]
theorem mkV_at {S : List SO} {R : List Int} {n : Nat} {y : SO} (h : S[n]? = some y) : (mkV S R)[n]? = some (decide (y.dg ∈ keysM (reachM S R))) := by
  unfold mkV; rw [List.getElem?_map, h]; rfl
theorem cdN_mem {S : List SO} {R : List Int} (hv : ValS S) (d : Int) : d ∈ cdN S R (S.length + 1) ↔ Cand S R d := by
  unfold cdN
  rw [List.mem_flatMap]
  constructor
  · rintro ⟨j, hj, h⟩
    rw [List.mem_range] at hj
    split at h
    · rename_i hu
      cases j with
      | zero => exact .inl h
      | succ n =>
        obtain ⟨y, hy⟩ : ∃ y, S[n]? = some y := ⟨_, List.getElem?_eq_getElem (by omega)⟩
        unfold useN at hu
        rw [decide_eq_false (by omega), Bool.false_or, Nat.add_sub_cancel, getD_at (mkV_at hy), decide_eq_true_eq] at hu
        rw [rwN_succ, getD_at hy] at h
        exact .inr ⟨y, mem_at hy, ((reach_set R hv).2 _).1 hu, h⟩
    · cases h
  · rintro (h | ⟨y, hy, h1, h2⟩)
    · exact ⟨0, List.mem_range.2 (by omega), by rw [if_pos (by rfl)]; exact h⟩
    · obtain ⟨n, hn⟩ := List.getElem?_of_mem hy
      have hl := (List.getElem?_eq_some_iff.1 hn).1
      refine ⟨n + 1, List.mem_range.2 (by omega), ?_⟩
      rw [if_pos]
      · rw [rwN_succ, getD_at hn]; exact h2
      · unfold useN
        rw [decide_eq_false (by omega), Bool.false_or, Nat.add_sub_cancel, getD_at (mkV_at hn), decide_eq_true_eq]
        exact ((reach_set R hv).2 _).2 h1
structure InvQ (S : List SO) (P C o : List Int) (e : Bool) : Prop where
  srt : o.Pairwise (· < ·)
  mem : ∀ x, x ∈ o ↔ x ∈ P ∧ x ∈ C
  ok : e = C.all (okB S P)
theorem InvQ.zero (S : List SO) (P : List Int) : InvQ S P [] [] true := ⟨List.Pairwise.nil, fun x => by simp, rfl⟩
section
variable {S : List SO} {P C o R : List Int} {e : Bool} {x : Int}
theorem InvQ.len (h : InvQ S P C o e) : o.length ≤ P.length := nodup_le (h.srt.imp (fun h => Int.ne_of_lt h)) fun x hx => ((h.mem x).1 hx).1
theorem InvQ.ins (h : InvQ S P C o e) (hx : x ∈ P) : InvQ S P (C ++ [x]) (ins o x) e := by
  refine ⟨ins_sorted h.srt, fun y => ?_, ?_⟩
  · rw [ins_mem, h.mem, List.mem_append, List.mem_singleton]
    constructor
    · rintro (rfl | ⟨a, b⟩)
      · exact ⟨hx, .inr rfl⟩
      · exact ⟨a, .inl b⟩
    · rintro ⟨a, b | rfl⟩
      · exact .inr ⟨a, b⟩
      · exact .inl rfl
  · rw [List.all_append, ← h.ok, List.all_cons, List.all_nil, (okB_iff S P x).2 (.inl hx)]; simp
theorem InvQ.out (h : InvQ S P C o e) (hx : x ∉ P) (c : Bool) (hc : inS S x = c) : InvQ S P (C ++ [x]) o (e && c) := by
  refine ⟨h.srt, fun y => ?_, ?_⟩
  · rw [h.mem, List.mem_append, List.mem_singleton]
    constructor
    · rintro ⟨a, b⟩; exact ⟨a, .inl b⟩
    · rintro ⟨a, b | rfl⟩
      · exact ⟨a, b⟩
      · exact absurd a hx
  · rw [List.all_append, ← h.ok, List.all_cons, List.all_nil, Bool.and_true]
    unfold okB; rw [decide_eq_false hx, hc, Bool.false_or]
theorem InvQ.fin (hp : ValP S P) (h : InvQ S P (cdN S R (S.length + 1)) o e) : o = nedL S P R ∧ e = nedOk S P R := by
  refine ⟨?_, ?_⟩
  · have h1 : sortI o = o := sortI_is (h.srt.imp (fun h => Int.ne_of_lt h)) h.srt fun _ => Iff.rfl
    rw [← h1]
    refine sortI_is (h.srt.imp (fun h => Int.ne_of_lt h)) (nedL_sort hp.sort R) fun x => ?_
    rw [h.mem, nedL_mem hp.st, cdN_mem hp.st]
  · rw [h.ok, Bool.eq_iff_iff, nedOk_iff hp.st, List.all_eq_true]
    exact ⟨fun a d hd => (okB_iff S P d).1 (a d ((cdN_mem hp.st d).2 hd)), fun a d hd => (okB_iff S P d).2 (a d ((cdN_mem hp.st d).1 hd))⟩
end
theorem nedR_cases {S : List SO} (R : List Int) (hv : ValS S) {i : Int} {j : Nat} (hi : i = (j : Int) - 1) (hj : j ≤ S.length) :
    (decide (i < 0) = true ∧ i = -1 ∧ rwN S R j = R ∧ cdN S R (j + 1) = cdN S R j ++ rwN S R j) ∨
    (decide (i < 0) = false ∧ 0 ≤ i ∧ ∃ y, S[i.toNat]? = some y ∧ (mkV S R)[i.toNat]? = some false ∧ rwN S R j = y.ob.ln ∧ y.ob.ln.length ≤ 30 ∧ cdN S R (j + 1) = cdN S R j) ∨
    (decide (i < 0) = false ∧ 0 ≤ i ∧ ∃ y, S[i.toNat]? = some y ∧ (mkV S R)[i.toNat]? = some true ∧ rwN S R j = y.ob.ln ∧ y.ob.ln.length ≤ 30 ∧ cdN S R (j + 1) = cdN S R j ++ rwN S R j) := by
  cases j with
  | zero => exact .inl ⟨decide_eq_true (by omega), by omega, rfl, by rw [cdN_succ, if_pos (by rfl)]⟩
  | succ n =>
    obtain rfl : i = (n : Int) := by omega
    obtain ⟨y, hy⟩ : ∃ y, S[n]? = some y := ⟨_, List.getElem?_eq_getElem (by omega)⟩
    have h1 := mkV_at (R := R) hy
    have hu : useN S R (n + 1) = decide (y.dg ∈ keysM (reachM S R)) := by unfold useN; rw [decide_eq_false (by omega), Bool.false_or, Nat.add_sub_cancel, getD_at h1]
    have hr : rwN S R (n + 1) = y.ob.ln := by rw [rwN_succ, getD_at hy]
    have h30 := (hv.ok y (mem_at hy)).ln
    right
    by_cases hk : y.dg ∈ keysM (reachM S R)
    · right
      rw [decide_eq_true hk] at h1 hu
      exact ⟨decide_eq_false (by omega), by omega, y, hy, h1, hr, h30, by rw [cdN_succ (j := n + 1), if_pos hu]⟩
    · left
      rw [decide_eq_false hk] at h1 hu
      exact ⟨decide_eq_false (by omega), by omega, y, hy, h1, hr, h30, by rw [cdN_succ (j := n + 1), if_neg (by rw [hu]; simp), List.append_nil]⟩
theorem nedR_stay {A B L : List Int} {k : Nat} (h : k = 0 ∨ B = A ++ L) (h2 : B = A) : A ++ L.take k = B := by
  rcases h with rfl | h
  · rw [List.take_zero, List.append_nil, h2]
  · have : L = [] := by
      have h3 := congrArg List.length (h2.symm.trans h)
      rw [List.length_append] at h3
      exact List.eq_nil_of_length_eq_zero (by omega)
    rw [this, List.take_nil, List.append_nil, h2]
def nedRG : List AV → Option (Prop × AV)
  | [.agg [.d (.sl xs)], .d (.sl ps), .d (.sl rs)] => some (xs = rows eO (dO xs) ∧ ps = rows eI (dI ps) ∧ rs = rows eI (dI rs) ∧ ValP (dO xs) (dI ps) ∧ (dI rs).length ≤ 40,
      .tup [.d (.sl (rows eI (nedL (dO xs) (dI ps) (dI rs)))), .d (.bool (nedOk (dO xs) (dI ps) (dI rs)))])
  | _ => none

theorem nedR_meets : Meets Try.prog 20 (Spec.pure nedRG) := by
 refine meets_fun (E_insert.at_ 71) Try.func20 rfl rfl rfl ?_
 intro args p r hg hp
 unfold nedRG at hg
 split at hg
 ·rename_i xs ps rs
  simp only [Option.some.injEq, Prod.mk.injEq] at hg
  obtain ⟨rfl, rfl⟩ := hg
  obtain ⟨he, he2, he3, hvp, hrl⟩ := hp
  generalize dO xs = S at *
  generalize dI ps = P at *
  generalize dI rs = R at *
  subst he he2 he3
  have hv := hvp.st
  have hlen := hv.len
  have hpn := hvp.len
  have hml := mkV_len S R
  have hT : (E_insert).X = T := rfl
  have hx0 := And.intro @rect_eO (And.intro @dI_rows (And.intro @dU_rows (And.intro @dO_rows (And.intro @dB_rows (And.intro @takeS_len (And.intro @dec_t (And.intro @dec_f @Try.results20)))))))
  have hx := hx0
  refine ⟨by rfl, ?_⟩
  intro F W0 hnp hmk
  refine vc_seq_k fun N1 h1 => ?_
  refine u_reg ?_
  try refine lg_mk ?_
  refine u_bx ?_
  refine u_mv ?_
  refine u_mv ?_
  refine lg_nil ?_
  refine h1 _ ?_; clear h1; try clear N1
  refine vc_seq_k fun N2 h2 => ?_
  refine u_reg ?_
  try refine lg_mk ?_
  refine u_ld ?_
  refine u_mv ?_
  have hc := call_rule (E := (E_insert.at_ 71)) (f := 37) (sp := Spec.pure markedG) rfl
  have hs := @markedG.eq_1
  refine u_hp (hq := by (first | (exact ⟨hv, by omega⟩) | exact sd_)) ?_
  refine u_mv ?_
  refine lg_nil ?_
  refine h2 _ ?_; clear h2; try clear N2
  refine vc_seq_k fun N3 h3 => ?_
  refine u_reg ?_
  try refine lg_mk ?_
  refine u_mv ?_
  refine lg_nil ?_
  refine h3 _ ?_; clear h3; try clear N3
  refine vc_seq_k fun N4 h4 => ?_
  refine u_reg ?_
  try refine lg_mk ?_
  refine u_mv ?_
  refine lg_nil ?_
  refine h4 _ ?_; clear h4; try clear N4
  refine vc_seq_k fun N5 h5 => ?_
  refine vc_seq_k fun N6 h6 => ?_
  refine u_reg ?_
  try refine lg_mk ?_
  refine u_mv ?_
  refine lg_nil ?_
  refine h6 _ ?_; clear h6; try clear N6
  refine vc_block ?_
  refine vc_loop_mk (σ := Int × Nat × List Int × Bool) (fun s => (fun i j o e => InvQ S P (cdN S R j) o e ∧ i = (j : Int) - 1 ∧ j ≤ S.length + 1) (s.1) (s.2.1) (s.2.2.1) (s.2.2.2))
   (fun s => (fun i j o e => [(1, .d (.sl (rows eI P))), (2, .d (.sl (rows eI R))), (3, .ptr 0 0 0), (8, .d (.sl (rows eB (mkV S R)))), (9, .d (.sl (rows eI o))), (10, .d (.bool e)), (11, .d (.int .i64 i))]) (s.1) (s.2.1) (s.2.2.1) (s.2.2.2))
   (fun s => (fun i j o e => [some (.one 24 [.d (.sl (rows eO S))])]) (s.1) (s.2.1) (s.2.2.1) (s.2.2.2)) (fun s => (fun i j o e => S.length + 1 - j) (s.1) (s.2.1) (s.2.2.1) (s.2.2.2)) hnp (-1, 0, [], true) ?_ [some 0] ?_ ?_
  ·dsimp only
   exact ⟨by rw [cdN_zero]; exact InvQ.zero S P, by omega, by omega⟩
  ·dsimp only
   refine ⟨by rfl, ?_, ?_⟩
   ·refine fin_ ?_
    exact cl_
   ·refine fin_ ?_
    exact cl_
  ·rintro ⟨i, j, o, e⟩ hinv N7 h7
   dsimp only at hinv ⊢
   obtain ⟨hQ0, i1, j1⟩ := hinv
   have hol0 := hQ0.len
   refine vc_seq_k fun N8 h8 => ?_
   refine vc_seq_k fun N9 h9 => ?_
   refine u_reg ?_
   try refine lg_mk ?_
   refine u_mv ?_
   refine u_pt ?_
   refine u_ld ?_
   refine u_ln ?_
   refine u_bn ?_
   refine lg_nil ?_
   refine h9 _ ?_; clear h9; try clear N9
   refine u_cond (fun hb10 => ?_) (fun hb10 => ?_)
   ·refine vc_skip ?_
    try simp only [k_rules]
    refine h8 _ ?_; clear h8; try clear N8
    refine vc_seq_k fun N11 h11 => ?_
    refine vc_block ?_
    refine vc_seq_k fun N12 h12 => ?_
    rcases nedR_cases R hv i1 (by omega) with ⟨hib, hi0, hrw, hcd⟩ | ⟨hib, hi0, y, hye, hce, hrw, h30, hcd⟩ | ⟨hib, hi0, y, hye, hce, hrw, h30, hcd⟩
    ·have hce := hib
     refine u_reg ?_
     try refine lg_mk ?_
     refine u_mv ?_
     refine u_mv ?_
     refine lg_nil ?_
     refine h12 _ ?_; clear h12; try clear N12
     refine vc_seq_k fun N13 h13 => ?_
     refine vc_seq_k fun N14 h14 => ?_
     refine u_reg ?_
     try refine lg_mk ?_
     refine u_mv ?_
     refine u_bn ?_
     refine lg_nil ?_
     refine h14 _ ?_; clear h14; try clear N14
     refine u_cond (fun hb15 => ?_) (fun hb15 => ?_)
     ·first | omega | exact absurd trivial hb15 | contradiction | (simp_all; done)
     ·refine vc_skip ?_
      try simp only [k_rules]
      refine h13 _ ?_; clear h13; try clear N13
      refine vc_seq_k fun N16 h16 => ?_
      refine u_reg ?_
      try refine lg_mk ?_
      refine u_mv ?_
      refine lg_nil ?_
      refine h16 _ ?_; clear h16; try clear N16
      refine vc_block ?_
      refine vc_loop_mk (σ := Nat × List Int × Bool) (fun s => (fun k o' e' => (k ≤ (rwN S R j).length ∧ (k = 0 ∨ cdN S R (j + 1) = cdN S R j ++ rwN S R j)) ∧ InvQ S P (cdN S R j ++ (rwN S R j).take k) o' e') (s.1) (s.2.1) (s.2.2))
       (fun s => (fun k o' e' => [(1, .d (.sl (rows eI P))), (2, .d (.sl (rows eI R))), (3, .ptr 0 0 0), (8, .d (.sl (rows eB (mkV S R)))), (9, .d (.sl (rows eI o'))), (10, .d (.bool e')), (11, .d (.int .i64 i)), (12, .d (.sl (rows eI (rwN S R j)))), (13, .d (.int .i64 (k : Nat)))]) (s.1) (s.2.1) (s.2.2))
       (fun s => (fun k o' e' => [some (.one 24 [.d (.sl (rows eO S))])]) (s.1) (s.2.1) (s.2.2)) (fun s => (fun k o' e' => (rwN S R j).length - k) (s.1) (s.2.1) (s.2.2)) hnp (0, o, e) ?_ [some 0] ?_ ?_
      ·dsimp only
       exact ⟨⟨by omega, .inl rfl⟩, by rw [List.take_zero, List.append_nil]; exact hQ0⟩
      ·dsimp only
       refine ⟨by rfl, ?_, ?_⟩
       ·refine fin_ ?_
        (repeat' apply And.intro) <;> (first | (first | rfl | trivial | omega | (rw [hrw]; done) | (left; rw [hrw]; done)) | exact cl_)
       ·refine fin_ ?_
        (repeat' apply And.intro) <;> (first | (first | rfl | trivial | omega | (rw [hrw]; done) | (left; rw [hrw]; done)) | exact cl_)
      ·rintro ⟨k, o', e'⟩ hinv N17 h17
       dsimp only at hinv ⊢
       obtain ⟨⟨k1, k2⟩, hQ⟩ := hinv
       have hol := hQ.len
       have hrl30 : (rwN S R j).length ≤ 40 := by rw [hrw]; omega
       refine vc_seq_k fun N18 h18 => ?_
       refine vc_seq_k fun N19 h19 => ?_
       rcases Nat.lt_or_ge k (rwN S R j).length with hk | hk
       ·have hk' : decide ((k : Int) < ((rwN S R j).length : Int)) = true := by simp; omega
        have hx := And.intro @hk' (And.intro @hib (And.intro @hce (And.intro @eB.eq_1 hx0)))
        refine u_reg ?_
        try refine lg_mk ?_
        refine u_mv ?_
        refine u_mv ?_
        refine u_ln ?_
        refine u_bn ?_
        refine u_mv ?_
        refine g_mv ?_
        refine g_bn ?_
        refine g_mv ?_
        refine g_mv ?_
        refine g_mv ?_
        refine g_pt ?_
        refine g_ld ?_
        refine g_pk ?_
        refine u_pk ?_
        refine lg_nil ?_
        have hx := hx0
        refine h19 _ ?_; clear h19; try clear N19
        refine u_cond (fun hb20 => ?_) (fun hb20 => ?_)
        ·obtain ⟨x, hxe⟩ := getE (l := rwN S R j) (i := k) hk
         refine vc_skip ?_
         try simp only [k_rules]
         refine h18 _ ?_; clear h18; try clear N18
         refine vc_seq_k fun N21 h21 => ?_
         refine vc_block ?_
         refine vc_seq_k fun N22 h22 => ?_
         rcases (show x ∈ P ∨ (x ∉ P ∧ inS S x = true) ∨ (x ∉ P ∧ inS S x = false) by by_cases h1 : x ∈ P <;> cases inS S x <;> simp [h1]) with hxP | ⟨hxP, hin⟩ | ⟨hxP, hin⟩
         ·have hq : decide (x ∈ P) = true := decide_eq_true hxP
          have hgo := hQ.ins hxP
          have hx := And.intro @hxe (And.intro @eI.eq_1 (And.intro @hq hx0))
          refine u_reg ?_
          try refine lg_mk ?_
          refine u_mv ?_
          refine u_mv ?_
          refine u_mv ?_
          refine u_pt ?_
          refine u_ld ?_
          have hc := call_rule (E := (E_insert.at_ 71)) (f := 24) (sp := Spec.pure hasG) rfl
          have hs := @hasG.eq_1
          refine u_cp ?_
          refine lg_nil ?_
          have hx := hx0
          refine h22 _ ?_; clear h22; try clear N22
          refine u_cond (fun hb23 => ?_) (fun hb23 => ?_)
          ·have hx := And.intro @hxe (And.intro @eI.eq_1 hx0)
           refine u_reg ?_
           try refine lg_mk ?_
           refine u_mv ?_
           refine u_mv ?_
           refine u_mv ?_
           refine u_pt ?_
           refine u_ld ?_
           have hc := call_rule (E := (E_insert.at_ 71)) (f := 38) (sp := Spec.pure insG) rfl
           have hs := @insG.eq_1
           refine u_hp ?_
           refine u_mv ?_
           refine lg_nil ?_
           have hx := hx0
           refine h21 _ ?_; clear h21; try clear N21
           refine u_reg ?_
           try refine lg_mk ?_
           refine u_mv ?_
           refine u_bn ?_
           refine u_mv ?_
           refine lg_nil ?_
           refine h17 _ ⟨(k + 1, ins o' x, e'), ?_, ?_, [some 0], ?_⟩
           ·dsimp only
            exact ⟨⟨by omega, .inr hcd⟩, by rw [List.take_add_one, hxe, ← List.append_assoc]; simpa using hgo⟩
           ·dsimp only
            omega
           ·dsimp only
            refine ⟨by rfl, ?_, ?_⟩
            ·refine fin_ ?_
             exact cl_
            ·refine fin_ ?_
             exact cl_
          ·cases hb23
         ·have hq : decide (x ∈ P) = false := decide_eq_false hxP
          have hat : atS S x = ((lbS S x : Nat) : Int) := by unfold atS; rw [hin]; rfl
          have hgo := hQ.out hxP true hin
          have hx := And.intro @hxe (And.intro @eI.eq_1 (And.intro @hq hx0))
          refine u_reg ?_
          try refine lg_mk ?_
          refine u_mv ?_
          refine u_mv ?_
          refine u_mv ?_
          refine u_pt ?_
          refine u_ld ?_
          have hc := call_rule (E := (E_insert.at_ 71)) (f := 24) (sp := Spec.pure hasG) rfl
          have hs := @hasG.eq_1
          refine u_cp ?_
          refine lg_nil ?_
          have hx := hx0
          refine h22 _ ?_; clear h22; try clear N22
          refine u_cond (fun hb24 => ?_) (fun hb24 => ?_)
          ·cases hb24
          ·refine vc_seq_k fun N25 h25 => ?_
           have hx := And.intro @hxe (And.intro @eI.eq_1 (And.intro @hat hx0))
           refine u_reg ?_
           try refine lg_mk ?_
           refine u_ld ?_
           refine u_mv ?_
           refine u_mv ?_
           refine u_pt ?_
           refine u_ld ?_
           have hc := call_rule (E := (E_insert.at_ 71)) (f := 36) (sp := Spec.pure atG) rfl
           have hs := @atG.eq_1
           refine u_cp (hq := by (first | (exact ⟨hv.sort, by omega⟩) | exact sd_)) ?_
           refine u_bn ?_
           refine lg_nil ?_
           have hx := hx0
           refine h25 _ ?_; clear h25; try clear N25
           refine u_cond (fun hb26 => ?_) (fun hb26 => ?_)
           ·first | omega | exact absurd trivial hb26 | contradiction | (simp_all; done)
           ·refine vc_skip ?_
            try simp only [k_rules]
            refine h21 _ ?_; clear h21; try clear N21
            refine u_reg ?_
            try refine lg_mk ?_
            refine u_mv ?_
            refine u_bn ?_
            refine u_mv ?_
            refine lg_nil ?_
            refine h17 _ ⟨(k + 1, o', e'), ?_, ?_, [some 0], ?_⟩
            ·dsimp only
             exact ⟨⟨by omega, .inr hcd⟩, by rw [List.take_add_one, hxe, ← List.append_assoc]; simpa using hgo⟩
            ·dsimp only
             omega
            ·dsimp only
             refine ⟨by rfl, ?_, ?_⟩
             ·refine fin_ ?_
              exact cl_
             ·refine fin_ ?_
              exact cl_
         ·have hq : decide (x ∈ P) = false := decide_eq_false hxP
          have hat : atS S x = -1 := by unfold atS; rw [hin]; rfl
          have hgo := hQ.out hxP false hin
          have hx := And.intro @hxe (And.intro @eI.eq_1 (And.intro @hq hx0))
          refine u_reg ?_
          try refine lg_mk ?_
          refine u_mv ?_
          refine u_mv ?_
          refine u_mv ?_
          refine u_pt ?_
          refine u_ld ?_
          have hc := call_rule (E := (E_insert.at_ 71)) (f := 24) (sp := Spec.pure hasG) rfl
          have hs := @hasG.eq_1
          refine u_cp ?_
          refine lg_nil ?_
          have hx := hx0
          refine h22 _ ?_; clear h22; try clear N22
          refine u_cond (fun hb27 => ?_) (fun hb27 => ?_)
          ·cases hb27
          ·refine vc_seq_k fun N28 h28 => ?_
           have hx := And.intro @hxe (And.intro @eI.eq_1 (And.intro @hat hx0))
           refine u_reg ?_
           try refine lg_mk ?_
           refine u_ld ?_
           refine u_mv ?_
           refine u_mv ?_
           refine u_pt ?_
           refine u_ld ?_
           have hc := call_rule (E := (E_insert.at_ 71)) (f := 36) (sp := Spec.pure atG) rfl
           have hs := @atG.eq_1
           refine u_cp (hq := by (first | (exact ⟨hv.sort, by omega⟩) | exact sd_)) ?_
           refine u_bn ?_
           refine lg_nil ?_
           have hx := hx0
           refine h28 _ ?_; clear h28; try clear N28
           refine u_cond (fun hb29 => ?_) (fun hb29 => ?_)
           ·refine u_reg ?_
            try refine lg_mk ?_
            refine u_mv ?_
            refine lg_nil ?_
            refine h21 _ ?_; clear h21; try clear N21
            refine u_reg ?_
            try refine lg_mk ?_
            refine u_mv ?_
            refine u_bn ?_
            refine u_mv ?_
            refine lg_nil ?_
            refine h17 _ ⟨(k + 1, o', false), ?_, ?_, [some 0], ?_⟩
            ·dsimp only
             exact ⟨⟨by omega, .inr hcd⟩, by rw [List.take_add_one, hxe, ← List.append_assoc]; simpa using hgo⟩
            ·dsimp only
             omega
            ·dsimp only
             refine ⟨by rfl, ?_, ?_⟩
             ·refine fin_ ?_
              exact cl_
             ·refine fin_ ?_
              exact cl_
           ·first | omega | exact absurd trivial hb29 | contradiction | (simp_all; done)
        ·first | omega | exact absurd trivial hb20 | contradiction | (simp_all; done)
       ·have hk' : decide ((k : Int) < ((rwN S R j).length : Int)) = false := by simp; omega
        have hx := And.intro @hk' (And.intro @hib (And.intro @hce (And.intro @eB.eq_1 hx0)))
        refine u_reg ?_
        try refine lg_mk ?_
        refine u_mv ?_
        refine u_mv ?_
        refine u_ln ?_
        refine u_bn ?_
        refine u_mv ?_
        refine g_mv ?_
        refine g_bn ?_
        refine g_mv ?_
        refine g_mv ?_
        refine g_mv ?_
        refine g_pt ?_
        refine g_ld ?_
        refine g_pk ?_
        refine u_pk ?_
        refine lg_nil ?_
        have hx := hx0
        refine h19 _ ?_; clear h19; try clear N19
        refine u_cond (fun hb30 => ?_) (fun hb30 => ?_)
        ·first | omega | exact absurd trivial hb30 | contradiction | (simp_all; done)
        ·have hlast : InvQ S P (cdN S R (j + 1)) o' e' := by
          rw [List.take_of_length_le hk] at hQ; rw [hcd]; exact hQ
         refine vc_exit ?_
         simp only [k_rules, Nat.reduceEqDiff, reduceIte, eq_self]
         refine h11 _ ?_; clear h11; try clear N11
         refine u_reg ?_
         try refine lg_mk ?_
         refine u_mv ?_
         refine u_bn ?_
         refine u_mv ?_
         refine lg_nil ?_
         refine h7 _ ⟨(i + 1, j + 1, o', e'), ?_, ?_, [some 0], ?_⟩
         ·dsimp only
          exact ⟨hlast, by omega, by omega⟩
         ·dsimp only
          omega
         ·dsimp only
          refine ⟨by rfl, ?_, ?_⟩
          ·refine fin_ ?_
           exact cl_
          ·refine fin_ ?_
           exact cl_
    ·refine u_reg ?_
     try refine lg_mk ?_
     refine u_mv ?_
     refine u_mv ?_
     refine lg_nil ?_
     refine h12 _ ?_; clear h12; try clear N12
     refine vc_seq_k fun N31 h31 => ?_
     refine vc_seq_k fun N32 h32 => ?_
     refine u_reg ?_
     try refine lg_mk ?_
     refine u_mv ?_
     refine u_bn ?_
     refine lg_nil ?_
     refine h32 _ ?_; clear h32; try clear N32
     refine u_cond (fun hb33 => ?_) (fun hb33 => ?_)
     ·have hx := And.intro @hye (And.intro @eO.eq_1 hx0)
      refine u_reg ?_
      try refine lg_mk ?_
      refine u_pt ?_
      refine u_ld ?_
      refine u_mv ?_
      refine u_pt ?_
      refine u_pt ?_
      refine u_pt ?_
      refine u_ld ?_
      refine u_mv ?_
      refine lg_nil ?_
      have hx := hx0
      refine h31 _ ?_; clear h31; try clear N31
      refine vc_seq_k fun N34 h34 => ?_
      refine u_reg ?_
      try refine lg_mk ?_
      refine u_mv ?_
      refine lg_nil ?_
      refine h34 _ ?_; clear h34; try clear N34
      refine vc_block ?_
      refine vc_loop_mk (σ := Nat × List Int × Bool) (fun s => (fun k o' e' => (k ≤ (rwN S R j).length ∧ (k = 0 ∨ cdN S R (j + 1) = cdN S R j ++ rwN S R j)) ∧ InvQ S P (cdN S R j ++ (rwN S R j).take k) o' e') (s.1) (s.2.1) (s.2.2))
       (fun s => (fun k o' e' => [(1, .d (.sl (rows eI P))), (2, .d (.sl (rows eI R))), (3, .ptr 0 0 0), (8, .d (.sl (rows eB (mkV S R)))), (9, .d (.sl (rows eI o'))), (10, .d (.bool e')), (11, .d (.int .i64 i)), (12, .d (.sl (rows eI (rwN S R j)))), (13, .d (.int .i64 (k : Nat)))]) (s.1) (s.2.1) (s.2.2))
       (fun s => (fun k o' e' => [some (.one 24 [.d (.sl (rows eO S))])]) (s.1) (s.2.1) (s.2.2)) (fun s => (fun k o' e' => (rwN S R j).length - k) (s.1) (s.2.1) (s.2.2)) hnp (0, o, e) ?_ [some 0] ?_ ?_
      ·dsimp only
       exact ⟨⟨by omega, .inl rfl⟩, by rw [List.take_zero, List.append_nil]; exact hQ0⟩
      ·dsimp only
       refine ⟨by rfl, ?_, ?_⟩
       ·refine fin_ ?_
        (repeat' apply And.intro) <;> (first | (first | rfl | trivial | omega | (rw [hrw]; done) | (left; rw [hrw]; done)) | exact cl_)
       ·refine fin_ ?_
        (repeat' apply And.intro) <;> (first | (first | rfl | trivial | omega | (rw [hrw]; done) | (left; rw [hrw]; done)) | exact cl_)
      ·rintro ⟨k, o', e'⟩ hinv N35 h35
       dsimp only at hinv ⊢
       obtain ⟨⟨k1, k2⟩, hQ⟩ := hinv
       have hol := hQ.len
       have hrl30 : (rwN S R j).length ≤ 40 := by rw [hrw]; omega
       refine vc_seq_k fun N36 h36 => ?_
       refine vc_seq_k fun N37 h37 => ?_
       rcases Nat.lt_or_ge k (rwN S R j).length with hk | hk
       ·have hk' : decide ((k : Int) < ((rwN S R j).length : Int)) = true := by simp; omega
        have hx := And.intro @hk' (And.intro @hib (And.intro @hce (And.intro @eB.eq_1 hx0)))
        refine u_reg ?_
        try refine lg_mk ?_
        refine u_mv ?_
        refine u_mv ?_
        refine u_ln ?_
        refine u_bn ?_
        refine u_mv ?_
        refine g_mv ?_
        refine g_bn ?_
        refine g_mv ?_
        refine g_mv ?_
        refine g_mv ?_
        refine g_pt ?_
        refine g_ld ?_
        refine g_pk ?_
        refine u_pk ?_
        refine lg_nil ?_
        have hx := hx0
        refine h37 _ ?_; clear h37; try clear N37
        refine u_cond (fun hb38 => ?_) (fun hb38 => ?_)
        ·first | omega | exact absurd trivial hb38 | contradiction | (simp_all; done)
        ·have hlast : InvQ S P (cdN S R (j + 1)) o' e' := nedR_stay k2 hcd ▸ hQ
         refine vc_exit ?_
         simp only [k_rules, Nat.reduceEqDiff, reduceIte, eq_self]
         refine h11 _ ?_; clear h11; try clear N11
         refine u_reg ?_
         try refine lg_mk ?_
         refine u_mv ?_
         refine u_bn ?_
         refine u_mv ?_
         refine lg_nil ?_
         refine h7 _ ⟨(i + 1, j + 1, o', e'), ?_, ?_, [some 0], ?_⟩
         ·dsimp only
          exact ⟨hlast, by omega, by omega⟩
         ·dsimp only
          omega
         ·dsimp only
          refine ⟨by rfl, ?_, ?_⟩
          ·refine fin_ ?_
           exact cl_
          ·refine fin_ ?_
           exact cl_
       ·have hk' : decide ((k : Int) < ((rwN S R j).length : Int)) = false := by simp; omega
        have hx := And.intro @hk' (And.intro @hib (And.intro @hce (And.intro @eB.eq_1 hx0)))
        refine u_reg ?_
        try refine lg_mk ?_
        refine u_mv ?_
        refine u_mv ?_
        refine u_ln ?_
        refine u_bn ?_
        refine u_mv ?_
        refine g_mv ?_
        refine g_bn ?_
        refine g_mv ?_
        refine g_mv ?_
        refine g_mv ?_
        refine g_pt ?_
        refine g_ld ?_
        refine g_pk ?_
        refine u_pk ?_
        refine lg_nil ?_
        have hx := hx0
        refine h37 _ ?_; clear h37; try clear N37
        refine u_cond (fun hb39 => ?_) (fun hb39 => ?_)
        ·first | omega | exact absurd trivial hb39 | contradiction | (simp_all; done)
        ·have hlast : InvQ S P (cdN S R (j + 1)) o' e' := nedR_stay k2 hcd ▸ hQ
         refine vc_exit ?_
         simp only [k_rules, Nat.reduceEqDiff, reduceIte, eq_self]
         refine h11 _ ?_; clear h11; try clear N11
         refine u_reg ?_
         try refine lg_mk ?_
         refine u_mv ?_
         refine u_bn ?_
         refine u_mv ?_
         refine lg_nil ?_
         refine h7 _ ⟨(i + 1, j + 1, o', e'), ?_, ?_, [some 0], ?_⟩
         ·dsimp only
          exact ⟨hlast, by omega, by omega⟩
         ·dsimp only
          omega
         ·dsimp only
          refine ⟨by rfl, ?_, ?_⟩
          ·refine fin_ ?_
           exact cl_
          ·refine fin_ ?_
           exact cl_
     ·first | omega | exact absurd trivial hb33 | contradiction | (simp_all; done)
    ·refine u_reg ?_
     try refine lg_mk ?_
     refine u_mv ?_
     refine u_mv ?_
     refine lg_nil ?_
     refine h12 _ ?_; clear h12; try clear N12
     refine vc_seq_k fun N40 h40 => ?_
     refine vc_seq_k fun N41 h41 => ?_
     refine u_reg ?_
     try refine lg_mk ?_
     refine u_mv ?_
     refine u_bn ?_
     refine lg_nil ?_
     refine h41 _ ?_; clear h41; try clear N41
     refine u_cond (fun hb42 => ?_) (fun hb42 => ?_)
     ·have hx := And.intro @hye (And.intro @eO.eq_1 hx0)
      refine u_reg ?_
      try refine lg_mk ?_
      refine u_pt ?_
      refine u_ld ?_
      refine u_mv ?_
      refine u_pt ?_
      refine u_pt ?_
      refine u_pt ?_
      refine u_ld ?_
      refine u_mv ?_
      refine lg_nil ?_
      have hx := hx0
      refine h40 _ ?_; clear h40; try clear N40
      refine vc_seq_k fun N43 h43 => ?_
      refine u_reg ?_
      try refine lg_mk ?_
      refine u_mv ?_
      refine lg_nil ?_
      refine h43 _ ?_; clear h43; try clear N43
      refine vc_block ?_
      refine vc_loop_mk (σ := Nat × List Int × Bool) (fun s => (fun k o' e' => (k ≤ (rwN S R j).length ∧ (k = 0 ∨ cdN S R (j + 1) = cdN S R j ++ rwN S R j)) ∧ InvQ S P (cdN S R j ++ (rwN S R j).take k) o' e') (s.1) (s.2.1) (s.2.2))
       (fun s => (fun k o' e' => [(1, .d (.sl (rows eI P))), (2, .d (.sl (rows eI R))), (3, .ptr 0 0 0), (8, .d (.sl (rows eB (mkV S R)))), (9, .d (.sl (rows eI o'))), (10, .d (.bool e')), (11, .d (.int .i64 i)), (12, .d (.sl (rows eI (rwN S R j)))), (13, .d (.int .i64 (k : Nat)))]) (s.1) (s.2.1) (s.2.2))
       (fun s => (fun k o' e' => [some (.one 24 [.d (.sl (rows eO S))])]) (s.1) (s.2.1) (s.2.2)) (fun s => (fun k o' e' => (rwN S R j).length - k) (s.1) (s.2.1) (s.2.2)) hnp (0, o, e) ?_ [some 0] ?_ ?_
      ·dsimp only
       exact ⟨⟨by omega, .inl rfl⟩, by rw [List.take_zero, List.append_nil]; exact hQ0⟩
      ·dsimp only
       refine ⟨by rfl, ?_, ?_⟩
       ·refine fin_ ?_
        (repeat' apply And.intro) <;> (first | (first | rfl | trivial | omega | (rw [hrw]; done) | (left; rw [hrw]; done)) | exact cl_)
       ·refine fin_ ?_
        (repeat' apply And.intro) <;> (first | (first | rfl | trivial | omega | (rw [hrw]; done) | (left; rw [hrw]; done)) | exact cl_)
      ·rintro ⟨k, o', e'⟩ hinv N44 h44
       dsimp only at hinv ⊢
       obtain ⟨⟨k1, k2⟩, hQ⟩ := hinv
       have hol := hQ.len
       have hrl30 : (rwN S R j).length ≤ 40 := by rw [hrw]; omega
       refine vc_seq_k fun N45 h45 => ?_
       refine vc_seq_k fun N46 h46 => ?_
       rcases Nat.lt_or_ge k (rwN S R j).length with hk | hk
       ·have hk' : decide ((k : Int) < ((rwN S R j).length : Int)) = true := by simp; omega
        have hx := And.intro @hk' (And.intro @hib (And.intro @hce (And.intro @eB.eq_1 hx0)))
        refine u_reg ?_
        try refine lg_mk ?_
        refine u_mv ?_
        refine u_mv ?_
        refine u_ln ?_
        refine u_bn ?_
        refine u_mv ?_
        refine g_mv ?_
        refine g_bn ?_
        refine g_mv ?_
        refine g_mv ?_
        refine g_mv ?_
        refine g_pt ?_
        refine g_ld ?_
        refine g_pk ?_
        refine u_pk ?_
        refine lg_nil ?_
        have hx := hx0
        refine h46 _ ?_; clear h46; try clear N46
        refine u_cond (fun hb47 => ?_) (fun hb47 => ?_)
        ·obtain ⟨x, hxe⟩ := getE (l := rwN S R j) (i := k) hk
         refine vc_skip ?_
         try simp only [k_rules]
         refine h45 _ ?_; clear h45; try clear N45
         refine vc_seq_k fun N48 h48 => ?_
         refine vc_block ?_
         refine vc_seq_k fun N49 h49 => ?_
         rcases (show x ∈ P ∨ (x ∉ P ∧ inS S x = true) ∨ (x ∉ P ∧ inS S x = false) by by_cases h1 : x ∈ P <;> cases inS S x <;> simp [h1]) with hxP | ⟨hxP, hin⟩ | ⟨hxP, hin⟩
         ·have hq : decide (x ∈ P) = true := decide_eq_true hxP
          have hgo := hQ.ins hxP
          have hx := And.intro @hxe (And.intro @eI.eq_1 (And.intro @hq hx0))
          refine u_reg ?_
          try refine lg_mk ?_
          refine u_mv ?_
          refine u_mv ?_
          refine u_mv ?_
          refine u_pt ?_
          refine u_ld ?_
          have hc := call_rule (E := (E_insert.at_ 71)) (f := 24) (sp := Spec.pure hasG) rfl
          have hs := @hasG.eq_1
          refine u_cp ?_
          refine lg_nil ?_
          have hx := hx0
          refine h49 _ ?_; clear h49; try clear N49
          refine u_cond (fun hb50 => ?_) (fun hb50 => ?_)
          ·have hx := And.intro @hxe (And.intro @eI.eq_1 hx0)
           refine u_reg ?_
           try refine lg_mk ?_
           refine u_mv ?_
           refine u_mv ?_
           refine u_mv ?_
           refine u_pt ?_
           refine u_ld ?_
           have hc := call_rule (E := (E_insert.at_ 71)) (f := 38) (sp := Spec.pure insG) rfl
           have hs := @insG.eq_1
           refine u_hp ?_
           refine u_mv ?_
           refine lg_nil ?_
           have hx := hx0
           refine h48 _ ?_; clear h48; try clear N48
           refine u_reg ?_
           try refine lg_mk ?_
           refine u_mv ?_
           refine u_bn ?_
           refine u_mv ?_
           refine lg_nil ?_
           refine h44 _ ⟨(k + 1, ins o' x, e'), ?_, ?_, [some 0], ?_⟩
           ·dsimp only
            exact ⟨⟨by omega, .inr hcd⟩, by rw [List.take_add_one, hxe, ← List.append_assoc]; simpa using hgo⟩
           ·dsimp only
            omega
           ·dsimp only
            refine ⟨by rfl, ?_, ?_⟩
            ·refine fin_ ?_
             exact cl_
            ·refine fin_ ?_
             exact cl_
          ·cases hb50
         ·have hq : decide (x ∈ P) = false := decide_eq_false hxP
          have hat : atS S x = ((lbS S x : Nat) : Int) := by unfold atS; rw [hin]; rfl
          have hgo := hQ.out hxP true hin
          have hx := And.intro @hxe (And.intro @eI.eq_1 (And.intro @hq hx0))
          refine u_reg ?_
          try refine lg_mk ?_
          refine u_mv ?_
          refine u_mv ?_
          refine u_mv ?_
          refine u_pt ?_
          refine u_ld ?_
          have hc := call_rule (E := (E_insert.at_ 71)) (f := 24) (sp := Spec.pure hasG) rfl
          have hs := @hasG.eq_1
          refine u_cp ?_
          refine lg_nil ?_
          have hx := hx0
          refine h49 _ ?_; clear h49; try clear N49
          refine u_cond (fun hb51 => ?_) (fun hb51 => ?_)
          ·cases hb51
          ·refine vc_seq_k fun N52 h52 => ?_
           have hx := And.intro @hxe (And.intro @eI.eq_1 (And.intro @hat hx0))
           refine u_reg ?_
           try refine lg_mk ?_
           refine u_ld ?_
           refine u_mv ?_
           refine u_mv ?_
           refine u_pt ?_
           refine u_ld ?_
           have hc := call_rule (E := (E_insert.at_ 71)) (f := 36) (sp := Spec.pure atG) rfl
           have hs := @atG.eq_1
           refine u_cp (hq := by (first | (exact ⟨hv.sort, by omega⟩) | exact sd_)) ?_
           refine u_bn ?_
           refine lg_nil ?_
           have hx := hx0
           refine h52 _ ?_; clear h52; try clear N52
           refine u_cond (fun hb53 => ?_) (fun hb53 => ?_)
           ·first | omega | exact absurd trivial hb53 | contradiction | (simp_all; done)
           ·refine vc_skip ?_
            try simp only [k_rules]
            refine h48 _ ?_; clear h48; try clear N48
            refine u_reg ?_
            try refine lg_mk ?_
            refine u_mv ?_
            refine u_bn ?_
            refine u_mv ?_
            refine lg_nil ?_
            refine h44 _ ⟨(k + 1, o', e'), ?_, ?_, [some 0], ?_⟩
            ·dsimp only
             exact ⟨⟨by omega, .inr hcd⟩, by rw [List.take_add_one, hxe, ← List.append_assoc]; simpa using hgo⟩
            ·dsimp only
             omega
            ·dsimp only
             refine ⟨by rfl, ?_, ?_⟩
             ·refine fin_ ?_
              exact cl_
             ·refine fin_ ?_
              exact cl_
         ·have hq : decide (x ∈ P) = false := decide_eq_false hxP
          have hat : atS S x = -1 := by unfold atS; rw [hin]; rfl
          have hgo := hQ.out hxP false hin
          have hx := And.intro @hxe (And.intro @eI.eq_1 (And.intro @hq hx0))
          refine u_reg ?_
          try refine lg_mk ?_
          refine u_mv ?_
          refine u_mv ?_
          refine u_mv ?_
          refine u_pt ?_
          refine u_ld ?_
          have hc := call_rule (E := (E_insert.at_ 71)) (f := 24) (sp := Spec.pure hasG) rfl
          have hs := @hasG.eq_1
          refine u_cp ?_
          refine lg_nil ?_
          have hx := hx0
          refine h49 _ ?_; clear h49; try clear N49
          refine u_cond (fun hb54 => ?_) (fun hb54 => ?_)
          ·cases hb54
          ·refine vc_seq_k fun N55 h55 => ?_
           have hx := And.intro @hxe (And.intro @eI.eq_1 (And.intro @hat hx0))
           refine u_reg ?_
           try refine lg_mk ?_
           refine u_ld ?_
           refine u_mv ?_
           refine u_mv ?_
           refine u_pt ?_
           refine u_ld ?_
           have hc := call_rule (E := (E_insert.at_ 71)) (f := 36) (sp := Spec.pure atG) rfl
           have hs := @atG.eq_1
           refine u_cp (hq := by (first | (exact ⟨hv.sort, by omega⟩) | exact sd_)) ?_
           refine u_bn ?_
           refine lg_nil ?_
           have hx := hx0
           refine h55 _ ?_; clear h55; try clear N55
           refine u_cond (fun hb56 => ?_) (fun hb56 => ?_)
           ·refine u_reg ?_
            try refine lg_mk ?_
            refine u_mv ?_
            refine lg_nil ?_
            refine h48 _ ?_; clear h48; try clear N48
            refine u_reg ?_
            try refine lg_mk ?_
            refine u_mv ?_
            refine u_bn ?_
            refine u_mv ?_
            refine lg_nil ?_
            refine h44 _ ⟨(k + 1, o', false), ?_, ?_, [some 0], ?_⟩
            ·dsimp only
             exact ⟨⟨by omega, .inr hcd⟩, by rw [List.take_add_one, hxe, ← List.append_assoc]; simpa using hgo⟩
            ·dsimp only
             omega
            ·dsimp only
             refine ⟨by rfl, ?_, ?_⟩
             ·refine fin_ ?_
              exact cl_
             ·refine fin_ ?_
              exact cl_
           ·first | omega | exact absurd trivial hb56 | contradiction | (simp_all; done)
        ·first | omega | exact absurd trivial hb47 | contradiction | (simp_all; done)
       ·have hk' : decide ((k : Int) < ((rwN S R j).length : Int)) = false := by simp; omega
        have hx := And.intro @hk' (And.intro @hib (And.intro @hce (And.intro @eB.eq_1 hx0)))
        refine u_reg ?_
        try refine lg_mk ?_
        refine u_mv ?_
        refine u_mv ?_
        refine u_ln ?_
        refine u_bn ?_
        refine u_mv ?_
        refine g_mv ?_
        refine g_bn ?_
        refine g_mv ?_
        refine g_mv ?_
        refine g_mv ?_
        refine g_pt ?_
        refine g_ld ?_
        refine g_pk ?_
        refine u_pk ?_
        refine lg_nil ?_
        have hx := hx0
        refine h46 _ ?_; clear h46; try clear N46
        refine u_cond (fun hb57 => ?_) (fun hb57 => ?_)
        ·first | omega | exact absurd trivial hb57 | contradiction | (simp_all; done)
        ·have hlast : InvQ S P (cdN S R (j + 1)) o' e' := by
          rw [List.take_of_length_le hk] at hQ; rw [hcd]; exact hQ
         refine vc_exit ?_
         simp only [k_rules, Nat.reduceEqDiff, reduceIte, eq_self]
         refine h11 _ ?_; clear h11; try clear N11
         refine u_reg ?_
         try refine lg_mk ?_
         refine u_mv ?_
         refine u_bn ?_
         refine u_mv ?_
         refine lg_nil ?_
         refine h7 _ ⟨(i + 1, j + 1, o', e'), ?_, ?_, [some 0], ?_⟩
         ·dsimp only
          exact ⟨hlast, by omega, by omega⟩
         ·dsimp only
          omega
         ·dsimp only
          refine ⟨by rfl, ?_, ?_⟩
          ·refine fin_ ?_
           exact cl_
          ·refine fin_ ?_
           exact cl_
     ·first | omega | exact absurd trivial hb42 | contradiction | (simp_all; done)
   ·refine vc_exit ?_
    simp only [k_rules, Nat.reduceEqDiff, reduceIte, eq_self]
    refine h5 _ ?_; clear h5; try clear N5
    refine vc_seq_k fun N58 h58 => ?_
    refine u_reg ?_
    try refine lg_mk ?_
    refine u_mv ?_
    refine u_mv ?_
    refine u_mv ?_
    refine u_mv ?_
    refine lg_nil ?_
    refine h58 _ ?_; clear h58; try clear N58
    refine vc_ret ?_
    try simp only [k_rules]
    obtain rfl : j = S.length + 1 := by omega
    obtain ⟨hro, hre⟩ := hQ0.fin hvp
    rw [← hro, ← hre]
    refine fin2_ ?_
    exact cl_
 ·cases hg

def E_nedR : Env Try.prog := E_insert.add 20 (Spec.pure nedRG) nedR_meets (by kernel_rfl)
end Go.Proofs.Ytgnahopdiljikaa
