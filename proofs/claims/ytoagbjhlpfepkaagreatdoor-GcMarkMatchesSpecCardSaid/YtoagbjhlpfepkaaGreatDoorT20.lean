/- Walks, printed by wip/gen/walk.py. -/
import Derived.Test.YtoagbjhlpfepkaaGreatDoorT19
import Derived.Test.YtoagbjhlpfepkaaGreatDoorV5
set_option linter.all false
set_option maxRecDepth 100000
set_option maxHeartbeats 4000000
namespace Go.Proofs.YtoagbjhlpfepkaaGreatDoor
open Go Go.Vc Go.RowKit
/-- A sorted list with one more number. -/
def ins (l : List Int) (n : Int) : List Int := if n ∈ l then l else l.takeWhile (fun x => decide (x < n)) ++ n :: l.dropWhile (fun x => decide (x < n))
theorem ins_at {l : List Int} {n : Int} {k : Nat} (hn : n ∉ l) (h : ∀ x ∈ l.take k, x < n) (hk : k = l.length ∨ ∃ x, l[k]? = some x ∧ ¬x < n) : ins l n = l.take k ++ n :: l.drop k := by
  have key : l.takeWhile (fun x => decide (x < n)) = l.take k ∧ l.dropWhile (fun x => decide (x < n)) = l.drop k := by
    clear hn
    induction l generalizing k with
    | nil => simp
    | cons a l ih =>
      cases k with
      | zero =>
        rcases hk with hk | ⟨x, hx, hxn⟩
        · simp at hk
        · simp only [List.getElem?_cons_zero, Option.some.injEq] at hx
          subst hx
          simp [List.takeWhile_cons, List.dropWhile_cons, hxn]
      | succ k =>
        have ha : a < n := h a (by simp)
        have := ih (k := k) (fun x hx => h x (by simp [hx])) (by simpa using hk)
        simp [List.takeWhile_cons, List.dropWhile_cons, ha, this.1, this.2]
  unfold ins; rw [if_neg hn, key.1, key.2]
theorem ins_mem {l : List Int} {n x : Int} : x ∈ ins l n ↔ x = n ∨ x ∈ l := by
  unfold ins
  split
  · rename_i h
    exact ⟨.inr, fun h' => by rcases h' with rfl | h'; exact h; exact h'⟩
  · rw [List.mem_append, List.mem_cons]
    have := List.takeWhile_append_dropWhile (p := fun x => decide (x < n)) (l := l)
    conv => rhs; rw [← this, List.mem_append]
    constructor
    · rintro (h | h | h)
      · exact .inr (.inl h)
      · exact .inl h
      · exact .inr (.inr h)
    · rintro (h | h | h)
      · exact .inr (.inl h)
      · exact .inl h
      · exact .inr (.inr h)
theorem ins_sorted {l : List Int} {n : Int} (h : l.Pairwise (· < ·)) : (ins l n).Pairwise (· < ·) := by
  unfold ins
  split
  · exact h
  · rename_i hn
    induction l with
    | nil => simp
    | cons a l ih =>
      have ha := List.pairwise_cons.1 h
      simp only [List.mem_cons, not_or] at hn
      by_cases hlt : a < n
      · simp only [List.takeWhile_cons, List.dropWhile_cons, hlt, decide_true, if_true, List.cons_append]
        refine List.pairwise_cons.2 ⟨fun x hx => ?_, ih ha.2 hn.2⟩
        rcases List.mem_append.1 hx with hx | hx
        · exact ha.1 x ((List.takeWhile_sublist _).subset hx)
        · rcases List.mem_cons.1 hx with rfl | hx
          · exact hlt
          · exact ha.1 x ((List.dropWhile_sublist _).subset hx)
      · simp only [List.takeWhile_cons, List.dropWhile_cons, hlt, decide_false, List.nil_append, Bool.false_eq_true, if_false]
        refine List.pairwise_cons.2 ⟨fun x hx => ?_, h⟩
        rcases List.mem_cons.1 hx with rfl | hx
        · omega
        · have := ha.1 x hx; omega
theorem ins_len {l : List Int} {n : Int} : (ins l n).length ≤ l.length + 1 := by
  unfold ins
  split
  · omega
  · rw [List.length_append, List.length_cons]
    have := congrArg List.length (List.takeWhile_append_dropWhile (p := fun x => decide (x < n)) (l := l))
    rw [List.length_append] at this; omega

def insG : List AV → Option (Prop × AV)
  | [.d (.sl xs), .d (.int .i64 n)] => some (xs = rows eI (dI xs) ∧ (dI xs).length ≤ 1000000000, .d (.sl (rows eI (ins (dI xs) n))))
  | _ => none
theorem all_snoc {l : List Int} {k : Nat} {x : Int} {P : Int → Prop} (h : ∀ y ∈ l.take k, P y) (hx : l[k]? = some x) (hp : P x) : ∀ y ∈ l.take (k + 1), P y := fun y hy => by
  rw [List.take_add_one, hx] at hy
  rcases List.mem_append.1 hy with hy | hy
  · exact h y hy
  · simp only [Option.toList_some, List.mem_singleton] at hy; rw [hy]; exact hp
theorem app1 {A : List (List D)} {x : List D} {m : Nat} (h : m = A.length + 1) : List.take m (A ++ [x]) = A ++ [x] := List.take_of_length_le (by rw [h]; simp)
theorem ins_rows {l : List Int} {k : Nat} {n : Int} : List.take ((l.take (k - 0)).length + 1 + ((l.drop k).take (l.length - k)).length) (List.take ((l.take (k - 0)).length + 1) (rows eI ((l.take (k - 0)).take (l.take (k - 0)).length) ++ [[.int .i64 n]]) ++ rows eI ((l.drop k).take (l.length - k))) = rows eI (l.take k ++ n :: l.drop k) := by
  have e1 : (l.drop k).take (l.length - k) = l.drop k := List.take_of_length_le (by simp)
  rw [Nat.sub_zero, List.take_length, e1, app1 (by rw [rows_len]), List.take_of_length_le (by simp only [List.length_append, rows_len, List.length_singleton]; omega)]
  simp [rows, eI]

theorem insert_meets : Meets Tryz.prog 23 (Spec.pure insG) := by
 refine meets_fun (E_markR.at_ 35) Tryz.func23 rfl rfl rfl ?_
 intro args p r hg hp
 unfold insG at hg
 split at hg
 ·rename_i xs n
  simp only [Option.some.injEq, Prod.mk.injEq] at hg
  obtain ⟨rfl, rfl⟩ := hg
  obtain ⟨he, hl⟩ := hp
  generalize dI xs = l at *
  subst he
  have hT : (E_markR).X = T := rfl
  have hx0 := @Tryz.results23
  have hx := hx0
  refine ⟨by rfl, ?_⟩
  intro F W0 hnp hmk
  refine vc_seq_k fun N1 h1 => ?_
  refine u_reg ?_
  try refine lg_mk ?_
  refine u_mv ?_
  refine lg_nil ?_
  refine h1 _ ?_; clear h1; try clear N1
  refine vc_seq_k fun N2 h2 => ?_
  refine vc_seq_k fun N3 h3 => ?_
  refine u_reg ?_
  try refine lg_mk ?_
  refine u_mv ?_
  refine u_mv ?_
  have hc := call_rule (E := (E_markR.at_ 35)) (f := 24) (sp := Spec.pure hasG) rfl
  have hs := @hasG.eq_1
  refine u_cp ?_
  refine lg_nil ?_
  refine h3 _ ?_; clear h3; try clear N3
  refine u_cond (fun hb4 => ?_) (fun hb4 => ?_)
  ·refine vc_seq_k fun N5 h5 => ?_
   refine u_reg ?_
   try refine lg_mk ?_
   refine u_mv ?_
   refine u_mv ?_
   refine lg_nil ?_
   refine h5 _ ?_; clear h5; try clear N5
   refine vc_ret ?_
   try simp only [k_rules]
   have hr : ins l n = l := by unfold ins; rw [if_pos (by simpa using hb4)]
   rw [hr]
   refine fin2_ ?_
   exact cl_
  ·refine vc_skip ?_
   try simp only [k_rules]
   refine h2 _ ?_; clear h2; try clear N2
   refine vc_seq_k fun N6 h6 => ?_
   refine u_reg ?_
   try refine lg_mk ?_
   refine u_mv ?_
   refine lg_nil ?_
   refine h6 _ ?_; clear h6; try clear N6
   refine vc_seq_k fun N7 h7 => ?_
   refine vc_block ?_
   refine vc_loop_mk (σ := Nat) (fun s => (fun k => k ≤ l.length ∧ ∀ x ∈ l.take k, x < n) s)
    (fun s => (fun k => [(0, .d (.sl (rows eI l))), (1, .d (.int .i64 n)), (5, .d (.int .i64 (k : Nat)))]) s)
    (fun s => (fun k => []) s) (fun s => (fun k => l.length - k) s) hnp 0 ?_ [] ?_ ?_
   ·dsimp only
    simp
   ·dsimp only
    refine ⟨by rfl, ?_, ?_⟩
    ·refine fin_ ?_
     exact cl_
    ·refine fin_ ?_
     exact cl_
   ·rintro k hinv N8 h8
    dsimp only at hinv ⊢
    obtain ⟨k1, k2⟩ := hinv
    refine vc_seq_k fun N9 h9 => ?_
    refine vc_seq_k fun N10 h10 => ?_
    rcases Nat.lt_or_ge k l.length with hk | hk
    ·obtain ⟨x, hxe⟩ := getE hk
     have hk' : decide ((k : Int) < (l.length : Int)) = true := by simp; omega
     have hx := And.intro @hxe (And.intro @hk' (And.intro @eI.eq_1 hx0))
     refine u_reg ?_
     try refine lg_mk ?_
     refine u_mv ?_
     refine u_mv ?_
     refine u_ln ?_
     refine u_bn ?_
     refine u_mv ?_
     refine g_mv ?_
     refine g_mv ?_
     refine g_pt ?_
     refine g_ld ?_
     refine g_mv ?_
     refine g_bn ?_
     refine u_pk ?_
     refine lg_nil ?_
     have hx := hx0
     refine h10 _ ?_; clear h10; try clear N10
     refine u_cond (fun hb11 => ?_) (fun hb11 => ?_)
     ·refine vc_skip ?_
      try simp only [k_rules]
      refine h9 _ ?_; clear h9; try clear N9
      refine vc_block ?_
      refine u_reg ?_
      try refine lg_mk ?_
      refine u_mv ?_
      refine u_bn ?_
      refine u_mv ?_
      refine lg_nil ?_
      refine h8 _ ⟨k + 1, ?_, ?_, [], ?_⟩
      ·dsimp only
       exact ⟨by omega, all_snoc k2 hxe (by simpa using hb11)⟩
      ·dsimp only
       omega
      ·dsimp only
       refine ⟨by rfl, ?_, ?_⟩
       ·refine fin_ ?_
        exact cl_
       ·refine fin_ ?_
        exact cl_
     ·refine vc_exit ?_
      simp only [k_rules, Nat.reduceEqDiff, reduceIte, eq_self]
      refine h7 _ ?_; clear h7; try clear N7
      refine vc_seq_k fun N12 h12 => ?_
      refine vc_regT [1000027] (.seq [0, 1, 2, 4, 7, 8] (.alt 3 (.alt 5 (.alt 6 (.seq [9, 10, 11] .nil) (.alt 9 (.seq [6, 10, 11] .nil) .nil)) (.alt 9 (.seq [5, 6, 10, 11] .nil) .nil)) (.alt 5 (.alt 3 (.alt 6 (.seq [9, 10, 11] .nil) (.alt 9 (.seq [6, 10, 11] .nil) .nil)) (.alt 9 (.seq [3, 6, 10, 11] .nil) .nil)) (.alt 9 (.alt 3 (.seq [5, 6, 10, 11] .nil) (.alt 5 (.seq [3, 6, 10, 11] .nil) .nil)) .nil)))) hmix (by kernel_rfl) ?_
      refine at_seq ?_
      simp only [pick_rules, list_rules]
      try refine lg_mk ?_
      refine u_mv ?_
      refine u_mv ?_
      refine u_sl ?_
      refine u_mv ?_
      refine u_mv ?_
      refine u_mv ?_
      refine lg_nil ?_
      refine at_alt ?_ ?_
      ·simp only [pick_rules, list_rules]
       try refine lg_mk ?_
       refine u_ap ?_
       refine lg_nil ?_
       refine at_alt ?_ ?_
       ·simp only [pick_rules, list_rules]
        try refine lg_mk ?_
        refine u_bs ?_
        refine lg_nil ?_
        refine at_alt ?_ ?_
        ·simp only [pick_rules, list_rules]
         try refine lg_mk ?_
         refine u_ap ?_
         refine lg_nil ?_
         refine at_seq ?_
         simp only [pick_rules, list_rules]
         try refine lg_mk ?_
         refine u_sl ?_
         refine u_ap (hq := by (first | (constructor <;> simp only [List.length_append, rows_len, List.length_singleton, List.length_take, List.length_drop] <;> omega) | exact sd_)) ?_
         refine u_mv ?_
         refine lg_nil ?_
         refine at_nil ?_
         refine h12 _ ?_; clear h12; try clear N12
         refine vc_ret ?_
         try simp only [k_rules]
         have hr : ins l n = l.take k ++ n :: l.drop k := ins_at (by simpa using hb4) k2 (by first | exact Or.inl (by omega) | exact Or.inr ⟨x, hxe, by simpa using hb11⟩)
         rw [hr]
         refine fin2_ ?_
         (repeat' apply And.intro) <;> (first | (first | rfl | exact congrArg D.sl ins_rows | exact Or.inl (congrArg D.sl ins_rows) | (simp only [List.length_append, rows_len, List.length_singleton, List.length_take, List.length_drop]; omega)) | exact cl_)
        refine at_alt ?_ ?_
        ·simp only [pick_rules, list_rules]
         try refine lg_mk ?_
         refine u_sl ?_
         refine lg_nil ?_
         refine at_seq ?_
         simp only [pick_rules, list_rules]
         try refine lg_mk ?_
         refine u_ap ?_
         refine u_ap (hq := by (first | (constructor <;> simp only [List.length_append, rows_len, List.length_singleton, List.length_take, List.length_drop] <;> omega) | exact sd_)) ?_
         refine u_mv ?_
         refine lg_nil ?_
         refine at_nil ?_
         refine h12 _ ?_; clear h12; try clear N12
         refine vc_ret ?_
         try simp only [k_rules]
         have hr : ins l n = l.take k ++ n :: l.drop k := ins_at (by simpa using hb4) k2 (by first | exact Or.inl (by omega) | exact Or.inr ⟨x, hxe, by simpa using hb11⟩)
         rw [hr]
         refine fin2_ ?_
         (repeat' apply And.intro) <;> (first | (first | rfl | exact congrArg D.sl ins_rows | exact Or.inl (congrArg D.sl ins_rows) | (simp only [List.length_append, rows_len, List.length_singleton, List.length_take, List.length_drop]; omega)) | exact cl_)
        exact at_end
       refine at_alt ?_ ?_
       ·simp only [pick_rules, list_rules]
        try refine lg_mk ?_
        refine u_sl ?_
        refine lg_nil ?_
        refine at_seq ?_
        simp only [pick_rules, list_rules]
        try refine lg_mk ?_
        refine u_bs ?_
        refine u_ap ?_
        refine u_ap (hq := by (first | (constructor <;> simp only [List.length_append, rows_len, List.length_singleton, List.length_take, List.length_drop] <;> omega) | exact sd_)) ?_
        refine u_mv ?_
        refine lg_nil ?_
        refine at_nil ?_
        refine h12 _ ?_; clear h12; try clear N12
        refine vc_ret ?_
        try simp only [k_rules]
        have hr : ins l n = l.take k ++ n :: l.drop k := ins_at (by simpa using hb4) k2 (by first | exact Or.inl (by omega) | exact Or.inr ⟨x, hxe, by simpa using hb11⟩)
        rw [hr]
        refine fin2_ ?_
        (repeat' apply And.intro) <;> (first | (first | rfl | exact congrArg D.sl ins_rows | exact Or.inl (congrArg D.sl ins_rows) | (simp only [List.length_append, rows_len, List.length_singleton, List.length_take, List.length_drop]; omega)) | exact cl_)
       exact at_end
      refine at_alt ?_ ?_
      ·simp only [pick_rules, list_rules]
       try refine lg_mk ?_
       refine u_bs ?_
       refine lg_nil ?_
       refine at_alt ?_ ?_
       ·simp only [pick_rules, list_rules]
        try refine lg_mk ?_
        refine u_ap ?_
        refine lg_nil ?_
        refine at_alt ?_ ?_
        ·simp only [pick_rules, list_rules]
         try refine lg_mk ?_
         refine u_ap ?_
         refine lg_nil ?_
         refine at_seq ?_
         simp only [pick_rules, list_rules]
         try refine lg_mk ?_
         refine u_sl ?_
         refine u_ap (hq := by (first | (constructor <;> simp only [List.length_append, rows_len, List.length_singleton, List.length_take, List.length_drop] <;> omega) | exact sd_)) ?_
         refine u_mv ?_
         refine lg_nil ?_
         refine at_nil ?_
         refine h12 _ ?_; clear h12; try clear N12
         refine vc_ret ?_
         try simp only [k_rules]
         have hr : ins l n = l.take k ++ n :: l.drop k := ins_at (by simpa using hb4) k2 (by first | exact Or.inl (by omega) | exact Or.inr ⟨x, hxe, by simpa using hb11⟩)
         rw [hr]
         refine fin2_ ?_
         (repeat' apply And.intro) <;> (first | (first | rfl | exact congrArg D.sl ins_rows | exact Or.inl (congrArg D.sl ins_rows) | (simp only [List.length_append, rows_len, List.length_singleton, List.length_take, List.length_drop]; omega)) | exact cl_)
        refine at_alt ?_ ?_
        ·simp only [pick_rules, list_rules]
         try refine lg_mk ?_
         refine u_sl ?_
         refine lg_nil ?_
         refine at_seq ?_
         simp only [pick_rules, list_rules]
         try refine lg_mk ?_
         refine u_ap ?_
         refine u_ap (hq := by (first | (constructor <;> simp only [List.length_append, rows_len, List.length_singleton, List.length_take, List.length_drop] <;> omega) | exact sd_)) ?_
         refine u_mv ?_
         refine lg_nil ?_
         refine at_nil ?_
         refine h12 _ ?_; clear h12; try clear N12
         refine vc_ret ?_
         try simp only [k_rules]
         have hr : ins l n = l.take k ++ n :: l.drop k := ins_at (by simpa using hb4) k2 (by first | exact Or.inl (by omega) | exact Or.inr ⟨x, hxe, by simpa using hb11⟩)
         rw [hr]
         refine fin2_ ?_
         (repeat' apply And.intro) <;> (first | (first | rfl | exact congrArg D.sl ins_rows | exact Or.inl (congrArg D.sl ins_rows) | (simp only [List.length_append, rows_len, List.length_singleton, List.length_take, List.length_drop]; omega)) | exact cl_)
        exact at_end
       refine at_alt ?_ ?_
       ·simp only [pick_rules, list_rules]
        try refine lg_mk ?_
        refine u_sl ?_
        refine lg_nil ?_
        refine at_seq ?_
        simp only [pick_rules, list_rules]
        try refine lg_mk ?_
        refine u_ap ?_
        refine u_ap ?_
        refine u_ap (hq := by (first | (constructor <;> simp only [List.length_append, rows_len, List.length_singleton, List.length_take, List.length_drop] <;> omega) | exact sd_)) ?_
        refine u_mv ?_
        refine lg_nil ?_
        refine at_nil ?_
        refine h12 _ ?_; clear h12; try clear N12
        refine vc_ret ?_
        try simp only [k_rules]
        have hr : ins l n = l.take k ++ n :: l.drop k := ins_at (by simpa using hb4) k2 (by first | exact Or.inl (by omega) | exact Or.inr ⟨x, hxe, by simpa using hb11⟩)
        rw [hr]
        refine fin2_ ?_
        (repeat' apply And.intro) <;> (first | (first | rfl | exact congrArg D.sl ins_rows | exact Or.inl (congrArg D.sl ins_rows) | (simp only [List.length_append, rows_len, List.length_singleton, List.length_take, List.length_drop]; omega)) | exact cl_)
       exact at_end
      refine at_alt ?_ ?_
      ·simp only [pick_rules, list_rules]
       try refine lg_mk ?_
       refine u_sl ?_
       refine lg_nil ?_
       refine at_alt ?_ ?_
       ·simp only [pick_rules, list_rules]
        try refine lg_mk ?_
        refine u_ap ?_
        refine lg_nil ?_
        refine at_seq ?_
        simp only [pick_rules, list_rules]
        try refine lg_mk ?_
        refine u_bs ?_
        refine u_ap ?_
        refine u_ap (hq := by (first | (constructor <;> simp only [List.length_append, rows_len, List.length_singleton, List.length_take, List.length_drop] <;> omega) | exact sd_)) ?_
        refine u_mv ?_
        refine lg_nil ?_
        refine at_nil ?_
        refine h12 _ ?_; clear h12; try clear N12
        refine vc_ret ?_
        try simp only [k_rules]
        have hr : ins l n = l.take k ++ n :: l.drop k := ins_at (by simpa using hb4) k2 (by first | exact Or.inl (by omega) | exact Or.inr ⟨x, hxe, by simpa using hb11⟩)
        rw [hr]
        refine fin2_ ?_
        (repeat' apply And.intro) <;> (first | (first | rfl | exact congrArg D.sl ins_rows | exact Or.inl (congrArg D.sl ins_rows) | (simp only [List.length_append, rows_len, List.length_singleton, List.length_take, List.length_drop]; omega)) | exact cl_)
       refine at_alt ?_ ?_
       ·simp only [pick_rules, list_rules]
        try refine lg_mk ?_
        refine u_bs ?_
        refine lg_nil ?_
        refine at_seq ?_
        simp only [pick_rules, list_rules]
        try refine lg_mk ?_
        refine u_ap ?_
        refine u_ap ?_
        refine u_ap (hq := by (first | (constructor <;> simp only [List.length_append, rows_len, List.length_singleton, List.length_take, List.length_drop] <;> omega) | exact sd_)) ?_
        refine u_mv ?_
        refine lg_nil ?_
        refine at_nil ?_
        refine h12 _ ?_; clear h12; try clear N12
        refine vc_ret ?_
        try simp only [k_rules]
        have hr : ins l n = l.take k ++ n :: l.drop k := ins_at (by simpa using hb4) k2 (by first | exact Or.inl (by omega) | exact Or.inr ⟨x, hxe, by simpa using hb11⟩)
        rw [hr]
        refine fin2_ ?_
        (repeat' apply And.intro) <;> (first | (first | rfl | exact congrArg D.sl ins_rows | exact Or.inl (congrArg D.sl ins_rows) | (simp only [List.length_append, rows_len, List.length_singleton, List.length_take, List.length_drop]; omega)) | exact cl_)
       exact at_end
      exact at_end
    ·have hxe : l[k]? = none := List.getElem?_eq_none hk
     have hk' : decide ((k : Int) < (l.length : Int)) = false := by simp; omega
     have hx := And.intro @hxe (And.intro @hk' (And.intro @eI.eq_1 hx0))
     refine u_reg ?_
     try refine lg_mk ?_
     refine u_mv ?_
     refine u_mv ?_
     refine u_ln ?_
     refine u_bn ?_
     refine u_mv ?_
     refine g_mv ?_
     refine g_mv ?_
     refine g_pt ?_
     refine g_ld ?_
     refine g_mv ?_
     refine g_bn ?_
     refine u_pk ?_
     refine lg_nil ?_
     have hx := hx0
     refine h10 _ ?_; clear h10; try clear N10
     refine u_cond (fun hb13 => ?_) (fun hb13 => ?_)
     ·cases hb13
     ·refine vc_exit ?_
      simp only [k_rules, Nat.reduceEqDiff, reduceIte, eq_self]
      refine h7 _ ?_; clear h7; try clear N7
      refine vc_seq_k fun N14 h14 => ?_
      refine vc_regT [1000027] (.seq [0, 1, 2, 4, 7, 8] (.alt 3 (.alt 5 (.alt 6 (.seq [9, 10, 11] .nil) (.alt 9 (.seq [6, 10, 11] .nil) .nil)) (.alt 9 (.seq [5, 6, 10, 11] .nil) .nil)) (.alt 5 (.alt 3 (.alt 6 (.seq [9, 10, 11] .nil) (.alt 9 (.seq [6, 10, 11] .nil) .nil)) (.alt 9 (.seq [3, 6, 10, 11] .nil) .nil)) (.alt 9 (.alt 3 (.seq [5, 6, 10, 11] .nil) (.alt 5 (.seq [3, 6, 10, 11] .nil) .nil)) .nil)))) hmix (by kernel_rfl) ?_
      refine at_seq ?_
      simp only [pick_rules, list_rules]
      try refine lg_mk ?_
      refine u_mv ?_
      refine u_mv ?_
      refine u_sl ?_
      refine u_mv ?_
      refine u_mv ?_
      refine u_mv ?_
      refine lg_nil ?_
      refine at_alt ?_ ?_
      ·simp only [pick_rules, list_rules]
       try refine lg_mk ?_
       refine u_ap ?_
       refine lg_nil ?_
       refine at_alt ?_ ?_
       ·simp only [pick_rules, list_rules]
        try refine lg_mk ?_
        refine u_bs ?_
        refine lg_nil ?_
        refine at_alt ?_ ?_
        ·simp only [pick_rules, list_rules]
         try refine lg_mk ?_
         refine u_ap ?_
         refine lg_nil ?_
         refine at_seq ?_
         simp only [pick_rules, list_rules]
         try refine lg_mk ?_
         refine u_sl ?_
         refine u_ap (hq := by (first | (constructor <;> simp only [List.length_append, rows_len, List.length_singleton, List.length_take, List.length_drop] <;> omega) | exact sd_)) ?_
         refine u_mv ?_
         refine lg_nil ?_
         refine at_nil ?_
         refine h14 _ ?_; clear h14; try clear N14
         refine vc_ret ?_
         try simp only [k_rules]
         have hr : ins l n = l.take k ++ n :: l.drop k := ins_at (by simpa using hb4) k2 (by first | exact Or.inl (by omega) | exact Or.inr ⟨x, hxe, by simpa using hb13⟩)
         rw [hr]
         refine fin2_ ?_
         (repeat' apply And.intro) <;> (first | (first | rfl | exact congrArg D.sl ins_rows | exact Or.inl (congrArg D.sl ins_rows) | (simp only [List.length_append, rows_len, List.length_singleton, List.length_take, List.length_drop]; omega)) | exact cl_)
        refine at_alt ?_ ?_
        ·simp only [pick_rules, list_rules]
         try refine lg_mk ?_
         refine u_sl ?_
         refine lg_nil ?_
         refine at_seq ?_
         simp only [pick_rules, list_rules]
         try refine lg_mk ?_
         refine u_ap ?_
         refine u_ap (hq := by (first | (constructor <;> simp only [List.length_append, rows_len, List.length_singleton, List.length_take, List.length_drop] <;> omega) | exact sd_)) ?_
         refine u_mv ?_
         refine lg_nil ?_
         refine at_nil ?_
         refine h14 _ ?_; clear h14; try clear N14
         refine vc_ret ?_
         try simp only [k_rules]
         have hr : ins l n = l.take k ++ n :: l.drop k := ins_at (by simpa using hb4) k2 (by first | exact Or.inl (by omega) | exact Or.inr ⟨x, hxe, by simpa using hb13⟩)
         rw [hr]
         refine fin2_ ?_
         (repeat' apply And.intro) <;> (first | (first | rfl | exact congrArg D.sl ins_rows | exact Or.inl (congrArg D.sl ins_rows) | (simp only [List.length_append, rows_len, List.length_singleton, List.length_take, List.length_drop]; omega)) | exact cl_)
        exact at_end
       refine at_alt ?_ ?_
       ·simp only [pick_rules, list_rules]
        try refine lg_mk ?_
        refine u_sl ?_
        refine lg_nil ?_
        refine at_seq ?_
        simp only [pick_rules, list_rules]
        try refine lg_mk ?_
        refine u_bs ?_
        refine u_ap ?_
        refine u_ap (hq := by (first | (constructor <;> simp only [List.length_append, rows_len, List.length_singleton, List.length_take, List.length_drop] <;> omega) | exact sd_)) ?_
        refine u_mv ?_
        refine lg_nil ?_
        refine at_nil ?_
        refine h14 _ ?_; clear h14; try clear N14
        refine vc_ret ?_
        try simp only [k_rules]
        have hr : ins l n = l.take k ++ n :: l.drop k := ins_at (by simpa using hb4) k2 (by first | exact Or.inl (by omega) | exact Or.inr ⟨x, hxe, by simpa using hb13⟩)
        rw [hr]
        refine fin2_ ?_
        (repeat' apply And.intro) <;> (first | (first | rfl | exact congrArg D.sl ins_rows | exact Or.inl (congrArg D.sl ins_rows) | (simp only [List.length_append, rows_len, List.length_singleton, List.length_take, List.length_drop]; omega)) | exact cl_)
       exact at_end
      refine at_alt ?_ ?_
      ·simp only [pick_rules, list_rules]
       try refine lg_mk ?_
       refine u_bs ?_
       refine lg_nil ?_
       refine at_alt ?_ ?_
       ·simp only [pick_rules, list_rules]
        try refine lg_mk ?_
        refine u_ap ?_
        refine lg_nil ?_
        refine at_alt ?_ ?_
        ·simp only [pick_rules, list_rules]
         try refine lg_mk ?_
         refine u_ap ?_
         refine lg_nil ?_
         refine at_seq ?_
         simp only [pick_rules, list_rules]
         try refine lg_mk ?_
         refine u_sl ?_
         refine u_ap (hq := by (first | (constructor <;> simp only [List.length_append, rows_len, List.length_singleton, List.length_take, List.length_drop] <;> omega) | exact sd_)) ?_
         refine u_mv ?_
         refine lg_nil ?_
         refine at_nil ?_
         refine h14 _ ?_; clear h14; try clear N14
         refine vc_ret ?_
         try simp only [k_rules]
         have hr : ins l n = l.take k ++ n :: l.drop k := ins_at (by simpa using hb4) k2 (by first | exact Or.inl (by omega) | exact Or.inr ⟨x, hxe, by simpa using hb13⟩)
         rw [hr]
         refine fin2_ ?_
         (repeat' apply And.intro) <;> (first | (first | rfl | exact congrArg D.sl ins_rows | exact Or.inl (congrArg D.sl ins_rows) | (simp only [List.length_append, rows_len, List.length_singleton, List.length_take, List.length_drop]; omega)) | exact cl_)
        refine at_alt ?_ ?_
        ·simp only [pick_rules, list_rules]
         try refine lg_mk ?_
         refine u_sl ?_
         refine lg_nil ?_
         refine at_seq ?_
         simp only [pick_rules, list_rules]
         try refine lg_mk ?_
         refine u_ap ?_
         refine u_ap (hq := by (first | (constructor <;> simp only [List.length_append, rows_len, List.length_singleton, List.length_take, List.length_drop] <;> omega) | exact sd_)) ?_
         refine u_mv ?_
         refine lg_nil ?_
         refine at_nil ?_
         refine h14 _ ?_; clear h14; try clear N14
         refine vc_ret ?_
         try simp only [k_rules]
         have hr : ins l n = l.take k ++ n :: l.drop k := ins_at (by simpa using hb4) k2 (by first | exact Or.inl (by omega) | exact Or.inr ⟨x, hxe, by simpa using hb13⟩)
         rw [hr]
         refine fin2_ ?_
         (repeat' apply And.intro) <;> (first | (first | rfl | exact congrArg D.sl ins_rows | exact Or.inl (congrArg D.sl ins_rows) | (simp only [List.length_append, rows_len, List.length_singleton, List.length_take, List.length_drop]; omega)) | exact cl_)
        exact at_end
       refine at_alt ?_ ?_
       ·simp only [pick_rules, list_rules]
        try refine lg_mk ?_
        refine u_sl ?_
        refine lg_nil ?_
        refine at_seq ?_
        simp only [pick_rules, list_rules]
        try refine lg_mk ?_
        refine u_ap ?_
        refine u_ap ?_
        refine u_ap (hq := by (first | (constructor <;> simp only [List.length_append, rows_len, List.length_singleton, List.length_take, List.length_drop] <;> omega) | exact sd_)) ?_
        refine u_mv ?_
        refine lg_nil ?_
        refine at_nil ?_
        refine h14 _ ?_; clear h14; try clear N14
        refine vc_ret ?_
        try simp only [k_rules]
        have hr : ins l n = l.take k ++ n :: l.drop k := ins_at (by simpa using hb4) k2 (by first | exact Or.inl (by omega) | exact Or.inr ⟨x, hxe, by simpa using hb13⟩)
        rw [hr]
        refine fin2_ ?_
        (repeat' apply And.intro) <;> (first | (first | rfl | exact congrArg D.sl ins_rows | exact Or.inl (congrArg D.sl ins_rows) | (simp only [List.length_append, rows_len, List.length_singleton, List.length_take, List.length_drop]; omega)) | exact cl_)
       exact at_end
      refine at_alt ?_ ?_
      ·simp only [pick_rules, list_rules]
       try refine lg_mk ?_
       refine u_sl ?_
       refine lg_nil ?_
       refine at_alt ?_ ?_
       ·simp only [pick_rules, list_rules]
        try refine lg_mk ?_
        refine u_ap ?_
        refine lg_nil ?_
        refine at_seq ?_
        simp only [pick_rules, list_rules]
        try refine lg_mk ?_
        refine u_bs ?_
        refine u_ap ?_
        refine u_ap (hq := by (first | (constructor <;> simp only [List.length_append, rows_len, List.length_singleton, List.length_take, List.length_drop] <;> omega) | exact sd_)) ?_
        refine u_mv ?_
        refine lg_nil ?_
        refine at_nil ?_
        refine h14 _ ?_; clear h14; try clear N14
        refine vc_ret ?_
        try simp only [k_rules]
        have hr : ins l n = l.take k ++ n :: l.drop k := ins_at (by simpa using hb4) k2 (by first | exact Or.inl (by omega) | exact Or.inr ⟨x, hxe, by simpa using hb13⟩)
        rw [hr]
        refine fin2_ ?_
        (repeat' apply And.intro) <;> (first | (first | rfl | exact congrArg D.sl ins_rows | exact Or.inl (congrArg D.sl ins_rows) | (simp only [List.length_append, rows_len, List.length_singleton, List.length_take, List.length_drop]; omega)) | exact cl_)
       refine at_alt ?_ ?_
       ·simp only [pick_rules, list_rules]
        try refine lg_mk ?_
        refine u_bs ?_
        refine lg_nil ?_
        refine at_seq ?_
        simp only [pick_rules, list_rules]
        try refine lg_mk ?_
        refine u_ap ?_
        refine u_ap ?_
        refine u_ap (hq := by (first | (constructor <;> simp only [List.length_append, rows_len, List.length_singleton, List.length_take, List.length_drop] <;> omega) | exact sd_)) ?_
        refine u_mv ?_
        refine lg_nil ?_
        refine at_nil ?_
        refine h14 _ ?_; clear h14; try clear N14
        refine vc_ret ?_
        try simp only [k_rules]
        have hr : ins l n = l.take k ++ n :: l.drop k := ins_at (by simpa using hb4) k2 (by first | exact Or.inl (by omega) | exact Or.inr ⟨x, hxe, by simpa using hb13⟩)
        rw [hr]
        refine fin2_ ?_
        (repeat' apply And.intro) <;> (first | (first | rfl | exact congrArg D.sl ins_rows | exact Or.inl (congrArg D.sl ins_rows) | (simp only [List.length_append, rows_len, List.length_singleton, List.length_take, List.length_drop]; omega)) | exact cl_)
       exact at_end
      exact at_end
 ·cases hg

def E_insert : Env Tryz.prog := E_markR.add 23 (Spec.pure insG) insert_meets (by kernel_rfl)
end Go.Proofs.YtoagbjhlpfepkaaGreatDoor
