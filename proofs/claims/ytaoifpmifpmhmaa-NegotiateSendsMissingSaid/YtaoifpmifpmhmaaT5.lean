/- Walks, printed by wip/gen/walk.py. -/
import Derived.Test.YtaoifpmifpmhmaaT4
import Derived.Test.YtaoifpmifpmhmaaV4
set_option linter.all false
set_option maxRecDepth 100000
set_option maxHeartbeats 4000000
namespace Go.Proofs.Ytaoifpmifpmhmaa
open Go Go.Vc Go.RowKit
def insG : List AV → Option (Prop × AV)
  | [.d (.sl xs), .d (.int .i64 n)] => some (xs = rows eI (dI xs) ∧ (dI xs).length ≤ 1000000000, .d (.sl (rows eI (ins (dI xs) n))))
  | _ => none
theorem all_snoc {l : List Int} {k : Nat} {x : Int} {P : Int → Prop} (h : ∀ y ∈ l.take k, P y) (hx : l[k]? = some x) (hp : P x) : ∀ y ∈ l.take (k + 1), P y := fun y hy => by
  rw [List.take_add_one, hx] at hy
  rcases List.mem_append.1 hy with hy | hy
  · exact h y hy
  · simp only [Option.toList_some, List.mem_singleton] at hy; rw [hy]; exact hp
def indexG : List AV → Option (Prop × AV)
  | [.d (.sl xs), .d (.int .i64 n)] => some (xs = rows eI (dI xs) ∧ (dI xs).length ≤ 1000000000, .d (.int .i64 (if n ∈ dI xs then ((dI xs).idxOf n : Nat) else -1)))
  | _ => none
theorem idxOf_at {l : List Int} {i : Nat} {n : Int} (h : l[i]? = some n) (hn : n ∉ l.take i) : l.idxOf n = i := by
  induction l generalizing i with
  | nil => simp at h
  | cons a l ih =>
    cases i with
    | zero => simp only [List.getElem?_cons_zero, Option.some.injEq] at h; subst h; exact List.idxOf_cons_self
    | succ i =>
      simp only [List.take_succ_cons, List.mem_cons, not_or] at hn
      rw [List.idxOf_cons, ih (by simpa using h) hn.2, show (a == n) = false by simpa using fun h => hn.1 h.symm]; rfl
theorem app1 {A : List (List D)} {x : List D} {m : Nat} (h : m = A.length + 1) : List.take m (A ++ [x]) = A ++ [x] := List.take_of_length_le (by rw [h]; simp)
theorem ins_rows {l : List Int} {k : Nat} {n : Int} : List.take ((l.take (k - 0)).length + 1 + ((l.drop k).take (l.length - k)).length) (List.take ((l.take (k - 0)).length + 1) (rows eI ((l.take (k - 0)).take (l.take (k - 0)).length) ++ [[.int .i64 n]]) ++ rows eI ((l.drop k).take (l.length - k))) = rows eI (l.take k ++ n :: l.drop k) := by
  have e1 : (l.drop k).take (l.length - k) = l.drop k := List.take_of_length_le (by simp)
  rw [Nat.sub_zero, List.take_length, e1, app1 (by rw [rows_len]), List.take_of_length_le (by simp only [List.length_append, rows_len, List.length_singleton]; omega)]
  simp [rows, eI]
def containsG : List AV → Option (Prop × AV)
  | [.d (.sl xs), .d (.int .i64 n)] => some (xs = rows eI (dI xs) ∧ (dI xs).length ≤ 1000000000, .d (.bool (decide (n ∈ dI xs))))
  | _ => none

theorem insert_meets : Meets Try.prog 44 (Spec.pure insG) := by
 refine meets_fun (E_reach.at_ 35) Try.func44 rfl rfl rfl ?_
 intro args p r hg hp
 unfold insG at hg
 split at hg
 ·rename_i xs n
  simp only [Option.some.injEq, Prod.mk.injEq] at hg
  obtain ⟨rfl, rfl⟩ := hg
  obtain ⟨he, hl⟩ := hp
  generalize dI xs = l at *
  subst he
  have hT : (E_reach).X = T := rfl
  have hx0 := @Try.results44
  have hx := hx0
  refine ⟨by rfl, ?_⟩
  intro F W0 hnp hmk
  refine vc_seq_k fun N1 h1 => ?_
  refine u_reg ?_
  try refine lg_mk ?_
  refine u_mv ?_
  refine lg_nil ?_
  refine h1 _ ?_; clear h1; try clear N1
  refine vc_seq_k fun N2 h2 => ?_
  refine vc_seq_k fun N3 h3 => ?_
  refine u_reg ?_
  try refine lg_mk ?_
  refine u_mv ?_
  refine u_mv ?_
  have hc := call_rule (E := (E_reach.at_ 35)) (f := 21) (sp := Spec.pure hasG) rfl
  have hs := @hasG.eq_1
  refine u_cp ?_
  refine lg_nil ?_
  refine h3 _ ?_; clear h3; try clear N3
  refine u_cond (fun hb4 => ?_) (fun hb4 => ?_)
  ·refine vc_seq_k fun N5 h5 => ?_
   refine u_reg ?_
   try refine lg_mk ?_
   refine u_mv ?_
   refine u_mv ?_
   refine lg_nil ?_
   refine h5 _ ?_; clear h5; try clear N5
   refine vc_ret ?_
   try simp only [k_rules]
   have hr : ins l n = l := by unfold ins; rw [if_pos (by simpa using hb4)]
   rw [hr]
   refine fin2_ ?_
   exact cl_
  ·refine vc_skip ?_
   try simp only [k_rules]
   refine h2 _ ?_; clear h2; try clear N2
   refine vc_seq_k fun N6 h6 => ?_
   refine u_reg ?_
   try refine lg_mk ?_
   refine u_mv ?_
   refine lg_nil ?_
   refine h6 _ ?_; clear h6; try clear N6
   refine vc_seq_k fun N7 h7 => ?_
   refine vc_block ?_
   refine vc_loop_mk (σ := Nat) (fun s => (fun k => k ≤ l.length ∧ ∀ x ∈ l.take k, x < n) s)
    (fun s => (fun k => [(0, .d (.sl (rows eI l))), (1, .d (.int .i64 n)), (5, .d (.int .i64 (k : Nat)))]) s)
    (fun s => (fun k => []) s) (fun s => (fun k => l.length - k) s) hnp 0 ?_ [] ?_ ?_
   ·dsimp only
    simp
   ·dsimp only
    refine ⟨by rfl, ?_, ?_⟩
    ·refine fin_ ?_
     exact cl_
    ·refine fin_ ?_
     exact cl_
   ·rintro k hinv N8 h8
    dsimp only at hinv ⊢
    obtain ⟨k1, k2⟩ := hinv
    refine vc_seq_k fun N9 h9 => ?_
    refine vc_seq_k fun N10 h10 => ?_
    rcases Nat.lt_or_ge k l.length with hk | hk
    ·obtain ⟨x, hxe⟩ := getE hk
     have hk' : decide ((k : Int) < (l.length : Int)) = true := by simp; omega
     have hx := And.intro @hxe (And.intro @hk' (And.intro @eI.eq_1 hx0))
     refine u_reg ?_
     try refine lg_mk ?_
     refine u_mv ?_
     refine u_mv ?_
     refine u_ln ?_
     refine u_bn ?_
     refine u_mv ?_
     refine g_mv ?_
     refine g_mv ?_
     refine g_pt ?_
     refine g_ld ?_
     refine g_mv ?_
     refine g_bn ?_
     refine u_pk ?_
     refine lg_nil ?_
     have hx := hx0
     refine h10 _ ?_; clear h10; try clear N10
     refine u_cond (fun hb11 => ?_) (fun hb11 => ?_)
     ·refine vc_skip ?_
      try simp only [k_rules]
      refine h9 _ ?_; clear h9; try clear N9
      refine vc_block ?_
      refine u_reg ?_
      try refine lg_mk ?_
      refine u_mv ?_
      refine u_bn ?_
      refine u_mv ?_
      refine lg_nil ?_
      refine h8 _ ⟨k + 1, ?_, ?_, [], ?_⟩
      ·dsimp only
       exact ⟨by omega, all_snoc k2 hxe (by simpa using hb11)⟩
      ·dsimp only
       omega
      ·dsimp only
       refine ⟨by rfl, ?_, ?_⟩
       ·refine fin_ ?_
        exact cl_
       ·refine fin_ ?_
        exact cl_
     ·refine vc_exit ?_
      simp only [k_rules, Nat.reduceEqDiff, reduceIte, eq_self]
      refine h7 _ ?_; clear h7; try clear N7
      refine vc_seq_k fun N12 h12 => ?_
      refine vc_regT [1000027] (.seq [0, 1, 2, 4, 7, 8] (.alt 3 (.alt 5 (.alt 6 (.seq [9, 10, 11] .nil) (.alt 9 (.seq [6, 10, 11] .nil) .nil)) (.alt 9 (.seq [5, 6, 10, 11] .nil) .nil)) (.alt 5 (.alt 3 (.alt 6 (.seq [9, 10, 11] .nil) (.alt 9 (.seq [6, 10, 11] .nil) .nil)) (.alt 9 (.seq [3, 6, 10, 11] .nil) .nil)) (.alt 9 (.alt 3 (.seq [5, 6, 10, 11] .nil) (.alt 5 (.seq [3, 6, 10, 11] .nil) .nil)) .nil)))) hmix (by kernel_rfl) ?_
      refine at_seq ?_
      simp only [pick_rules, list_rules]
      try refine lg_mk ?_
      refine u_mv ?_
      refine u_mv ?_
      refine u_sl ?_
      refine u_mv ?_
      refine u_mv ?_
      refine u_mv ?_
      refine lg_nil ?_
      refine at_alt ?_ ?_
      ·simp only [pick_rules, list_rules]
       try refine lg_mk ?_
       refine u_ap ?_
       refine lg_nil ?_
       refine at_alt ?_ ?_
       ·simp only [pick_rules, list_rules]
        try refine lg_mk ?_
        refine u_bs ?_
        refine lg_nil ?_
        refine at_alt ?_ ?_
        ·simp only [pick_rules, list_rules]
         try refine lg_mk ?_
         refine u_ap ?_
         refine lg_nil ?_
         refine at_seq ?_
         simp only [pick_rules, list_rules]
         try refine lg_mk ?_
         refine u_sl ?_
         refine u_ap (hq := by (first | (constructor <;> simp only [List.length_append, rows_len, List.length_singleton, List.length_take, List.length_drop] <;> omega) | (first | trivial | omega | assumption | (unfold inI64; omega) | ((repeat' apply And.intro) <;> first | rfl | trivial | omega | assumption | (unfold inI64; omega)) | (simp; done) | (simp; omega)))) ?_
         refine u_mv ?_
         refine lg_nil ?_
         refine at_nil ?_
         refine h12 _ ?_; clear h12; try clear N12
         refine vc_ret ?_
         try simp only [k_rules]
         have hr : ins l n = l.take k ++ n :: l.drop k := ins_at (by simpa using hb4) k2 (by first | exact Or.inl (by omega) | exact Or.inr ⟨x, hxe, by simpa using hb11⟩)
         rw [hr]
         refine fin2_ ?_
         (repeat' apply And.intro) <;> (first | (first | rfl | exact congrArg D.sl ins_rows | exact Or.inl (congrArg D.sl ins_rows) | (simp only [List.length_append, rows_len, List.length_singleton, List.length_take, List.length_drop]; omega)) | (first | rfl | exact Or.inr rfl | exact Or.inl rfl | trivial | omega | assumption | (simp; done) | (simp; omega)))
        refine at_alt ?_ ?_
        ·simp only [pick_rules, list_rules]
         try refine lg_mk ?_
         refine u_sl ?_
         refine lg_nil ?_
         refine at_seq ?_
         simp only [pick_rules, list_rules]
         try refine lg_mk ?_
         refine u_ap ?_
         refine u_ap (hq := by (first | (constructor <;> simp only [List.length_append, rows_len, List.length_singleton, List.length_take, List.length_drop] <;> omega) | (first | trivial | omega | assumption | (unfold inI64; omega) | ((repeat' apply And.intro) <;> first | rfl | trivial | omega | assumption | (unfold inI64; omega)) | (simp; done) | (simp; omega)))) ?_
         refine u_mv ?_
         refine lg_nil ?_
         refine at_nil ?_
         refine h12 _ ?_; clear h12; try clear N12
         refine vc_ret ?_
         try simp only [k_rules]
         have hr : ins l n = l.take k ++ n :: l.drop k := ins_at (by simpa using hb4) k2 (by first | exact Or.inl (by omega) | exact Or.inr ⟨x, hxe, by simpa using hb11⟩)
         rw [hr]
         refine fin2_ ?_
         (repeat' apply And.intro) <;> (first | (first | rfl | exact congrArg D.sl ins_rows | exact Or.inl (congrArg D.sl ins_rows) | (simp only [List.length_append, rows_len, List.length_singleton, List.length_take, List.length_drop]; omega)) | (first | rfl | exact Or.inr rfl | exact Or.inl rfl | trivial | omega | assumption | (simp; done) | (simp; omega)))
        exact at_end
       refine at_alt ?_ ?_
       ·simp only [pick_rules, list_rules]
        try refine lg_mk ?_
        refine u_sl ?_
        refine lg_nil ?_
        refine at_seq ?_
        simp only [pick_rules, list_rules]
        try refine lg_mk ?_
        refine u_bs ?_
        refine u_ap ?_
        refine u_ap (hq := by (first | (constructor <;> simp only [List.length_append, rows_len, List.length_singleton, List.length_take, List.length_drop] <;> omega) | (first | trivial | omega | assumption | (unfold inI64; omega) | ((repeat' apply And.intro) <;> first | rfl | trivial | omega | assumption | (unfold inI64; omega)) | (simp; done) | (simp; omega)))) ?_
        refine u_mv ?_
        refine lg_nil ?_
        refine at_nil ?_
        refine h12 _ ?_; clear h12; try clear N12
        refine vc_ret ?_
        try simp only [k_rules]
        have hr : ins l n = l.take k ++ n :: l.drop k := ins_at (by simpa using hb4) k2 (by first | exact Or.inl (by omega) | exact Or.inr ⟨x, hxe, by simpa using hb11⟩)
        rw [hr]
        refine fin2_ ?_
        (repeat' apply And.intro) <;> (first | (first | rfl | exact congrArg D.sl ins_rows | exact Or.inl (congrArg D.sl ins_rows) | (simp only [List.length_append, rows_len, List.length_singleton, List.length_take, List.length_drop]; omega)) | (first | rfl | exact Or.inr rfl | exact Or.inl rfl | trivial | omega | assumption | (simp; done) | (simp; omega)))
       exact at_end
      refine at_alt ?_ ?_
      ·simp only [pick_rules, list_rules]
       try refine lg_mk ?_
       refine u_bs ?_
       refine lg_nil ?_
       refine at_alt ?_ ?_
       ·simp only [pick_rules, list_rules]
        try refine lg_mk ?_
        refine u_ap ?_
        refine lg_nil ?_
        refine at_alt ?_ ?_
        ·simp only [pick_rules, list_rules]
         try refine lg_mk ?_
         refine u_ap ?_
         refine lg_nil ?_
         refine at_seq ?_
         simp only [pick_rules, list_rules]
         try refine lg_mk ?_
         refine u_sl ?_
         refine u_ap (hq := by (first | (constructor <;> simp only [List.length_append, rows_len, List.length_singleton, List.length_take, List.length_drop] <;> omega) | (first | trivial | omega | assumption | (unfold inI64; omega) | ((repeat' apply And.intro) <;> first | rfl | trivial | omega | assumption | (unfold inI64; omega)) | (simp; done) | (simp; omega)))) ?_
         refine u_mv ?_
         refine lg_nil ?_
         refine at_nil ?_
         refine h12 _ ?_; clear h12; try clear N12
         refine vc_ret ?_
         try simp only [k_rules]
         have hr : ins l n = l.take k ++ n :: l.drop k := ins_at (by simpa using hb4) k2 (by first | exact Or.inl (by omega) | exact Or.inr ⟨x, hxe, by simpa using hb11⟩)
         rw [hr]
         refine fin2_ ?_
         (repeat' apply And.intro) <;> (first | (first | rfl | exact congrArg D.sl ins_rows | exact Or.inl (congrArg D.sl ins_rows) | (simp only [List.length_append, rows_len, List.length_singleton, List.length_take, List.length_drop]; omega)) | (first | rfl | exact Or.inr rfl | exact Or.inl rfl | trivial | omega | assumption | (simp; done) | (simp; omega)))
        refine at_alt ?_ ?_
        ·simp only [pick_rules, list_rules]
         try refine lg_mk ?_
         refine u_sl ?_
         refine lg_nil ?_
         refine at_seq ?_
         simp only [pick_rules, list_rules]
         try refine lg_mk ?_
         refine u_ap ?_
         refine u_ap (hq := by (first | (constructor <;> simp only [List.length_append, rows_len, List.length_singleton, List.length_take, List.length_drop] <;> omega) | (first | trivial | omega | assumption | (unfold inI64; omega) | ((repeat' apply And.intro) <;> first | rfl | trivial | omega | assumption | (unfold inI64; omega)) | (simp; done) | (simp; omega)))) ?_
         refine u_mv ?_
         refine lg_nil ?_
         refine at_nil ?_
         refine h12 _ ?_; clear h12; try clear N12
         refine vc_ret ?_
         try simp only [k_rules]
         have hr : ins l n = l.take k ++ n :: l.drop k := ins_at (by simpa using hb4) k2 (by first | exact Or.inl (by omega) | exact Or.inr ⟨x, hxe, by simpa using hb11⟩)
         rw [hr]
         refine fin2_ ?_
         (repeat' apply And.intro) <;> (first | (first | rfl | exact congrArg D.sl ins_rows | exact Or.inl (congrArg D.sl ins_rows) | (simp only [List.length_append, rows_len, List.length_singleton, List.length_take, List.length_drop]; omega)) | (first | rfl | exact Or.inr rfl | exact Or.inl rfl | trivial | omega | assumption | (simp; done) | (simp; omega)))
        exact at_end
       refine at_alt ?_ ?_
       ·simp only [pick_rules, list_rules]
        try refine lg_mk ?_
        refine u_sl ?_
        refine lg_nil ?_
        refine at_seq ?_
        simp only [pick_rules, list_rules]
        try refine lg_mk ?_
        refine u_ap ?_
        refine u_ap ?_
        refine u_ap (hq := by (first | (constructor <;> simp only [List.length_append, rows_len, List.length_singleton, List.length_take, List.length_drop] <;> omega) | (first | trivial | omega | assumption | (unfold inI64; omega) | ((repeat' apply And.intro) <;> first | rfl | trivial | omega | assumption | (unfold inI64; omega)) | (simp; done) | (simp; omega)))) ?_
        refine u_mv ?_
        refine lg_nil ?_
        refine at_nil ?_
        refine h12 _ ?_; clear h12; try clear N12
        refine vc_ret ?_
        try simp only [k_rules]
        have hr : ins l n = l.take k ++ n :: l.drop k := ins_at (by simpa using hb4) k2 (by first | exact Or.inl (by omega) | exact Or.inr ⟨x, hxe, by simpa using hb11⟩)
        rw [hr]
        refine fin2_ ?_
        (repeat' apply And.intro) <;> (first | (first | rfl | exact congrArg D.sl ins_rows | exact Or.inl (congrArg D.sl ins_rows) | (simp only [List.length_append, rows_len, List.length_singleton, List.length_take, List.length_drop]; omega)) | (first | rfl | exact Or.inr rfl | exact Or.inl rfl | trivial | omega | assumption | (simp; done) | (simp; omega)))
       exact at_end
      refine at_alt ?_ ?_
      ·simp only [pick_rules, list_rules]
       try refine lg_mk ?_
       refine u_sl ?_
       refine lg_nil ?_
       refine at_alt ?_ ?_
       ·simp only [pick_rules, list_rules]
        try refine lg_mk ?_
        refine u_ap ?_
        refine lg_nil ?_
        refine at_seq ?_
        simp only [pick_rules, list_rules]
        try refine lg_mk ?_
        refine u_bs ?_
        refine u_ap ?_
        refine u_ap (hq := by (first | (constructor <;> simp only [List.length_append, rows_len, List.length_singleton, List.length_take, List.length_drop] <;> omega) | (first | trivial | omega | assumption | (unfold inI64; omega) | ((repeat' apply And.intro) <;> first | rfl | trivial | omega | assumption | (unfold inI64; omega)) | (simp; done) | (simp; omega)))) ?_
        refine u_mv ?_
        refine lg_nil ?_
        refine at_nil ?_
        refine h12 _ ?_; clear h12; try clear N12
        refine vc_ret ?_
        try simp only [k_rules]
        have hr : ins l n = l.take k ++ n :: l.drop k := ins_at (by simpa using hb4) k2 (by first | exact Or.inl (by omega) | exact Or.inr ⟨x, hxe, by simpa using hb11⟩)
        rw [hr]
        refine fin2_ ?_
        (repeat' apply And.intro) <;> (first | (first | rfl | exact congrArg D.sl ins_rows | exact Or.inl (congrArg D.sl ins_rows) | (simp only [List.length_append, rows_len, List.length_singleton, List.length_take, List.length_drop]; omega)) | (first | rfl | exact Or.inr rfl | exact Or.inl rfl | trivial | omega | assumption | (simp; done) | (simp; omega)))
       refine at_alt ?_ ?_
       ·simp only [pick_rules, list_rules]
        try refine lg_mk ?_
        refine u_bs ?_
        refine lg_nil ?_
        refine at_seq ?_
        simp only [pick_rules, list_rules]
        try refine lg_mk ?_
        refine u_ap ?_
        refine u_ap ?_
        refine u_ap (hq := by (first | (constructor <;> simp only [List.length_append, rows_len, List.length_singleton, List.length_take, List.length_drop] <;> omega) | (first | trivial | omega | assumption | (unfold inI64; omega) | ((repeat' apply And.intro) <;> first | rfl | trivial | omega | assumption | (unfold inI64; omega)) | (simp; done) | (simp; omega)))) ?_
        refine u_mv ?_
        refine lg_nil ?_
        refine at_nil ?_
        refine h12 _ ?_; clear h12; try clear N12
        refine vc_ret ?_
        try simp only [k_rules]
        have hr : ins l n = l.take k ++ n :: l.drop k := ins_at (by simpa using hb4) k2 (by first | exact Or.inl (by omega) | exact Or.inr ⟨x, hxe, by simpa using hb11⟩)
        rw [hr]
        refine fin2_ ?_
        (repeat' apply And.intro) <;> (first | (first | rfl | exact congrArg D.sl ins_rows | exact Or.inl (congrArg D.sl ins_rows) | (simp only [List.length_append, rows_len, List.length_singleton, List.length_take, List.length_drop]; omega)) | (first | rfl | exact Or.inr rfl | exact Or.inl rfl | trivial | omega | assumption | (simp; done) | (simp; omega)))
       exact at_end
      exact at_end
    ·have hxe : l[k]? = none := List.getElem?_eq_none hk
     have hk' : decide ((k : Int) < (l.length : Int)) = false := by simp; omega
     have hx := And.intro @hxe (And.intro @hk' (And.intro @eI.eq_1 hx0))
     refine u_reg ?_
     try refine lg_mk ?_
     refine u_mv ?_
     refine u_mv ?_
     refine u_ln ?_
     refine u_bn ?_
     refine u_mv ?_
     refine g_mv ?_
     refine g_mv ?_
     refine g_pt ?_
     refine g_ld ?_
     refine g_mv ?_
     refine g_bn ?_
     refine u_pk ?_
     refine lg_nil ?_
     have hx := hx0
     refine h10 _ ?_; clear h10; try clear N10
     refine u_cond (fun hb13 => ?_) (fun hb13 => ?_)
     ·cases hb13
     ·refine vc_exit ?_
      simp only [k_rules, Nat.reduceEqDiff, reduceIte, eq_self]
      refine h7 _ ?_; clear h7; try clear N7
      refine vc_seq_k fun N14 h14 => ?_
      refine vc_regT [1000027] (.seq [0, 1, 2, 4, 7, 8] (.alt 3 (.alt 5 (.alt 6 (.seq [9, 10, 11] .nil) (.alt 9 (.seq [6, 10, 11] .nil) .nil)) (.alt 9 (.seq [5, 6, 10, 11] .nil) .nil)) (.alt 5 (.alt 3 (.alt 6 (.seq [9, 10, 11] .nil) (.alt 9 (.seq [6, 10, 11] .nil) .nil)) (.alt 9 (.seq [3, 6, 10, 11] .nil) .nil)) (.alt 9 (.alt 3 (.seq [5, 6, 10, 11] .nil) (.alt 5 (.seq [3, 6, 10, 11] .nil) .nil)) .nil)))) hmix (by kernel_rfl) ?_
      refine at_seq ?_
      simp only [pick_rules, list_rules]
      try refine lg_mk ?_
      refine u_mv ?_
      refine u_mv ?_
      refine u_sl ?_
      refine u_mv ?_
      refine u_mv ?_
      refine u_mv ?_
      refine lg_nil ?_
      refine at_alt ?_ ?_
      ·simp only [pick_rules, list_rules]
       try refine lg_mk ?_
       refine u_ap ?_
       refine lg_nil ?_
       refine at_alt ?_ ?_
       ·simp only [pick_rules, list_rules]
        try refine lg_mk ?_
        refine u_bs ?_
        refine lg_nil ?_
        refine at_alt ?_ ?_
        ·simp only [pick_rules, list_rules]
         try refine lg_mk ?_
         refine u_ap ?_
         refine lg_nil ?_
         refine at_seq ?_
         simp only [pick_rules, list_rules]
         try refine lg_mk ?_
         refine u_sl ?_
         refine u_ap (hq := by (first | (constructor <;> simp only [List.length_append, rows_len, List.length_singleton, List.length_take, List.length_drop] <;> omega) | (first | trivial | omega | assumption | (unfold inI64; omega) | ((repeat' apply And.intro) <;> first | rfl | trivial | omega | assumption | (unfold inI64; omega)) | (simp; done) | (simp; omega)))) ?_
         refine u_mv ?_
         refine lg_nil ?_
         refine at_nil ?_
         refine h14 _ ?_; clear h14; try clear N14
         refine vc_ret ?_
         try simp only [k_rules]
         have hr : ins l n = l.take k ++ n :: l.drop k := ins_at (by simpa using hb4) k2 (by first | exact Or.inl (by omega) | exact Or.inr ⟨x, hxe, by simpa using hb13⟩)
         rw [hr]
         refine fin2_ ?_
         (repeat' apply And.intro) <;> (first | (first | rfl | exact congrArg D.sl ins_rows | exact Or.inl (congrArg D.sl ins_rows) | (simp only [List.length_append, rows_len, List.length_singleton, List.length_take, List.length_drop]; omega)) | (first | rfl | exact Or.inr rfl | exact Or.inl rfl | trivial | omega | assumption | (simp; done) | (simp; omega)))
        refine at_alt ?_ ?_
        ·simp only [pick_rules, list_rules]
         try refine lg_mk ?_
         refine u_sl ?_
         refine lg_nil ?_
         refine at_seq ?_
         simp only [pick_rules, list_rules]
         try refine lg_mk ?_
         refine u_ap ?_
         refine u_ap (hq := by (first | (constructor <;> simp only [List.length_append, rows_len, List.length_singleton, List.length_take, List.length_drop] <;> omega) | (first | trivial | omega | assumption | (unfold inI64; omega) | ((repeat' apply And.intro) <;> first | rfl | trivial | omega | assumption | (unfold inI64; omega)) | (simp; done) | (simp; omega)))) ?_
         refine u_mv ?_
         refine lg_nil ?_
         refine at_nil ?_
         refine h14 _ ?_; clear h14; try clear N14
         refine vc_ret ?_
         try simp only [k_rules]
         have hr : ins l n = l.take k ++ n :: l.drop k := ins_at (by simpa using hb4) k2 (by first | exact Or.inl (by omega) | exact Or.inr ⟨x, hxe, by simpa using hb13⟩)
         rw [hr]
         refine fin2_ ?_
         (repeat' apply And.intro) <;> (first | (first | rfl | exact congrArg D.sl ins_rows | exact Or.inl (congrArg D.sl ins_rows) | (simp only [List.length_append, rows_len, List.length_singleton, List.length_take, List.length_drop]; omega)) | (first | rfl | exact Or.inr rfl | exact Or.inl rfl | trivial | omega | assumption | (simp; done) | (simp; omega)))
        exact at_end
       refine at_alt ?_ ?_
       ·simp only [pick_rules, list_rules]
        try refine lg_mk ?_
        refine u_sl ?_
        refine lg_nil ?_
        refine at_seq ?_
        simp only [pick_rules, list_rules]
        try refine lg_mk ?_
        refine u_bs ?_
        refine u_ap ?_
        refine u_ap (hq := by (first | (constructor <;> simp only [List.length_append, rows_len, List.length_singleton, List.length_take, List.length_drop] <;> omega) | (first | trivial | omega | assumption | (unfold inI64; omega) | ((repeat' apply And.intro) <;> first | rfl | trivial | omega | assumption | (unfold inI64; omega)) | (simp; done) | (simp; omega)))) ?_
        refine u_mv ?_
        refine lg_nil ?_
        refine at_nil ?_
        refine h14 _ ?_; clear h14; try clear N14
        refine vc_ret ?_
        try simp only [k_rules]
        have hr : ins l n = l.take k ++ n :: l.drop k := ins_at (by simpa using hb4) k2 (by first | exact Or.inl (by omega) | exact Or.inr ⟨x, hxe, by simpa using hb13⟩)
        rw [hr]
        refine fin2_ ?_
        (repeat' apply And.intro) <;> (first | (first | rfl | exact congrArg D.sl ins_rows | exact Or.inl (congrArg D.sl ins_rows) | (simp only [List.length_append, rows_len, List.length_singleton, List.length_take, List.length_drop]; omega)) | (first | rfl | exact Or.inr rfl | exact Or.inl rfl | trivial | omega | assumption | (simp; done) | (simp; omega)))
       exact at_end
      refine at_alt ?_ ?_
      ·simp only [pick_rules, list_rules]
       try refine lg_mk ?_
       refine u_bs ?_
       refine lg_nil ?_
       refine at_alt ?_ ?_
       ·simp only [pick_rules, list_rules]
        try refine lg_mk ?_
        refine u_ap ?_
        refine lg_nil ?_
        refine at_alt ?_ ?_
        ·simp only [pick_rules, list_rules]
         try refine lg_mk ?_
         refine u_ap ?_
         refine lg_nil ?_
         refine at_seq ?_
         simp only [pick_rules, list_rules]
         try refine lg_mk ?_
         refine u_sl ?_
         refine u_ap (hq := by (first | (constructor <;> simp only [List.length_append, rows_len, List.length_singleton, List.length_take, List.length_drop] <;> omega) | (first | trivial | omega | assumption | (unfold inI64; omega) | ((repeat' apply And.intro) <;> first | rfl | trivial | omega | assumption | (unfold inI64; omega)) | (simp; done) | (simp; omega)))) ?_
         refine u_mv ?_
         refine lg_nil ?_
         refine at_nil ?_
         refine h14 _ ?_; clear h14; try clear N14
         refine vc_ret ?_
         try simp only [k_rules]
         have hr : ins l n = l.take k ++ n :: l.drop k := ins_at (by simpa using hb4) k2 (by first | exact Or.inl (by omega) | exact Or.inr ⟨x, hxe, by simpa using hb13⟩)
         rw [hr]
         refine fin2_ ?_
         (repeat' apply And.intro) <;> (first | (first | rfl | exact congrArg D.sl ins_rows | exact Or.inl (congrArg D.sl ins_rows) | (simp only [List.length_append, rows_len, List.length_singleton, List.length_take, List.length_drop]; omega)) | (first | rfl | exact Or.inr rfl | exact Or.inl rfl | trivial | omega | assumption | (simp; done) | (simp; omega)))
        refine at_alt ?_ ?_
        ·simp only [pick_rules, list_rules]
         try refine lg_mk ?_
         refine u_sl ?_
         refine lg_nil ?_
         refine at_seq ?_
         simp only [pick_rules, list_rules]
         try refine lg_mk ?_
         refine u_ap ?_
         refine u_ap (hq := by (first | (constructor <;> simp only [List.length_append, rows_len, List.length_singleton, List.length_take, List.length_drop] <;> omega) | (first | trivial | omega | assumption | (unfold inI64; omega) | ((repeat' apply And.intro) <;> first | rfl | trivial | omega | assumption | (unfold inI64; omega)) | (simp; done) | (simp; omega)))) ?_
         refine u_mv ?_
         refine lg_nil ?_
         refine at_nil ?_
         refine h14 _ ?_; clear h14; try clear N14
         refine vc_ret ?_
         try simp only [k_rules]
         have hr : ins l n = l.take k ++ n :: l.drop k := ins_at (by simpa using hb4) k2 (by first | exact Or.inl (by omega) | exact Or.inr ⟨x, hxe, by simpa using hb13⟩)
         rw [hr]
         refine fin2_ ?_
         (repeat' apply And.intro) <;> (first | (first | rfl | exact congrArg D.sl ins_rows | exact Or.inl (congrArg D.sl ins_rows) | (simp only [List.length_append, rows_len, List.length_singleton, List.length_take, List.length_drop]; omega)) | (first | rfl | exact Or.inr rfl | exact Or.inl rfl | trivial | omega | assumption | (simp; done) | (simp; omega)))
        exact at_end
       refine at_alt ?_ ?_
       ·simp only [pick_rules, list_rules]
        try refine lg_mk ?_
        refine u_sl ?_
        refine lg_nil ?_
        refine at_seq ?_
        simp only [pick_rules, list_rules]
        try refine lg_mk ?_
        refine u_ap ?_
        refine u_ap ?_
        refine u_ap (hq := by (first | (constructor <;> simp only [List.length_append, rows_len, List.length_singleton, List.length_take, List.length_drop] <;> omega) | (first | trivial | omega | assumption | (unfold inI64; omega) | ((repeat' apply And.intro) <;> first | rfl | trivial | omega | assumption | (unfold inI64; omega)) | (simp; done) | (simp; omega)))) ?_
        refine u_mv ?_
        refine lg_nil ?_
        refine at_nil ?_
        refine h14 _ ?_; clear h14; try clear N14
        refine vc_ret ?_
        try simp only [k_rules]
        have hr : ins l n = l.take k ++ n :: l.drop k := ins_at (by simpa using hb4) k2 (by first | exact Or.inl (by omega) | exact Or.inr ⟨x, hxe, by simpa using hb13⟩)
        rw [hr]
        refine fin2_ ?_
        (repeat' apply And.intro) <;> (first | (first | rfl | exact congrArg D.sl ins_rows | exact Or.inl (congrArg D.sl ins_rows) | (simp only [List.length_append, rows_len, List.length_singleton, List.length_take, List.length_drop]; omega)) | (first | rfl | exact Or.inr rfl | exact Or.inl rfl | trivial | omega | assumption | (simp; done) | (simp; omega)))
       exact at_end
      refine at_alt ?_ ?_
      ·simp only [pick_rules, list_rules]
       try refine lg_mk ?_
       refine u_sl ?_
       refine lg_nil ?_
       refine at_alt ?_ ?_
       ·simp only [pick_rules, list_rules]
        try refine lg_mk ?_
        refine u_ap ?_
        refine lg_nil ?_
        refine at_seq ?_
        simp only [pick_rules, list_rules]
        try refine lg_mk ?_
        refine u_bs ?_
        refine u_ap ?_
        refine u_ap (hq := by (first | (constructor <;> simp only [List.length_append, rows_len, List.length_singleton, List.length_take, List.length_drop] <;> omega) | (first | trivial | omega | assumption | (unfold inI64; omega) | ((repeat' apply And.intro) <;> first | rfl | trivial | omega | assumption | (unfold inI64; omega)) | (simp; done) | (simp; omega)))) ?_
        refine u_mv ?_
        refine lg_nil ?_
        refine at_nil ?_
        refine h14 _ ?_; clear h14; try clear N14
        refine vc_ret ?_
        try simp only [k_rules]
        have hr : ins l n = l.take k ++ n :: l.drop k := ins_at (by simpa using hb4) k2 (by first | exact Or.inl (by omega) | exact Or.inr ⟨x, hxe, by simpa using hb13⟩)
        rw [hr]
        refine fin2_ ?_
        (repeat' apply And.intro) <;> (first | (first | rfl | exact congrArg D.sl ins_rows | exact Or.inl (congrArg D.sl ins_rows) | (simp only [List.length_append, rows_len, List.length_singleton, List.length_take, List.length_drop]; omega)) | (first | rfl | exact Or.inr rfl | exact Or.inl rfl | trivial | omega | assumption | (simp; done) | (simp; omega)))
       refine at_alt ?_ ?_
       ·simp only [pick_rules, list_rules]
        try refine lg_mk ?_
        refine u_bs ?_
        refine lg_nil ?_
        refine at_seq ?_
        simp only [pick_rules, list_rules]
        try refine lg_mk ?_
        refine u_ap ?_
        refine u_ap ?_
        refine u_ap (hq := by (first | (constructor <;> simp only [List.length_append, rows_len, List.length_singleton, List.length_take, List.length_drop] <;> omega) | (first | trivial | omega | assumption | (unfold inI64; omega) | ((repeat' apply And.intro) <;> first | rfl | trivial | omega | assumption | (unfold inI64; omega)) | (simp; done) | (simp; omega)))) ?_
        refine u_mv ?_
        refine lg_nil ?_
        refine at_nil ?_
        refine h14 _ ?_; clear h14; try clear N14
        refine vc_ret ?_
        try simp only [k_rules]
        have hr : ins l n = l.take k ++ n :: l.drop k := ins_at (by simpa using hb4) k2 (by first | exact Or.inl (by omega) | exact Or.inr ⟨x, hxe, by simpa using hb13⟩)
        rw [hr]
        refine fin2_ ?_
        (repeat' apply And.intro) <;> (first | (first | rfl | exact congrArg D.sl ins_rows | exact Or.inl (congrArg D.sl ins_rows) | (simp only [List.length_append, rows_len, List.length_singleton, List.length_take, List.length_drop]; omega)) | (first | rfl | exact Or.inr rfl | exact Or.inl rfl | trivial | omega | assumption | (simp; done) | (simp; omega)))
       exact at_end
      exact at_end
 ·cases hg

def E_insert : Env Try.prog := E_reach.add 44 (Spec.pure insG) insert_meets (by kernel_rfl)

theorem index_meets : Meets Try.prog 56 (Spec.pure indexG) := by
 refine meets_fun (E_insert.at_ 19) Try.func56 rfl rfl rfl ?_
 intro args p r hg hp
 unfold indexG at hg
 split at hg
 ·rename_i xs n
  simp only [Option.some.injEq, Prod.mk.injEq] at hg
  obtain ⟨rfl, rfl⟩ := hg
  obtain ⟨he, hl⟩ := hp
  generalize dI xs = l at *
  subst he
  have hT : (E_insert).X = T := rfl
  have hx0 := @Try.results56
  have hx := hx0
  refine ⟨by rfl, ?_⟩
  intro F W0 hnp hmk
  refine vc_seq_k fun N1 h1 => ?_
  refine u_reg ?_
  try refine lg_mk ?_
  refine u_mv ?_
  refine lg_nil ?_
  refine h1 _ ?_; clear h1; try clear N1
  refine vc_seq_k fun N2 h2 => ?_
  refine vc_seq_k fun N3 h3 => ?_
  refine u_reg ?_
  try refine lg_mk ?_
  refine u_mv ?_
  refine u_ln ?_
  refine u_mv ?_
  refine lg_nil ?_
  refine h3 _ ?_; clear h3; try clear N3
  refine vc_block ?_
  refine vc_loop_mk (σ := Nat) (fun s => (fun k => k ≤ l.length ∧ n ∉ l.take k) s)
   (fun s => (fun k => [(0, .d (.sl (rows eI l))), (1, .d (.int .i64 n)), (6, .d (.sl (rows eI l))), (7, .d (.int .i64 (l.length : Nat))), (8, .d (.int .i64 (k : Nat)))]) s)
   (fun s => (fun k => []) s) (fun s => (fun k => l.length - k) s) hnp 0 ?_ [] ?_ ?_
  ·dsimp only
   simp
  ·dsimp only
   refine ⟨by rfl, ?_, ?_⟩
   ·refine fin_ ?_
    exact cl_
   ·refine fin_ ?_
    exact cl_
  ·rintro k hinv N4 h4
   dsimp only at hinv ⊢
   obtain ⟨k1, k2⟩ := hinv
   refine vc_seq_k fun N5 h5 => ?_
   refine u_reg ?_
   try refine lg_mk ?_
   refine u_bn ?_
   refine lg_nil ?_
   refine h5 _ ?_; clear h5; try clear N5
   refine vc_seq_k fun N6 h6 => ?_
   refine u_cond (fun hb7 => ?_) (fun hb7 => ?_)
   ·obtain ⟨x, hxe⟩ := getE (l := l) (i := k) (by omega)
    refine vc_skip ?_
    try simp only [k_rules]
    refine h6 _ ?_; clear h6; try clear N6
    refine vc_seq_k fun N8 h8 => ?_
    refine vc_block ?_
    refine vc_seq_k fun N9 h9 => ?_
    refine u_reg ?_
    try refine lg_mk ?_
    refine u_mv ?_
    refine u_mv ?_
    refine lg_nil ?_
    refine h9 _ ?_; clear h9; try clear N9
    refine vc_seq_k fun N10 h10 => ?_
    have hx := And.intro @hxe (And.intro @eI.eq_1 hx0)
    refine u_reg ?_
    try refine lg_mk ?_
    refine u_mv ?_
    refine u_mv ?_
    refine u_mv ?_
    refine u_pt ?_
    refine u_ld ?_
    refine u_bn ?_
    refine lg_nil ?_
    have hx := hx0
    refine h10 _ ?_; clear h10; try clear N10
    refine u_cond (fun hb11 => ?_) (fun hb11 => ?_)
    ·refine vc_seq_k fun N12 h12 => ?_
     refine u_reg ?_
     try refine lg_mk ?_
     refine u_mv ?_
     refine u_mv ?_
     refine lg_nil ?_
     refine h12 _ ?_; clear h12; try clear N12
     refine vc_ret ?_
     try simp only [k_rules]
     have hx2 : l[k]? = some n := by rw [hxe, hb11]
     have hr : (if n ∈ l then ((l.idxOf n : Nat) : Int) else -1) = (k : Int) := by rw [if_pos (mem_at hx2), idxOf_at hx2 k2]
     rw [hr]
     refine fin2_ ?_
     exact cl_
    ·refine vc_skip ?_
     try simp only [k_rules]
     refine h8 _ ?_; clear h8; try clear N8
     refine u_reg ?_
     try refine lg_mk ?_
     refine u_bn ?_
     refine u_mv ?_
     refine lg_nil ?_
     refine h4 _ ⟨k + 1, ?_, ?_, [], ?_⟩
     ·dsimp only
      exact ⟨by omega, notin_take hxe k2 (by have := hb11; omega)⟩
     ·dsimp only
      omega
     ·dsimp only
      refine ⟨by rfl, ?_, ?_⟩
      ·refine fin_ ?_
       exact cl_
      ·refine fin_ ?_
       exact cl_
   ·refine vc_exit ?_
    simp only [k_rules, Nat.reduceEqDiff, reduceIte, eq_self]
    refine h2 _ ?_; clear h2; try clear N2
    refine vc_seq_k fun N13 h13 => ?_
    refine u_reg ?_
    try refine lg_mk ?_
    refine u_mv ?_
    refine lg_nil ?_
    refine h13 _ ?_; clear h13; try clear N13
    refine vc_ret ?_
    try simp only [k_rules]
    have hr : (if n ∈ l then ((l.idxOf n : Nat) : Int) else -1) = -1 := by
     rw [List.take_of_length_le (by omega)] at k2; exact if_neg k2
    rw [hr]
    refine fin2_ ?_
    exact cl_
 ·cases hg

def E_index : Env Try.prog := E_insert.add 56 (Spec.pure indexG) index_meets (by kernel_rfl)

theorem contains_meets : Meets Try.prog 48 (Spec.pure containsG) := by
 refine meets_fun (E_index.at_ 9) Try.func48 rfl rfl rfl ?_
 intro args p r hg hp
 unfold containsG at hg
 split at hg
 ·rename_i xs n
  simp only [Option.some.injEq, Prod.mk.injEq] at hg
  obtain ⟨rfl, rfl⟩ := hg
  obtain ⟨he, hl⟩ := hp
  generalize dI xs = l at *
  subst he
  have hT : (E_index).X = T := rfl
  have hx0 := @Try.results48
  have hx := hx0
  refine ⟨by rfl, ?_⟩
  intro F W0 hnp hmk
  refine vc_seq_k fun N1 h1 => ?_
  refine u_reg ?_
  try refine lg_mk ?_
  refine u_mv ?_
  refine lg_nil ?_
  refine h1 _ ?_; clear h1; try clear N1
  refine vc_seq_k fun N2 h2 => ?_
  have hx := And.intro @dI_rows hx0
  refine u_reg ?_
  try refine lg_mk ?_
  refine u_mv ?_
  refine u_mv ?_
  have hc := call_rule (E := (E_index.at_ 9)) (f := 56) (sp := Spec.pure indexG) rfl
  have hs := @indexG.eq_1
  refine u_cp ?_
  refine u_bn ?_
  refine u_mv ?_
  refine lg_nil ?_
  have hx := hx0
  refine h2 _ ?_; clear h2; try clear N2
  refine vc_ret ?_
  try simp only [k_rules]
  have hr : decide (0 ≤ (if n ∈ l then ((l.idxOf n : Nat) : Int) else -1)) = decide (n ∈ l) := by split <;> simp_all
  refine fin2_ ?_
  (repeat' apply And.intro) <;> (first | (first | rfl | (left; rw [← hr]; done) | (rw [← hr]; simp; done) | (simp [← hr]; done)) | (first | rfl | exact Or.inr rfl | exact Or.inl rfl | trivial | omega | assumption | (simp; done) | (simp; omega)))
 ·cases hg

def E_contains : Env Try.prog := E_index.add 48 (Spec.pure containsG) contains_meets (by kernel_rfl)
end Go.Proofs.Ytaoifpmifpmhmaa
