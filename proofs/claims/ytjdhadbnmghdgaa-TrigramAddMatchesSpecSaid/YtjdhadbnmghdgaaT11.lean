/- Walks, printed by wip/gen/walk.py. -/
import Derived.Test.YtjdhadbnmghdgaaT10
import Derived.Test.YtjdhadbnmghdgaaV5
set_option linter.all false
set_option maxRecDepth 100000
set_option maxHeartbeats 4000000
namespace Go.Proofs.Ytjdhadbnmghdgaa
open Go Go.Vc Go.RowKit
theorem lbG_is {P : List Post} {g : Bs} {k : Nat} (hs : SortG P) (h1 : ∀ p ∈ P.take k, blt p.1 g = true) (hk : k = P.length ∨ ∃ p, P[k]? = some p ∧ blt p.1 g = false) : lbG P g = k := by
  rcases hk with rfl | ⟨p, hp, hb⟩
  · exact lbG_at h1 (by simp) (Nat.le_refl _)
  · exact lbG_at h1 (dropG_ge hs hp hb) (Nat.le_of_lt (List.getElem?_eq_some_iff.1 hp).1)
theorem all_takeG {P : List Post} {g : Bs} {k : Nat} {p : Post} (h : ∀ q ∈ P.take k, blt q.1 g = true) (hp : P[k]? = some p) (hb : blt p.1 g = true) : ∀ q ∈ P.take (k + 1), blt q.1 g = true := fun q hq => by
  rw [List.take_add_one, hp] at hq
  rcases List.mem_append.1 hq with hq | hq
  · exact h q hq
  · simp only [Option.toList_some, List.mem_singleton] at hq; rw [hq]; exact hb
def postRG : GFun
  | [.sl 0 0 n, .d (.str g), .d (.int .i64 x)], [some (.vec t s xs)] => some (t = 55 ∧ s = 2 ∧ xs = rows eP (dP xs) ∧ n = (dP xs).length ∧ SortG (dP xs) ∧ (dP xs).length ≤ 100000000 ∧ (∀ p ∈ dP xs, p.2.length ≤ 100000000),
      .sl 1 0 (post (dP xs) g x).length, [none, some (.vec 55 2 (rows eP (post (dP xs) g x)))])
  | _, _ => none
theorem set_rowP {P : List Post} {k : Nat} {g : Bs} {t : List Int} : (rows eP P).set k [.str g, .sl (rows eI t)] = rows eP (P.set k (g, t)) := by
  unfold rows; rw [List.map_set]; rfl
theorem app3 {A B : List (List D)} {y : List D} {m1 m2 : Nat} (h1 : m1 = A.length + 1) (h2 : m2 = A.length + 1 + B.length) : List.take m2 (List.take m1 (A ++ [y]) ++ B) = A ++ y :: B := by
  rw [List.take_of_length_le (l := A ++ [y]) (by simp; omega), List.take_of_length_le (by simp; omega)]; simp
theorem rows_insP (P : List Post) (k : Nat) (p : Post) : rows eP (P.take k) ++ [eP p] ++ rows eP (P.drop k) = rows eP (P.take k ++ p :: P.drop k) := by simp [rows]
theorem post_rows {P : List Post} {g : Bs} {x : Int} {k : Nat} : List.take ((List.take (k - 0) P).length + 1) (rows eP (List.take (List.take (k - 0) P).length (List.take (k - 0) P)) ++ [[D.str g, D.sl (rows eI [x])]]) ++ rows eP (List.take (P.length - k) (List.drop k P)) = rows eP (P.take k ++ (g, [x]) :: P.drop k) := by
  have e1 : List.take (P.length - k) (P.drop k) = P.drop k := List.take_of_length_le (by simp)
  have e2 : List.take ((P.take k).length + 1) (rows eP (P.take k) ++ [[D.str g, D.sl (rows eI [x])]]) = rows eP (P.take k) ++ [[D.str g, D.sl (rows eI [x])]] := List.take_of_length_le (by simp [rows])
  rw [Nat.sub_zero, List.take_length, e1, e2]
  exact rows_insP P k (g, [x])

theorem postR_meets : Meets Try.prog 30 (Spec.gen postRG) := by
 refine meets_handed (E_valT.at_ 64) Try.func30 rfl rfl rfl ?_
 intro args bl p r bf hg hp
 unfold postRG at hg
 split at hg
 ·rename_i n g x t s xs
  simp only [Option.some.injEq, Prod.mk.injEq] at hg
  obtain ⟨rfl, rfl, rfl⟩ := hg
  obtain ⟨rfl, rfl, he, rfl, hso, hl, hm⟩ := hp
  generalize dP xs = P at *
  subst he
  have hT : (E_valT).X = T := rfl
  have hx0 := And.intro @rect_eP (And.intro @eP_eq (And.intro @dec_t (And.intro @dec_f @Try.results30)))
  have hx := hx0
  refine ⟨Nat.le_of_ble_eq_true rfl, ?_⟩
  intro F W0 M0 hnp hmk
  have hnp : Far.np = 1 := hnp
  refine vc_seq_k fun N1 h1 => ?_
  refine u_reg ?_
  try refine lg_mk ?_
  refine u_mv ?_
  refine lg_nil ?_
  refine h1 _ ?_; clear h1; try clear N1
  refine vc_seq_k fun N2 h2 => ?_
  refine u_reg ?_
  try refine lg_mk ?_
  refine u_mv ?_
  refine lg_nil ?_
  refine h2 _ ?_; clear h2; try clear N2
  refine vc_seq_k fun N3 h3 => ?_
  refine vc_block ?_
  refine vc_loop_mk (σ := Nat) (fun s => (fun k => k ≤ P.length ∧ ∀ p ∈ P.take k, blt p.1 g = true) s)
   (fun s => (fun k => [(0, .sl 0 0 P.length), (1, .d (.str g)), (2, .d (.int .i64 x)), (7, .d (.int .i64 (k : Nat)))]) s)
   (fun s => (fun k => [some (.vec 55 2 (rows eP P))]) s) (fun s => (fun k => P.length - k) s) hnp 0 ?_ [some 0] ?_ ?_
  ·dsimp only
   simp
  ·dsimp only
   refine ⟨by rfl, ?_, ?_⟩
   ·refine fin_ ?_
    exact cl_
   ·refine fin_ ?_
    exact cl_
  ·rintro k hinv N4 h4
   dsimp only at hinv ⊢
   obtain ⟨k1, k2⟩ := hinv
   refine vc_seq_k fun N5 h5 => ?_
   refine vc_seq_k fun N6 h6 => ?_
   rcases Nat.lt_or_ge k P.length with hk | hk
   ·obtain ⟨p, hpe⟩ := getE hk
    obtain ⟨h, t⟩ := p
    have hxe : P[k]? = some (h, t) := hpe
    have hk' : decide ((k : Int) < (P.length : Int)) = true := by simp; omega
    have hx := And.intro @hxe (And.intro @hk' hx0)
    refine u_reg ?_
    try refine lg_mk ?_
    refine u_mv ?_
    refine u_mv ?_
    refine u_ln ?_
    refine u_bn ?_
    refine u_mv ?_
    refine g_mv ?_
    refine g_mv ?_
    refine g_pt ?_
    refine g_pt ?_
    refine g_ld ?_
    refine g_mv ?_
    refine g_bn ?_
    refine u_pk ?_
    refine lg_nil ?_
    have hx := hx0
    refine h6 _ ?_; clear h6; try clear N6
    refine u_cond (fun hb7 => ?_) (fun hb7 => ?_)
    ·refine vc_skip ?_
     try simp only [k_rules]
     refine h5 _ ?_; clear h5; try clear N5
     refine vc_block ?_
     refine u_reg ?_
     try refine lg_mk ?_
     refine u_mv ?_
     refine u_bn ?_
     refine u_mv ?_
     refine lg_nil ?_
     refine h4 _ ⟨k + 1, ?_, ?_, [some 0], ?_⟩
     ·dsimp only
      exact ⟨by omega, all_takeG k2 hxe (by simpa using hb7)⟩
     ·dsimp only
      omega
     ·dsimp only
      refine ⟨by rfl, ?_, ?_⟩
      ·refine fin_ ?_
       exact cl_
      ·refine fin_ ?_
       exact cl_
    ·refine vc_exit ?_
     simp only [k_rules, Nat.reduceEqDiff, reduceIte, eq_self]
     refine h3 _ ?_; clear h3; try clear N3
     refine vc_seq_k fun N8 h8 => ?_
     refine vc_seq_k fun N9 h9 => ?_
     have hx := And.intro @hxe (And.intro @hk' hx0)
     refine u_reg ?_
     try refine lg_mk ?_
     refine u_mv ?_
     refine u_mv ?_
     refine u_ln ?_
     refine u_bn ?_
     refine u_mv ?_
     refine g_mv ?_
     refine g_mv ?_
     refine g_pt ?_
     refine g_pt ?_
     refine g_ld ?_
     refine g_mv ?_
     refine g_bn ?_
     refine u_pk ?_
     refine lg_nil ?_
     have hx := hx0
     refine h9 _ ?_; clear h9; try clear N9
     refine u_cond (fun hb10 => ?_) (fun hb10 => ?_)
     ·refine vc_seq_k fun N11 h11 => ?_
      have hx := And.intro @hxe hx0
      refine u_reg ?_
      try refine lg_mk ?_
      refine u_mv ?_
      refine u_mv ?_
      refine u_mv ?_
      refine u_mv ?_
      refine u_pt ?_
      refine u_pt ?_
      refine u_ld ?_
      refine u_mv ?_
      have hc := call_rule (E := (E_valT.at_ 64)) (f := 29) (sp := Spec.pure insG) rfl
      have hs := @insG.eq_1
      refine u_hp (hq := by (first | ((have h2 : t.length ≤ _ := hm _ (mem_at hxe); omega)) | exact sd_)) ?_
      refine u_pt ?_
      refine u_pt ?_
      refine u_st ?_
      refine lg_nil ?_
      have hx := hx0
      refine h11 _ ?_; clear h11; try clear N11
      refine vc_seq_k fun N12 h12 => ?_
      refine vc_rebaseL 0 0 rfl (by decide) rfl rfl ?_
      simp only [kilL, List.cons_append, List.nil_append]
      refine u_reg ?_
      try refine lg_mk ?_
      refine u_mv ?_
      refine u_mv ?_
      refine lg_nil ?_
      refine h12 _ ?_; clear h12; try clear N12
      refine vc_ret ?_
      try simp only [k_rules]
      have hg : h = g := by simpa using hb10
      subst hg
      have hlb := lbG_is hso k2 (.inr ⟨(h, t), hxe, blt_irrefl h⟩)
      have hh : hasG' P h = true := decide_eq_true (List.mem_map.2 ⟨_, mem_at hxe, rfl⟩)
      have hr : post P h x = P.set k (h, ins t x) := by unfold post; rw [if_pos hh, hlb, getD_at hxe]
      refine fin_ ?_
      refine ⟨[some 0, some 1], by rfl, ?_, ?_⟩
      ·refine fin_ ?_
       (repeat' apply And.intro) <;> (first | (first | rfl | (rw [hr, ← set_rowP]; done) | (rw [hr, List.length_set]; done)) | exact cl_)
      ·refine fin_ ?_
       (repeat' apply And.intro) <;> (first | (first | rfl | (rw [hr, ← set_rowP]; done) | (rw [hr, List.length_set]; done)) | exact cl_)
     ·refine vc_skip ?_
      try simp only [k_rules]
      refine h8 _ ?_; clear h8; try clear N8
      refine vc_seq_m (σ := Unit) (fun s => (fun u => True) s)
       (fun s => (fun u => [(0, .sl 0 0 P.length), (1, .d (.str g)), (2, .d (.int .i64 x)), (7, .d (.int .i64 (k : Nat))), (8, .ptr 1 0 0)]) s)
       (fun s => (fun u => [some (.vec 55 2 (rows eP P)), some (.one 55 [.d (.str g), .d (.sl (rows eI [x]))])]) s) hnp ?_ ?_
      ·rintro u hinv
       dsimp only at hinv ⊢
       refine vc_seq_k fun N14 h14 => ?_
       refine vc_regT [1000056] (.seq [0, 1, 2, 4, 7, 8] (.alt 3 (.alt 5 (.alt 6 (.seq [9, 10, 11] .nil) (.alt 9 (.seq [6, 10, 11] .nil) .nil)) (.alt 9 (.seq [5, 6, 10, 11] .nil) .nil)) (.alt 5 (.alt 3 (.alt 6 (.seq [9, 10, 11] .nil) (.alt 9 (.seq [6, 10, 11] .nil) .nil)) (.alt 9 (.seq [3, 6, 10, 11] .nil) .nil)) (.alt 9 (.alt 3 (.seq [5, 6, 10, 11] .nil) (.alt 5 (.seq [3, 6, 10, 11] .nil) .nil)) .nil)))) hmix (by kernel_rfl) ?_
       refine at_seq ?_
       simp only [pick_rules, list_rules]
       try refine lg_mk ?_
       refine u_mv (hq := by (first | ((repeat' apply And.intro) <;> first | trivial | rfl | omega | (simp [rows]; omega) | (simp [rows]; done)) | exact sd_)) ?_
       refine u_mv (hq := by (first | ((repeat' apply And.intro) <;> first | trivial | rfl | omega | (simp [rows]; omega) | (simp [rows]; done)) | exact sd_)) ?_
       refine u_sl (hq := by (first | ((repeat' apply And.intro) <;> first | trivial | rfl | omega | (simp [rows]; omega) | (simp [rows]; done)) | exact sd_)) ?_
       refine u_ld (hq := by (first | ((repeat' apply And.intro) <;> first | trivial | rfl | omega | (simp [rows]; omega) | (simp [rows]; done)) | exact sd_)) ?_
       refine u_mv (hq := by (first | ((repeat' apply And.intro) <;> first | trivial | rfl | omega | (simp [rows]; omega) | (simp [rows]; done)) | exact sd_)) ?_
       refine u_mv (hq := by (first | ((repeat' apply And.intro) <;> first | trivial | rfl | omega | (simp [rows]; omega) | (simp [rows]; done)) | exact sd_)) ?_
       refine lg_nil ?_
       refine at_alt ?_ ?_
       ·simp only [pick_rules, list_rules]
        try refine lg_mk ?_
        refine u_ap (hq := by (first | ((repeat' apply And.intro) <;> first | trivial | rfl | omega | (simp [rows]; omega) | (simp [rows]; done)) | exact sd_)) ?_
        refine lg_nil ?_
        refine at_alt ?_ ?_
        ·simp only [pick_rules, list_rules]
         try refine lg_mk ?_
         refine u_bs (hq := by (first | ((repeat' apply And.intro) <;> first | trivial | rfl | omega | (simp [rows]; omega) | (simp [rows]; done)) | exact sd_)) ?_
         refine lg_nil ?_
         refine at_alt ?_ ?_
         ·simp only [pick_rules, list_rules]
          try refine lg_mk ?_
          refine u_ap (hq := by (first | ((repeat' apply And.intro) <;> first | trivial | rfl | omega | (simp [rows]; omega) | (simp [rows]; done)) | exact sd_)) ?_
          refine lg_nil ?_
          refine at_seq ?_
          simp only [pick_rules, list_rules]
          try refine lg_mk ?_
          refine u_sl (hq := by (first | ((repeat' apply And.intro) <;> first | trivial | rfl | omega | (simp [rows]; omega) | (simp [rows]; done)) | exact sd_)) ?_
          refine u_ap (hq := by (first | ((repeat' apply And.intro) <;> first | trivial | rfl | omega | (simp [rows]; omega) | (simp [rows]; done)) | exact sd_)) ?_
          refine u_mv (hq := by (first | ((repeat' apply And.intro) <;> first | trivial | rfl | omega | (simp [rows]; omega) | (simp [rows]; done)) | exact sd_)) ?_
          refine lg_nil ?_
          refine at_nil ?_
          refine h14 _ ?_; clear h14; try clear N14
          refine vc_ret ?_
          try simp only [k_rules]
          have hlb : lbG P g = k := lbG_is hso k2 (by first | exact Or.inl (by omega) | exact Or.inr ⟨(h, t), hxe, by simpa using hb7⟩)
          have hh : hasG' P g = false := by first | exact hasG_out k2 (by omega) | (rw [hasG_at hso k2 hxe (dropG_ge hso hxe (by simpa using hb7))]; simpa using hb10)
          have hr : post P g x = P.take k ++ (g, [x]) :: P.drop k := by unfold post; rw [if_neg (by rw [hh]; simp), hlb]
          refine fin_ ?_
          refine ⟨[some 0, some 5], by rfl, ?_, ?_⟩
          ·refine fin_ ?_
           (repeat' apply And.intro) <;> (first | (first | rfl | (rw [hr]; exact post_rows) | (rw [hr]; simp; omega)) | exact cl_)
          ·refine fin_ ?_
           (repeat' apply And.intro) <;> (first | (first | rfl | (rw [hr]; exact post_rows) | (rw [hr]; simp; omega)) | exact cl_)
         refine at_alt ?_ ?_
         ·simp only [pick_rules, list_rules]
          try refine lg_mk ?_
          refine u_sl (hq := by (first | ((repeat' apply And.intro) <;> first | trivial | rfl | omega | (simp [rows]; omega) | (simp [rows]; done)) | exact sd_)) ?_
          refine lg_nil ?_
          refine at_seq ?_
          simp only [pick_rules, list_rules]
          try refine lg_mk ?_
          refine u_ap (hq := by (first | ((repeat' apply And.intro) <;> first | trivial | rfl | omega | (simp [rows]; omega) | (simp [rows]; done)) | exact sd_)) ?_
          refine u_ap (hq := by (first | ((repeat' apply And.intro) <;> first | trivial | rfl | omega | (simp [rows]; omega) | (simp [rows]; done)) | exact sd_)) ?_
          refine u_mv (hq := by (first | ((repeat' apply And.intro) <;> first | trivial | rfl | omega | (simp [rows]; omega) | (simp [rows]; done)) | exact sd_)) ?_
          refine lg_nil ?_
          refine at_nil ?_
          refine h14 _ ?_; clear h14; try clear N14
          refine vc_ret ?_
          try simp only [k_rules]
          have hlb : lbG P g = k := lbG_is hso k2 (by first | exact Or.inl (by omega) | exact Or.inr ⟨(h, t), hxe, by simpa using hb7⟩)
          have hh : hasG' P g = false := by first | exact hasG_out k2 (by omega) | (rw [hasG_at hso k2 hxe (dropG_ge hso hxe (by simpa using hb7))]; simpa using hb10)
          have hr : post P g x = P.take k ++ (g, [x]) :: P.drop k := by unfold post; rw [if_neg (by rw [hh]; simp), hlb]
          refine fin_ ?_
          refine ⟨[some 0, some 5], by rfl, ?_, ?_⟩
          ·refine fin_ ?_
           (repeat' apply And.intro) <;> (first | (first | rfl | (rw [hr]; exact post_rows) | (rw [hr]; simp; omega)) | exact cl_)
          ·refine fin_ ?_
           (repeat' apply And.intro) <;> (first | (first | rfl | (rw [hr]; exact post_rows) | (rw [hr]; simp; omega)) | exact cl_)
         exact at_end
        refine at_alt ?_ ?_
        ·simp only [pick_rules, list_rules]
         try refine lg_mk ?_
         refine u_sl (hq := by (first | ((repeat' apply And.intro) <;> first | trivial | rfl | omega | (simp [rows]; omega) | (simp [rows]; done)) | exact sd_)) ?_
         refine lg_nil ?_
         refine at_seq ?_
         simp only [pick_rules, list_rules]
         try refine lg_mk ?_
         refine u_bs (hq := by (first | ((repeat' apply And.intro) <;> first | trivial | rfl | omega | (simp [rows]; omega) | (simp [rows]; done)) | exact sd_)) ?_
         refine u_ap (hq := by (first | ((repeat' apply And.intro) <;> first | trivial | rfl | omega | (simp [rows]; omega) | (simp [rows]; done)) | exact sd_)) ?_
         refine u_ap (hq := by (first | ((repeat' apply And.intro) <;> first | trivial | rfl | omega | (simp [rows]; omega) | (simp [rows]; done)) | exact sd_)) ?_
         refine u_mv (hq := by (first | ((repeat' apply And.intro) <;> first | trivial | rfl | omega | (simp [rows]; omega) | (simp [rows]; done)) | exact sd_)) ?_
         refine lg_nil ?_
         refine at_nil ?_
         refine h14 _ ?_; clear h14; try clear N14
         refine vc_ret ?_
         try simp only [k_rules]
         have hlb : lbG P g = k := lbG_is hso k2 (by first | exact Or.inl (by omega) | exact Or.inr ⟨(h, t), hxe, by simpa using hb7⟩)
         have hh : hasG' P g = false := by first | exact hasG_out k2 (by omega) | (rw [hasG_at hso k2 hxe (dropG_ge hso hxe (by simpa using hb7))]; simpa using hb10)
         have hr : post P g x = P.take k ++ (g, [x]) :: P.drop k := by unfold post; rw [if_neg (by rw [hh]; simp), hlb]
         refine fin_ ?_
         refine ⟨[some 0, some 5], by rfl, ?_, ?_⟩
         ·refine fin_ ?_
          (repeat' apply And.intro) <;> (first | (first | rfl | (rw [hr]; exact post_rows) | (rw [hr]; simp; omega)) | exact cl_)
         ·refine fin_ ?_
          (repeat' apply And.intro) <;> (first | (first | rfl | (rw [hr]; exact post_rows) | (rw [hr]; simp; omega)) | exact cl_)
        exact at_end
       refine at_alt ?_ ?_
       ·simp only [pick_rules, list_rules]
        try refine lg_mk ?_
        refine u_bs (hq := by (first | ((repeat' apply And.intro) <;> first | trivial | rfl | omega | (simp [rows]; omega) | (simp [rows]; done)) | exact sd_)) ?_
        refine lg_nil ?_
        refine at_alt ?_ ?_
        ·simp only [pick_rules, list_rules]
         try refine lg_mk ?_
         refine u_ap (hq := by (first | ((repeat' apply And.intro) <;> first | trivial | rfl | omega | (simp [rows]; omega) | (simp [rows]; done)) | exact sd_)) ?_
         refine lg_nil ?_
         refine at_alt ?_ ?_
         ·simp only [pick_rules, list_rules]
          try refine lg_mk ?_
          refine u_ap (hq := by (first | ((repeat' apply And.intro) <;> first | trivial | rfl | omega | (simp [rows]; omega) | (simp [rows]; done)) | exact sd_)) ?_
          refine lg_nil ?_
          refine at_seq ?_
          simp only [pick_rules, list_rules]
          try refine lg_mk ?_
          refine u_sl (hq := by (first | ((repeat' apply And.intro) <;> first | trivial | rfl | omega | (simp [rows]; omega) | (simp [rows]; done)) | exact sd_)) ?_
          refine u_ap (hq := by (first | ((repeat' apply And.intro) <;> first | trivial | rfl | omega | (simp [rows]; omega) | (simp [rows]; done)) | exact sd_)) ?_
          refine u_mv (hq := by (first | ((repeat' apply And.intro) <;> first | trivial | rfl | omega | (simp [rows]; omega) | (simp [rows]; done)) | exact sd_)) ?_
          refine lg_nil ?_
          refine at_nil ?_
          refine h14 _ ?_; clear h14; try clear N14
          refine vc_ret ?_
          try simp only [k_rules]
          have hlb : lbG P g = k := lbG_is hso k2 (by first | exact Or.inl (by omega) | exact Or.inr ⟨(h, t), hxe, by simpa using hb7⟩)
          have hh : hasG' P g = false := by first | exact hasG_out k2 (by omega) | (rw [hasG_at hso k2 hxe (dropG_ge hso hxe (by simpa using hb7))]; simpa using hb10)
          have hr : post P g x = P.take k ++ (g, [x]) :: P.drop k := by unfold post; rw [if_neg (by rw [hh]; simp), hlb]
          refine fin_ ?_
          refine ⟨[some 0, some 5], by rfl, ?_, ?_⟩
          ·refine fin_ ?_
           (repeat' apply And.intro) <;> (first | (first | rfl | (rw [hr]; exact post_rows) | (rw [hr]; simp; omega)) | exact cl_)
          ·refine fin_ ?_
           (repeat' apply And.intro) <;> (first | (first | rfl | (rw [hr]; exact post_rows) | (rw [hr]; simp; omega)) | exact cl_)
         refine at_alt ?_ ?_
         ·simp only [pick_rules, list_rules]
          try refine lg_mk ?_
          refine u_sl (hq := by (first | ((repeat' apply And.intro) <;> first | trivial | rfl | omega | (simp [rows]; omega) | (simp [rows]; done)) | exact sd_)) ?_
          refine lg_nil ?_
          refine at_seq ?_
          simp only [pick_rules, list_rules]
          try refine lg_mk ?_
          refine u_ap (hq := by (first | ((repeat' apply And.intro) <;> first | trivial | rfl | omega | (simp [rows]; omega) | (simp [rows]; done)) | exact sd_)) ?_
          refine u_ap (hq := by (first | ((repeat' apply And.intro) <;> first | trivial | rfl | omega | (simp [rows]; omega) | (simp [rows]; done)) | exact sd_)) ?_
          refine u_mv (hq := by (first | ((repeat' apply And.intro) <;> first | trivial | rfl | omega | (simp [rows]; omega) | (simp [rows]; done)) | exact sd_)) ?_
          refine lg_nil ?_
          refine at_nil ?_
          refine h14 _ ?_; clear h14; try clear N14
          refine vc_ret ?_
          try simp only [k_rules]
          have hlb : lbG P g = k := lbG_is hso k2 (by first | exact Or.inl (by omega) | exact Or.inr ⟨(h, t), hxe, by simpa using hb7⟩)
          have hh : hasG' P g = false := by first | exact hasG_out k2 (by omega) | (rw [hasG_at hso k2 hxe (dropG_ge hso hxe (by simpa using hb7))]; simpa using hb10)
          have hr : post P g x = P.take k ++ (g, [x]) :: P.drop k := by unfold post; rw [if_neg (by rw [hh]; simp), hlb]
          refine fin_ ?_
          refine ⟨[some 0, some 5], by rfl, ?_, ?_⟩
          ·refine fin_ ?_
           (repeat' apply And.intro) <;> (first | (first | rfl | (rw [hr]; exact post_rows) | (rw [hr]; simp; omega)) | exact cl_)
          ·refine fin_ ?_
           (repeat' apply And.intro) <;> (first | (first | rfl | (rw [hr]; exact post_rows) | (rw [hr]; simp; omega)) | exact cl_)
         exact at_end
        refine at_alt ?_ ?_
        ·simp only [pick_rules, list_rules]
         try refine lg_mk ?_
         refine u_sl (hq := by (first | ((repeat' apply And.intro) <;> first | trivial | rfl | omega | (simp [rows]; omega) | (simp [rows]; done)) | exact sd_)) ?_
         refine lg_nil ?_
         refine at_seq ?_
         simp only [pick_rules, list_rules]
         try refine lg_mk ?_
         refine u_ap (hq := by (first | ((repeat' apply And.intro) <;> first | trivial | rfl | omega | (simp [rows]; omega) | (simp [rows]; done)) | exact sd_)) ?_
         refine u_ap (hq := by (first | ((repeat' apply And.intro) <;> first | trivial | rfl | omega | (simp [rows]; omega) | (simp [rows]; done)) | exact sd_)) ?_
         refine u_ap (hq := by (first | ((repeat' apply And.intro) <;> first | trivial | rfl | omega | (simp [rows]; omega) | (simp [rows]; done)) | exact sd_)) ?_
         refine u_mv (hq := by (first | ((repeat' apply And.intro) <;> first | trivial | rfl | omega | (simp [rows]; omega) | (simp [rows]; done)) | exact sd_)) ?_
         refine lg_nil ?_
         refine at_nil ?_
         refine h14 _ ?_; clear h14; try clear N14
         refine vc_ret ?_
         try simp only [k_rules]
         have hlb : lbG P g = k := lbG_is hso k2 (by first | exact Or.inl (by omega) | exact Or.inr ⟨(h, t), hxe, by simpa using hb7⟩)
         have hh : hasG' P g = false := by first | exact hasG_out k2 (by omega) | (rw [hasG_at hso k2 hxe (dropG_ge hso hxe (by simpa using hb7))]; simpa using hb10)
         have hr : post P g x = P.take k ++ (g, [x]) :: P.drop k := by unfold post; rw [if_neg (by rw [hh]; simp), hlb]
         refine fin_ ?_
         refine ⟨[some 0, some 5], by rfl, ?_, ?_⟩
         ·refine fin_ ?_
          (repeat' apply And.intro) <;> (first | (first | rfl | (rw [hr]; exact post_rows) | (rw [hr]; simp; omega)) | exact cl_)
         ·refine fin_ ?_
          (repeat' apply And.intro) <;> (first | (first | rfl | (rw [hr]; exact post_rows) | (rw [hr]; simp; omega)) | exact cl_)
        exact at_end
       refine at_alt ?_ ?_
       ·simp only [pick_rules, list_rules]
        try refine lg_mk ?_
        refine u_sl (hq := by (first | ((repeat' apply And.intro) <;> first | trivial | rfl | omega | (simp [rows]; omega) | (simp [rows]; done)) | exact sd_)) ?_
        refine lg_nil ?_
        refine at_alt ?_ ?_
        ·simp only [pick_rules, list_rules]
         try refine lg_mk ?_
         refine u_ap (hq := by (first | ((repeat' apply And.intro) <;> first | trivial | rfl | omega | (simp [rows]; omega) | (simp [rows]; done)) | exact sd_)) ?_
         refine lg_nil ?_
         refine at_seq ?_
         simp only [pick_rules, list_rules]
         try refine lg_mk ?_
         refine u_bs (hq := by (first | ((repeat' apply And.intro) <;> first | trivial | rfl | omega | (simp [rows]; omega) | (simp [rows]; done)) | exact sd_)) ?_
         refine u_ap (hq := by (first | ((repeat' apply And.intro) <;> first | trivial | rfl | omega | (simp [rows]; omega) | (simp [rows]; done)) | exact sd_)) ?_
         refine u_ap (hq := by (first | ((repeat' apply And.intro) <;> first | trivial | rfl | omega | (simp [rows]; omega) | (simp [rows]; done)) | exact sd_)) ?_
         refine u_mv (hq := by (first | ((repeat' apply And.intro) <;> first | trivial | rfl | omega | (simp [rows]; omega) | (simp [rows]; done)) | exact sd_)) ?_
         refine lg_nil ?_
         refine at_nil ?_
         refine h14 _ ?_; clear h14; try clear N14
         refine vc_ret ?_
         try simp only [k_rules]
         have hlb : lbG P g = k := lbG_is hso k2 (by first | exact Or.inl (by omega) | exact Or.inr ⟨(h, t), hxe, by simpa using hb7⟩)
         have hh : hasG' P g = false := by first | exact hasG_out k2 (by omega) | (rw [hasG_at hso k2 hxe (dropG_ge hso hxe (by simpa using hb7))]; simpa using hb10)
         have hr : post P g x = P.take k ++ (g, [x]) :: P.drop k := by unfold post; rw [if_neg (by rw [hh]; simp), hlb]
         refine fin_ ?_
         refine ⟨[some 0, some 5], by rfl, ?_, ?_⟩
         ·refine fin_ ?_
          (repeat' apply And.intro) <;> (first | (first | rfl | (rw [hr]; exact post_rows) | (rw [hr]; simp; omega)) | exact cl_)
         ·refine fin_ ?_
          (repeat' apply And.intro) <;> (first | (first | rfl | (rw [hr]; exact post_rows) | (rw [hr]; simp; omega)) | exact cl_)
        refine at_alt ?_ ?_
        ·simp only [pick_rules, list_rules]
         try refine lg_mk ?_
         refine u_bs (hq := by (first | ((repeat' apply And.intro) <;> first | trivial | rfl | omega | (simp [rows]; omega) | (simp [rows]; done)) | exact sd_)) ?_
         refine lg_nil ?_
         refine at_seq ?_
         simp only [pick_rules, list_rules]
         try refine lg_mk ?_
         refine u_ap (hq := by (first | ((repeat' apply And.intro) <;> first | trivial | rfl | omega | (simp [rows]; omega) | (simp [rows]; done)) | exact sd_)) ?_
         refine u_ap (hq := by (first | ((repeat' apply And.intro) <;> first | trivial | rfl | omega | (simp [rows]; omega) | (simp [rows]; done)) | exact sd_)) ?_
         refine u_ap (hq := by (first | ((repeat' apply And.intro) <;> first | trivial | rfl | omega | (simp [rows]; omega) | (simp [rows]; done)) | exact sd_)) ?_
         refine u_mv (hq := by (first | ((repeat' apply And.intro) <;> first | trivial | rfl | omega | (simp [rows]; omega) | (simp [rows]; done)) | exact sd_)) ?_
         refine lg_nil ?_
         refine at_nil ?_
         refine h14 _ ?_; clear h14; try clear N14
         refine vc_ret ?_
         try simp only [k_rules]
         have hlb : lbG P g = k := lbG_is hso k2 (by first | exact Or.inl (by omega) | exact Or.inr ⟨(h, t), hxe, by simpa using hb7⟩)
         have hh : hasG' P g = false := by first | exact hasG_out k2 (by omega) | (rw [hasG_at hso k2 hxe (dropG_ge hso hxe (by simpa using hb7))]; simpa using hb10)
         have hr : post P g x = P.take k ++ (g, [x]) :: P.drop k := by unfold post; rw [if_neg (by rw [hh]; simp), hlb]
         refine fin_ ?_
         refine ⟨[some 0, some 5], by rfl, ?_, ?_⟩
         ·refine fin_ ?_
          (repeat' apply And.intro) <;> (first | (first | rfl | (rw [hr]; exact post_rows) | (rw [hr]; simp; omega)) | exact cl_)
         ·refine fin_ ?_
          (repeat' apply And.intro) <;> (first | (first | rfl | (rw [hr]; exact post_rows) | (rw [hr]; simp; omega)) | exact cl_)
        exact at_end
       exact at_end
      ·intro N13 h13
       refine u_reg ?_
       try refine lg_mk ?_
       refine u_mv ?_
       refine u_mv ?_
       refine u_bs ?_
       refine u_bd ?_
       refine u_al ?_
       refine u_st ?_
       refine lg_nil ?_
       refine h13 _ ⟨(), trivial, [some 0, some 2], ?_⟩
       ·dsimp only
        refine ⟨by rfl, ?_, ?_⟩
        ·refine fin_ ?_
         exact cl_
        ·refine fin_ ?_
         exact cl_
   ·have hxe : P[k]? = none := List.getElem?_eq_none hk
    have hk' : decide ((k : Int) < (P.length : Int)) = false := by simp; omega
    have hx := And.intro @hxe (And.intro @hk' hx0)
    refine u_reg ?_
    try refine lg_mk ?_
    refine u_mv ?_
    refine u_mv ?_
    refine u_ln ?_
    refine u_bn ?_
    refine u_mv ?_
    refine g_mv ?_
    refine g_mv ?_
    refine g_pt ?_
    refine g_pt ?_
    refine g_ld ?_
    refine g_mv ?_
    refine g_bn ?_
    refine u_pk ?_
    refine lg_nil ?_
    have hx := hx0
    refine h6 _ ?_; clear h6; try clear N6
    refine u_cond (fun hb15 => ?_) (fun hb15 => ?_)
    ·cases hb15
    ·refine vc_exit ?_
     simp only [k_rules, Nat.reduceEqDiff, reduceIte, eq_self]
     refine h3 _ ?_; clear h3; try clear N3
     refine vc_seq_k fun N16 h16 => ?_
     refine vc_seq_k fun N17 h17 => ?_
     have hx := And.intro @hxe (And.intro @hk' hx0)
     refine u_reg ?_
     try refine lg_mk ?_
     refine u_mv ?_
     refine u_mv ?_
     refine u_ln ?_
     refine u_bn ?_
     refine u_mv ?_
     refine g_mv ?_
     refine g_mv ?_
     refine g_pt ?_
     refine g_pt ?_
     refine g_ld ?_
     refine g_mv ?_
     refine g_bn ?_
     refine u_pk ?_
     refine lg_nil ?_
     have hx := hx0
     refine h17 _ ?_; clear h17; try clear N17
     refine u_cond (fun hb18 => ?_) (fun hb18 => ?_)
     ·cases hb18
     ·refine vc_skip ?_
      try simp only [k_rules]
      refine h16 _ ?_; clear h16; try clear N16
      refine vc_seq_m (σ := Unit) (fun s => (fun u => True) s)
       (fun s => (fun u => [(0, .sl 0 0 P.length), (1, .d (.str g)), (2, .d (.int .i64 x)), (7, .d (.int .i64 (k : Nat))), (8, .ptr 1 0 0)]) s)
       (fun s => (fun u => [some (.vec 55 2 (rows eP P)), some (.one 55 [.d (.str g), .d (.sl (rows eI [x]))])]) s) hnp ?_ ?_
      ·rintro u hinv
       dsimp only at hinv ⊢
       refine vc_seq_k fun N20 h20 => ?_
       refine vc_regT [1000056] (.seq [0, 1, 2, 4, 7, 8] (.alt 3 (.alt 5 (.alt 6 (.seq [9, 10, 11] .nil) (.alt 9 (.seq [6, 10, 11] .nil) .nil)) (.alt 9 (.seq [5, 6, 10, 11] .nil) .nil)) (.alt 5 (.alt 3 (.alt 6 (.seq [9, 10, 11] .nil) (.alt 9 (.seq [6, 10, 11] .nil) .nil)) (.alt 9 (.seq [3, 6, 10, 11] .nil) .nil)) (.alt 9 (.alt 3 (.seq [5, 6, 10, 11] .nil) (.alt 5 (.seq [3, 6, 10, 11] .nil) .nil)) .nil)))) hmix (by kernel_rfl) ?_
       refine at_seq ?_
       simp only [pick_rules, list_rules]
       try refine lg_mk ?_
       refine u_mv (hq := by (first | ((repeat' apply And.intro) <;> first | trivial | rfl | omega | (simp [rows]; omega) | (simp [rows]; done)) | exact sd_)) ?_
       refine u_mv (hq := by (first | ((repeat' apply And.intro) <;> first | trivial | rfl | omega | (simp [rows]; omega) | (simp [rows]; done)) | exact sd_)) ?_
       refine u_sl (hq := by (first | ((repeat' apply And.intro) <;> first | trivial | rfl | omega | (simp [rows]; omega) | (simp [rows]; done)) | exact sd_)) ?_
       refine u_ld (hq := by (first | ((repeat' apply And.intro) <;> first | trivial | rfl | omega | (simp [rows]; omega) | (simp [rows]; done)) | exact sd_)) ?_
       refine u_mv (hq := by (first | ((repeat' apply And.intro) <;> first | trivial | rfl | omega | (simp [rows]; omega) | (simp [rows]; done)) | exact sd_)) ?_
       refine u_mv (hq := by (first | ((repeat' apply And.intro) <;> first | trivial | rfl | omega | (simp [rows]; omega) | (simp [rows]; done)) | exact sd_)) ?_
       refine lg_nil ?_
       refine at_alt ?_ ?_
       ·simp only [pick_rules, list_rules]
        try refine lg_mk ?_
        refine u_ap (hq := by (first | ((repeat' apply And.intro) <;> first | trivial | rfl | omega | (simp [rows]; omega) | (simp [rows]; done)) | exact sd_)) ?_
        refine lg_nil ?_
        refine at_alt ?_ ?_
        ·simp only [pick_rules, list_rules]
         try refine lg_mk ?_
         refine u_bs (hq := by (first | ((repeat' apply And.intro) <;> first | trivial | rfl | omega | (simp [rows]; omega) | (simp [rows]; done)) | exact sd_)) ?_
         refine lg_nil ?_
         refine at_alt ?_ ?_
         ·simp only [pick_rules, list_rules]
          try refine lg_mk ?_
          refine u_ap (hq := by (first | ((repeat' apply And.intro) <;> first | trivial | rfl | omega | (simp [rows]; omega) | (simp [rows]; done)) | exact sd_)) ?_
          refine lg_nil ?_
          refine at_seq ?_
          simp only [pick_rules, list_rules]
          try refine lg_mk ?_
          refine u_sl (hq := by (first | ((repeat' apply And.intro) <;> first | trivial | rfl | omega | (simp [rows]; omega) | (simp [rows]; done)) | exact sd_)) ?_
          refine u_ap (hq := by (first | ((repeat' apply And.intro) <;> first | trivial | rfl | omega | (simp [rows]; omega) | (simp [rows]; done)) | exact sd_)) ?_
          refine u_mv (hq := by (first | ((repeat' apply And.intro) <;> first | trivial | rfl | omega | (simp [rows]; omega) | (simp [rows]; done)) | exact sd_)) ?_
          refine lg_nil ?_
          refine at_nil ?_
          refine h20 _ ?_; clear h20; try clear N20
          refine vc_ret ?_
          try simp only [k_rules]
          have hlb : lbG P g = k := lbG_is hso k2 (by first | exact Or.inl (by omega) | exact Or.inr ⟨(h, t), hxe, by simpa using hb15⟩)
          have hh : hasG' P g = false := by first | exact hasG_out k2 (by omega) | (rw [hasG_at hso k2 hxe (dropG_ge hso hxe (by simpa using hb15))]; simpa using hb18)
          have hr : post P g x = P.take k ++ (g, [x]) :: P.drop k := by unfold post; rw [if_neg (by rw [hh]; simp), hlb]
          refine fin_ ?_
          refine ⟨[some 0, some 5], by rfl, ?_, ?_⟩
          ·refine fin_ ?_
           (repeat' apply And.intro) <;> (first | (first | rfl | (rw [hr]; exact post_rows) | (rw [hr]; simp; omega)) | exact cl_)
          ·refine fin_ ?_
           (repeat' apply And.intro) <;> (first | (first | rfl | (rw [hr]; exact post_rows) | (rw [hr]; simp; omega)) | exact cl_)
         refine at_alt ?_ ?_
         ·simp only [pick_rules, list_rules]
          try refine lg_mk ?_
          refine u_sl (hq := by (first | ((repeat' apply And.intro) <;> first | trivial | rfl | omega | (simp [rows]; omega) | (simp [rows]; done)) | exact sd_)) ?_
          refine lg_nil ?_
          refine at_seq ?_
          simp only [pick_rules, list_rules]
          try refine lg_mk ?_
          refine u_ap (hq := by (first | ((repeat' apply And.intro) <;> first | trivial | rfl | omega | (simp [rows]; omega) | (simp [rows]; done)) | exact sd_)) ?_
          refine u_ap (hq := by (first | ((repeat' apply And.intro) <;> first | trivial | rfl | omega | (simp [rows]; omega) | (simp [rows]; done)) | exact sd_)) ?_
          refine u_mv (hq := by (first | ((repeat' apply And.intro) <;> first | trivial | rfl | omega | (simp [rows]; omega) | (simp [rows]; done)) | exact sd_)) ?_
          refine lg_nil ?_
          refine at_nil ?_
          refine h20 _ ?_; clear h20; try clear N20
          refine vc_ret ?_
          try simp only [k_rules]
          have hlb : lbG P g = k := lbG_is hso k2 (by first | exact Or.inl (by omega) | exact Or.inr ⟨(h, t), hxe, by simpa using hb15⟩)
          have hh : hasG' P g = false := by first | exact hasG_out k2 (by omega) | (rw [hasG_at hso k2 hxe (dropG_ge hso hxe (by simpa using hb15))]; simpa using hb18)
          have hr : post P g x = P.take k ++ (g, [x]) :: P.drop k := by unfold post; rw [if_neg (by rw [hh]; simp), hlb]
          refine fin_ ?_
          refine ⟨[some 0, some 5], by rfl, ?_, ?_⟩
          ·refine fin_ ?_
           (repeat' apply And.intro) <;> (first | (first | rfl | (rw [hr]; exact post_rows) | (rw [hr]; simp; omega)) | exact cl_)
          ·refine fin_ ?_
           (repeat' apply And.intro) <;> (first | (first | rfl | (rw [hr]; exact post_rows) | (rw [hr]; simp; omega)) | exact cl_)
         exact at_end
        refine at_alt ?_ ?_
        ·simp only [pick_rules, list_rules]
         try refine lg_mk ?_
         refine u_sl (hq := by (first | ((repeat' apply And.intro) <;> first | trivial | rfl | omega | (simp [rows]; omega) | (simp [rows]; done)) | exact sd_)) ?_
         refine lg_nil ?_
         refine at_seq ?_
         simp only [pick_rules, list_rules]
         try refine lg_mk ?_
         refine u_bs (hq := by (first | ((repeat' apply And.intro) <;> first | trivial | rfl | omega | (simp [rows]; omega) | (simp [rows]; done)) | exact sd_)) ?_
         refine u_ap (hq := by (first | ((repeat' apply And.intro) <;> first | trivial | rfl | omega | (simp [rows]; omega) | (simp [rows]; done)) | exact sd_)) ?_
         refine u_ap (hq := by (first | ((repeat' apply And.intro) <;> first | trivial | rfl | omega | (simp [rows]; omega) | (simp [rows]; done)) | exact sd_)) ?_
         refine u_mv (hq := by (first | ((repeat' apply And.intro) <;> first | trivial | rfl | omega | (simp [rows]; omega) | (simp [rows]; done)) | exact sd_)) ?_
         refine lg_nil ?_
         refine at_nil ?_
         refine h20 _ ?_; clear h20; try clear N20
         refine vc_ret ?_
         try simp only [k_rules]
         have hlb : lbG P g = k := lbG_is hso k2 (by first | exact Or.inl (by omega) | exact Or.inr ⟨(h, t), hxe, by simpa using hb15⟩)
         have hh : hasG' P g = false := by first | exact hasG_out k2 (by omega) | (rw [hasG_at hso k2 hxe (dropG_ge hso hxe (by simpa using hb15))]; simpa using hb18)
         have hr : post P g x = P.take k ++ (g, [x]) :: P.drop k := by unfold post; rw [if_neg (by rw [hh]; simp), hlb]
         refine fin_ ?_
         refine ⟨[some 0, some 5], by rfl, ?_, ?_⟩
         ·refine fin_ ?_
          (repeat' apply And.intro) <;> (first | (first | rfl | (rw [hr]; exact post_rows) | (rw [hr]; simp; omega)) | exact cl_)
         ·refine fin_ ?_
          (repeat' apply And.intro) <;> (first | (first | rfl | (rw [hr]; exact post_rows) | (rw [hr]; simp; omega)) | exact cl_)
        exact at_end
       refine at_alt ?_ ?_
       ·simp only [pick_rules, list_rules]
        try refine lg_mk ?_
        refine u_bs (hq := by (first | ((repeat' apply And.intro) <;> first | trivial | rfl | omega | (simp [rows]; omega) | (simp [rows]; done)) | exact sd_)) ?_
        refine lg_nil ?_
        refine at_alt ?_ ?_
        ·simp only [pick_rules, list_rules]
         try refine lg_mk ?_
         refine u_ap (hq := by (first | ((repeat' apply And.intro) <;> first | trivial | rfl | omega | (simp [rows]; omega) | (simp [rows]; done)) | exact sd_)) ?_
         refine lg_nil ?_
         refine at_alt ?_ ?_
         ·simp only [pick_rules, list_rules]
          try refine lg_mk ?_
          refine u_ap (hq := by (first | ((repeat' apply And.intro) <;> first | trivial | rfl | omega | (simp [rows]; omega) | (simp [rows]; done)) | exact sd_)) ?_
          refine lg_nil ?_
          refine at_seq ?_
          simp only [pick_rules, list_rules]
          try refine lg_mk ?_
          refine u_sl (hq := by (first | ((repeat' apply And.intro) <;> first | trivial | rfl | omega | (simp [rows]; omega) | (simp [rows]; done)) | exact sd_)) ?_
          refine u_ap (hq := by (first | ((repeat' apply And.intro) <;> first | trivial | rfl | omega | (simp [rows]; omega) | (simp [rows]; done)) | exact sd_)) ?_
          refine u_mv (hq := by (first | ((repeat' apply And.intro) <;> first | trivial | rfl | omega | (simp [rows]; omega) | (simp [rows]; done)) | exact sd_)) ?_
          refine lg_nil ?_
          refine at_nil ?_
          refine h20 _ ?_; clear h20; try clear N20
          refine vc_ret ?_
          try simp only [k_rules]
          have hlb : lbG P g = k := lbG_is hso k2 (by first | exact Or.inl (by omega) | exact Or.inr ⟨(h, t), hxe, by simpa using hb15⟩)
          have hh : hasG' P g = false := by first | exact hasG_out k2 (by omega) | (rw [hasG_at hso k2 hxe (dropG_ge hso hxe (by simpa using hb15))]; simpa using hb18)
          have hr : post P g x = P.take k ++ (g, [x]) :: P.drop k := by unfold post; rw [if_neg (by rw [hh]; simp), hlb]
          refine fin_ ?_
          refine ⟨[some 0, some 5], by rfl, ?_, ?_⟩
          ·refine fin_ ?_
           (repeat' apply And.intro) <;> (first | (first | rfl | (rw [hr]; exact post_rows) | (rw [hr]; simp; omega)) | exact cl_)
          ·refine fin_ ?_
           (repeat' apply And.intro) <;> (first | (first | rfl | (rw [hr]; exact post_rows) | (rw [hr]; simp; omega)) | exact cl_)
         refine at_alt ?_ ?_
         ·simp only [pick_rules, list_rules]
          try refine lg_mk ?_
          refine u_sl (hq := by (first | ((repeat' apply And.intro) <;> first | trivial | rfl | omega | (simp [rows]; omega) | (simp [rows]; done)) | exact sd_)) ?_
          refine lg_nil ?_
          refine at_seq ?_
          simp only [pick_rules, list_rules]
          try refine lg_mk ?_
          refine u_ap (hq := by (first | ((repeat' apply And.intro) <;> first | trivial | rfl | omega | (simp [rows]; omega) | (simp [rows]; done)) | exact sd_)) ?_
          refine u_ap (hq := by (first | ((repeat' apply And.intro) <;> first | trivial | rfl | omega | (simp [rows]; omega) | (simp [rows]; done)) | exact sd_)) ?_
          refine u_mv (hq := by (first | ((repeat' apply And.intro) <;> first | trivial | rfl | omega | (simp [rows]; omega) | (simp [rows]; done)) | exact sd_)) ?_
          refine lg_nil ?_
          refine at_nil ?_
          refine h20 _ ?_; clear h20; try clear N20
          refine vc_ret ?_
          try simp only [k_rules]
          have hlb : lbG P g = k := lbG_is hso k2 (by first | exact Or.inl (by omega) | exact Or.inr ⟨(h, t), hxe, by simpa using hb15⟩)
          have hh : hasG' P g = false := by first | exact hasG_out k2 (by omega) | (rw [hasG_at hso k2 hxe (dropG_ge hso hxe (by simpa using hb15))]; simpa using hb18)
          have hr : post P g x = P.take k ++ (g, [x]) :: P.drop k := by unfold post; rw [if_neg (by rw [hh]; simp), hlb]
          refine fin_ ?_
          refine ⟨[some 0, some 5], by rfl, ?_, ?_⟩
          ·refine fin_ ?_
           (repeat' apply And.intro) <;> (first | (first | rfl | (rw [hr]; exact post_rows) | (rw [hr]; simp; omega)) | exact cl_)
          ·refine fin_ ?_
           (repeat' apply And.intro) <;> (first | (first | rfl | (rw [hr]; exact post_rows) | (rw [hr]; simp; omega)) | exact cl_)
         exact at_end
        refine at_alt ?_ ?_
        ·simp only [pick_rules, list_rules]
         try refine lg_mk ?_
         refine u_sl (hq := by (first | ((repeat' apply And.intro) <;> first | trivial | rfl | omega | (simp [rows]; omega) | (simp [rows]; done)) | exact sd_)) ?_
         refine lg_nil ?_
         refine at_seq ?_
         simp only [pick_rules, list_rules]
         try refine lg_mk ?_
         refine u_ap (hq := by (first | ((repeat' apply And.intro) <;> first | trivial | rfl | omega | (simp [rows]; omega) | (simp [rows]; done)) | exact sd_)) ?_
         refine u_ap (hq := by (first | ((repeat' apply And.intro) <;> first | trivial | rfl | omega | (simp [rows]; omega) | (simp [rows]; done)) | exact sd_)) ?_
         refine u_ap (hq := by (first | ((repeat' apply And.intro) <;> first | trivial | rfl | omega | (simp [rows]; omega) | (simp [rows]; done)) | exact sd_)) ?_
         refine u_mv (hq := by (first | ((repeat' apply And.intro) <;> first | trivial | rfl | omega | (simp [rows]; omega) | (simp [rows]; done)) | exact sd_)) ?_
         refine lg_nil ?_
         refine at_nil ?_
         refine h20 _ ?_; clear h20; try clear N20
         refine vc_ret ?_
         try simp only [k_rules]
         have hlb : lbG P g = k := lbG_is hso k2 (by first | exact Or.inl (by omega) | exact Or.inr ⟨(h, t), hxe, by simpa using hb15⟩)
         have hh : hasG' P g = false := by first | exact hasG_out k2 (by omega) | (rw [hasG_at hso k2 hxe (dropG_ge hso hxe (by simpa using hb15))]; simpa using hb18)
         have hr : post P g x = P.take k ++ (g, [x]) :: P.drop k := by unfold post; rw [if_neg (by rw [hh]; simp), hlb]
         refine fin_ ?_
         refine ⟨[some 0, some 5], by rfl, ?_, ?_⟩
         ·refine fin_ ?_
          (repeat' apply And.intro) <;> (first | (first | rfl | (rw [hr]; exact post_rows) | (rw [hr]; simp; omega)) | exact cl_)
         ·refine fin_ ?_
          (repeat' apply And.intro) <;> (first | (first | rfl | (rw [hr]; exact post_rows) | (rw [hr]; simp; omega)) | exact cl_)
        exact at_end
       refine at_alt ?_ ?_
       ·simp only [pick_rules, list_rules]
        try refine lg_mk ?_
        refine u_sl (hq := by (first | ((repeat' apply And.intro) <;> first | trivial | rfl | omega | (simp [rows]; omega) | (simp [rows]; done)) | exact sd_)) ?_
        refine lg_nil ?_
        refine at_alt ?_ ?_
        ·simp only [pick_rules, list_rules]
         try refine lg_mk ?_
         refine u_ap (hq := by (first | ((repeat' apply And.intro) <;> first | trivial | rfl | omega | (simp [rows]; omega) | (simp [rows]; done)) | exact sd_)) ?_
         refine lg_nil ?_
         refine at_seq ?_
         simp only [pick_rules, list_rules]
         try refine lg_mk ?_
         refine u_bs (hq := by (first | ((repeat' apply And.intro) <;> first | trivial | rfl | omega | (simp [rows]; omega) | (simp [rows]; done)) | exact sd_)) ?_
         refine u_ap (hq := by (first | ((repeat' apply And.intro) <;> first | trivial | rfl | omega | (simp [rows]; omega) | (simp [rows]; done)) | exact sd_)) ?_
         refine u_ap (hq := by (first | ((repeat' apply And.intro) <;> first | trivial | rfl | omega | (simp [rows]; omega) | (simp [rows]; done)) | exact sd_)) ?_
         refine u_mv (hq := by (first | ((repeat' apply And.intro) <;> first | trivial | rfl | omega | (simp [rows]; omega) | (simp [rows]; done)) | exact sd_)) ?_
         refine lg_nil ?_
         refine at_nil ?_
         refine h20 _ ?_; clear h20; try clear N20
         refine vc_ret ?_
         try simp only [k_rules]
         have hlb : lbG P g = k := lbG_is hso k2 (by first | exact Or.inl (by omega) | exact Or.inr ⟨(h, t), hxe, by simpa using hb15⟩)
         have hh : hasG' P g = false := by first | exact hasG_out k2 (by omega) | (rw [hasG_at hso k2 hxe (dropG_ge hso hxe (by simpa using hb15))]; simpa using hb18)
         have hr : post P g x = P.take k ++ (g, [x]) :: P.drop k := by unfold post; rw [if_neg (by rw [hh]; simp), hlb]
         refine fin_ ?_
         refine ⟨[some 0, some 5], by rfl, ?_, ?_⟩
         ·refine fin_ ?_
          (repeat' apply And.intro) <;> (first | (first | rfl | (rw [hr]; exact post_rows) | (rw [hr]; simp; omega)) | exact cl_)
         ·refine fin_ ?_
          (repeat' apply And.intro) <;> (first | (first | rfl | (rw [hr]; exact post_rows) | (rw [hr]; simp; omega)) | exact cl_)
        refine at_alt ?_ ?_
        ·simp only [pick_rules, list_rules]
         try refine lg_mk ?_
         refine u_bs (hq := by (first | ((repeat' apply And.intro) <;> first | trivial | rfl | omega | (simp [rows]; omega) | (simp [rows]; done)) | exact sd_)) ?_
         refine lg_nil ?_
         refine at_seq ?_
         simp only [pick_rules, list_rules]
         try refine lg_mk ?_
         refine u_ap (hq := by (first | ((repeat' apply And.intro) <;> first | trivial | rfl | omega | (simp [rows]; omega) | (simp [rows]; done)) | exact sd_)) ?_
         refine u_ap (hq := by (first | ((repeat' apply And.intro) <;> first | trivial | rfl | omega | (simp [rows]; omega) | (simp [rows]; done)) | exact sd_)) ?_
         refine u_ap (hq := by (first | ((repeat' apply And.intro) <;> first | trivial | rfl | omega | (simp [rows]; omega) | (simp [rows]; done)) | exact sd_)) ?_
         refine u_mv (hq := by (first | ((repeat' apply And.intro) <;> first | trivial | rfl | omega | (simp [rows]; omega) | (simp [rows]; done)) | exact sd_)) ?_
         refine lg_nil ?_
         refine at_nil ?_
         refine h20 _ ?_; clear h20; try clear N20
         refine vc_ret ?_
         try simp only [k_rules]
         have hlb : lbG P g = k := lbG_is hso k2 (by first | exact Or.inl (by omega) | exact Or.inr ⟨(h, t), hxe, by simpa using hb15⟩)
         have hh : hasG' P g = false := by first | exact hasG_out k2 (by omega) | (rw [hasG_at hso k2 hxe (dropG_ge hso hxe (by simpa using hb15))]; simpa using hb18)
         have hr : post P g x = P.take k ++ (g, [x]) :: P.drop k := by unfold post; rw [if_neg (by rw [hh]; simp), hlb]
         refine fin_ ?_
         refine ⟨[some 0, some 5], by rfl, ?_, ?_⟩
         ·refine fin_ ?_
          (repeat' apply And.intro) <;> (first | (first | rfl | (rw [hr]; exact post_rows) | (rw [hr]; simp; omega)) | exact cl_)
         ·refine fin_ ?_
          (repeat' apply And.intro) <;> (first | (first | rfl | (rw [hr]; exact post_rows) | (rw [hr]; simp; omega)) | exact cl_)
        exact at_end
       exact at_end
      ·intro N19 h19
       refine u_reg ?_
       try refine lg_mk ?_
       refine u_mv ?_
       refine u_mv ?_
       refine u_bs ?_
       refine u_bd ?_
       refine u_al ?_
       refine u_st ?_
       refine lg_nil ?_
       refine h19 _ ⟨(), trivial, [some 0, some 2], ?_⟩
       ·dsimp only
        refine ⟨by rfl, ?_, ?_⟩
        ·refine fin_ ?_
         exact cl_
        ·refine fin_ ?_
         exact cl_
 ·cases hg

def E_postR : Env Try.prog := E_valT.add 30 (Spec.gen postRG) postR_meets (by kernel_rfl)
end Go.Proofs.Ytjdhadbnmghdgaa
