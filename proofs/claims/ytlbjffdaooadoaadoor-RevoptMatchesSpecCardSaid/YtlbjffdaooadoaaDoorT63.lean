/- Walks, printed by wip/gen/walk.py. -/
import Derived.Test.YtlbjffdaooadoaaDoorT62
import Derived.Test.YtlbjffdaooadoaaDoorV5
set_option linter.all false
set_option maxRecDepth 100000
set_option maxHeartbeats 4000000
namespace Go.Proofs.YtlbjffdaooadoaaDoor
open Go Go.Vc Go.RowKit
theorem ls_last (k m : Int) (l r : Tr) : (lsT 0 (.nd k m l r))[szT l + szT r]? = some ⟨k, m, if l = .nil then 0 else ((0 + szT l : Nat) : Int) - 1, if r = .nil then 0 else ((0 + szT l + szT r : Nat) : Int) - 1⟩ := by
  rw [lsT_nd, List.getElem?_append_right (by rw [List.length_append, lsT_len, lsT_len]; exact Nat.le_refl _)]
  rw [show szT l + szT r - (lsT 0 l ++ lsT (0 + szT l) r).length = 0 by rw [List.length_append, lsT_len, lsT_len]; omega]
  rfl
theorem ls_in {k m : Int} {l r : Tr} (h : okT (.nd k m l r)) (ha : 7 ≤ k ∧ k ≤ 13) : okT l ∧ (lsT 0 (.nd k m l r)).take (szT l + szT r) = lsT 0 l := by
  have h1 : ar k = 1 := by rcases ar_or k with ⟨_, h⟩ | ⟨_, _, h⟩ | ⟨_, h⟩ <;> omega
  obtain ⟨hl, rfl⟩ := h.2.2.2.2.2.1 h1
  refine ⟨hl, ?_⟩
  rw [lsT_nd, lsT_nil, List.append_nil, show szT l + szT .nil = (lsT 0 l).length by rw [lsT_len]; rfl, List.take_left]
theorem leaf_is {k m : Int} {l r : Tr} (h : okT (.nd k m l r)) (hk : k = 1 ∨ k = 2) : m = 0 ∧ l = .nil ∧ r = .nil := by
  obtain ⟨h1, h2, h3, h4, h5, _, _⟩ := h
  have ha : ar k = 0 := by rcases hk with rfl | rfl <;> rfl
  have hm : mostN k = 0 := by rcases hk with rfl | rfl <;> rfl
  obtain ⟨a, b⟩ := h5 ha
  exact ⟨by omega, a, b⟩
theorem ls_leaf {k m : Int} {l r : Tr} (h : okT (.nd k m l r)) (c : Int) (hc : c = 1 ∨ c = 2) : lfQ (lsT 0 (.nd k m l r)) c = decide (k = c) := by
  by_cases hk : k = c
  · obtain ⟨rfl, rfl, rfl⟩ := leaf_is h (by omega)
    rfl
  · rw [decide_eq_false hk]
    rcases lf_cases (lsT 0 (.nd k m l r)) c with ⟨_, h2⟩ | ⟨n, h1, h2⟩
    · exact h2
    · rw [h2]
      have hl := ls_last k m l r
      have hn := congrArg List.length h1
      rw [lsT_len, szT_nd] at hn
      have : szT l + szT r = 0 := by simpa using hn
      rw [h1, this] at hl
      have hl := Option.some.inj hl
      rw [hl]; exact decide_eq_false hk
theorem inr_is (k : Int) : (k = 8 → inr k = 12) ∧ (k = 9 → inr k = 13) ∧ (k = 12 → inr k = 8) ∧ (k = 13 → inr k = 9) := by
  refine ⟨?_, ?_, ?_, ?_⟩ <;> rintro rfl <;> rfl
theorem k_cases {k : Int} (h1 : 7 ≤ k) (h2 : k ≤ 13) (h3 : k ≠ 7) : k = 8 ∨ k = 9 ∨ k = 12 ∨ k = 13 ∨ (¬k = 8 ∧ ¬k = 9 ∧ ¬k = 12 ∧ ¬k = 13) := by omega
theorem tk_rows (n : Nat) (l : List Nd) : List.take n (rows eN l) = rows eN (l.take n) := by simp [rows, List.map_take]
theorem ls_inj {x y : Tr} (hx : okT x) (hy : okT y) (h1 : szT x ≤ 40) (h2 : szT y ≤ 40) : decide (lsT 0 x = lsT 0 y) = decide (x = y) := by
  rw [decide_eq_decide]
  exact ⟨fun h => by rw [← tre_ls hx h1, h, tre_ls hy h2], fun h => by rw [h]⟩
def twoR (e k xk yk : Int) (x y : Tr) : Tr :=
  if k = 16 then if e = 1 ∨ xk = 2 ∨ yk = 1 then .nd 2 0 .nil .nil else if yk = 2 then x else if xk = 1 then oneT 7 y else .nd k 0 x y
  else if k = 14 then if e = 1 ∨ yk = 2 ∨ xk = 1 then x else if xk = 2 ∨ yk = 1 then y else .nd k 0 x y
  else if e = 1 ∨ yk = 1 ∨ xk = 2 then x else if xk = 1 ∨ yk = 2 then y else .nd k 0 x y
theorem two_ref {k a m b n : Int} {l r p s : Tr} (hk : 14 ≤ k ∧ k ≤ 16) (hx : okT (.nd a m l r)) (hy : okT (.nd b n p s)) : twoT k (.nd a m l r) (.nd b n p s) = twoR (eqI (.nd a m l r) (.nd b n p s)) k a b (.nd a m l r) (.nd b n p s) := by
  show twoE (eqI (.nd a m l r) (.nd b n p s)) k a b (.nd a m l r) (.nd b n p s) = _
  have lx : ∀ c : Int, c = 1 ∨ c = 2 → a = c → Tr.nd a m l r = .nd c 0 .nil .nil := fun c hc h => by
    subst h; obtain ⟨rfl, rfl, rfl⟩ := leaf_is hx hc; rfl
  have ly : ∀ c : Int, c = 1 ∨ c = 2 → b = c → Tr.nd b n p s = .nd c 0 .nil .nil := fun c hc h => by
    subst h; obtain ⟨rfl, rfl, rfl⟩ := leaf_is hy hc; rfl
  generalize eqI (.nd a m l r) (.nd b n p s) = e
  generalize Tr.nd a m l r = X at *
  generalize Tr.nd b n p s = Y at *
  unfold twoE twoR
  by_cases h16 : k = 16
  · rw [if_pos h16, if_pos h16]
  rw [if_neg h16, if_neg h16]
  by_cases h14 : k = 14
  · rw [if_neg (by omega), if_pos h14]
    by_cases c1 : e = 1 ∨ b = 2
    · rw [if_pos c1, if_pos (by omega)]
    rw [if_neg c1]
    by_cases c2 : a = 2
    · rw [if_pos c2, if_neg (by omega), if_pos (by omega)]
    rw [if_neg c2]
    by_cases c3 : a = 1
    · rw [if_pos (by omega), if_pos (by omega), lx 1 (by omega) c3]
    by_cases c4 : b = 1
    · rw [if_pos (by omega), if_neg (by omega), if_pos (by omega), ly 1 (by omega) c4]
    rw [if_neg (by omega), if_neg (by omega), if_neg (by omega)]
  · rw [if_pos (by omega), if_neg h14]
    by_cases c1 : e = 1 ∨ b = 1
    · rw [if_pos c1, if_pos (by omega)]
    rw [if_neg c1]
    by_cases c2 : a = 1
    · rw [if_pos c2, if_neg (by omega), if_pos (by omega)]
    rw [if_neg c2]
    by_cases c3 : a = 2
    · rw [if_pos (by omega), if_pos (by omega), lx 2 (by omega) c3]
    by_cases c4 : b = 2
    · rw [if_pos (by omega), if_neg (by omega), if_pos (by omega), ly 2 (by omega) c4]
    rw [if_neg (by omega), if_neg (by omega), if_neg (by omega)]
def lsP (xs : List (List D)) : Prop := xs = rows eN (dN xs) ∧ okT (treQ (dN xs)) ∧ dN xs = lsT 0 (treQ (dN xs)) ∧ szT (treQ (dN xs)) ≤ 40
theorem lsP_ok {t : Tr} (h : okT t) (hs : szT t ≤ 40) : lsP (rows eN (lsT 0 t)) := by
  unfold lsP
  rw [dN_rows, tre_ls h hs]
  exact ⟨rfl, h, rfl, hs⟩
def s1G (fu : Nat) : List AV → Option (Prop × AV)
  | [.d (.int .i64 k), .d (.sl xs)] => some (lsP xs ∧ szT (treQ (dN xs)) ≤ fu ∧ 7 ≤ k ∧ k ≤ 13, .d (.sl (rows eN (lsT 0 (oneT k (treQ (dN xs)))))))
  | _ => none

def E_s1 (n : Nat) (ks : Meets Tryd.prog 43 (Spec.pure (s1G n))) : Env Tryd.prog := E_isleaf.add 43 (Spec.pure (s1G n)) ks (by kernel_rfl)

theorem sone_step (fu : Nat) (ks : Meets Tryd.prog 43 (Spec.pure (s1G fu))) : Meets Tryd.prog 43 (Spec.pure (s1G (fu + 1))) := by
 refine meets_fun ((E_s1 fu ks).at_ 105) Tryd.func43 rfl rfl rfl ?_
 intro args p r hg hp
 unfold s1G at hg
 split at hg
 ·rename_i k xs
  simp only [Option.some.injEq, Prod.mk.injEq] at hg
  obtain ⟨rfl, rfl⟩ := hg
  obtain ⟨⟨he, hok, hls, h40⟩, hfu, hk1, hk2⟩ := hp
  generalize treQ (dN xs) = t at *
  generalize dN xs = q at *
  subst he hls
  obtain ⟨xk, m, l, r, rfl⟩ := dT_ne (okT_ne hok)
  have hln := lsT_len 0 (.nd xk m l r)
  have hla := ls_last xk m l r
  have hl1 := ls_leaf hok 1 (by omega)
  have hl2 := ls_leaf hok 2 (by omega)
  have hin := fun h => ls_in hok h
  have hinr := inr_is k
  rw [szT_nd] at hfu h40 hln
  generalize hQ : lsT 0 (.nd xk m l r) = Q at *
  have hqm : ((Q.length : Int) - 1).toNat = szT l + szT r := by omega
  have hqt : List.take Q.length Q = Q := List.take_length
  have hT : ((E_s1 fu ks)).X = T := rfl
  have hx0 := And.intro @rect_eN (And.intro @dN_rows (And.intro @dec_t (And.intro @dec_f (And.intro @tk_rows (And.intro @Nat.sub_zero @Tryd.results43)))))
  have hx := hx0
  refine ⟨by rfl, ?_⟩
  intro F W0 hnp hmk
  refine vc_seq_k fun N1 h1 => ?_
  refine u_reg ?_
  try refine lg_mk ?_
  refine u_mv ?_
  refine lg_nil ?_
  refine h1 _ ?_; clear h1; try clear N1
  refine vc_seq_k fun N2 h2 => ?_
  have hx := And.intro @hqm (And.intro @hla (And.intro @eN.eq_1 hx0))
  refine u_reg ?_
  try refine lg_mk ?_
  refine u_mv (hq := by (first | ((repeat' apply And.intro) <;> first | rfl | omega) | exact sd_)) ?_
  refine u_mv (hq := by (first | ((repeat' apply And.intro) <;> first | rfl | omega) | exact sd_)) ?_
  refine u_ln (hq := by (first | ((repeat' apply And.intro) <;> first | rfl | omega) | exact sd_)) ?_
  refine u_bn (hq := by (first | ((repeat' apply And.intro) <;> first | rfl | omega) | exact sd_)) ?_
  refine u_pt (hq := by (first | ((repeat' apply And.intro) <;> first | rfl | omega) | exact sd_)) ?_
  refine u_pt (hq := by (first | ((repeat' apply And.intro) <;> first | rfl | omega) | exact sd_)) ?_
  refine u_ld (hq := by (first | ((repeat' apply And.intro) <;> first | rfl | omega) | exact sd_)) ?_
  refine u_mv (hq := by (first | ((repeat' apply And.intro) <;> first | rfl | omega) | exact sd_)) ?_
  refine lg_nil ?_
  have hx := hx0
  refine h2 _ ?_; clear h2; try clear N2
  refine vc_seq_k fun N3 h3 => ?_
  have hx := And.intro @hqm hx0
  refine u_reg ?_
  try refine lg_mk ?_
  refine u_mv (hq := by (first | ((repeat' apply And.intro) <;> first | rfl | omega) | exact sd_)) ?_
  refine u_mv (hq := by (first | ((repeat' apply And.intro) <;> first | rfl | omega) | exact sd_)) ?_
  refine u_ln (hq := by (first | ((repeat' apply And.intro) <;> first | rfl | omega) | exact sd_)) ?_
  refine u_bn (hq := by (first | ((repeat' apply And.intro) <;> first | rfl | omega) | exact sd_)) ?_
  refine u_sl (hq := by (first | ((repeat' apply And.intro) <;> first | rfl | omega) | exact sd_)) ?_
  refine u_mv (hq := by (first | ((repeat' apply And.intro) <;> first | rfl | omega) | exact sd_)) ?_
  refine lg_nil ?_
  have hx := hx0
  refine h3 _ ?_; clear h3; try clear N3
  refine vc_seq_k fun N4 h4 => ?_
  refine vc_seq_k fun N5 h5 => ?_
  refine u_reg ?_
  try refine lg_mk ?_
  refine u_mv ?_
  refine u_bn ?_
  refine lg_nil ?_
  refine h5 _ ?_; clear h5; try clear N5
  refine u_cond (fun hb6 => ?_) (fun hb6 => ?_)
  ·refine vc_seq_k fun N7 h7 => ?_
   refine vc_seq_k fun N8 h8 => ?_
   have hx := And.intro @hl2 hx0
   refine u_reg ?_
   try refine lg_mk ?_
   refine u_mv (hq := by (first | ((repeat' apply And.intro) <;> first | rfl | omega) | exact sd_)) ?_
   have hc := call_rule (E := ((E_s1 fu ks).at_ 105)) (f := 68) (sp := Spec.pure lfG) rfl
   have hs := @lfG.eq_1
   refine u_cp (hq := by (first | ((repeat' apply And.intro) <;> first | rfl | omega) | exact sd_)) ?_
   refine lg_nil ?_
   have hx := hx0
   refine h8 _ ?_; clear h8; try clear N8
   refine u_cond (fun hb9 => ?_) (fun hb9 => ?_)
   ·refine vc_seq_k fun N10 h10 => ?_
    refine u_reg ?_
    try refine lg_mk ?_
    refine u_bd ?_
    refine u_bs ?_
    refine u_mv ?_
    refine lg_nil ?_
    refine h10 _ ?_; clear h10; try clear N10
    refine vc_ret ?_
    try simp only [k_rules]
    have hr : oneT k (.nd xk m l r) = .nd 1 0 .nil .nil := by
     rw [oneT]
     rw [if_pos (by have k_t21 := hb6; (try simp at k_t21); have k_t23 := hb9; (try simp at k_t23); omega)]
    rw [hr]
    refine fin2_ ?_
    (repeat' apply And.intro) <;> (first | (first | rfl | trivial | omega | (rw [hqt, List.length_append, rows_len, List.length_singleton]; omega) | (rw [hqt, List.take_of_length_le (by rw [List.length_append, rows_len]; exact Nat.le_refl _)]; done) | (left; rw [hqt, List.take_of_length_le (by rw [List.length_append, rows_len]; exact Nat.le_refl _)]; done)) | exact cl_)
   ·refine vc_skip ?_
    try simp only [k_rules]
    refine h7 _ ?_; clear h7; try clear N7
    refine vc_seq_k fun N11 h11 => ?_
    refine vc_seq_k fun N12 h12 => ?_
    have hx := And.intro @hl1 hx0
    refine u_reg ?_
    try refine lg_mk ?_
    refine u_mv (hq := by (first | ((repeat' apply And.intro) <;> first | rfl | omega) | exact sd_)) ?_
    have hc := call_rule (E := ((E_s1 fu ks).at_ 105)) (f := 68) (sp := Spec.pure lfG) rfl
    have hs := @lfG.eq_1
    refine u_cp (hq := by (first | ((repeat' apply And.intro) <;> first | rfl | omega) | exact sd_)) ?_
    refine lg_nil ?_
    have hx := hx0
    refine h12 _ ?_; clear h12; try clear N12
    refine u_cond (fun hb13 => ?_) (fun hb13 => ?_)
    ·refine vc_seq_k fun N14 h14 => ?_
     refine u_reg ?_
     try refine lg_mk ?_
     refine u_bd ?_
     refine u_bs ?_
     refine u_mv ?_
     refine lg_nil ?_
     refine h14 _ ?_; clear h14; try clear N14
     refine vc_ret ?_
     try simp only [k_rules]
     have hr : oneT k (.nd xk m l r) = .nd 2 0 .nil .nil := by
      rw [oneT]
      rw [if_neg (by have k_t21 := hb6; (try simp at k_t21); have k_t23 := hb9; (try simp at k_t23); have k_t27 := hb13; (try simp at k_t27); omega), if_pos (by have k_t21 := hb6; (try simp at k_t21); have k_t23 := hb9; (try simp at k_t23); have k_t27 := hb13; (try simp at k_t27); omega)]
     rw [hr]
     refine fin2_ ?_
     (repeat' apply And.intro) <;> (first | (first | rfl | trivial | omega | (rw [hqt, List.length_append, rows_len, List.length_singleton]; omega) | (rw [hqt, List.take_of_length_le (by rw [List.length_append, rows_len]; exact Nat.le_refl _)]; done) | (left; rw [hqt, List.take_of_length_le (by rw [List.length_append, rows_len]; exact Nat.le_refl _)]; done)) | exact cl_)
    ·refine vc_skip ?_
     try simp only [k_rules]
     refine h11 _ ?_; clear h11; try clear N11
     refine vc_seq_k fun N15 h15 => ?_
     refine u_reg ?_
     try refine lg_mk ?_
     refine u_mv ?_
     refine u_bn ?_
     refine lg_nil ?_
     refine h15 _ ?_; clear h15; try clear N15
     refine u_cond (fun hb16 => ?_) (fun hb16 => ?_)
     ·have hxk : xk = 7 := by have := hb16; (try simp at this); omega
      obtain ⟨hol, hit⟩ := hin (by omega)
      refine vc_seq_k fun N17 h17 => ?_
      have hx := And.intro @hit hx0
      refine u_reg ?_
      try refine lg_mk ?_
      refine u_mv ?_
      refine u_mv ?_
      refine lg_nil ?_
      have hx := hx0
      refine h17 _ ?_; clear h17; try clear N17
      refine vc_ret ?_
      try simp only [k_rules]
      have hr : oneT k (.nd xk m l r) = l := by
       rw [oneT]
       rw [if_neg (by have k_t21 := hb6; (try simp at k_t21); have k_t31 := hb16; (try simp at k_t31); omega), if_neg (by have k_t21 := hb6; (try simp at k_t21); have k_t31 := hb16; (try simp at k_t31); omega), if_pos (by have k_t21 := hb6; (try simp at k_t21); have k_t31 := hb16; (try simp at k_t31); omega)]
      rw [hr]
      rw [← hit]
      refine fin2_ ?_
      (repeat' apply And.intro) <;> (first | (first | rfl | trivial | omega | (rw [hqt, List.length_append, rows_len, List.length_singleton]; omega) | (rw [hqt, List.take_of_length_le (by rw [List.length_append, rows_len]; exact Nat.le_refl _)]; done) | (left; rw [hqt, List.take_of_length_le (by rw [List.length_append, rows_len]; exact Nat.le_refl _)]; done)) | exact cl_)
     ·refine vc_skip ?_
      try simp only [k_rules]
      refine h4 _ ?_; clear h4; try clear N4
      refine vc_seq_k fun N18 h18 => ?_
      refine u_reg ?_
      try refine lg_mk ?_
      refine u_mv ?_
      refine u_ap ?_
      refine u_mv ?_
      refine u_mv ?_
      refine u_ln ?_
      refine u_bn ?_
      refine u_bd ?_
      refine u_bs ?_
      refine u_ap ?_
      refine u_mv ?_
      refine lg_nil ?_
      refine h18 _ ?_; clear h18; try clear N18
      refine vc_ret ?_
      try simp only [k_rules]
      have hr : oneT k (.nd xk m l r) = .nd k 0 (.nd xk m l r) .nil := by
       rw [oneT]
       rw [if_neg (by have k_t21 := hb6; (try simp at k_t21); have k_t23 := hb9; (try simp at k_t23); have k_t27 := hb13; (try simp at k_t27); have k_t31 := hb16; (try simp at k_t31); omega), if_neg (by have k_t21 := hb6; (try simp at k_t21); have k_t23 := hb9; (try simp at k_t23); have k_t27 := hb13; (try simp at k_t27); have k_t31 := hb16; (try simp at k_t31); omega), if_neg (by have k_t21 := hb6; (try simp at k_t21); have k_t23 := hb9; (try simp at k_t23); have k_t27 := hb13; (try simp at k_t27); have k_t31 := hb16; (try simp at k_t31); omega), if_neg (by have k_t21 := hb6; (try simp at k_t21); have k_t23 := hb9; (try simp at k_t23); have k_t27 := hb13; (try simp at k_t27); have k_t31 := hb16; (try simp at k_t31); omega), if_neg (by have k_t21 := hb6; (try simp at k_t21); have k_t23 := hb9; (try simp at k_t23); have k_t27 := hb13; (try simp at k_t27); have k_t31 := hb16; (try simp at k_t31); omega), if_neg (by have k_t21 := hb6; (try simp at k_t21); have k_t23 := hb9; (try simp at k_t23); have k_t27 := hb13; (try simp at k_t27); have k_t31 := hb16; (try simp at k_t31); omega), if_neg (by have k_t21 := hb6; (try simp at k_t21); have k_t23 := hb9; (try simp at k_t23); have k_t27 := hb13; (try simp at k_t27); have k_t31 := hb16; (try simp at k_t31); omega)]
      rw [hr]
      rw [ls_one hok, hQ]
      have hw : wrQ k Q = Q ++ [⟨k, 0, (Q.length : Int) - 1, 0⟩] := rfl
      rw [hw, ← eN_snoc]
      refine fin2_ ?_
      (repeat' apply And.intro) <;> (first | (first | rfl | trivial | omega | (rw [hqt, List.length_append, rows_len, List.length_singleton]; omega) | (rw [hqt, List.take_of_length_le (by rw [List.length_append, rows_len]; exact Nat.le_refl _)]; done) | (left; rw [hqt, List.take_of_length_le (by rw [List.length_append, rows_len]; exact Nat.le_refl _)]; done)) | exact cl_)
  ·refine vc_seq_k fun N19 h19 => ?_
   refine vc_seq_k fun N20 h20 => ?_
   have hx := And.intro @hl2 hx0
   refine u_reg ?_
   try refine lg_mk ?_
   refine u_mv (hq := by (first | ((repeat' apply And.intro) <;> first | rfl | omega) | exact sd_)) ?_
   have hc := call_rule (E := ((E_s1 fu ks).at_ 105)) (f := 68) (sp := Spec.pure lfG) rfl
   have hs := @lfG.eq_1
   refine u_cp (hq := by (first | ((repeat' apply And.intro) <;> first | rfl | omega) | exact sd_)) ?_
   refine lg_nil ?_
   have hx := hx0
   refine h20 _ ?_; clear h20; try clear N20
   refine u_cond (fun hb21 => ?_) (fun hb21 => ?_)
   ·refine vc_seq_k fun N22 h22 => ?_
    refine u_reg ?_
    try refine lg_mk ?_
    refine u_mv ?_
    refine u_mv ?_
    refine lg_nil ?_
    refine h22 _ ?_; clear h22; try clear N22
    refine vc_ret ?_
    try simp only [k_rules]
    have hr : oneT k (.nd xk m l r) = (.nd xk m l r) := by
     rw [oneT]
     rw [if_neg (by have k_t21 := hb6; (try simp at k_t21); have k_t34 := hb21; (try simp at k_t34); omega), if_neg (by have k_t21 := hb6; (try simp at k_t21); have k_t34 := hb21; (try simp at k_t34); omega), if_neg (by have k_t21 := hb6; (try simp at k_t21); have k_t34 := hb21; (try simp at k_t34); omega), if_pos (by have k_t21 := hb6; (try simp at k_t21); have k_t34 := hb21; (try simp at k_t34); omega)]
    rw [hr]
    rw [hQ]
    refine fin2_ ?_
    (repeat' apply And.intro) <;> (first | (first | rfl | trivial | omega | (rw [hqt, List.length_append, rows_len, List.length_singleton]; omega) | (rw [hqt, List.take_of_length_le (by rw [List.length_append, rows_len]; exact Nat.le_refl _)]; done) | (left; rw [hqt, List.take_of_length_le (by rw [List.length_append, rows_len]; exact Nat.le_refl _)]; done)) | exact cl_)
   ·refine vc_skip ?_
    try simp only [k_rules]
    refine h19 _ ?_; clear h19; try clear N19
    refine vc_seq_k fun N23 h23 => ?_
    rcases k_cases hk1 hk2 (by have := hb6; (try simp at this); omega) with hk | hk | hk | hk | ⟨hk8, hk9, hk12, hk13⟩
    ·have f8 : (k = 8) = True := eq_true (by omega)
     have f9 : (k = 9) = False := eq_false (by omega)
     have f12 : (k = 12) = False := eq_false (by omega)
     have f13 : (k = 13) = False := eq_false (by omega)
     have hx := And.intro @f8 (And.intro @f9 (And.intro @f12 (And.intro @f13 hx0)))
     refine u_reg ?_
     try refine lg_mk ?_
     refine u_mv ?_
     refine u_bn ?_
     refine u_mv ?_
     refine g_mv ?_
     refine g_bn ?_
     refine u_pk ?_
     refine u_mv ?_
     refine lg_nil ?_
     have hx := hx0
     refine h23 _ ?_; clear h23; try clear N23
     refine vc_seq_k fun N24 h24 => ?_
     refine vc_seq_k fun N25 h25 => ?_
     have hx := And.intro @hl1 (And.intro @f8 (And.intro @f9 hx0))
     refine u_reg ?_
     try refine lg_mk ?_
     refine u_mv (hq := by (first | ((repeat' apply And.intro) <;> first | rfl | omega) | exact sd_)) ?_
     refine u_mv (hq := by (first | ((repeat' apply And.intro) <;> first | rfl | omega) | exact sd_)) ?_
     refine s_mv (hq := by (intro hg; (try simp only [b_rules, bif_and, bif_or] at hg); (first | ((repeat' apply And.intro) <;> first | rfl | omega) | exact sd_))) ?_
     have hc := call_rule (E := ((E_s1 fu ks).at_ 105)) (f := 68) (sp := Spec.pure lfG) rfl
     have hs := @lfG.eq_1
     refine s_cp (hq := by (intro hg; (try simp only [b_rules, bif_and, bif_or] at hg); (first | ((repeat' apply And.intro) <;> first | rfl | omega) | exact sd_))) ?_
     refine u_pk (hq := by (first | ((repeat' apply And.intro) <;> first | rfl | omega) | exact sd_)) ?_
     refine lg_nil ?_
     have hx := hx0
     refine h25 _ ?_; clear h25; try clear N25
     refine u_cond (fun hb26 => ?_) (fun hb26 => ?_)
     ·refine vc_seq_k fun N27 h27 => ?_
      refine u_reg ?_
      try refine lg_mk ?_
      refine u_mv ?_
      refine u_mv ?_
      refine lg_nil ?_
      refine h27 _ ?_; clear h27; try clear N27
      refine vc_ret ?_
      try simp only [k_rules]
      have hr : oneT k (.nd xk m l r) = (.nd xk m l r) := by
       rw [oneT]
       rw [if_neg (by have k_t21 := hb6; (try simp at k_t21); have k_t34 := hb21; (try simp at k_t34); have k_t46 := hb26; (try simp at k_t46); omega), if_neg (by have k_t21 := hb6; (try simp at k_t21); have k_t34 := hb21; (try simp at k_t34); have k_t46 := hb26; (try simp at k_t46); omega), if_neg (by have k_t21 := hb6; (try simp at k_t21); have k_t34 := hb21; (try simp at k_t34); have k_t46 := hb26; (try simp at k_t46); omega), if_neg (by have k_t21 := hb6; (try simp at k_t21); have k_t34 := hb21; (try simp at k_t34); have k_t46 := hb26; (try simp at k_t46); omega), if_pos (by have k_t21 := hb6; (try simp at k_t21); have k_t34 := hb21; (try simp at k_t34); have k_t46 := hb26; (try simp at k_t46); omega)]
      rw [hr]
      rw [hQ]
      refine fin2_ ?_
      (repeat' apply And.intro) <;> (first | (first | rfl | trivial | omega | (rw [hqt, List.length_append, rows_len, List.length_singleton]; omega) | (rw [hqt, List.take_of_length_le (by rw [List.length_append, rows_len]; exact Nat.le_refl _)]; done) | (left; rw [hqt, List.take_of_length_le (by rw [List.length_append, rows_len]; exact Nat.le_refl _)]; done)) | exact cl_)
     ·refine vc_skip ?_
      try simp only [k_rules]
      refine h24 _ ?_; clear h24; try clear N24
      refine vc_seq_k fun N28 h28 => ?_
      refine vc_seq_k fun N29 h29 => ?_
      have hx := And.intro @f8 (And.intro @f9 (And.intro @f12 (And.intro @f13 hx0)))
      refine u_reg ?_
      try refine lg_mk ?_
      refine u_mv ?_
      refine u_mv ?_
      refine u_bn ?_
      refine u_mv ?_
      refine g_mv ?_
      refine g_mv ?_
      refine g_mv ?_
      refine g_bn ?_
      refine g_pk ?_
      refine g_mv ?_
      refine g_mv ?_
      refine g_bn ?_
      refine g_pk ?_
      refine u_pk ?_
      refine lg_nil ?_
      have hx := hx0
      refine h29 _ ?_; clear h29; try clear N29
      refine u_cond (fun hb30 => ?_) (fun hb30 => ?_)
      ·refine vc_seq_k fun N31 h31 => ?_
       refine u_reg ?_
       try refine lg_mk ?_
       refine u_mv ?_
       refine u_mv ?_
       refine lg_nil ?_
       refine h31 _ ?_; clear h31; try clear N31
       refine vc_ret ?_
       try simp only [k_rules]
       have hr : oneT k (.nd xk m l r) = (.nd xk m l r) := by
        rw [oneT]
        rw [if_neg (by have k_t21 := hb6; (try simp at k_t21); have k_t34 := hb21; (try simp at k_t34); have k_t46 := hb26; (try simp at k_t46); have k_t61 := hb30; (try simp at k_t61); omega), if_neg (by have k_t21 := hb6; (try simp at k_t21); have k_t34 := hb21; (try simp at k_t34); have k_t46 := hb26; (try simp at k_t46); have k_t61 := hb30; (try simp at k_t61); omega), if_neg (by have k_t21 := hb6; (try simp at k_t21); have k_t34 := hb21; (try simp at k_t34); have k_t46 := hb26; (try simp at k_t46); have k_t61 := hb30; (try simp at k_t61); omega), if_neg (by have k_t21 := hb6; (try simp at k_t21); have k_t34 := hb21; (try simp at k_t34); have k_t46 := hb26; (try simp at k_t46); have k_t61 := hb30; (try simp at k_t61); omega), if_neg (by have k_t21 := hb6; (try simp at k_t21); have k_t34 := hb21; (try simp at k_t34); have k_t46 := hb26; (try simp at k_t46); have k_t61 := hb30; (try simp at k_t61); omega), if_pos (by have k_t21 := hb6; (try simp at k_t21); have k_t34 := hb21; (try simp at k_t34); have k_t46 := hb26; (try simp at k_t46); have k_t61 := hb30; (try simp at k_t61); omega)]
       rw [hr]
       rw [hQ]
       refine fin2_ ?_
       (repeat' apply And.intro) <;> (first | (first | rfl | trivial | omega | (rw [hqt, List.length_append, rows_len, List.length_singleton]; omega) | (rw [hqt, List.take_of_length_le (by rw [List.length_append, rows_len]; exact Nat.le_refl _)]; done) | (left; rw [hqt, List.take_of_length_le (by rw [List.length_append, rows_len]; exact Nat.le_refl _)]; done)) | exact cl_)
      ·refine vc_skip ?_
       try simp only [k_rules]
       refine h28 _ ?_; clear h28; try clear N28
       refine vc_seq_k fun N32 h32 => ?_
       have hx := And.intro @f8 (And.intro @f9 (And.intro @f12 (And.intro @f13 hx0)))
       refine u_reg ?_
       try refine lg_mk ?_
       refine u_mv ?_
       refine u_bn ?_
       refine u_mv ?_
       refine g_mv ?_
       refine g_bn ?_
       refine u_pk ?_
       refine u_mv ?_
       refine g_mv ?_
       refine g_bn ?_
       refine g_mv ?_
       refine g_mv ?_
       refine g_bn ?_
       refine g_pk ?_
       refine u_pk ?_
       refine u_mv ?_
       refine g_mv ?_
       refine g_bn ?_
       refine g_mv ?_
       refine g_mv ?_
       refine g_bn ?_
       refine g_pk ?_
       refine u_pk ?_
       refine u_mv ?_
       refine g_mv ?_
       refine g_bn ?_
       refine g_mv ?_
       refine g_mv ?_
       refine g_bn ?_
       refine g_pk ?_
       refine u_pk ?_
       refine lg_nil ?_
       have hx := hx0
       refine h32 _ ?_; clear h32; try clear N32
       refine u_cond (fun hb33 => ?_) (fun hb33 => ?_)
       ·have hcc : (k = 8 ∨ k = 9 ∨ k = 12 ∨ k = 13) ∧ xk = inr k := by have := hb33; (try simp at this); omega
        have hx7 : 7 ≤ xk ∧ xk ≤ 13 := by omega
        obtain ⟨hol, hit⟩ := hin hx7
        have htl := tre_ls hol (by omega)
        refine vc_seq_k fun N34 h34 => ?_
        have hx := And.intro @hit (And.intro @htl hx0)
        refine u_reg ?_
        try refine lg_mk ?_
        refine u_mv (hq := by (first | (exact ⟨lsP_ok hol (by omega), by omega, hk1, hk2⟩) | exact sd_)) ?_
        refine u_mv (hq := by (first | (exact ⟨lsP_ok hol (by omega), by omega, hk1, hk2⟩) | exact sd_)) ?_
        have hc := call_rule (E := ((E_s1 fu ks).at_ 105)) (f := 43) (sp := Spec.pure (s1G fu)) rfl
        have hs := @s1G.eq_1
        refine u_hp (hq := by (first | (exact ⟨lsP_ok hol (by omega), by omega, hk1, hk2⟩) | exact sd_)) ?_
        refine u_mv (hq := by (first | (exact ⟨lsP_ok hol (by omega), by omega, hk1, hk2⟩) | exact sd_)) ?_
        refine lg_nil ?_
        have hx := hx0
        refine h34 _ ?_; clear h34; try clear N34
        refine vc_ret ?_
        try simp only [k_rules]
        have hr : oneT k (.nd xk m l r) = oneT k l := by
         rw [oneT]
         rw [if_neg (by have k_t21 := hb6; (try simp at k_t21); have k_t34 := hb21; (try simp at k_t34); have k_t46 := hb26; (try simp at k_t46); have k_t61 := hb30; (try simp at k_t61); have k_t92 := hb33; (try simp at k_t92); omega), if_neg (by have k_t21 := hb6; (try simp at k_t21); have k_t34 := hb21; (try simp at k_t34); have k_t46 := hb26; (try simp at k_t46); have k_t61 := hb30; (try simp at k_t61); have k_t92 := hb33; (try simp at k_t92); omega), if_neg (by have k_t21 := hb6; (try simp at k_t21); have k_t34 := hb21; (try simp at k_t34); have k_t46 := hb26; (try simp at k_t46); have k_t61 := hb30; (try simp at k_t61); have k_t92 := hb33; (try simp at k_t92); omega), if_neg (by have k_t21 := hb6; (try simp at k_t21); have k_t34 := hb21; (try simp at k_t34); have k_t46 := hb26; (try simp at k_t46); have k_t61 := hb30; (try simp at k_t61); have k_t92 := hb33; (try simp at k_t92); omega), if_neg (by have k_t21 := hb6; (try simp at k_t21); have k_t34 := hb21; (try simp at k_t34); have k_t46 := hb26; (try simp at k_t46); have k_t61 := hb30; (try simp at k_t61); have k_t92 := hb33; (try simp at k_t92); omega), if_neg (by have k_t21 := hb6; (try simp at k_t21); have k_t34 := hb21; (try simp at k_t34); have k_t46 := hb26; (try simp at k_t46); have k_t61 := hb30; (try simp at k_t61); have k_t92 := hb33; (try simp at k_t92); omega), if_pos (by have k_t21 := hb6; (try simp at k_t21); have k_t34 := hb21; (try simp at k_t34); have k_t46 := hb26; (try simp at k_t46); have k_t61 := hb30; (try simp at k_t61); have k_t92 := hb33; (try simp at k_t92); omega)]
        rw [hr]
        refine fin2_ ?_
        (repeat' apply And.intro) <;> (first | (first | rfl | trivial | omega | (rw [hqt, List.length_append, rows_len, List.length_singleton]; omega) | (rw [hqt, List.take_of_length_le (by rw [List.length_append, rows_len]; exact Nat.le_refl _)]; done) | (left; rw [hqt, List.take_of_length_le (by rw [List.length_append, rows_len]; exact Nat.le_refl _)]; done)) | exact cl_)
       ·refine vc_skip ?_
        try simp only [k_rules]
        refine h4 _ ?_; clear h4; try clear N4
        refine vc_seq_k fun N35 h35 => ?_
        refine u_reg ?_
        try refine lg_mk ?_
        refine u_mv ?_
        refine u_ap ?_
        refine u_mv ?_
        refine u_mv ?_
        refine u_ln ?_
        refine u_bn ?_
        refine u_bd ?_
        refine u_bs ?_
        refine u_ap ?_
        refine u_mv ?_
        refine lg_nil ?_
        refine h35 _ ?_; clear h35; try clear N35
        refine vc_ret ?_
        try simp only [k_rules]
        have hr : oneT k (.nd xk m l r) = .nd k 0 (.nd xk m l r) .nil := by
         rw [oneT]
         rw [if_neg (by have k_t21 := hb6; (try simp at k_t21); have k_t34 := hb21; (try simp at k_t34); have k_t46 := hb26; (try simp at k_t46); have k_t61 := hb30; (try simp at k_t61); have k_t92 := hb33; (try simp at k_t92); omega), if_neg (by have k_t21 := hb6; (try simp at k_t21); have k_t34 := hb21; (try simp at k_t34); have k_t46 := hb26; (try simp at k_t46); have k_t61 := hb30; (try simp at k_t61); have k_t92 := hb33; (try simp at k_t92); omega), if_neg (by have k_t21 := hb6; (try simp at k_t21); have k_t34 := hb21; (try simp at k_t34); have k_t46 := hb26; (try simp at k_t46); have k_t61 := hb30; (try simp at k_t61); have k_t92 := hb33; (try simp at k_t92); omega), if_neg (by have k_t21 := hb6; (try simp at k_t21); have k_t34 := hb21; (try simp at k_t34); have k_t46 := hb26; (try simp at k_t46); have k_t61 := hb30; (try simp at k_t61); have k_t92 := hb33; (try simp at k_t92); omega), if_neg (by have k_t21 := hb6; (try simp at k_t21); have k_t34 := hb21; (try simp at k_t34); have k_t46 := hb26; (try simp at k_t46); have k_t61 := hb30; (try simp at k_t61); have k_t92 := hb33; (try simp at k_t92); omega), if_neg (by have k_t21 := hb6; (try simp at k_t21); have k_t34 := hb21; (try simp at k_t34); have k_t46 := hb26; (try simp at k_t46); have k_t61 := hb30; (try simp at k_t61); have k_t92 := hb33; (try simp at k_t92); omega), if_neg (by have k_t21 := hb6; (try simp at k_t21); have k_t34 := hb21; (try simp at k_t34); have k_t46 := hb26; (try simp at k_t46); have k_t61 := hb30; (try simp at k_t61); have k_t92 := hb33; (try simp at k_t92); omega)]
        rw [hr]
        rw [ls_one hok, hQ]
        have hw : wrQ k Q = Q ++ [⟨k, 0, (Q.length : Int) - 1, 0⟩] := rfl
        rw [hw, ← eN_snoc]
        refine fin2_ ?_
        (repeat' apply And.intro) <;> (first | (first | rfl | trivial | omega | (rw [hqt, List.length_append, rows_len, List.length_singleton]; omega) | (rw [hqt, List.take_of_length_le (by rw [List.length_append, rows_len]; exact Nat.le_refl _)]; done) | (left; rw [hqt, List.take_of_length_le (by rw [List.length_append, rows_len]; exact Nat.le_refl _)]; done)) | exact cl_)
    ·have f8 : (k = 8) = False := eq_false (by omega)
     have f9 : (k = 9) = True := eq_true (by omega)
     have f12 : (k = 12) = False := eq_false (by omega)
     have f13 : (k = 13) = False := eq_false (by omega)
     have hx := And.intro @f8 (And.intro @f9 (And.intro @f12 (And.intro @f13 hx0)))
     refine u_reg ?_
     try refine lg_mk ?_
     refine u_mv ?_
     refine u_bn ?_
     refine u_mv ?_
     refine g_mv ?_
     refine g_bn ?_
     refine u_pk ?_
     refine u_mv ?_
     refine lg_nil ?_
     have hx := hx0
     refine h23 _ ?_; clear h23; try clear N23
     refine vc_seq_k fun N36 h36 => ?_
     refine vc_seq_k fun N37 h37 => ?_
     have hx := And.intro @hl1 (And.intro @f8 (And.intro @f9 hx0))
     refine u_reg ?_
     try refine lg_mk ?_
     refine u_mv (hq := by (first | ((repeat' apply And.intro) <;> first | rfl | omega) | exact sd_)) ?_
     refine u_mv (hq := by (first | ((repeat' apply And.intro) <;> first | rfl | omega) | exact sd_)) ?_
     refine s_mv (hq := by (intro hg; (try simp only [b_rules, bif_and, bif_or] at hg); (first | ((repeat' apply And.intro) <;> first | rfl | omega) | exact sd_))) ?_
     have hc := call_rule (E := ((E_s1 fu ks).at_ 105)) (f := 68) (sp := Spec.pure lfG) rfl
     have hs := @lfG.eq_1
     refine s_cp (hq := by (intro hg; (try simp only [b_rules, bif_and, bif_or] at hg); (first | ((repeat' apply And.intro) <;> first | rfl | omega) | exact sd_))) ?_
     refine u_pk (hq := by (first | ((repeat' apply And.intro) <;> first | rfl | omega) | exact sd_)) ?_
     refine lg_nil ?_
     have hx := hx0
     refine h37 _ ?_; clear h37; try clear N37
     refine u_cond (fun hb38 => ?_) (fun hb38 => ?_)
     ·refine vc_seq_k fun N39 h39 => ?_
      refine u_reg ?_
      try refine lg_mk ?_
      refine u_mv ?_
      refine u_mv ?_
      refine lg_nil ?_
      refine h39 _ ?_; clear h39; try clear N39
      refine vc_ret ?_
      try simp only [k_rules]
      have hr : oneT k (.nd xk m l r) = (.nd xk m l r) := by
       rw [oneT]
       rw [if_neg (by have k_t21 := hb6; (try simp at k_t21); have k_t34 := hb21; (try simp at k_t34); have k_t46 := hb38; (try simp at k_t46); omega), if_neg (by have k_t21 := hb6; (try simp at k_t21); have k_t34 := hb21; (try simp at k_t34); have k_t46 := hb38; (try simp at k_t46); omega), if_neg (by have k_t21 := hb6; (try simp at k_t21); have k_t34 := hb21; (try simp at k_t34); have k_t46 := hb38; (try simp at k_t46); omega), if_neg (by have k_t21 := hb6; (try simp at k_t21); have k_t34 := hb21; (try simp at k_t34); have k_t46 := hb38; (try simp at k_t46); omega), if_pos (by have k_t21 := hb6; (try simp at k_t21); have k_t34 := hb21; (try simp at k_t34); have k_t46 := hb38; (try simp at k_t46); omega)]
      rw [hr]
      rw [hQ]
      refine fin2_ ?_
      (repeat' apply And.intro) <;> (first | (first | rfl | trivial | omega | (rw [hqt, List.length_append, rows_len, List.length_singleton]; omega) | (rw [hqt, List.take_of_length_le (by rw [List.length_append, rows_len]; exact Nat.le_refl _)]; done) | (left; rw [hqt, List.take_of_length_le (by rw [List.length_append, rows_len]; exact Nat.le_refl _)]; done)) | exact cl_)
     ·refine vc_skip ?_
      try simp only [k_rules]
      refine h36 _ ?_; clear h36; try clear N36
      refine vc_seq_k fun N40 h40 => ?_
      refine vc_seq_k fun N41 h41 => ?_
      have hx := And.intro @f8 (And.intro @f9 (And.intro @f12 (And.intro @f13 hx0)))
      refine u_reg ?_
      try refine lg_mk ?_
      refine u_mv ?_
      refine u_mv ?_
      refine u_bn ?_
      refine u_mv ?_
      refine g_mv ?_
      refine g_mv ?_
      refine g_mv ?_
      refine g_bn ?_
      refine g_pk ?_
      refine g_mv ?_
      refine g_mv ?_
      refine g_bn ?_
      refine g_pk ?_
      refine u_pk ?_
      refine lg_nil ?_
      have hx := hx0
      refine h41 _ ?_; clear h41; try clear N41
      refine u_cond (fun hb42 => ?_) (fun hb42 => ?_)
      ·refine vc_seq_k fun N43 h43 => ?_
       refine u_reg ?_
       try refine lg_mk ?_
       refine u_mv ?_
       refine u_mv ?_
       refine lg_nil ?_
       refine h43 _ ?_; clear h43; try clear N43
       refine vc_ret ?_
       try simp only [k_rules]
       have hr : oneT k (.nd xk m l r) = (.nd xk m l r) := by
        rw [oneT]
        rw [if_neg (by have k_t21 := hb6; (try simp at k_t21); have k_t34 := hb21; (try simp at k_t34); have k_t46 := hb38; (try simp at k_t46); have k_t61 := hb42; (try simp at k_t61); omega), if_neg (by have k_t21 := hb6; (try simp at k_t21); have k_t34 := hb21; (try simp at k_t34); have k_t46 := hb38; (try simp at k_t46); have k_t61 := hb42; (try simp at k_t61); omega), if_neg (by have k_t21 := hb6; (try simp at k_t21); have k_t34 := hb21; (try simp at k_t34); have k_t46 := hb38; (try simp at k_t46); have k_t61 := hb42; (try simp at k_t61); omega), if_neg (by have k_t21 := hb6; (try simp at k_t21); have k_t34 := hb21; (try simp at k_t34); have k_t46 := hb38; (try simp at k_t46); have k_t61 := hb42; (try simp at k_t61); omega), if_neg (by have k_t21 := hb6; (try simp at k_t21); have k_t34 := hb21; (try simp at k_t34); have k_t46 := hb38; (try simp at k_t46); have k_t61 := hb42; (try simp at k_t61); omega), if_pos (by have k_t21 := hb6; (try simp at k_t21); have k_t34 := hb21; (try simp at k_t34); have k_t46 := hb38; (try simp at k_t46); have k_t61 := hb42; (try simp at k_t61); omega)]
       rw [hr]
       rw [hQ]
       refine fin2_ ?_
       (repeat' apply And.intro) <;> (first | (first | rfl | trivial | omega | (rw [hqt, List.length_append, rows_len, List.length_singleton]; omega) | (rw [hqt, List.take_of_length_le (by rw [List.length_append, rows_len]; exact Nat.le_refl _)]; done) | (left; rw [hqt, List.take_of_length_le (by rw [List.length_append, rows_len]; exact Nat.le_refl _)]; done)) | exact cl_)
      ·refine vc_skip ?_
       try simp only [k_rules]
       refine h40 _ ?_; clear h40; try clear N40
       refine vc_seq_k fun N44 h44 => ?_
       have hx := And.intro @f8 (And.intro @f9 (And.intro @f12 (And.intro @f13 hx0)))
       refine u_reg ?_
       try refine lg_mk ?_
       refine u_mv ?_
       refine u_bn ?_
       refine u_mv ?_
       refine g_mv ?_
       refine g_bn ?_
       refine u_pk ?_
       refine u_mv ?_
       refine g_mv ?_
       refine g_bn ?_
       refine g_mv ?_
       refine g_mv ?_
       refine g_bn ?_
       refine g_pk ?_
       refine u_pk ?_
       refine u_mv ?_
       refine g_mv ?_
       refine g_bn ?_
       refine g_mv ?_
       refine g_mv ?_
       refine g_bn ?_
       refine g_pk ?_
       refine u_pk ?_
       refine u_mv ?_
       refine g_mv ?_
       refine g_bn ?_
       refine g_mv ?_
       refine g_mv ?_
       refine g_bn ?_
       refine g_pk ?_
       refine u_pk ?_
       refine lg_nil ?_
       have hx := hx0
       refine h44 _ ?_; clear h44; try clear N44
       refine u_cond (fun hb45 => ?_) (fun hb45 => ?_)
       ·have hcc : (k = 8 ∨ k = 9 ∨ k = 12 ∨ k = 13) ∧ xk = inr k := by have := hb45; (try simp at this); omega
        have hx7 : 7 ≤ xk ∧ xk ≤ 13 := by omega
        obtain ⟨hol, hit⟩ := hin hx7
        have htl := tre_ls hol (by omega)
        refine vc_seq_k fun N46 h46 => ?_
        have hx := And.intro @hit (And.intro @htl hx0)
        refine u_reg ?_
        try refine lg_mk ?_
        refine u_mv (hq := by (first | (exact ⟨lsP_ok hol (by omega), by omega, hk1, hk2⟩) | exact sd_)) ?_
        refine u_mv (hq := by (first | (exact ⟨lsP_ok hol (by omega), by omega, hk1, hk2⟩) | exact sd_)) ?_
        have hc := call_rule (E := ((E_s1 fu ks).at_ 105)) (f := 43) (sp := Spec.pure (s1G fu)) rfl
        have hs := @s1G.eq_1
        refine u_hp (hq := by (first | (exact ⟨lsP_ok hol (by omega), by omega, hk1, hk2⟩) | exact sd_)) ?_
        refine u_mv (hq := by (first | (exact ⟨lsP_ok hol (by omega), by omega, hk1, hk2⟩) | exact sd_)) ?_
        refine lg_nil ?_
        have hx := hx0
        refine h46 _ ?_; clear h46; try clear N46
        refine vc_ret ?_
        try simp only [k_rules]
        have hr : oneT k (.nd xk m l r) = oneT k l := by
         rw [oneT]
         rw [if_neg (by have k_t21 := hb6; (try simp at k_t21); have k_t34 := hb21; (try simp at k_t34); have k_t46 := hb38; (try simp at k_t46); have k_t61 := hb42; (try simp at k_t61); have k_t92 := hb45; (try simp at k_t92); omega), if_neg (by have k_t21 := hb6; (try simp at k_t21); have k_t34 := hb21; (try simp at k_t34); have k_t46 := hb38; (try simp at k_t46); have k_t61 := hb42; (try simp at k_t61); have k_t92 := hb45; (try simp at k_t92); omega), if_neg (by have k_t21 := hb6; (try simp at k_t21); have k_t34 := hb21; (try simp at k_t34); have k_t46 := hb38; (try simp at k_t46); have k_t61 := hb42; (try simp at k_t61); have k_t92 := hb45; (try simp at k_t92); omega), if_neg (by have k_t21 := hb6; (try simp at k_t21); have k_t34 := hb21; (try simp at k_t34); have k_t46 := hb38; (try simp at k_t46); have k_t61 := hb42; (try simp at k_t61); have k_t92 := hb45; (try simp at k_t92); omega), if_neg (by have k_t21 := hb6; (try simp at k_t21); have k_t34 := hb21; (try simp at k_t34); have k_t46 := hb38; (try simp at k_t46); have k_t61 := hb42; (try simp at k_t61); have k_t92 := hb45; (try simp at k_t92); omega), if_neg (by have k_t21 := hb6; (try simp at k_t21); have k_t34 := hb21; (try simp at k_t34); have k_t46 := hb38; (try simp at k_t46); have k_t61 := hb42; (try simp at k_t61); have k_t92 := hb45; (try simp at k_t92); omega), if_pos (by have k_t21 := hb6; (try simp at k_t21); have k_t34 := hb21; (try simp at k_t34); have k_t46 := hb38; (try simp at k_t46); have k_t61 := hb42; (try simp at k_t61); have k_t92 := hb45; (try simp at k_t92); omega)]
        rw [hr]
        refine fin2_ ?_
        (repeat' apply And.intro) <;> (first | (first | rfl | trivial | omega | (rw [hqt, List.length_append, rows_len, List.length_singleton]; omega) | (rw [hqt, List.take_of_length_le (by rw [List.length_append, rows_len]; exact Nat.le_refl _)]; done) | (left; rw [hqt, List.take_of_length_le (by rw [List.length_append, rows_len]; exact Nat.le_refl _)]; done)) | exact cl_)
       ·refine vc_skip ?_
        try simp only [k_rules]
        refine h4 _ ?_; clear h4; try clear N4
        refine vc_seq_k fun N47 h47 => ?_
        refine u_reg ?_
        try refine lg_mk ?_
        refine u_mv ?_
        refine u_ap ?_
        refine u_mv ?_
        refine u_mv ?_
        refine u_ln ?_
        refine u_bn ?_
        refine u_bd ?_
        refine u_bs ?_
        refine u_ap ?_
        refine u_mv ?_
        refine lg_nil ?_
        refine h47 _ ?_; clear h47; try clear N47
        refine vc_ret ?_
        try simp only [k_rules]
        have hr : oneT k (.nd xk m l r) = .nd k 0 (.nd xk m l r) .nil := by
         rw [oneT]
         rw [if_neg (by have k_t21 := hb6; (try simp at k_t21); have k_t34 := hb21; (try simp at k_t34); have k_t46 := hb38; (try simp at k_t46); have k_t61 := hb42; (try simp at k_t61); have k_t92 := hb45; (try simp at k_t92); omega), if_neg (by have k_t21 := hb6; (try simp at k_t21); have k_t34 := hb21; (try simp at k_t34); have k_t46 := hb38; (try simp at k_t46); have k_t61 := hb42; (try simp at k_t61); have k_t92 := hb45; (try simp at k_t92); omega), if_neg (by have k_t21 := hb6; (try simp at k_t21); have k_t34 := hb21; (try simp at k_t34); have k_t46 := hb38; (try simp at k_t46); have k_t61 := hb42; (try simp at k_t61); have k_t92 := hb45; (try simp at k_t92); omega), if_neg (by have k_t21 := hb6; (try simp at k_t21); have k_t34 := hb21; (try simp at k_t34); have k_t46 := hb38; (try simp at k_t46); have k_t61 := hb42; (try simp at k_t61); have k_t92 := hb45; (try simp at k_t92); omega), if_neg (by have k_t21 := hb6; (try simp at k_t21); have k_t34 := hb21; (try simp at k_t34); have k_t46 := hb38; (try simp at k_t46); have k_t61 := hb42; (try simp at k_t61); have k_t92 := hb45; (try simp at k_t92); omega), if_neg (by have k_t21 := hb6; (try simp at k_t21); have k_t34 := hb21; (try simp at k_t34); have k_t46 := hb38; (try simp at k_t46); have k_t61 := hb42; (try simp at k_t61); have k_t92 := hb45; (try simp at k_t92); omega), if_neg (by have k_t21 := hb6; (try simp at k_t21); have k_t34 := hb21; (try simp at k_t34); have k_t46 := hb38; (try simp at k_t46); have k_t61 := hb42; (try simp at k_t61); have k_t92 := hb45; (try simp at k_t92); omega)]
        rw [hr]
        rw [ls_one hok, hQ]
        have hw : wrQ k Q = Q ++ [⟨k, 0, (Q.length : Int) - 1, 0⟩] := rfl
        rw [hw, ← eN_snoc]
        refine fin2_ ?_
        (repeat' apply And.intro) <;> (first | (first | rfl | trivial | omega | (rw [hqt, List.length_append, rows_len, List.length_singleton]; omega) | (rw [hqt, List.take_of_length_le (by rw [List.length_append, rows_len]; exact Nat.le_refl _)]; done) | (left; rw [hqt, List.take_of_length_le (by rw [List.length_append, rows_len]; exact Nat.le_refl _)]; done)) | exact cl_)
    ·have f8 : (k = 8) = False := eq_false (by omega)
     have f9 : (k = 9) = False := eq_false (by omega)
     have f12 : (k = 12) = True := eq_true (by omega)
     have f13 : (k = 13) = False := eq_false (by omega)
     have hx := And.intro @f8 (And.intro @f9 (And.intro @f12 (And.intro @f13 hx0)))
     refine u_reg ?_
     try refine lg_mk ?_
     refine u_mv ?_
     refine u_bn ?_
     refine u_mv ?_
     refine g_mv ?_
     refine g_bn ?_
     refine u_pk ?_
     refine u_mv ?_
     refine lg_nil ?_
     have hx := hx0
     refine h23 _ ?_; clear h23; try clear N23
     refine vc_seq_k fun N48 h48 => ?_
     refine vc_seq_k fun N49 h49 => ?_
     have hx := And.intro @hl1 (And.intro @f8 (And.intro @f9 hx0))
     refine u_reg ?_
     try refine lg_mk ?_
     refine u_mv (hq := by (first | ((repeat' apply And.intro) <;> first | rfl | omega) | exact sd_)) ?_
     refine u_mv (hq := by (first | ((repeat' apply And.intro) <;> first | rfl | omega) | exact sd_)) ?_
     refine s_mv (hq := by (intro hg; (try simp only [b_rules, bif_and, bif_or] at hg); (first | ((repeat' apply And.intro) <;> first | rfl | omega) | exact sd_))) ?_
     have hc := call_rule (E := ((E_s1 fu ks).at_ 105)) (f := 68) (sp := Spec.pure lfG) rfl
     have hs := @lfG.eq_1
     refine s_cp (hq := by (intro hg; (try simp only [b_rules, bif_and, bif_or] at hg); (first | ((repeat' apply And.intro) <;> first | rfl | omega) | exact sd_))) ?_
     refine u_pk (hq := by (first | ((repeat' apply And.intro) <;> first | rfl | omega) | exact sd_)) ?_
     refine lg_nil ?_
     have hx := hx0
     refine h49 _ ?_; clear h49; try clear N49
     refine u_cond (fun hb50 => ?_) (fun hb50 => ?_)
     ·first | omega | exact absurd trivial hb50 | contradiction | (simp_all; done)
     ·refine vc_skip ?_
      try simp only [k_rules]
      refine h48 _ ?_; clear h48; try clear N48
      refine vc_seq_k fun N51 h51 => ?_
      refine vc_seq_k fun N52 h52 => ?_
      have hx := And.intro @f8 (And.intro @f9 (And.intro @f12 (And.intro @f13 hx0)))
      refine u_reg ?_
      try refine lg_mk ?_
      refine u_mv ?_
      refine u_mv ?_
      refine u_bn ?_
      refine u_mv ?_
      refine g_mv ?_
      refine g_mv ?_
      refine g_mv ?_
      refine g_bn ?_
      refine g_pk ?_
      refine g_mv ?_
      refine g_mv ?_
      refine g_bn ?_
      refine g_pk ?_
      refine u_pk ?_
      refine lg_nil ?_
      have hx := hx0
      refine h52 _ ?_; clear h52; try clear N52
      refine u_cond (fun hb53 => ?_) (fun hb53 => ?_)
      ·refine vc_seq_k fun N54 h54 => ?_
       refine u_reg ?_
       try refine lg_mk ?_
       refine u_mv ?_
       refine u_mv ?_
       refine lg_nil ?_
       refine h54 _ ?_; clear h54; try clear N54
       refine vc_ret ?_
       try simp only [k_rules]
       have hr : oneT k (.nd xk m l r) = (.nd xk m l r) := by
        rw [oneT]
        rw [if_neg (by have k_t21 := hb6; (try simp at k_t21); have k_t34 := hb21; (try simp at k_t34); have k_t46 := hb50; (try simp at k_t46); have k_t61 := hb53; (try simp at k_t61); omega), if_neg (by have k_t21 := hb6; (try simp at k_t21); have k_t34 := hb21; (try simp at k_t34); have k_t46 := hb50; (try simp at k_t46); have k_t61 := hb53; (try simp at k_t61); omega), if_neg (by have k_t21 := hb6; (try simp at k_t21); have k_t34 := hb21; (try simp at k_t34); have k_t46 := hb50; (try simp at k_t46); have k_t61 := hb53; (try simp at k_t61); omega), if_neg (by have k_t21 := hb6; (try simp at k_t21); have k_t34 := hb21; (try simp at k_t34); have k_t46 := hb50; (try simp at k_t46); have k_t61 := hb53; (try simp at k_t61); omega), if_neg (by have k_t21 := hb6; (try simp at k_t21); have k_t34 := hb21; (try simp at k_t34); have k_t46 := hb50; (try simp at k_t46); have k_t61 := hb53; (try simp at k_t61); omega), if_pos (by have k_t21 := hb6; (try simp at k_t21); have k_t34 := hb21; (try simp at k_t34); have k_t46 := hb50; (try simp at k_t46); have k_t61 := hb53; (try simp at k_t61); omega)]
       rw [hr]
       rw [hQ]
       refine fin2_ ?_
       (repeat' apply And.intro) <;> (first | (first | rfl | trivial | omega | (rw [hqt, List.length_append, rows_len, List.length_singleton]; omega) | (rw [hqt, List.take_of_length_le (by rw [List.length_append, rows_len]; exact Nat.le_refl _)]; done) | (left; rw [hqt, List.take_of_length_le (by rw [List.length_append, rows_len]; exact Nat.le_refl _)]; done)) | exact cl_)
      ·refine vc_skip ?_
       try simp only [k_rules]
       refine h51 _ ?_; clear h51; try clear N51
       refine vc_seq_k fun N55 h55 => ?_
       have hx := And.intro @f8 (And.intro @f9 (And.intro @f12 (And.intro @f13 hx0)))
       refine u_reg ?_
       try refine lg_mk ?_
       refine u_mv ?_
       refine u_bn ?_
       refine u_mv ?_
       refine g_mv ?_
       refine g_bn ?_
       refine u_pk ?_
       refine u_mv ?_
       refine g_mv ?_
       refine g_bn ?_
       refine g_mv ?_
       refine g_mv ?_
       refine g_bn ?_
       refine g_pk ?_
       refine u_pk ?_
       refine u_mv ?_
       refine g_mv ?_
       refine g_bn ?_
       refine g_mv ?_
       refine g_mv ?_
       refine g_bn ?_
       refine g_pk ?_
       refine u_pk ?_
       refine u_mv ?_
       refine g_mv ?_
       refine g_bn ?_
       refine g_mv ?_
       refine g_mv ?_
       refine g_bn ?_
       refine g_pk ?_
       refine u_pk ?_
       refine lg_nil ?_
       have hx := hx0
       refine h55 _ ?_; clear h55; try clear N55
       refine u_cond (fun hb56 => ?_) (fun hb56 => ?_)
       ·have hcc : (k = 8 ∨ k = 9 ∨ k = 12 ∨ k = 13) ∧ xk = inr k := by have := hb56; (try simp at this); omega
        have hx7 : 7 ≤ xk ∧ xk ≤ 13 := by omega
        obtain ⟨hol, hit⟩ := hin hx7
        have htl := tre_ls hol (by omega)
        refine vc_seq_k fun N57 h57 => ?_
        have hx := And.intro @hit (And.intro @htl hx0)
        refine u_reg ?_
        try refine lg_mk ?_
        refine u_mv (hq := by (first | (exact ⟨lsP_ok hol (by omega), by omega, hk1, hk2⟩) | exact sd_)) ?_
        refine u_mv (hq := by (first | (exact ⟨lsP_ok hol (by omega), by omega, hk1, hk2⟩) | exact sd_)) ?_
        have hc := call_rule (E := ((E_s1 fu ks).at_ 105)) (f := 43) (sp := Spec.pure (s1G fu)) rfl
        have hs := @s1G.eq_1
        refine u_hp (hq := by (first | (exact ⟨lsP_ok hol (by omega), by omega, hk1, hk2⟩) | exact sd_)) ?_
        refine u_mv (hq := by (first | (exact ⟨lsP_ok hol (by omega), by omega, hk1, hk2⟩) | exact sd_)) ?_
        refine lg_nil ?_
        have hx := hx0
        refine h57 _ ?_; clear h57; try clear N57
        refine vc_ret ?_
        try simp only [k_rules]
        have hr : oneT k (.nd xk m l r) = oneT k l := by
         rw [oneT]
         rw [if_neg (by have k_t21 := hb6; (try simp at k_t21); have k_t34 := hb21; (try simp at k_t34); have k_t46 := hb50; (try simp at k_t46); have k_t61 := hb53; (try simp at k_t61); have k_t92 := hb56; (try simp at k_t92); omega), if_neg (by have k_t21 := hb6; (try simp at k_t21); have k_t34 := hb21; (try simp at k_t34); have k_t46 := hb50; (try simp at k_t46); have k_t61 := hb53; (try simp at k_t61); have k_t92 := hb56; (try simp at k_t92); omega), if_neg (by have k_t21 := hb6; (try simp at k_t21); have k_t34 := hb21; (try simp at k_t34); have k_t46 := hb50; (try simp at k_t46); have k_t61 := hb53; (try simp at k_t61); have k_t92 := hb56; (try simp at k_t92); omega), if_neg (by have k_t21 := hb6; (try simp at k_t21); have k_t34 := hb21; (try simp at k_t34); have k_t46 := hb50; (try simp at k_t46); have k_t61 := hb53; (try simp at k_t61); have k_t92 := hb56; (try simp at k_t92); omega), if_neg (by have k_t21 := hb6; (try simp at k_t21); have k_t34 := hb21; (try simp at k_t34); have k_t46 := hb50; (try simp at k_t46); have k_t61 := hb53; (try simp at k_t61); have k_t92 := hb56; (try simp at k_t92); omega), if_neg (by have k_t21 := hb6; (try simp at k_t21); have k_t34 := hb21; (try simp at k_t34); have k_t46 := hb50; (try simp at k_t46); have k_t61 := hb53; (try simp at k_t61); have k_t92 := hb56; (try simp at k_t92); omega), if_pos (by have k_t21 := hb6; (try simp at k_t21); have k_t34 := hb21; (try simp at k_t34); have k_t46 := hb50; (try simp at k_t46); have k_t61 := hb53; (try simp at k_t61); have k_t92 := hb56; (try simp at k_t92); omega)]
        rw [hr]
        refine fin2_ ?_
        (repeat' apply And.intro) <;> (first | (first | rfl | trivial | omega | (rw [hqt, List.length_append, rows_len, List.length_singleton]; omega) | (rw [hqt, List.take_of_length_le (by rw [List.length_append, rows_len]; exact Nat.le_refl _)]; done) | (left; rw [hqt, List.take_of_length_le (by rw [List.length_append, rows_len]; exact Nat.le_refl _)]; done)) | exact cl_)
       ·refine vc_skip ?_
        try simp only [k_rules]
        refine h4 _ ?_; clear h4; try clear N4
        refine vc_seq_k fun N58 h58 => ?_
        refine u_reg ?_
        try refine lg_mk ?_
        refine u_mv ?_
        refine u_ap ?_
        refine u_mv ?_
        refine u_mv ?_
        refine u_ln ?_
        refine u_bn ?_
        refine u_bd ?_
        refine u_bs ?_
        refine u_ap ?_
        refine u_mv ?_
        refine lg_nil ?_
        refine h58 _ ?_; clear h58; try clear N58
        refine vc_ret ?_
        try simp only [k_rules]
        have hr : oneT k (.nd xk m l r) = .nd k 0 (.nd xk m l r) .nil := by
         rw [oneT]
         rw [if_neg (by have k_t21 := hb6; (try simp at k_t21); have k_t34 := hb21; (try simp at k_t34); have k_t46 := hb50; (try simp at k_t46); have k_t61 := hb53; (try simp at k_t61); have k_t92 := hb56; (try simp at k_t92); omega), if_neg (by have k_t21 := hb6; (try simp at k_t21); have k_t34 := hb21; (try simp at k_t34); have k_t46 := hb50; (try simp at k_t46); have k_t61 := hb53; (try simp at k_t61); have k_t92 := hb56; (try simp at k_t92); omega), if_neg (by have k_t21 := hb6; (try simp at k_t21); have k_t34 := hb21; (try simp at k_t34); have k_t46 := hb50; (try simp at k_t46); have k_t61 := hb53; (try simp at k_t61); have k_t92 := hb56; (try simp at k_t92); omega), if_neg (by have k_t21 := hb6; (try simp at k_t21); have k_t34 := hb21; (try simp at k_t34); have k_t46 := hb50; (try simp at k_t46); have k_t61 := hb53; (try simp at k_t61); have k_t92 := hb56; (try simp at k_t92); omega), if_neg (by have k_t21 := hb6; (try simp at k_t21); have k_t34 := hb21; (try simp at k_t34); have k_t46 := hb50; (try simp at k_t46); have k_t61 := hb53; (try simp at k_t61); have k_t92 := hb56; (try simp at k_t92); omega), if_neg (by have k_t21 := hb6; (try simp at k_t21); have k_t34 := hb21; (try simp at k_t34); have k_t46 := hb50; (try simp at k_t46); have k_t61 := hb53; (try simp at k_t61); have k_t92 := hb56; (try simp at k_t92); omega), if_neg (by have k_t21 := hb6; (try simp at k_t21); have k_t34 := hb21; (try simp at k_t34); have k_t46 := hb50; (try simp at k_t46); have k_t61 := hb53; (try simp at k_t61); have k_t92 := hb56; (try simp at k_t92); omega)]
        rw [hr]
        rw [ls_one hok, hQ]
        have hw : wrQ k Q = Q ++ [⟨k, 0, (Q.length : Int) - 1, 0⟩] := rfl
        rw [hw, ← eN_snoc]
        refine fin2_ ?_
        (repeat' apply And.intro) <;> (first | (first | rfl | trivial | omega | (rw [hqt, List.length_append, rows_len, List.length_singleton]; omega) | (rw [hqt, List.take_of_length_le (by rw [List.length_append, rows_len]; exact Nat.le_refl _)]; done) | (left; rw [hqt, List.take_of_length_le (by rw [List.length_append, rows_len]; exact Nat.le_refl _)]; done)) | exact cl_)
    ·have f8 : (k = 8) = False := eq_false (by omega)
     have f9 : (k = 9) = False := eq_false (by omega)
     have f12 : (k = 12) = False := eq_false (by omega)
     have f13 : (k = 13) = True := eq_true (by omega)
     have hx := And.intro @f8 (And.intro @f9 (And.intro @f12 (And.intro @f13 hx0)))
     refine u_reg ?_
     try refine lg_mk ?_
     refine u_mv ?_
     refine u_bn ?_
     refine u_mv ?_
     refine g_mv ?_
     refine g_bn ?_
     refine u_pk ?_
     refine u_mv ?_
     refine lg_nil ?_
     have hx := hx0
     refine h23 _ ?_; clear h23; try clear N23
     refine vc_seq_k fun N59 h59 => ?_
     refine vc_seq_k fun N60 h60 => ?_
     have hx := And.intro @hl1 (And.intro @f8 (And.intro @f9 hx0))
     refine u_reg ?_
     try refine lg_mk ?_
     refine u_mv (hq := by (first | ((repeat' apply And.intro) <;> first | rfl | omega) | exact sd_)) ?_
     refine u_mv (hq := by (first | ((repeat' apply And.intro) <;> first | rfl | omega) | exact sd_)) ?_
     refine s_mv (hq := by (intro hg; (try simp only [b_rules, bif_and, bif_or] at hg); (first | ((repeat' apply And.intro) <;> first | rfl | omega) | exact sd_))) ?_
     have hc := call_rule (E := ((E_s1 fu ks).at_ 105)) (f := 68) (sp := Spec.pure lfG) rfl
     have hs := @lfG.eq_1
     refine s_cp (hq := by (intro hg; (try simp only [b_rules, bif_and, bif_or] at hg); (first | ((repeat' apply And.intro) <;> first | rfl | omega) | exact sd_))) ?_
     refine u_pk (hq := by (first | ((repeat' apply And.intro) <;> first | rfl | omega) | exact sd_)) ?_
     refine lg_nil ?_
     have hx := hx0
     refine h60 _ ?_; clear h60; try clear N60
     refine u_cond (fun hb61 => ?_) (fun hb61 => ?_)
     ·first | omega | exact absurd trivial hb61 | contradiction | (simp_all; done)
     ·refine vc_skip ?_
      try simp only [k_rules]
      refine h59 _ ?_; clear h59; try clear N59
      refine vc_seq_k fun N62 h62 => ?_
      refine vc_seq_k fun N63 h63 => ?_
      have hx := And.intro @f8 (And.intro @f9 (And.intro @f12 (And.intro @f13 hx0)))
      refine u_reg ?_
      try refine lg_mk ?_
      refine u_mv ?_
      refine u_mv ?_
      refine u_bn ?_
      refine u_mv ?_
      refine g_mv ?_
      refine g_mv ?_
      refine g_mv ?_
      refine g_bn ?_
      refine g_pk ?_
      refine g_mv ?_
      refine g_mv ?_
      refine g_bn ?_
      refine g_pk ?_
      refine u_pk ?_
      refine lg_nil ?_
      have hx := hx0
      refine h63 _ ?_; clear h63; try clear N63
      refine u_cond (fun hb64 => ?_) (fun hb64 => ?_)
      ·refine vc_seq_k fun N65 h65 => ?_
       refine u_reg ?_
       try refine lg_mk ?_
       refine u_mv ?_
       refine u_mv ?_
       refine lg_nil ?_
       refine h65 _ ?_; clear h65; try clear N65
       refine vc_ret ?_
       try simp only [k_rules]
       have hr : oneT k (.nd xk m l r) = (.nd xk m l r) := by
        rw [oneT]
        rw [if_neg (by have k_t21 := hb6; (try simp at k_t21); have k_t34 := hb21; (try simp at k_t34); have k_t46 := hb61; (try simp at k_t46); have k_t61 := hb64; (try simp at k_t61); omega), if_neg (by have k_t21 := hb6; (try simp at k_t21); have k_t34 := hb21; (try simp at k_t34); have k_t46 := hb61; (try simp at k_t46); have k_t61 := hb64; (try simp at k_t61); omega), if_neg (by have k_t21 := hb6; (try simp at k_t21); have k_t34 := hb21; (try simp at k_t34); have k_t46 := hb61; (try simp at k_t46); have k_t61 := hb64; (try simp at k_t61); omega), if_neg (by have k_t21 := hb6; (try simp at k_t21); have k_t34 := hb21; (try simp at k_t34); have k_t46 := hb61; (try simp at k_t46); have k_t61 := hb64; (try simp at k_t61); omega), if_neg (by have k_t21 := hb6; (try simp at k_t21); have k_t34 := hb21; (try simp at k_t34); have k_t46 := hb61; (try simp at k_t46); have k_t61 := hb64; (try simp at k_t61); omega), if_pos (by have k_t21 := hb6; (try simp at k_t21); have k_t34 := hb21; (try simp at k_t34); have k_t46 := hb61; (try simp at k_t46); have k_t61 := hb64; (try simp at k_t61); omega)]
       rw [hr]
       rw [hQ]
       refine fin2_ ?_
       (repeat' apply And.intro) <;> (first | (first | rfl | trivial | omega | (rw [hqt, List.length_append, rows_len, List.length_singleton]; omega) | (rw [hqt, List.take_of_length_le (by rw [List.length_append, rows_len]; exact Nat.le_refl _)]; done) | (left; rw [hqt, List.take_of_length_le (by rw [List.length_append, rows_len]; exact Nat.le_refl _)]; done)) | exact cl_)
      ·refine vc_skip ?_
       try simp only [k_rules]
       refine h62 _ ?_; clear h62; try clear N62
       refine vc_seq_k fun N66 h66 => ?_
       have hx := And.intro @f8 (And.intro @f9 (And.intro @f12 (And.intro @f13 hx0)))
       refine u_reg ?_
       try refine lg_mk ?_
       refine u_mv ?_
       refine u_bn ?_
       refine u_mv ?_
       refine g_mv ?_
       refine g_bn ?_
       refine u_pk ?_
       refine u_mv ?_
       refine g_mv ?_
       refine g_bn ?_
       refine g_mv ?_
       refine g_mv ?_
       refine g_bn ?_
       refine g_pk ?_
       refine u_pk ?_
       refine u_mv ?_
       refine g_mv ?_
       refine g_bn ?_
       refine g_mv ?_
       refine g_mv ?_
       refine g_bn ?_
       refine g_pk ?_
       refine u_pk ?_
       refine u_mv ?_
       refine g_mv ?_
       refine g_bn ?_
       refine g_mv ?_
       refine g_mv ?_
       refine g_bn ?_
       refine g_pk ?_
       refine u_pk ?_
       refine lg_nil ?_
       have hx := hx0
       refine h66 _ ?_; clear h66; try clear N66
       refine u_cond (fun hb67 => ?_) (fun hb67 => ?_)
       ·have hcc : (k = 8 ∨ k = 9 ∨ k = 12 ∨ k = 13) ∧ xk = inr k := by have := hb67; (try simp at this); omega
        have hx7 : 7 ≤ xk ∧ xk ≤ 13 := by omega
        obtain ⟨hol, hit⟩ := hin hx7
        have htl := tre_ls hol (by omega)
        refine vc_seq_k fun N68 h68 => ?_
        have hx := And.intro @hit (And.intro @htl hx0)
        refine u_reg ?_
        try refine lg_mk ?_
        refine u_mv (hq := by (first | (exact ⟨lsP_ok hol (by omega), by omega, hk1, hk2⟩) | exact sd_)) ?_
        refine u_mv (hq := by (first | (exact ⟨lsP_ok hol (by omega), by omega, hk1, hk2⟩) | exact sd_)) ?_
        have hc := call_rule (E := ((E_s1 fu ks).at_ 105)) (f := 43) (sp := Spec.pure (s1G fu)) rfl
        have hs := @s1G.eq_1
        refine u_hp (hq := by (first | (exact ⟨lsP_ok hol (by omega), by omega, hk1, hk2⟩) | exact sd_)) ?_
        refine u_mv (hq := by (first | (exact ⟨lsP_ok hol (by omega), by omega, hk1, hk2⟩) | exact sd_)) ?_
        refine lg_nil ?_
        have hx := hx0
        refine h68 _ ?_; clear h68; try clear N68
        refine vc_ret ?_
        try simp only [k_rules]
        have hr : oneT k (.nd xk m l r) = oneT k l := by
         rw [oneT]
         rw [if_neg (by have k_t21 := hb6; (try simp at k_t21); have k_t34 := hb21; (try simp at k_t34); have k_t46 := hb61; (try simp at k_t46); have k_t61 := hb64; (try simp at k_t61); have k_t92 := hb67; (try simp at k_t92); omega), if_neg (by have k_t21 := hb6; (try simp at k_t21); have k_t34 := hb21; (try simp at k_t34); have k_t46 := hb61; (try simp at k_t46); have k_t61 := hb64; (try simp at k_t61); have k_t92 := hb67; (try simp at k_t92); omega), if_neg (by have k_t21 := hb6; (try simp at k_t21); have k_t34 := hb21; (try simp at k_t34); have k_t46 := hb61; (try simp at k_t46); have k_t61 := hb64; (try simp at k_t61); have k_t92 := hb67; (try simp at k_t92); omega), if_neg (by have k_t21 := hb6; (try simp at k_t21); have k_t34 := hb21; (try simp at k_t34); have k_t46 := hb61; (try simp at k_t46); have k_t61 := hb64; (try simp at k_t61); have k_t92 := hb67; (try simp at k_t92); omega), if_neg (by have k_t21 := hb6; (try simp at k_t21); have k_t34 := hb21; (try simp at k_t34); have k_t46 := hb61; (try simp at k_t46); have k_t61 := hb64; (try simp at k_t61); have k_t92 := hb67; (try simp at k_t92); omega), if_neg (by have k_t21 := hb6; (try simp at k_t21); have k_t34 := hb21; (try simp at k_t34); have k_t46 := hb61; (try simp at k_t46); have k_t61 := hb64; (try simp at k_t61); have k_t92 := hb67; (try simp at k_t92); omega), if_pos (by have k_t21 := hb6; (try simp at k_t21); have k_t34 := hb21; (try simp at k_t34); have k_t46 := hb61; (try simp at k_t46); have k_t61 := hb64; (try simp at k_t61); have k_t92 := hb67; (try simp at k_t92); omega)]
        rw [hr]
        refine fin2_ ?_
        (repeat' apply And.intro) <;> (first | (first | rfl | trivial | omega | (rw [hqt, List.length_append, rows_len, List.length_singleton]; omega) | (rw [hqt, List.take_of_length_le (by rw [List.length_append, rows_len]; exact Nat.le_refl _)]; done) | (left; rw [hqt, List.take_of_length_le (by rw [List.length_append, rows_len]; exact Nat.le_refl _)]; done)) | exact cl_)
       ·refine vc_skip ?_
        try simp only [k_rules]
        refine h4 _ ?_; clear h4; try clear N4
        refine vc_seq_k fun N69 h69 => ?_
        refine u_reg ?_
        try refine lg_mk ?_
        refine u_mv ?_
        refine u_ap ?_
        refine u_mv ?_
        refine u_mv ?_
        refine u_ln ?_
        refine u_bn ?_
        refine u_bd ?_
        refine u_bs ?_
        refine u_ap ?_
        refine u_mv ?_
        refine lg_nil ?_
        refine h69 _ ?_; clear h69; try clear N69
        refine vc_ret ?_
        try simp only [k_rules]
        have hr : oneT k (.nd xk m l r) = .nd k 0 (.nd xk m l r) .nil := by
         rw [oneT]
         rw [if_neg (by have k_t21 := hb6; (try simp at k_t21); have k_t34 := hb21; (try simp at k_t34); have k_t46 := hb61; (try simp at k_t46); have k_t61 := hb64; (try simp at k_t61); have k_t92 := hb67; (try simp at k_t92); omega), if_neg (by have k_t21 := hb6; (try simp at k_t21); have k_t34 := hb21; (try simp at k_t34); have k_t46 := hb61; (try simp at k_t46); have k_t61 := hb64; (try simp at k_t61); have k_t92 := hb67; (try simp at k_t92); omega), if_neg (by have k_t21 := hb6; (try simp at k_t21); have k_t34 := hb21; (try simp at k_t34); have k_t46 := hb61; (try simp at k_t46); have k_t61 := hb64; (try simp at k_t61); have k_t92 := hb67; (try simp at k_t92); omega), if_neg (by have k_t21 := hb6; (try simp at k_t21); have k_t34 := hb21; (try simp at k_t34); have k_t46 := hb61; (try simp at k_t46); have k_t61 := hb64; (try simp at k_t61); have k_t92 := hb67; (try simp at k_t92); omega), if_neg (by have k_t21 := hb6; (try simp at k_t21); have k_t34 := hb21; (try simp at k_t34); have k_t46 := hb61; (try simp at k_t46); have k_t61 := hb64; (try simp at k_t61); have k_t92 := hb67; (try simp at k_t92); omega), if_neg (by have k_t21 := hb6; (try simp at k_t21); have k_t34 := hb21; (try simp at k_t34); have k_t46 := hb61; (try simp at k_t46); have k_t61 := hb64; (try simp at k_t61); have k_t92 := hb67; (try simp at k_t92); omega), if_neg (by have k_t21 := hb6; (try simp at k_t21); have k_t34 := hb21; (try simp at k_t34); have k_t46 := hb61; (try simp at k_t46); have k_t61 := hb64; (try simp at k_t61); have k_t92 := hb67; (try simp at k_t92); omega)]
        rw [hr]
        rw [ls_one hok, hQ]
        have hw : wrQ k Q = Q ++ [⟨k, 0, (Q.length : Int) - 1, 0⟩] := rfl
        rw [hw, ← eN_snoc]
        refine fin2_ ?_
        (repeat' apply And.intro) <;> (first | (first | rfl | trivial | omega | (rw [hqt, List.length_append, rows_len, List.length_singleton]; omega) | (rw [hqt, List.take_of_length_le (by rw [List.length_append, rows_len]; exact Nat.le_refl _)]; done) | (left; rw [hqt, List.take_of_length_le (by rw [List.length_append, rows_len]; exact Nat.le_refl _)]; done)) | exact cl_)
    ·have f8 : (k = 8) = False := eq_false hk8
     have f9 : (k = 9) = False := eq_false hk9
     have f12 : (k = 12) = False := eq_false hk12
     have f13 : (k = 13) = False := eq_false hk13
     have hx := And.intro @f8 (And.intro @f9 (And.intro @f12 (And.intro @f13 hx0)))
     refine u_reg ?_
     try refine lg_mk ?_
     refine u_mv ?_
     refine u_bn ?_
     refine u_mv ?_
     refine g_mv ?_
     refine g_bn ?_
     refine u_pk ?_
     refine u_mv ?_
     refine lg_nil ?_
     have hx := hx0
     refine h23 _ ?_; clear h23; try clear N23
     refine vc_seq_k fun N70 h70 => ?_
     refine vc_seq_k fun N71 h71 => ?_
     have hx := And.intro @hl1 (And.intro @f8 (And.intro @f9 hx0))
     refine u_reg ?_
     try refine lg_mk ?_
     refine u_mv (hq := by (first | ((repeat' apply And.intro) <;> first | rfl | omega) | exact sd_)) ?_
     refine u_mv (hq := by (first | ((repeat' apply And.intro) <;> first | rfl | omega) | exact sd_)) ?_
     refine s_mv (hq := by (intro hg; (try simp only [b_rules, bif_and, bif_or] at hg); (first | ((repeat' apply And.intro) <;> first | rfl | omega) | exact sd_))) ?_
     have hc := call_rule (E := ((E_s1 fu ks).at_ 105)) (f := 68) (sp := Spec.pure lfG) rfl
     have hs := @lfG.eq_1
     refine s_cp (hq := by (intro hg; (try simp only [b_rules, bif_and, bif_or] at hg); (first | ((repeat' apply And.intro) <;> first | rfl | omega) | exact sd_))) ?_
     refine u_pk (hq := by (first | ((repeat' apply And.intro) <;> first | rfl | omega) | exact sd_)) ?_
     refine lg_nil ?_
     have hx := hx0
     refine h71 _ ?_; clear h71; try clear N71
     refine u_cond (fun hb72 => ?_) (fun hb72 => ?_)
     ·first | omega | exact absurd trivial hb72 | contradiction | (simp_all; done)
     ·refine vc_skip ?_
      try simp only [k_rules]
      refine h70 _ ?_; clear h70; try clear N70
      refine vc_seq_k fun N73 h73 => ?_
      refine vc_seq_k fun N74 h74 => ?_
      have hx := And.intro @f8 (And.intro @f9 (And.intro @f12 (And.intro @f13 hx0)))
      refine u_reg ?_
      try refine lg_mk ?_
      refine u_mv ?_
      refine u_mv ?_
      refine u_bn ?_
      refine u_mv ?_
      refine g_mv ?_
      refine g_mv ?_
      refine g_mv ?_
      refine g_bn ?_
      refine g_pk ?_
      refine g_mv ?_
      refine g_mv ?_
      refine g_bn ?_
      refine g_pk ?_
      refine u_pk ?_
      refine lg_nil ?_
      have hx := hx0
      refine h74 _ ?_; clear h74; try clear N74
      refine u_cond (fun hb75 => ?_) (fun hb75 => ?_)
      ·first | omega | exact absurd trivial hb75 | contradiction | (simp_all; done)
      ·refine vc_skip ?_
       try simp only [k_rules]
       refine h73 _ ?_; clear h73; try clear N73
       refine vc_seq_k fun N76 h76 => ?_
       have hx := And.intro @f8 (And.intro @f9 (And.intro @f12 (And.intro @f13 hx0)))
       refine u_reg ?_
       try refine lg_mk ?_
       refine u_mv ?_
       refine u_bn ?_
       refine u_mv ?_
       refine g_mv ?_
       refine g_bn ?_
       refine u_pk ?_
       refine u_mv ?_
       refine g_mv ?_
       refine g_bn ?_
       refine g_mv ?_
       refine g_mv ?_
       refine g_bn ?_
       refine g_pk ?_
       refine u_pk ?_
       refine u_mv ?_
       refine g_mv ?_
       refine g_bn ?_
       refine g_mv ?_
       refine g_mv ?_
       refine g_bn ?_
       refine g_pk ?_
       refine u_pk ?_
       refine u_mv ?_
       refine g_mv ?_
       refine g_bn ?_
       refine g_mv ?_
       refine g_mv ?_
       refine g_bn ?_
       refine g_pk ?_
       refine u_pk ?_
       refine lg_nil ?_
       have hx := hx0
       refine h76 _ ?_; clear h76; try clear N76
       refine u_cond (fun hb77 => ?_) (fun hb77 => ?_)
       ·first | omega | exact absurd trivial hb77 | contradiction | (simp_all; done)
       ·refine vc_skip ?_
        try simp only [k_rules]
        refine h4 _ ?_; clear h4; try clear N4
        refine vc_seq_k fun N78 h78 => ?_
        refine u_reg ?_
        try refine lg_mk ?_
        refine u_mv ?_
        refine u_ap ?_
        refine u_mv ?_
        refine u_mv ?_
        refine u_ln ?_
        refine u_bn ?_
        refine u_bd ?_
        refine u_bs ?_
        refine u_ap ?_
        refine u_mv ?_
        refine lg_nil ?_
        refine h78 _ ?_; clear h78; try clear N78
        refine vc_ret ?_
        try simp only [k_rules]
        have hr : oneT k (.nd xk m l r) = .nd k 0 (.nd xk m l r) .nil := by
         rw [oneT]
         rw [if_neg (by have k_t21 := hb6; (try simp at k_t21); have k_t34 := hb21; (try simp at k_t34); have k_t46 := hb72; (try simp at k_t46); have k_t61 := hb75; (try simp at k_t61); have k_t92 := hb77; (try simp at k_t92); omega), if_neg (by have k_t21 := hb6; (try simp at k_t21); have k_t34 := hb21; (try simp at k_t34); have k_t46 := hb72; (try simp at k_t46); have k_t61 := hb75; (try simp at k_t61); have k_t92 := hb77; (try simp at k_t92); omega), if_neg (by have k_t21 := hb6; (try simp at k_t21); have k_t34 := hb21; (try simp at k_t34); have k_t46 := hb72; (try simp at k_t46); have k_t61 := hb75; (try simp at k_t61); have k_t92 := hb77; (try simp at k_t92); omega), if_neg (by have k_t21 := hb6; (try simp at k_t21); have k_t34 := hb21; (try simp at k_t34); have k_t46 := hb72; (try simp at k_t46); have k_t61 := hb75; (try simp at k_t61); have k_t92 := hb77; (try simp at k_t92); omega), if_neg (by have k_t21 := hb6; (try simp at k_t21); have k_t34 := hb21; (try simp at k_t34); have k_t46 := hb72; (try simp at k_t46); have k_t61 := hb75; (try simp at k_t61); have k_t92 := hb77; (try simp at k_t92); omega), if_neg (by have k_t21 := hb6; (try simp at k_t21); have k_t34 := hb21; (try simp at k_t34); have k_t46 := hb72; (try simp at k_t46); have k_t61 := hb75; (try simp at k_t61); have k_t92 := hb77; (try simp at k_t92); omega), if_neg (by have k_t21 := hb6; (try simp at k_t21); have k_t34 := hb21; (try simp at k_t34); have k_t46 := hb72; (try simp at k_t46); have k_t61 := hb75; (try simp at k_t61); have k_t92 := hb77; (try simp at k_t92); omega)]
        rw [hr]
        rw [ls_one hok, hQ]
        have hw : wrQ k Q = Q ++ [⟨k, 0, (Q.length : Int) - 1, 0⟩] := rfl
        rw [hw, ← eN_snoc]
        refine fin2_ ?_
        (repeat' apply And.intro) <;> (first | (first | rfl | trivial | omega | (rw [hqt, List.length_append, rows_len, List.length_singleton]; omega) | (rw [hqt, List.take_of_length_le (by rw [List.length_append, rows_len]; exact Nat.le_refl _)]; done) | (left; rw [hqt, List.take_of_length_le (by rw [List.length_append, rows_len]; exact Nat.le_refl _)]; done)) | exact cl_)
 ·cases hg
end Go.Proofs.YtlbjffdaooadoaaDoor
