/- Walks, printed by wip/gen/walk.py. -/
import Derived.Test.YtjdhadbnmghdgaaT16
import Derived.Test.YtjdhadbnmghdgaaV5
set_option linter.all false
set_option maxRecDepth 100000
set_option maxHeartbeats 4000000
namespace Go.Proofs.Ytjdhadbnmghdgaa
open Go Go.Vc Go.RowKit
theorem dG_eP (P : List Post) : dG (rows eP P) = P.map vP := by rw [rows_eP, dG_rows]
theorem lbG_vP (P : List Post) (g : Bs) : lbG (P.map vP) g = lbG P g := lbG_map (fun t => D.sl (rows eI t)) P g
theorem hasG_vP (P : List Post) (g : Bs) : hasG' (P.map vP) g = hasG' P g := by unfold hasG'; rw [List.map_map]; rfl
theorem sort_vP {P : List Post} (h : SortG P) : SortG (P.map vP) := by unfold SortG at *; rw [List.pairwise_map]; exact h
theorem outC_at (P : List Post) (g : Bs) (x : Int) : outC (hasG' P g) ((lbG P g : Nat) : Int) P x = !hasT P g x := rfl
theorem delI_cand (ts : List Int) (P : List Post) (s : Bs) (k : Nat) : delI (outC (hasG' P (gr s k)) ((lbG P (gr s k) : Nat) : Int) P) (candK ts P s k) = candK ts P s (k + 1) := by
  rw [candK_succ]; unfold delI; apply List.filter_congr; intro x _; rw [outC_at, Bool.not_not]
theorem has_lt {P : List Post} {g : Bs} (hs : SortG P) (h : hasG' P g = true) : lbG P g < P.length := by obtain ⟨t, ht⟩ := has_get hs h; exact (List.getElem?_eq_some_iff.1 ht).1
def candTG : List AV → Option (Prop × AV)
  | [.agg [.d (.sl xs), .d (.sl ps)], .d (.str s)] => some (xs = rows eI (dI xs) ∧ (dI xs).length ≤ 9223372036854775807 ∧ ps = rows eP (dP ps) ∧ (dP ps).length ≤ 9223372036854775807 ∧ smallP (dP ps) ∧ s.length ≤ 9223372036854775807,
      .tup [.d (.sl (rows eI (candR (dI xs) (dP ps) s))), .agg [.d (.int .i64 (candF (dI xs) (dP ps) s).1), .d (.int .i64 (candF (dI xs) (dP ps) s).2)]])
  | _ => none

theorem candT_meets : Meets Try.prog 16 (Spec.pure candTG) := by
 refine meets_fun (E_delIF.at_ 47) Try.func16 rfl rfl rfl ?_
 intro args p r hg hp
 unfold candTG at hg
 split at hg
 ·rename_i xs ps u
  simp only [Option.some.injEq, Prod.mk.injEq] at hg
  obtain ⟨rfl, rfl⟩ := hg
  obtain ⟨he, hl, he2, hl2, hsm, hsl⟩ := hp
  generalize dI xs = l at *
  generalize dP ps = P at *
  subst he he2
  have hT : (E_delIF).X = T := rfl
  have hx0 := And.intro @rect_eP (And.intro @dI_rows (And.intro @dec_t (And.intro @dec_f @Try.results16)))
  have hx := hx0
  refine ⟨by rfl, ?_⟩
  intro F W0 hnp hmk
  refine vc_seq_k fun N1 h1 => ?_
  refine u_reg ?_
  try refine lg_mk ?_
  refine u_bx ?_
  refine u_mv ?_
  refine u_al ?_
  refine lg_nil ?_
  refine h1 _ ?_; clear h1; try clear N1
  refine vc_seq_k fun N2 h2 => ?_
  refine vc_seq_k fun N3 h3 => ?_
  have hx := And.intro @dP_rows hx0
  refine u_reg ?_
  try refine lg_mk ?_
  refine u_ld ?_
  have hc := call_rule (E := (E_delIF.at_ 47)) (f := 15) (sp := Spec.pure valTG) rfl
  have hs := @valTG.eq_1
  refine u_cp ?_
  refine u_al ?_
  refine u_st ?_
  refine lg_nil ?_
  have hx := hx0
  refine h3 _ ?_; clear h3; try clear N3
  refine vc_seq_k fun N4 h4 => ?_
  rcases valF_or l P with hvx | hvx
  ·have hz1 : (valF l P).1 = 0 := by rw [hvx]
   have hz2 : (valF l P).2 = 0 := by rw [hvx]
   have hv := val_of hz1
   have hlen20 := hv.tlen
   have hpl := hv.plen
   refine u_reg ?_
   try refine lg_mk ?_
   refine u_ld ?_
   refine u_bd ?_
   refine u_bn ?_
   refine lg_nil ?_
   refine h4 _ ?_; clear h4; try clear N4
   refine u_cond (fun hb5 => ?_) (fun hb5 => ?_)
   ·exact absurd (And.intro hz1 hz2) (by have := hb5; simpa using this)
   ·refine vc_skip ?_
    try simp only [k_rules]
    refine h2 _ ?_; clear h2; try clear N2
    refine vc_seq_k fun N6 h6 => ?_
    refine vc_seq_k fun N7 h7 => ?_
    refine u_reg ?_
    try refine lg_mk ?_
    refine u_mv ?_
    refine u_ln ?_
    refine u_bn ?_
    refine lg_nil ?_
    refine h7 _ ?_; clear h7; try clear N7
    refine u_cond (fun hb8 => ?_) (fun hb8 => ?_)
    ·refine vc_seq_k fun N9 h9 => ?_
     refine u_reg ?_
     try refine lg_mk ?_
     refine u_bd ?_
     refine u_mv ?_
     refine u_st ?_
     refine lg_nil ?_
     refine h9 _ ?_; clear h9; try clear N9
     refine vc_ret ?_
     try simp only [k_rules]
     have hr : candF l P u = (10, -1) := by unfold candF; rw [if_neg (by rw [hz1]; simp), if_pos (by have := hb8; omega)]
     have hr2 : candR l P u = [] := by unfold candR; rw [hr]; rfl
     rw [hr, hr2]
     refine fin2_ ?_
     exact cl_
    ·refine vc_skip ?_
     try simp only [k_rules]
     refine h6 _ ?_; clear h6; try clear N6
     refine vc_seq_k fun N10 h10 => ?_
     refine u_reg ?_
     try refine lg_mk ?_
     refine u_pt ?_
     refine u_ld ?_
     have hc := call_rule (E := (E_delIF.at_ 47)) (f := 36) (sp := Spec.fresh (cloneF 3)) rfl
     have hs := @cloneF.eq_1
     refine u_hg (hq := by (first | (exact ⟨of_eq_true (rect_eI l), by omega⟩) | exact sd_)) ?_
     refine u_mv ?_
     refine lg_nil ?_
     refine h10 _ ?_; clear h10; try clear N10
     refine vc_seq_k fun N11 h11 => ?_
     refine vc_seq_k fun N12 h12 => ?_
     refine u_reg ?_
     try refine lg_mk ?_
     refine u_mv ?_
     refine u_ln ?_
     refine u_bn ?_
     refine u_bn ?_
     refine u_mv ?_
     refine lg_nil ?_
     refine h12 _ ?_; clear h12; try clear N12
     refine vc_block ?_
     refine vc_loop_mk (σ := Nat) (fun s => (fun i => i ≤ u.length - 2) s)
      (fun s => (fun i => [(1, .d (.str u)), (2, .ptr 0 0 0), (5, .ptr 1 0 0), (7, .sl 2 0 (candK l P u i).length), (27, .d (.int .i64 ((u.length : Int) - 3 + 1))), (28, .d (.int .i64 (i : Nat)))]) s)
      (fun s => (fun i => [some (.one 27 [.d (.sl (rows eI l)), .d (.sl (rows eP P))]), some (.one 29 [.d (.int .i64 0), .d (.int .i64 0)]), some (.vec 3 1 (rows eI (candK l P u i)))]) s) (fun s => (fun i => u.length - i) s) hnp 0 ?_ [some 0, some 1, some 3] ?_ ?_
     ·dsimp only
      omega
     ·dsimp only
      refine ⟨by rfl, ?_, ?_⟩
      ·refine fin_ ?_
       (repeat' apply And.intro) <;> (first | (first | rfl | trivial | (rw [candK_0]; done)) | exact cl_)
      ·refine fin_ ?_
       (repeat' apply And.intro) <;> (first | (first | rfl | trivial | (rw [candK_0]; done)) | exact cl_)
     ·rintro i hinv N13 h13
      dsimp only at hinv ⊢
      have i1 := hinv
      have hcl := candK_len l P u i
      refine vc_seq_k fun N14 h14 => ?_
      refine u_reg ?_
      try refine lg_mk ?_
      refine u_bn ?_
      refine lg_nil ?_
      refine h14 _ ?_; clear h14; try clear N14
      refine vc_seq_k fun N15 h15 => ?_
      refine u_cond (fun hb16 => ?_) (fun hb16 => ?_)
      ·have hi3 : i + 3 ≤ u.length := by have := hb16; omega
       have hgr : List.take (((i : Int) + 3).toNat - i) (u.drop i) = gr u i := by unfold gr; congr 1; omega
       refine vc_skip ?_
       try simp only [k_rules]
       refine h15 _ ?_; clear h15; try clear N15
       refine vc_seq_k fun N17 h17 => ?_
       refine vc_block ?_
       refine vc_seq_k fun N18 h18 => ?_
       refine u_reg ?_
       try refine lg_mk ?_
       refine u_mv ?_
       refine u_mv ?_
       refine lg_nil ?_
       refine h18 _ ?_; clear h18; try clear N18
       refine vc_seq_k fun N19 h19 => ?_
       have hx := And.intro @hgr (And.intro @dG_eP (And.intro @lbG_vP (And.intro @hasG_vP hx0)))
       refine vc_regT [] (.seq [0, 1, 2, 3, 4, 5] (.alt 6 (.seq [7, 8, 9] (.alt 10 (.seq [11, 12, 13] .nil) (.alt 11 (.seq [10, 12, 13] .nil) .nil))) (.alt 10 (.alt 6 (.seq [7, 8, 9, 11, 12, 13] .nil) (.alt 11 (.seq [6, 7, 8, 9, 12, 13] .nil) .nil)) (.alt 11 (.alt 6 (.seq [7, 8, 9, 10, 12, 13] .nil) (.alt 10 (.seq [6, 7, 8, 9, 12, 13] .nil) .nil)) .nil)))) hmix (by kernel_rfl) ?_
       refine at_seq ?_
       simp only [pick_rules, list_rules]
       try refine lg_mk ?_
       refine u_ld ?_
       refine u_mv ?_
       refine u_mv ?_
       refine u_mv ?_
       refine u_bn ?_
       refine u_sl ?_
       refine lg_nil ?_
       refine at_alt ?_ ?_
       ·simp only [pick_rules, list_rules]
        try refine lg_mk ?_
        have hc := call_rule (E := (E_delIF.at_ 47)) (f := 37) (sp := Spec.pure findG) rfl
        have hs := @findG.eq_1
        refine u_cp (hq := by (first | (exact ⟨rows_eP P, sort_vP hv.good.sort, by rw [List.length_map]; omega⟩) | exact sd_)) ?_
        refine lg_nil ?_
        refine at_seq ?_
        simp only [pick_rules, list_rules]
        try refine lg_mk ?_
        refine u_mv ?_
        refine u_ex ?_
        refine u_ex ?_
        refine lg_nil ?_
        refine at_alt ?_ ?_
        ·simp only [pick_rules, list_rules]
         try refine lg_mk ?_
         refine u_al ?_
         refine lg_nil ?_
         refine at_seq ?_
         simp only [pick_rules, list_rules]
         try refine lg_mk ?_
         refine u_al ?_
         refine u_st ?_
         refine u_st ?_
         refine lg_nil ?_
         refine at_nil ?_
         have hx := hx0
         refine h19 _ ?_; clear h19; try clear N19
         have hx := And.intro @dP_rows (And.intro @delI_cand hx0)
         refine u_reg ?_
         try refine lg_mk ?_
         refine u_mv ?_
         refine u_mf ?_
         have hc := call_rule (E := (E_delIF.at_ 47)) (f := 38) (sp := Spec.gen delIG) rfl
         have hs := And.intro @delIG.eq_1 @delIG.eq_2
         refine u_hg (hq := by (first | (exact ⟨by omega, hsm, fun hb => ⟨by omega, by have := has_lt hv.good.sort hb; omega⟩⟩) | exact sd_)) ?_
         refine u_mv ?_
         refine lg_nil ?_
         have hx := hx0
         refine h17 _ ?_; clear h17; try clear N17
         refine u_reg ?_
         try refine lg_mk ?_
         refine u_bn ?_
         refine u_mv ?_
         refine lg_nil ?_
         refine h13 _ ⟨i + 1, ?_, ?_, [some 0, some 1, some 2], ?_⟩
         ·dsimp only
          omega
         ·dsimp only
          omega
         ·dsimp only
          refine ⟨by rfl, ?_, ?_⟩
          ·refine fin_ ?_
           exact cl_
          ·refine fin_ ?_
           exact cl_
        refine at_alt ?_ ?_
        ·simp only [pick_rules, list_rules]
         try refine lg_mk ?_
         refine u_al ?_
         refine lg_nil ?_
         refine at_seq ?_
         simp only [pick_rules, list_rules]
         try refine lg_mk ?_
         refine u_al ?_
         refine u_st ?_
         refine u_st ?_
         refine lg_nil ?_
         refine at_nil ?_
         have hx := hx0
         refine h19 _ ?_; clear h19; try clear N19
         have hx := And.intro @dP_rows (And.intro @delI_cand hx0)
         refine u_reg ?_
         try refine lg_mk ?_
         refine u_mv ?_
         refine u_mf ?_
         have hc := call_rule (E := (E_delIF.at_ 47)) (f := 38) (sp := Spec.gen delIG) rfl
         have hs := And.intro @delIG.eq_1 @delIG.eq_2
         refine u_hg (hq := by (first | (exact ⟨by omega, hsm, fun hb => ⟨by omega, by have := has_lt hv.good.sort hb; omega⟩⟩) | exact sd_)) ?_
         refine u_mv ?_
         refine lg_nil ?_
         have hx := hx0
         refine h17 _ ?_; clear h17; try clear N17
         refine u_reg ?_
         try refine lg_mk ?_
         refine u_bn ?_
         refine u_mv ?_
         refine lg_nil ?_
         refine h13 _ ⟨i + 1, ?_, ?_, [some 0, some 1, some 2], ?_⟩
         ·dsimp only
          omega
         ·dsimp only
          omega
         ·dsimp only
          refine ⟨by rfl, ?_, ?_⟩
          ·refine fin_ ?_
           exact cl_
          ·refine fin_ ?_
           exact cl_
        exact at_end
       refine at_alt ?_ ?_
       ·simp only [pick_rules, list_rules]
        try refine lg_mk ?_
        refine u_al ?_
        refine lg_nil ?_
        refine at_alt ?_ ?_
        ·simp only [pick_rules, list_rules]
         try refine lg_mk ?_
         have hc := call_rule (E := (E_delIF.at_ 47)) (f := 37) (sp := Spec.pure findG) rfl
         have hs := @findG.eq_1
         refine u_cp (hq := by (first | (exact ⟨rows_eP P, sort_vP hv.good.sort, by rw [List.length_map]; omega⟩) | exact sd_)) ?_
         refine lg_nil ?_
         refine at_seq ?_
         simp only [pick_rules, list_rules]
         try refine lg_mk ?_
         refine u_mv ?_
         refine u_ex ?_
         refine u_ex ?_
         refine u_al ?_
         refine u_st ?_
         refine u_st ?_
         refine lg_nil ?_
         refine at_nil ?_
         have hx := hx0
         refine h19 _ ?_; clear h19; try clear N19
         have hx := And.intro @dP_rows (And.intro @delI_cand hx0)
         refine u_reg ?_
         try refine lg_mk ?_
         refine u_mv ?_
         refine u_mf ?_
         have hc := call_rule (E := (E_delIF.at_ 47)) (f := 38) (sp := Spec.gen delIG) rfl
         have hs := And.intro @delIG.eq_1 @delIG.eq_2
         refine u_hg (hq := by (first | (exact ⟨by omega, hsm, fun hb => ⟨by omega, by have := has_lt hv.good.sort hb; omega⟩⟩) | exact sd_)) ?_
         refine u_mv ?_
         refine lg_nil ?_
         have hx := hx0
         refine h17 _ ?_; clear h17; try clear N17
         refine u_reg ?_
         try refine lg_mk ?_
         refine u_bn ?_
         refine u_mv ?_
         refine lg_nil ?_
         refine h13 _ ⟨i + 1, ?_, ?_, [some 0, some 1, some 2], ?_⟩
         ·dsimp only
          omega
         ·dsimp only
          omega
         ·dsimp only
          refine ⟨by rfl, ?_, ?_⟩
          ·refine fin_ ?_
           exact cl_
          ·refine fin_ ?_
           exact cl_
        refine at_alt ?_ ?_
        ·simp only [pick_rules, list_rules]
         try refine lg_mk ?_
         refine u_al ?_
         refine lg_nil ?_
         refine at_seq ?_
         simp only [pick_rules, list_rules]
         try refine lg_mk ?_
         have hc := call_rule (E := (E_delIF.at_ 47)) (f := 37) (sp := Spec.pure findG) rfl
         have hs := @findG.eq_1
         refine u_cp (hq := by (first | (exact ⟨rows_eP P, sort_vP hv.good.sort, by rw [List.length_map]; omega⟩) | exact sd_)) ?_
         refine u_mv ?_
         refine u_ex ?_
         refine u_ex ?_
         refine u_st ?_
         refine u_st ?_
         refine lg_nil ?_
         refine at_nil ?_
         have hx := hx0
         refine h19 _ ?_; clear h19; try clear N19
         have hx := And.intro @dP_rows (And.intro @delI_cand hx0)
         refine u_reg ?_
         try refine lg_mk ?_
         refine u_mv ?_
         refine u_mf ?_
         have hc := call_rule (E := (E_delIF.at_ 47)) (f := 38) (sp := Spec.gen delIG) rfl
         have hs := And.intro @delIG.eq_1 @delIG.eq_2
         refine u_hg (hq := by (first | (exact ⟨by omega, hsm, fun hb => ⟨by omega, by have := has_lt hv.good.sort hb; omega⟩⟩) | exact sd_)) ?_
         refine u_mv ?_
         refine lg_nil ?_
         have hx := hx0
         refine h17 _ ?_; clear h17; try clear N17
         refine u_reg ?_
         try refine lg_mk ?_
         refine u_bn ?_
         refine u_mv ?_
         refine lg_nil ?_
         refine h13 _ ⟨i + 1, ?_, ?_, [some 0, some 1, some 2], ?_⟩
         ·dsimp only
          omega
         ·dsimp only
          omega
         ·dsimp only
          refine ⟨by rfl, ?_, ?_⟩
          ·refine fin_ ?_
           exact cl_
          ·refine fin_ ?_
           exact cl_
        exact at_end
       refine at_alt ?_ ?_
       ·simp only [pick_rules, list_rules]
        try refine lg_mk ?_
        refine u_al ?_
        refine lg_nil ?_
        refine at_alt ?_ ?_
        ·simp only [pick_rules, list_rules]
         try refine lg_mk ?_
         have hc := call_rule (E := (E_delIF.at_ 47)) (f := 37) (sp := Spec.pure findG) rfl
         have hs := @findG.eq_1
         refine u_cp (hq := by (first | (exact ⟨rows_eP P, sort_vP hv.good.sort, by rw [List.length_map]; omega⟩) | exact sd_)) ?_
         refine lg_nil ?_
         refine at_seq ?_
         simp only [pick_rules, list_rules]
         try refine lg_mk ?_
         refine u_mv ?_
         refine u_ex ?_
         refine u_ex ?_
         refine u_al ?_
         refine u_st ?_
         refine u_st ?_
         refine lg_nil ?_
         refine at_nil ?_
         have hx := hx0
         refine h19 _ ?_; clear h19; try clear N19
         have hx := And.intro @dP_rows (And.intro @delI_cand hx0)
         refine u_reg ?_
         try refine lg_mk ?_
         refine u_mv ?_
         refine u_mf ?_
         have hc := call_rule (E := (E_delIF.at_ 47)) (f := 38) (sp := Spec.gen delIG) rfl
         have hs := And.intro @delIG.eq_1 @delIG.eq_2
         refine u_hg (hq := by (first | (exact ⟨by omega, hsm, fun hb => ⟨by omega, by have := has_lt hv.good.sort hb; omega⟩⟩) | exact sd_)) ?_
         refine u_mv ?_
         refine lg_nil ?_
         have hx := hx0
         refine h17 _ ?_; clear h17; try clear N17
         refine u_reg ?_
         try refine lg_mk ?_
         refine u_bn ?_
         refine u_mv ?_
         refine lg_nil ?_
         refine h13 _ ⟨i + 1, ?_, ?_, [some 0, some 1, some 2], ?_⟩
         ·dsimp only
          omega
         ·dsimp only
          omega
         ·dsimp only
          refine ⟨by rfl, ?_, ?_⟩
          ·refine fin_ ?_
           exact cl_
          ·refine fin_ ?_
           exact cl_
        refine at_alt ?_ ?_
        ·simp only [pick_rules, list_rules]
         try refine lg_mk ?_
         refine u_al ?_
         refine lg_nil ?_
         refine at_seq ?_
         simp only [pick_rules, list_rules]
         try refine lg_mk ?_
         have hc := call_rule (E := (E_delIF.at_ 47)) (f := 37) (sp := Spec.pure findG) rfl
         have hs := @findG.eq_1
         refine u_cp (hq := by (first | (exact ⟨rows_eP P, sort_vP hv.good.sort, by rw [List.length_map]; omega⟩) | exact sd_)) ?_
         refine u_mv ?_
         refine u_ex ?_
         refine u_ex ?_
         refine u_st ?_
         refine u_st ?_
         refine lg_nil ?_
         refine at_nil ?_
         have hx := hx0
         refine h19 _ ?_; clear h19; try clear N19
         have hx := And.intro @dP_rows (And.intro @delI_cand hx0)
         refine u_reg ?_
         try refine lg_mk ?_
         refine u_mv ?_
         refine u_mf ?_
         have hc := call_rule (E := (E_delIF.at_ 47)) (f := 38) (sp := Spec.gen delIG) rfl
         have hs := And.intro @delIG.eq_1 @delIG.eq_2
         refine u_hg (hq := by (first | (exact ⟨by omega, hsm, fun hb => ⟨by omega, by have := has_lt hv.good.sort hb; omega⟩⟩) | exact sd_)) ?_
         refine u_mv ?_
         refine lg_nil ?_
         have hx := hx0
         refine h17 _ ?_; clear h17; try clear N17
         refine u_reg ?_
         try refine lg_mk ?_
         refine u_bn ?_
         refine u_mv ?_
         refine lg_nil ?_
         refine h13 _ ⟨i + 1, ?_, ?_, [some 0, some 1, some 2], ?_⟩
         ·dsimp only
          omega
         ·dsimp only
          omega
         ·dsimp only
          refine ⟨by rfl, ?_, ?_⟩
          ·refine fin_ ?_
           exact cl_
          ·refine fin_ ?_
           exact cl_
        exact at_end
       exact at_end
      ·have hie : i = u.length - 2 := by have := hb16; omega
       subst hie
       refine vc_exit ?_
       simp only [k_rules, Nat.reduceEqDiff, reduceIte, eq_self]
       refine h11 _ ?_; clear h11; try clear N11
       refine vc_seq_k fun N20 h20 => ?_
       refine u_reg ?_
       try refine lg_mk ?_
       refine u_mv ?_
       refine u_bd ?_
       refine u_mv ?_
       refine u_st ?_
       refine lg_nil ?_
       refine h20 _ ?_; clear h20; try clear N20
       refine vc_ret ?_
       try simp only [k_rules]
       have hr : candF l P u = (0, 0) := by unfold candF; rw [if_neg (by rw [hz1]; simp), if_neg (by have := hb8; omega)]
       have hr2 : candR l P u = candK l P u (u.length - 2) := by unfold candR; rw [hr]; rfl
       rw [hr, hr2]
       refine fin2_ ?_
       (repeat' apply And.intro) <;> (first | (first | rfl | exact Or.inl rfl | exact Or.inr rfl | trivial | (simp; done) | (rw [List.drop_zero, rows_take, List.take_length]; done)) | exact cl_)
  ·have hz1 := hvx
   have hz2 := hvx
   refine u_reg ?_
   try refine lg_mk ?_
   refine u_ld ?_
   refine u_bd ?_
   refine u_bn ?_
   refine lg_nil ?_
   refine h4 _ ?_; clear h4; try clear N4
   refine u_cond (fun hb21 => ?_) (fun hb21 => ?_)
   ·refine vc_seq_k fun N22 h22 => ?_
    refine u_reg ?_
    try refine lg_mk ?_
    refine u_ld ?_
    refine u_mv ?_
    refine u_st ?_
    refine lg_nil ?_
    refine h22 _ ?_; clear h22; try clear N22
    refine vc_ret ?_
    try simp only [k_rules]
    have hr : candF l P u = valF l P := by unfold candF; rw [if_pos hz1]
    have hr2 : candR l P u = [] := by unfold candR; rw [hr, if_pos hz1]
    rw [hr, hr2]
    refine fin2_ ?_
    exact cl_
   ·exact absurd (show (valF l P).1 = 0 by have := hb21; first | exact this.1 | exact (Classical.not_not.1 this).1 | (simp at this; exact this.1)) hz1
 ·cases hg

def E_candT : Env Try.prog := E_delIF.add 16 (Spec.pure candTG) candT_meets (by kernel_rfl)
end Go.Proofs.Ytjdhadbnmghdgaa
