/- Walks, printed by wip/gen/walk.py. -/
import Derived.Test.YtgnahopdiljikaaT27
import Derived.Test.YtgnahopdiljikaaV5
set_option linter.all false
set_option maxRecDepth 100000
set_option maxHeartbeats 4000000
namespace Go.Proofs.Ytgnahopdiljikaa
open Go Go.Vc Go.RowKit
theorem lawRc_meets : Meets Try.prog 8 (Spec.pure lawFWG) := by
 refine meets_fun (E_exP.at_ 96) Try.func8 rfl rfl rfl ?_
 intro args p r hg hp
 unfold lawFWG at hg
 split at hg
 ·rename_i xs n rs
  simp only [Option.some.injEq, Prod.mk.injEq] at hg
  obtain ⟨rfl, rfl⟩ := hg
  obtain ⟨he, hl, hsm, hnn, he2, hrl⟩ := hp
  generalize dO xs = S at *
  generalize dI rs = R at *
  subst he he2
  have hT : (E_exP).X = T := rfl
  have hx0 := And.intro @rect_eO (And.intro @dI_rows (And.intro @dU_rows (And.intro @dO_rows (And.intro @dB_rows (And.intro @dec_t (And.intro @dec_f (And.intro @takeI_len (And.intro @eI_snoc @Try.results8))))))))
  have hx := hx0
  refine ⟨by rfl, ?_⟩
  intro F W0 hnp hmk
  refine vc_seq_k fun N1 h1 => ?_
  refine u_reg ?_
  try refine lg_mk ?_
  refine u_bx ?_
  refine u_mv ?_
  refine lg_nil ?_
  refine h1 _ ?_; clear h1; try clear N1
  refine vc_seq_k fun N2 h2 => ?_
  refine vc_seq_k fun N3 h3 => ?_
  refine u_reg ?_
  try refine lg_mk ?_
  have hc := call_rule (E := (E_exP.at_ 96)) (f := 9) (sp := Spec.pure exG) rfl
  have hs := @exG.eq_1
  refine u_cp ?_
  refine u_un ?_
  refine lg_nil ?_
  refine h3 _ ?_; clear h3; try clear N3
  refine u_cond (fun hb4 => ?_) (fun hb4 => ?_)
  ·first | omega | exact absurd trivial hb4 | contradiction | (simp_all; done)
  ·refine vc_skip ?_
   try simp only [k_rules]
   refine h2 _ ?_; clear h2; try clear N2
   refine vc_seq_k fun N5 h5 => ?_
   rcases reach_or S n R with hcs | hcs | hcs | hcs
   ·obtain ⟨p1, p3, p4⟩ := hcs
    have hx0 := And.intro @p1 (And.intro @p3 (And.intro @p4 (hx0)))
    have hx := hx0
    refine u_reg ?_
    try refine lg_mk ?_
    refine u_ld ?_
    refine u_mv ?_
    have hc := call_rule (E := (E_exP.at_ 96)) (f := 10) (sp := Spec.pure filG) rfl
    have hs := @filG.eq_1
    refine u_hp (hq := by (first | (exact ⟨hl, hsm⟩) | exact sd_)) ?_
    refine u_mv ?_
    refine u_ex ?_
    refine u_ex ?_
    refine u_ex ?_
    refine u_al ?_
    refine u_al ?_
    refine u_st ?_
    refine u_mv ?_
    refine u_st ?_
    refine lg_nil ?_
    refine h5 _ ?_; clear h5; try clear N5
    refine vc_seq_k fun N6 h6 => ?_
    refine vc_seq_k fun N7 h7 => ?_
    refine u_reg ?_
    try refine lg_mk ?_
    refine u_pt ?_
    refine u_ld ?_
    refine u_bn ?_
    refine u_mv ?_
    refine g_mv ?_
    refine g_ln ?_
    refine g_bn ?_
    refine u_pk ?_
    refine lg_nil ?_
    refine h7 _ ?_; clear h7; try clear N7
    refine u_cond (fun hb8 => ?_) (fun hb8 => ?_)
    ·refine vc_seq_k fun N9 h9 => ?_
     refine u_reg ?_
     try refine lg_mk ?_
     refine u_pt ?_
     refine u_ld ?_
     refine u_bn ?_
     refine u_mv ?_
     refine g_pt ?_
     refine g_ld ?_
     refine g_ln ?_
     refine g_mv ?_
     refine g_ln ?_
     refine g_bn ?_
     refine g_bn ?_
     refine u_pk ?_
     refine u_mv ?_
     refine lg_nil ?_
     refine h9 _ ?_; clear h9; try clear N9
     refine vc_ret ?_
     try simp only [k_rules]
     refine fin2_ ?_
     (repeat' apply And.intro) <;> (first | (first | rfl | (simp; done) | (simp [*]; done) | (left; rfl)) | exact cl_)
    ·first | omega | exact absurd trivial hb8 | contradiction | (simp_all; done)
   ·obtain ⟨p2, hv, p3, p4, h40⟩ := hcs
    have p6 : ((40 : Int) < (R.length : Int)) = True := eq_true (by omega)
    have hx0 := And.intro @p2 (And.intro @p3 (And.intro @p4 (And.intro @p6 (hx0))))
    have hx := hx0
    refine u_reg ?_
    try refine lg_mk ?_
    refine u_ld ?_
    refine u_mv ?_
    have hc := call_rule (E := (E_exP.at_ 96)) (f := 10) (sp := Spec.pure filG) rfl
    have hs := @filG.eq_1
    refine u_hp (hq := by (first | (exact ⟨hl, hsm⟩) | exact sd_)) ?_
    refine u_mv ?_
    refine u_ex ?_
    refine u_ex ?_
    refine u_ex ?_
    refine u_al ?_
    refine u_al ?_
    refine u_st ?_
    refine u_mv ?_
    refine u_st ?_
    refine lg_nil ?_
    refine h5 _ ?_; clear h5; try clear N5
    refine vc_seq_k fun N10 h10 => ?_
    refine vc_seq_k fun N11 h11 => ?_
    refine u_reg ?_
    try refine lg_mk ?_
    refine u_pt ?_
    refine u_ld ?_
    refine u_bn ?_
    refine u_mv ?_
    refine g_mv ?_
    refine g_ln ?_
    refine g_bn ?_
    refine u_pk ?_
    refine lg_nil ?_
    refine h11 _ ?_; clear h11; try clear N11
    refine u_cond (fun hb12 => ?_) (fun hb12 => ?_)
    ·refine vc_seq_k fun N13 h13 => ?_
     refine u_reg ?_
     try refine lg_mk ?_
     refine u_pt ?_
     refine u_ld ?_
     refine u_bn ?_
     refine u_mv ?_
     refine g_pt ?_
     refine g_ld ?_
     refine g_ln ?_
     refine g_mv ?_
     refine g_ln ?_
     refine g_bn ?_
     refine g_bn ?_
     refine u_pk ?_
     refine u_mv ?_
     refine lg_nil ?_
     refine h13 _ ?_; clear h13; try clear N13
     refine vc_ret ?_
     try simp only [k_rules]
     refine fin2_ ?_
     (repeat' apply And.intro) <;> (first | (first | rfl | (simp; done) | (simp [*]; done) | (left; rfl)) | exact cl_)
    ·first | omega | exact absurd trivial hb12 | contradiction | (simp_all; done)
   ·obtain ⟨p2, hv, p3, p4, h40, p5, p7, p8⟩ := hcs
    have hlen := hv.len
    have hpt := part_len S n
    have hsT : smallS (sml S n) := small_filter hsm _
    have p6 : ((40 : Int) < (R.length : Int)) = False := eq_false (by omega)
    have hx0 := And.intro @p2 (And.intro @p3 (And.intro @p4 (And.intro @p5 (And.intro @p6 (And.intro @p7 (And.intro @p8 (hx0)))))))
    have hx := hx0
    refine u_reg ?_
    try refine lg_mk ?_
    refine u_ld ?_
    refine u_mv ?_
    have hc := call_rule (E := (E_exP.at_ 96)) (f := 10) (sp := Spec.pure filG) rfl
    have hs := @filG.eq_1
    refine u_hp (hq := by (first | (exact ⟨hl, hsm⟩) | exact sd_)) ?_
    refine u_mv ?_
    refine u_ex ?_
    refine u_ex ?_
    refine u_ex ?_
    refine u_al ?_
    refine u_al ?_
    refine u_st ?_
    refine u_mv ?_
    refine u_st ?_
    refine lg_nil ?_
    refine h5 _ ?_; clear h5; try clear N5
    refine vc_seq_k fun N14 h14 => ?_
    refine vc_seq_k fun N15 h15 => ?_
    refine u_reg ?_
    try refine lg_mk ?_
    refine u_pt ?_
    refine u_ld ?_
    refine u_bn ?_
    refine u_mv ?_
    refine g_mv ?_
    refine g_ln ?_
    refine g_bn ?_
    refine u_pk ?_
    refine lg_nil ?_
    refine h15 _ ?_; clear h15; try clear N15
    refine u_cond (fun hb16 => ?_) (fun hb16 => ?_)
    ·first | omega | exact absurd trivial hb16 | contradiction | (simp_all; done)
    ·refine vc_skip ?_
     try simp only [k_rules]
     refine h14 _ ?_; clear h14; try clear N14
     refine vc_seq_k fun N17 h17 => ?_
     refine u_reg ?_
     try refine lg_mk ?_
     refine u_ld ?_
     refine u_mv ?_
     refine u_mv ?_
     have hc := call_rule (E := (E_exP.at_ 96)) (f := 18) (sp := Spec.pure needG) rfl
     have hs := @needG.eq_1
     refine u_hp (hq := by (first | ((repeat' apply And.intro) <;> first | assumption | omega) | exact sd_)) ?_
     refine u_mv ?_
     refine u_ex ?_
     refine u_ex ?_
     refine u_al ?_
     refine u_mv ?_
     refine u_st ?_
     refine lg_nil ?_
     refine h17 _ ?_; clear h17; try clear N17
     refine vc_seq_k fun N18 h18 => ?_
     refine u_reg ?_
     try refine lg_mk ?_
     refine u_ld ?_
     refine u_mv ?_
     have hc := call_rule (E := (E_exP.at_ 96)) (f := 23) (sp := Spec.pure markG) rfl
     have hs := @markG.eq_1
     refine u_hp (hq := by (first | ((repeat' apply And.intro) <;> first | assumption | omega) | exact sd_)) ?_
     refine u_mv ?_
     refine u_ex ?_
     refine u_ex ?_
     refine u_al ?_
     refine u_mv ?_
     refine u_st ?_
     refine lg_nil ?_
     refine h18 _ ?_; clear h18; try clear N18
     refine vc_seq_k fun N19 h19 => ?_
     refine vc_seq_k fun N20 h20 => ?_
     refine u_reg ?_
     try refine lg_mk ?_
     refine u_pt ?_
     refine u_ld ?_
     refine u_bn ?_
     refine u_mv ?_
     refine g_pt ?_
     refine g_ld ?_
     refine g_bn ?_
     refine u_pk ?_
     refine lg_nil ?_
     refine h20 _ ?_; clear h20; try clear N20
     refine u_cond (fun hb21 => ?_) (fun hb21 => ?_)
     ·refine vc_seq_k fun N22 h22 => ?_
      refine u_reg ?_
      try refine lg_mk ?_
      refine u_pt ?_
      refine u_ld ?_
      refine u_bn ?_
      refine u_mv ?_
      refine g_mv ?_
      refine g_ln ?_
      refine g_bn ?_
      refine u_pk ?_
      refine u_mv ?_
      refine lg_nil ?_
      refine h22 _ ?_; clear h22; try clear N22
      refine vc_ret ?_
      try simp only [k_rules]
      refine fin2_ ?_
      (repeat' apply And.intro) <;> (first | (first | rfl | (simp; done) | (simp [*]; done) | (left; rfl)) | exact cl_)
     ·first | omega | exact absurd trivial hb21 | contradiction | (simp_all; done)
   ·obtain ⟨p2, hv, p3, p4, h40, p5, ⟨M, hM40, p9, p7⟩, p8⟩ := hcs
    have hlen := hv.len
    have hpt := part_len S n
    have hsT : smallS (sml S n) := small_filter hsm _
    have p6 : ((40 : Int) < (R.length : Int)) = False := eq_false (by omega)
    have hx0 := And.intro @p2 (And.intro @p3 (And.intro @p4 (And.intro @p5 (And.intro @p6 (And.intro @p7 (And.intro @p8 (And.intro @p9 (hx0))))))))
    have hx := hx0
    refine u_reg ?_
    try refine lg_mk ?_
    refine u_ld ?_
    refine u_mv ?_
    have hc := call_rule (E := (E_exP.at_ 96)) (f := 10) (sp := Spec.pure filG) rfl
    have hs := @filG.eq_1
    refine u_hp (hq := by (first | (exact ⟨hl, hsm⟩) | exact sd_)) ?_
    refine u_mv ?_
    refine u_ex ?_
    refine u_ex ?_
    refine u_ex ?_
    refine u_al ?_
    refine u_al ?_
    refine u_st ?_
    refine u_mv ?_
    refine u_st ?_
    refine lg_nil ?_
    refine h5 _ ?_; clear h5; try clear N5
    refine vc_seq_k fun N23 h23 => ?_
    refine vc_seq_k fun N24 h24 => ?_
    refine u_reg ?_
    try refine lg_mk ?_
    refine u_pt ?_
    refine u_ld ?_
    refine u_bn ?_
    refine u_mv ?_
    refine g_mv ?_
    refine g_ln ?_
    refine g_bn ?_
    refine u_pk ?_
    refine lg_nil ?_
    refine h24 _ ?_; clear h24; try clear N24
    refine u_cond (fun hb25 => ?_) (fun hb25 => ?_)
    ·first | omega | exact absurd trivial hb25 | contradiction | (simp_all; done)
    ·refine vc_skip ?_
     try simp only [k_rules]
     refine h23 _ ?_; clear h23; try clear N23
     refine vc_seq_k fun N26 h26 => ?_
     refine u_reg ?_
     try refine lg_mk ?_
     refine u_ld ?_
     refine u_mv ?_
     refine u_mv ?_
     have hc := call_rule (E := (E_exP.at_ 96)) (f := 18) (sp := Spec.pure needG) rfl
     have hs := @needG.eq_1
     refine u_hp (hq := by (first | ((repeat' apply And.intro) <;> first | assumption | omega) | exact sd_)) ?_
     refine u_mv ?_
     refine u_ex ?_
     refine u_ex ?_
     refine u_al ?_
     refine u_mv ?_
     refine u_st ?_
     refine lg_nil ?_
     refine h26 _ ?_; clear h26; try clear N26
     refine vc_seq_k fun N27 h27 => ?_
     refine u_reg ?_
     try refine lg_mk ?_
     refine u_ld ?_
     refine u_mv ?_
     have hc := call_rule (E := (E_exP.at_ 96)) (f := 23) (sp := Spec.pure markG) rfl
     have hs := @markG.eq_1
     refine u_hp (hq := by (first | ((repeat' apply And.intro) <;> first | assumption | omega) | exact sd_)) ?_
     refine u_mv ?_
     refine u_ex ?_
     refine u_ex ?_
     refine u_al ?_
     refine u_mv ?_
     refine u_st ?_
     refine lg_nil ?_
     refine h27 _ ?_; clear h27; try clear N27
     refine vc_seq_k fun N28 h28 => ?_
     refine vc_seq_k fun N29 h29 => ?_
     refine u_reg ?_
     try refine lg_mk ?_
     refine u_pt ?_
     refine u_ld ?_
     refine u_bn ?_
     refine u_mv ?_
     refine g_pt ?_
     refine g_ld ?_
     refine g_bn ?_
     refine u_pk ?_
     refine lg_nil ?_
     refine h29 _ ?_; clear h29; try clear N29
     refine u_cond (fun hb30 => ?_) (fun hb30 => ?_)
     ·first | omega | exact absurd trivial hb30 | contradiction | (simp_all; done)
     ·refine vc_skip ?_
      try simp only [k_rules]
      refine h28 _ ?_; clear h28; try clear N28
      refine vc_seq_k fun N31 h31 => ?_
      refine u_reg ?_
      try refine lg_mk ?_
      refine u_mv ?_
      refine lg_nil ?_
      refine h31 _ ?_; clear h31; try clear N31
      refine vc_seq_k fun N32 h32 => ?_
      refine vc_seq_k fun N33 h33 => ?_
      refine u_reg ?_
      try refine lg_mk ?_
      refine u_mv ?_
      refine lg_nil ?_
      refine h33 _ ?_; clear h33; try clear N33
      refine vc_block ?_
      refine vc_loop_mk (σ := Nat) (fun s => (fun i => i ≤ M.length) s)
       (fun s => (fun i => [(1, .d (.int .i64 n)), (2, .d (.sl (rows eI R))), (3, .ptr 0 0 0), (7, .ptr 1 0 0), (8, .d (.sl (rows eI (bgs S n)))), (9, .ptr 2 0 0), (10, .d (.sl (rows eI (M.filter fun x => decide (x ∈ bgs S n))))), (12, .d (.sl (rows eI M))), (14, .sl 3 0 ((M.take i).filter fun x => decide (x ∈ bgs S n)).length), (15, .d (.int .i64 (i : Nat)))]) s)
       (fun s => (fun i => [some (.one 24 [.d (.sl (rows eO S))]), some (.one 24 [.d (.sl (rows eO (sml S n)))]), some (.one 28 [.d (.int .i64 0), .d (.int .i64 0)]), some (.vec 3 1 (rows eI ((M.take i).filter fun x => decide (x ∈ bgs S n))))]) s) (fun s => (fun i => M.length - i) s) hnp 0 ?_ [some 0, some 1, some 2, none] ?_ ?_
      ·dsimp only
       omega
      ·dsimp only
       refine ⟨by rfl, ?_, ?_⟩
       ·refine fin_ ?_
        exact cl_
       ·refine fin_ ?_
        exact cl_
      ·rintro i hinv N34 h34
       dsimp only at hinv ⊢
       have i1 := hinv
       refine vc_seq_k fun N35 h35 => ?_
       refine vc_seq_k fun N36 h36 => ?_
       refine u_reg ?_
       try refine lg_mk ?_
       refine u_mv ?_
       refine u_mv ?_
       refine u_ln ?_
       refine u_bn ?_
       refine lg_nil ?_
       refine h36 _ ?_; clear h36; try clear N36
       refine u_cond (fun hb37 => ?_) (fun hb37 => ?_)
       ·obtain ⟨z, hze⟩ := getE (l := M) (i := i) (by omega)
        have hqs := filter_snoc hze (fun x => decide (x ∈ bgs S n))
        have hql : ((M.take i).filter fun x => decide (x ∈ bgs S n)).length ≤ i := Nat.le_trans (List.length_filter_le ..) (by rw [List.length_take]; omega)
        refine vc_skip ?_
        try simp only [k_rules]
        refine h35 _ ?_; clear h35; try clear N35
        refine vc_seq_k fun N38 h38 => ?_
        refine vc_block ?_
        refine vc_seq_k fun N39 h39 => ?_
        have hx := And.intro @hze (And.intro @eI.eq_1 hx0)
        refine u_reg ?_
        try refine lg_mk ?_
        refine u_mv ?_
        refine u_mv ?_
        refine u_mv ?_
        refine u_pt ?_
        refine u_ld ?_
        have hc := call_rule (E := (E_exP.at_ 96)) (f := 24) (sp := Spec.pure hasG) rfl
        have hs := @hasG.eq_1
        refine u_cp ?_
        refine lg_nil ?_
        have hx := hx0
        refine h39 _ ?_; clear h39; try clear N39
        refine u_cond (fun hb40 => ?_) (fun hb40 => ?_)
        ·have hx := And.intro @hze (And.intro @eI.eq_1 hx0)
         refine u_reg ?_
         try refine lg_mk ?_
         refine u_mv ?_
         refine u_mv ?_
         refine u_mv ?_
         refine u_pt ?_
         refine u_ld ?_
         refine u_bs ?_
         refine u_ap ?_
         refine u_mv ?_
         refine lg_nil ?_
         have hx := hx0
         refine h38 _ ?_; clear h38; try clear N38
         refine u_reg ?_
         try refine lg_mk ?_
         refine u_mv ?_
         refine u_bn ?_
         refine u_mv ?_
         refine lg_nil ?_
         have hzw : decide (z ∈ bgs S n) = true := by have := hb40; simpa using this
         rw [if_pos hzw] at hqs
         refine h34 _ ⟨i + 1, ?_, ?_, [some 0, some 1, some 2, some 5], ?_⟩
         ·dsimp only
          omega
         ·dsimp only
          omega
         ·dsimp only
          refine ⟨by rfl, ?_, ?_⟩
          ·refine fin_ ?_
           (repeat' apply And.intro) <;> (first | (first | rfl | trivial | omega | (rw [hqs]; done) | (rw [hqs]; simp; done)) | exact cl_)
          ·refine fin_ ?_
           (repeat' apply And.intro) <;> (first | (first | rfl | trivial | omega | (rw [hqs]; done) | (rw [hqs]; simp; done)) | exact cl_)
        ·refine vc_skip ?_
         try simp only [k_rules]
         refine h38 _ ?_; clear h38; try clear N38
         refine u_reg ?_
         try refine lg_mk ?_
         refine u_mv ?_
         refine u_bn ?_
         refine u_mv ?_
         refine lg_nil ?_
         have hzw : ¬ (decide (z ∈ bgs S n) = true) := by have := hb40; simpa using this
         rw [if_neg hzw, List.append_nil] at hqs
         refine h34 _ ⟨i + 1, ?_, ?_, [some 0, some 1, some 2, some 3], ?_⟩
         ·dsimp only
          omega
         ·dsimp only
          omega
         ·dsimp only
          refine ⟨by rfl, ?_, ?_⟩
          ·refine fin_ ?_
           (repeat' apply And.intro) <;> (first | (first | rfl | trivial | omega | (rw [hqs]; done)) | exact cl_)
          ·refine fin_ ?_
           (repeat' apply And.intro) <;> (first | (first | rfl | trivial | omega | (rw [hqs]; done)) | exact cl_)
       ·obtain rfl : i = M.length := by omega
        have hmt : M.take M.length = M := List.take_length
        have hml : (M.filter fun x => decide (x ∈ bgs S n)).length ≤ 40 := Nat.le_trans (List.length_filter_le ..) hM40
        have hx0 := And.intro @hmt (hx0)
        have hx := hx0
        refine vc_exit ?_
        simp only [k_rules, Nat.reduceEqDiff, reduceIte, eq_self]
        refine h32 _ ?_; clear h32; try clear N32
        refine vc_seq_k fun N41 h41 => ?_
        refine u_reg ?_
        try refine lg_mk ?_
        refine u_mv ?_
        refine u_mv ?_
        have hc := call_rule (E := (E_exP.at_ 96)) (f := 16) (sp := Spec.pure intsG) rfl
        have hs := @intsG.eq_1
        refine u_cp (hq := by (first | ((repeat' apply And.intro) <;> first | assumption | omega) | exact sd_)) ?_
        refine u_mv ?_
        refine lg_nil ?_
        refine h41 _ ?_; clear h41; try clear N41
        refine vc_ret ?_
        try simp only [k_rules]
        refine fin2_ ?_
        (repeat' apply And.intro) <;> (first | (first | rfl | (simp; done) | (simp [*]; done) | (left; rfl)) | exact cl_)
 ·cases hg
end Go.Proofs.Ytgnahopdiljikaa
