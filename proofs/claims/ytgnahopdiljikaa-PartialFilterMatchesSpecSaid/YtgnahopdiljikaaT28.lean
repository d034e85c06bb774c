/- Walks, printed by wip/gen/walk.py. -/
import Derived.Test.YtgnahopdiljikaaT27
import Derived.Test.YtgnahopdiljikaaV5
set_option linter.all false
set_option maxRecDepth 100000
set_option maxHeartbeats 4000000
namespace Go.Proofs.Ytgnahopdiljikaa
open Go Go.Vc Go.RowKit
theorem lawFi_meets : Meets Try.prog 3 (Spec.pure lawFG) := by
 refine meets_fun (E_exP.at_ 97) Try.func3 rfl rfl rfl ?_
 intro args p r hg hp
 unfold lawFG at hg
 split at hg
 ·rename_i xs n
  simp only [Option.some.injEq, Prod.mk.injEq] at hg
  obtain ⟨rfl, rfl⟩ := hg
  obtain ⟨he, hl, hsm, hnn⟩ := hp
  generalize dO xs = S at *
  subst he
  have hT : (E_exP).X = T := rfl
  have hx0 := And.intro @rect_eO (And.intro @dI_rows (And.intro @dU_rows (And.intro @dO_rows (And.intro @dB_rows (And.intro @dec_t (And.intro @dec_f @Try.results3))))))
  have hx := hx0
  refine ⟨by rfl, ?_⟩
  intro F W0 hnp hmk
  refine vc_seq_k fun N1 h1 => ?_
  refine u_reg ?_
  try refine lg_mk ?_
  refine u_bx ?_
  refine u_mv ?_
  refine lg_nil ?_
  refine h1 _ ?_; clear h1; try clear N1
  refine vc_seq_k fun N2 h2 => ?_
  refine vc_seq_k fun N3 h3 => ?_
  refine u_reg ?_
  try refine lg_mk ?_
  have hc := call_rule (E := (E_exP.at_ 97)) (f := 9) (sp := Spec.pure exG) rfl
  have hs := @exG.eq_1
  refine u_cp ?_
  refine u_un ?_
  refine lg_nil ?_
  refine h3 _ ?_; clear h3; try clear N3
  refine u_cond (fun hb4 => ?_) (fun hb4 => ?_)
  ·first | omega | exact absurd trivial hb4 | contradiction | (simp_all; done)
  ·refine vc_skip ?_
   try simp only [k_rules]
   refine h2 _ ?_; clear h2; try clear N2
   refine vc_seq_k fun N5 h5 => ?_
   rcases fil_or S n with hcs | hcs | hcs
   ·obtain ⟨p1, p2, p3, p4⟩ := hcs
    have p5 : ¬(stF S).1 = 0 := p1
    have hx0 := And.intro @p2 (And.intro @p3 (And.intro @p4 (And.intro @p5 (hx0))))
    have hx := hx0
    refine u_reg ?_
    try refine lg_mk ?_
    refine u_ld ?_
    refine u_mv ?_
    have hc := call_rule (E := (E_exP.at_ 97)) (f := 10) (sp := Spec.pure filG) rfl
    have hs := @filG.eq_1
    refine u_hp (hq := by (first | ((repeat' apply And.intro) <;> first | rfl | omega | assumption | exact small_nil | (simp; done)) | exact sd_)) ?_
    refine u_mv ?_
    refine u_ex ?_
    refine u_ex ?_
    refine u_ex ?_
    refine u_al ?_
    refine u_al ?_
    refine u_st ?_
    refine u_mv ?_
    refine u_st ?_
    refine lg_nil ?_
    refine h5 _ ?_; clear h5; try clear N5
    refine vc_seq_k fun N6 h6 => ?_
    refine u_reg ?_
    try refine lg_mk ?_
    refine u_ld ?_
    have hc := call_rule (E := (E_exP.at_ 97)) (f := 11) (sp := Spec.pure valG) rfl
    have hs := @valG.eq_1
    refine u_cp (hq := by (first | ((repeat' apply And.intro) <;> first | rfl | omega | assumption | exact small_nil | (simp; done)) | exact sd_)) ?_
    refine u_al ?_
    refine u_st ?_
    refine lg_nil ?_
    refine h6 _ ?_; clear h6; try clear N6
    refine vc_seq_k fun N7 h7 => ?_
    refine vc_seq_k fun N8 h8 => ?_
    refine u_reg ?_
    try refine lg_mk ?_
    refine u_pt ?_
    refine u_ld ?_
    refine u_bn ?_
    refine u_mv ?_
    refine g_mv ?_
    have hc := call_rule (E := (E_exP.at_ 97)) (f := 12) (sp := Spec.pure inG) rfl
    have hs := @inG.eq_1
    refine g_cp ?_
    refine g_un ?_
    refine u_pk ?_
    refine lg_nil ?_
    refine h8 _ ?_; clear h8; try clear N8
    refine u_cond (fun hb9 => ?_) (fun hb9 => ?_)
    ·first | omega | exact absurd trivial hb9 | contradiction | (simp_all; done)
    ·refine vc_skip ?_
     try simp only [k_rules]
     refine h7 _ ?_; clear h7; try clear N7
     refine vc_seq_k fun N10 h10 => ?_
     refine vc_seq_k fun N11 h11 => ?_
     refine u_reg ?_
     try refine lg_mk ?_
     refine u_pt ?_
     refine u_ld ?_
     refine u_bn ?_
     refine lg_nil ?_
     refine h11 _ ?_; clear h11; try clear N11
     refine u_cond (fun hb12 => ?_) (fun hb12 => ?_)
     ·refine vc_seq_k fun N13 h13 => ?_
      refine u_reg ?_
      try refine lg_mk ?_
      refine u_ld ?_
      refine u_ld ?_
      refine u_bn ?_
      refine u_mv ?_
      refine g_pt ?_
      refine g_ld ?_
      refine g_ln ?_
      refine g_mv ?_
      refine g_ln ?_
      refine g_bn ?_
      refine g_bn ?_
      refine u_pk ?_
      refine u_mv ?_
      refine lg_nil ?_
      refine h13 _ ?_; clear h13; try clear N13
      refine vc_ret ?_
      try simp only [k_rules]
      refine fin2_ ?_
      (repeat' apply And.intro) <;> (first | (first | rfl | (simp; done) | (simp [*]; done) | (left; rfl)) | exact cl_)
     ·first | omega | exact absurd trivial hb12 | contradiction | (simp_all; done)
   ·obtain ⟨p1, p5, p2, p3, p4⟩ := hcs
    have hx0 := And.intro @p1 (And.intro @p2 (And.intro @p3 (And.intro @p4 (And.intro @p5 (hx0)))))
    have hx := hx0
    refine u_reg ?_
    try refine lg_mk ?_
    refine u_ld ?_
    refine u_mv ?_
    have hc := call_rule (E := (E_exP.at_ 97)) (f := 10) (sp := Spec.pure filG) rfl
    have hs := @filG.eq_1
    refine u_hp (hq := by (first | ((repeat' apply And.intro) <;> first | rfl | omega | assumption | exact small_nil | (simp; done)) | exact sd_)) ?_
    refine u_mv ?_
    refine u_ex ?_
    refine u_ex ?_
    refine u_ex ?_
    refine u_al ?_
    refine u_al ?_
    refine u_st ?_
    refine u_mv ?_
    refine u_st ?_
    refine lg_nil ?_
    refine h5 _ ?_; clear h5; try clear N5
    refine vc_seq_k fun N14 h14 => ?_
    refine u_reg ?_
    try refine lg_mk ?_
    refine u_ld ?_
    have hc := call_rule (E := (E_exP.at_ 97)) (f := 11) (sp := Spec.pure valG) rfl
    have hs := @valG.eq_1
    refine u_cp (hq := by (first | ((repeat' apply And.intro) <;> first | rfl | omega | assumption | exact small_nil | (simp; done)) | exact sd_)) ?_
    refine u_al ?_
    refine u_st ?_
    refine lg_nil ?_
    refine h14 _ ?_; clear h14; try clear N14
    refine vc_seq_k fun N15 h15 => ?_
    refine vc_seq_k fun N16 h16 => ?_
    refine u_reg ?_
    try refine lg_mk ?_
    refine u_pt ?_
    refine u_ld ?_
    refine u_bn ?_
    refine u_mv ?_
    refine g_mv ?_
    have hc := call_rule (E := (E_exP.at_ 97)) (f := 12) (sp := Spec.pure inG) rfl
    have hs := @inG.eq_1
    refine g_cp ?_
    refine g_un ?_
    refine u_pk ?_
    refine lg_nil ?_
    refine h16 _ ?_; clear h16; try clear N16
    refine u_cond (fun hb17 => ?_) (fun hb17 => ?_)
    ·refine u_reg ?_
     try refine lg_mk ?_
     have hc := call_rule (E := (E_exP.at_ 97)) (f := 13) (sp := Spec.pure faultG) rfl
     have hs := @faultG.eq_1
     refine u_cp ?_
     refine u_st ?_
     refine lg_nil ?_
     refine h15 _ ?_; clear h15; try clear N15
     refine vc_seq_k fun N18 h18 => ?_
     refine vc_seq_k fun N19 h19 => ?_
     refine u_reg ?_
     try refine lg_mk ?_
     refine u_pt ?_
     refine u_ld ?_
     refine u_bn ?_
     refine lg_nil ?_
     refine h19 _ ?_; clear h19; try clear N19
     refine u_cond (fun hb20 => ?_) (fun hb20 => ?_)
     ·refine vc_seq_k fun N21 h21 => ?_
      refine u_reg ?_
      try refine lg_mk ?_
      refine u_ld ?_
      refine u_ld ?_
      refine u_bn ?_
      refine u_mv ?_
      refine g_pt ?_
      refine g_ld ?_
      refine g_ln ?_
      refine g_mv ?_
      refine g_ln ?_
      refine g_bn ?_
      refine g_bn ?_
      refine u_pk ?_
      refine u_mv ?_
      refine lg_nil ?_
      refine h21 _ ?_; clear h21; try clear N21
      refine vc_ret ?_
      try simp only [k_rules]
      refine fin2_ ?_
      (repeat' apply And.intro) <;> (first | (first | rfl | (simp; done) | (simp [*]; done) | (left; rfl)) | exact cl_)
     ·first | omega | exact absurd trivial hb20 | contradiction | (simp_all; done)
    ·first | omega | exact absurd trivial hb17 | contradiction | (simp_all; done)
   ·obtain ⟨p1, hv, p5, p2, p3, p4⟩ := hcs
    have hlen := hv.len
    have hpl := part_len S n
    have hsT : smallS (sml S n) := small_filter hsm _
    have hbl := bz_len S n
    have p6 := chs_t S n
    have p7 := chs_f S n
    have hsb : smallS (chs S (bz S n) false) := by rw [chs_f']; exact small_filter hsm _
    have hcl : (chs S (bz S n) false).length ≤ 40 := by rw [chs_f']; exact Nat.le_trans (List.length_filter_le ..) hlen
    have p8 : List.take S.length (bz S n) = bz S n := List.take_of_length_le (Nat.le_of_eq hbl)
    have hx0 := And.intro @p1 (And.intro @p2 (And.intro @p3 (And.intro @p4 (And.intro @p5 (And.intro @p6 (And.intro @p7 (And.intro @p8 (hx0))))))))
    have hx := hx0
    refine u_reg ?_
    try refine lg_mk ?_
    refine u_ld ?_
    refine u_mv ?_
    have hc := call_rule (E := (E_exP.at_ 97)) (f := 10) (sp := Spec.pure filG) rfl
    have hs := @filG.eq_1
    refine u_hp (hq := by (first | ((repeat' apply And.intro) <;> first | rfl | omega | assumption | exact small_nil | (simp; done)) | exact sd_)) ?_
    refine u_mv ?_
    refine u_ex ?_
    refine u_ex ?_
    refine u_ex ?_
    refine u_al ?_
    refine u_al ?_
    refine u_st ?_
    refine u_mv ?_
    refine u_st ?_
    refine lg_nil ?_
    refine h5 _ ?_; clear h5; try clear N5
    refine vc_seq_k fun N22 h22 => ?_
    refine u_reg ?_
    try refine lg_mk ?_
    refine u_ld ?_
    have hc := call_rule (E := (E_exP.at_ 97)) (f := 11) (sp := Spec.pure valG) rfl
    have hs := @valG.eq_1
    refine u_cp (hq := by (first | ((repeat' apply And.intro) <;> first | rfl | omega | assumption | exact small_nil | (simp; done)) | exact sd_)) ?_
    refine u_al ?_
    refine u_st ?_
    refine lg_nil ?_
    refine h22 _ ?_; clear h22; try clear N22
    refine vc_seq_k fun N23 h23 => ?_
    refine vc_seq_k fun N24 h24 => ?_
    refine u_reg ?_
    try refine lg_mk ?_
    refine u_pt ?_
    refine u_ld ?_
    refine u_bn ?_
    refine u_mv ?_
    refine g_mv ?_
    have hc := call_rule (E := (E_exP.at_ 97)) (f := 12) (sp := Spec.pure inG) rfl
    have hs := @inG.eq_1
    refine g_cp ?_
    refine g_un ?_
    refine u_pk ?_
    refine lg_nil ?_
    refine h24 _ ?_; clear h24; try clear N24
    refine u_cond (fun hb25 => ?_) (fun hb25 => ?_)
    ·first | omega | exact absurd trivial hb25 | contradiction | (simp_all; done)
    ·refine vc_skip ?_
     try simp only [k_rules]
     refine h23 _ ?_; clear h23; try clear N23
     refine vc_seq_k fun N26 h26 => ?_
     refine vc_seq_k fun N27 h27 => ?_
     refine u_reg ?_
     try refine lg_mk ?_
     refine u_pt ?_
     refine u_ld ?_
     refine u_bn ?_
     refine lg_nil ?_
     refine h27 _ ?_; clear h27; try clear N27
     refine u_cond (fun hb28 => ?_) (fun hb28 => ?_)
     ·first | omega | exact absurd trivial hb28 | contradiction | (simp_all; done)
     ·refine vc_skip ?_
      try simp only [k_rules]
      refine h26 _ ?_; clear h26; try clear N26
      refine vc_seq_k fun N29 h29 => ?_
      refine u_reg ?_
      try refine lg_mk ?_
      refine u_pt ?_
      refine u_ld ?_
      refine u_ln ?_
      refine u_ms ?_
      refine u_mv ?_
      refine lg_nil ?_
      refine h29 _ ?_; clear h29; try clear N29
      refine vc_seq_m (σ := Unit) (fun s => (fun u => True) s)
       (fun s => (fun u => [(1, .d (.int .i64 n)), (2, .ptr 0 0 0), (5, .ptr 1 0 0), (6, .d (.sl (rows eI (bgs S n)))), (7, .ptr 2 0 0), (9, .d (.sl (rows eB (bz S n))))]) s)
       (fun s => (fun u => [some (.one 24 [.d (.sl (rows eO S))]), some (.one 24 [.d (.sl (rows eO (sml S n)))]), some (.one 28 [.d (.int .i64 0), .d (.int .i64 0)])]) s) hnp ?_ ?_
      ·rintro u hinv
       dsimp only at hinv ⊢
       refine vc_seq_k fun N31 h31 => ?_
       refine vc_regG [15, 17, 14, 16] hmix (by kernel_rfl) ?_
       try refine lg_mk ?_
       refine u_pt ?_
       refine u_ld ?_
       refine u_bn ?_
       refine u_mv ?_
       refine g_ld ?_
       refine g_ld ?_
       refine g_mv ?_
       have hc := call_rule (E := (E_exP.at_ 97)) (f := 15) (sp := Spec.pure chsG) rfl
       have hs := @chsG.eq_1
       refine t_hp (hq := by (first | (first | omega | exact ⟨hbl, by omega⟩ | exact ⟨by omega, by omega, by omega⟩ | exact ⟨by omega, hsT⟩ | exact ⟨by omega, by omega, hsT, hsT⟩ | exact ⟨by omega, by omega⟩) | exact sd_)) ?_
       have hc := call_rule (E := (E_exP.at_ 97)) (f := 14) (sp := Spec.pure storesG) rfl
       have hs := @storesG.eq_1
       refine s_cp (hq := by (intro hg; (try simp only [b_rules, bif_and, bif_or] at hg); (first | (first | omega | exact ⟨hbl, by omega⟩ | exact ⟨by omega, by omega, by omega⟩ | exact ⟨by omega, hsT⟩ | exact ⟨by omega, by omega, hsT, hsT⟩ | exact ⟨by omega, by omega⟩) | exact sd_))) ?_
       refine u_pk ?_
       refine u_mv ?_
       refine g_mv ?_
       refine g_ld ?_
       refine g_mv ?_
       have hc := call_rule (E := (E_exP.at_ 97)) (f := 15) (sp := Spec.pure chsG) rfl
       have hs := @chsG.eq_1
       refine t_hp (hq := by (first | (first | omega | exact ⟨hbl, by omega⟩ | exact ⟨by omega, by omega, by omega⟩ | exact ⟨by omega, hsT⟩ | exact ⟨by omega, by omega, hsT, hsT⟩ | exact ⟨by omega, by omega⟩) | exact sd_)) ?_
       have hc := call_rule (E := (E_exP.at_ 97)) (f := 17) (sp := Spec.pure dgsG) rfl
       have hs := @dgsG.eq_1
       refine t_hp (hq := by (first | (first | omega | exact ⟨hbl, by omega⟩ | exact ⟨by omega, by omega, by omega⟩ | exact ⟨by omega, hsT⟩ | exact ⟨by omega, by omega, hsT, hsT⟩ | exact ⟨by omega, by omega⟩) | exact sd_)) ?_
       have hc := call_rule (E := (E_exP.at_ 97)) (f := 16) (sp := Spec.pure intsG) rfl
       have hs := @intsG.eq_1
       refine s_cp (hq := by (intro hg; (try simp only [b_rules, bif_and, bif_or] at hg); (first | (first | omega | exact ⟨hbl, by omega⟩ | exact ⟨by omega, by omega, by omega⟩ | exact ⟨by omega, hsT⟩ | exact ⟨by omega, by omega, hsT, hsT⟩ | exact ⟨by omega, by omega⟩) | exact sd_))) ?_
       refine u_pk ?_
       refine u_mv ?_
       refine lg_nil ?_
       refine h31 _ ?_; clear h31; try clear N31
       refine vc_ret ?_
       try simp only [k_rules]
       refine fin2_ ?_
       (repeat' apply And.intro) <;> (first | (first | rfl | (simp; done) | (simp [*]; done) | (left; rfl)) | exact cl_)
      ·intro N30 h30
       refine vc_seq_k fun N32 h32 => ?_
       refine u_reg ?_
       try refine lg_mk ?_
       refine u_mv ?_
       refine lg_nil ?_
       refine h32 _ ?_; clear h32; try clear N32
       refine vc_block ?_
       refine vc_loop_mk (σ := Nat × List Bool) (fun s => (fun i b => (i ≤ S.length ∧ b.length = S.length) ∧ ∀ j x, j < i → S[j]? = some x → b[j]? = some (!big n x)) (s.1) (s.2))
        (fun s => (fun i b => [(1, .d (.int .i64 n)), (2, .ptr 0 0 0), (5, .ptr 1 0 0), (6, .d (.sl (rows eI (bgs S n)))), (7, .ptr 2 0 0), (9, .sl 4 0 S.length), (10, .d (.int .i64 (i : Nat)))]) (s.1) (s.2))
        (fun s => (fun i b => [some (.one 24 [.d (.sl (rows eO S))]), some (.one 24 [.d (.sl (rows eO (sml S n)))]), some (.one 28 [.d (.int .i64 0), .d (.int .i64 0)]), some (.one 28 [.d (.int .i64 0), .d (.int .i64 0)]), some (.vec 4 1 (rows eB b))]) (s.1) (s.2)) (fun s => (fun i b => S.length - i) (s.1) (s.2)) hnp (0, List.replicate S.length false) ?_ [some 0, some 1, some 2, some 3, some 4] ?_ ?_
       ·dsimp only
        exact ⟨⟨by omega, by simp⟩, fun j x hj => by omega⟩
       ·dsimp only
        refine ⟨by rfl, ?_, ?_⟩
        ·refine fin_ ?_
         (repeat' apply And.intro) <;> (first | (first | rfl | trivial | omega | (simp [rows, eB]; done)) | exact cl_)
        ·refine fin_ ?_
         (repeat' apply And.intro) <;> (first | (first | rfl | trivial | omega | (simp [rows, eB]; done)) | exact cl_)
       ·rintro ⟨i, b⟩ hinv N33 h33
        dsimp only at hinv ⊢
        obtain ⟨⟨i1, i2⟩, i3⟩ := hinv
        refine vc_seq_k fun N34 h34 => ?_
        refine vc_seq_k fun N35 h35 => ?_
        refine u_reg ?_
        try refine lg_mk ?_
        refine u_mv ?_
        refine u_mv ?_
        refine u_ln ?_
        refine u_bn ?_
        refine lg_nil ?_
        refine h35 _ ?_; clear h35; try clear N35
        refine u_cond (fun hb36 => ?_) (fun hb36 => ?_)
        ·obtain ⟨x, hxe⟩ := getE (l := S) (i := i) (by omega)
         obtain ⟨c, hce⟩ := getE (l := b) (i := i) (by omega)
         refine vc_skip ?_
         try simp only [k_rules]
         refine h34 _ ?_; clear h34; try clear N34
         refine vc_seq_k fun N37 h37 => ?_
         refine vc_block ?_
         rcases (show x.ob.kd = 1 ∨ x.ob.kd ≠ 1 by omega) with hk1 | hk1
         ·have hk2 : (x.ob.kd = 1) = True := eq_true hk1
          have hbg : (!big n x) = decide ((x.ob.da.length : Int) ≤ n) := by unfold big; rw [decide_eq_true hk1, Bool.true_and, ← decide_not, decide_eq_decide]; omega
          have hx := And.intro @hxe (And.intro @hce (And.intro @eO.eq_1 (And.intro @eB.eq_1 (And.intro @hk2 hx0))))
          refine u_reg ?_
          try refine lg_mk ?_
          refine u_mv ?_
          refine u_mv ?_
          refine u_pt ?_
          refine u_ld ?_
          refine u_mv ?_
          refine u_pt ?_
          refine u_pt ?_
          refine u_pt ?_
          refine u_ld ?_
          refine u_bn ?_
          refine u_mv ?_
          refine g_pt ?_
          refine g_ld ?_
          refine g_mv ?_
          refine g_pt ?_
          refine g_pt ?_
          refine g_pt ?_
          refine g_ld ?_
          refine g_ln ?_
          refine g_mv ?_
          refine g_bn ?_
          refine u_pk ?_
          refine u_pt ?_
          refine u_st ?_
          refine lg_nil ?_
          have hx := hx0
          refine h37 _ ?_; clear h37; try clear N37
          refine u_reg ?_
          try refine lg_mk ?_
          refine u_mv ?_
          refine u_bn ?_
          refine u_mv ?_
          refine lg_nil ?_
          refine h33 _ ⟨(i + 1, b.set i (!big n x)), ?_, ?_, [some 0, some 1, some 2, some 3, some 4], ?_⟩
          ·dsimp only
           exact ⟨⟨by omega, by rw [List.length_set]; exact i2⟩, bz_step i2 hxe i3⟩
          ·dsimp only
           omega
          ·dsimp only
           refine ⟨by rfl, ?_, ?_⟩
           ·refine fin_ ?_
            (repeat' apply And.intro) <;> (first | (first | rfl | trivial | omega | (rw [hbg]; simp [rows, eB, List.map_set]; done)) | exact cl_)
           ·refine fin_ ?_
            (repeat' apply And.intro) <;> (first | (first | rfl | trivial | omega | (rw [hbg]; simp [rows, eB, List.map_set]; done)) | exact cl_)
         ·have hk2 : (x.ob.kd = 1) = False := eq_false hk1
          have hbg : (!big n x) = true := by unfold big; rw [decide_eq_false hk1, Bool.false_and]; rfl
          have hx := And.intro @hxe (And.intro @hce (And.intro @eO.eq_1 (And.intro @eB.eq_1 (And.intro @hk2 hx0))))
          refine u_reg ?_
          try refine lg_mk ?_
          refine u_mv ?_
          refine u_mv ?_
          refine u_pt ?_
          refine u_ld ?_
          refine u_mv ?_
          refine u_pt ?_
          refine u_pt ?_
          refine u_pt ?_
          refine u_ld ?_
          refine u_bn ?_
          refine u_mv ?_
          refine g_pt ?_
          refine g_ld ?_
          refine g_mv ?_
          refine g_pt ?_
          refine g_pt ?_
          refine g_pt ?_
          refine g_ld ?_
          refine g_ln ?_
          refine g_mv ?_
          refine g_bn ?_
          refine u_pk ?_
          refine u_pt ?_
          refine u_st ?_
          refine lg_nil ?_
          have hx := hx0
          refine h37 _ ?_; clear h37; try clear N37
          refine u_reg ?_
          try refine lg_mk ?_
          refine u_mv ?_
          refine u_bn ?_
          refine u_mv ?_
          refine lg_nil ?_
          refine h33 _ ⟨(i + 1, b.set i (!big n x)), ?_, ?_, [some 0, some 1, some 2, some 3, some 4], ?_⟩
          ·dsimp only
           exact ⟨⟨by omega, by rw [List.length_set]; exact i2⟩, bz_step i2 hxe i3⟩
          ·dsimp only
           omega
          ·dsimp only
           refine ⟨by rfl, ?_, ?_⟩
           ·refine fin_ ?_
            (repeat' apply And.intro) <;> (first | (first | rfl | trivial | omega | (rw [hbg]; simp [rows, eB, List.map_set]; done)) | exact cl_)
           ·refine fin_ ?_
            (repeat' apply And.intro) <;> (first | (first | rfl | trivial | omega | (rw [hbg]; simp [rows, eB, List.map_set]; done)) | exact cl_)
        ·obtain rfl : i = S.length := by omega
         obtain rfl : b = bz S n := bz_all i2 i3
         refine vc_exit ?_
         simp only [k_rules, Nat.reduceEqDiff, reduceIte, eq_self]
         refine h30 _ ⟨(), trivial, [some 0, some 1, some 2], ?_⟩
         ·dsimp only
          refine ⟨by rfl, ?_, ?_⟩
          ·refine fin_ ?_
           (repeat' apply And.intro) <;> (first | (first | rfl | trivial | omega | (rw [p8]; done) | (left; rw [p8]; done) | (simp [p8, bz_len]; done)) | exact cl_)
          ·refine fin_ ?_
           (repeat' apply And.intro) <;> (first | (first | rfl | trivial | omega | (rw [p8]; done) | (left; rw [p8]; done) | (simp [p8, bz_len]; done)) | exact cl_)
 ·cases hg
end Go.Proofs.Ytgnahopdiljikaa
