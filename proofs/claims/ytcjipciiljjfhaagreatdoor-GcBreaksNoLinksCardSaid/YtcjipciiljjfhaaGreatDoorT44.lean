/- Walks, printed by wip/gen/walk.py. -/
import Derived.Test.YtcjipciiljjfhaaGreatDoorT41
import Derived.Test.YtcjipciiljjfhaaGreatDoorV5
set_option linter.all false
set_option maxRecDepth 100000
set_option maxHeartbeats 4000000
namespace Go.Proofs.YtcjipciiljjfhaaGreatDoor
open Go Go.Vc Go.RowKit
theorem lawGB_meets : Meets Tryz.prog 6 (Spec.pure lawCG) := by
 refine meets_fun (E_exG.at_ 57) Tryz.func6 rfl rfl rfl ?_
 intro args p r hg hp
 unfold lawCG at hg
 split at hg
 ·rename_i xs zs ys t
  simp only [Option.some.injEq, Prod.mk.injEq] at hg
  obtain ⟨rfl, rfl⟩ := hg
  obtain ⟨he, hl, hsm, he2, hl2, hsm2, he3, hl3⟩ := hp
  generalize dO xs = S at *
  generalize dR zs = l at *
  generalize dW ys = L at *
  subst he he2 he3
  have hT : (E_exG).X = T := rfl
  have hx0 := And.intro @rect_eO (And.intro @dI_rows (And.intro @dU_rows (And.intro @dO_rows (And.intro @dB_rows (And.intro @dec_t (And.intro @dec_f (And.intro @rect_eR (And.intro @rect_eW (And.intro @dR_rows (And.intro @dW_rows @Tryz.results6))))))))))
  have hx := hx0
  refine ⟨by rfl, ?_⟩
  intro F W0 hnp hmk
  refine vc_seq_k fun N1 h1 => ?_
  refine u_reg ?_
  try refine lg_mk ?_
  refine u_bx ?_
  refine u_bx ?_
  refine u_mv ?_
  refine lg_nil ?_
  refine h1 _ ?_; clear h1; try clear N1
  refine vc_seq_k fun N2 h2 => ?_
  refine vc_seq_k fun N3 h3 => ?_
  refine u_reg ?_
  try refine lg_mk ?_
  have hc := call_rule (E := (E_exG.at_ 57)) (f := 7) (sp := Spec.pure exG) rfl
  have hs := @exG.eq_1
  refine u_cp ?_
  refine u_un ?_
  refine lg_nil ?_
  refine h3 _ ?_; clear h3; try clear N3
  refine u_cond (fun hb4 => ?_) (fun hb4 => ?_)
  ·first | omega | exact absurd trivial hb4 | contradiction | (simp_all; done)
  ·refine vc_skip ?_
   try simp only [k_rules]
   refine h2 _ ?_; clear h2; try clear N2
   refine vc_seq_k fun N5 h5 => ?_
   rcases col_or S l L t with ⟨p1, p2, p3⟩ | ⟨p1, hv, hl30, hL20, p2, p3⟩
   ·have p5 : ((colF S l L t).1 = 0) = False := eq_false p1
    have hx0 := And.intro @p2 (And.intro @p3 (And.intro @p5 (hx0)))
    have hx := hx0
    refine u_reg ?_
    try refine lg_mk ?_
    refine u_ld ?_
    refine u_ld ?_
    refine u_mv ?_
    refine u_mv ?_
    have hc := call_rule (E := (E_exG.at_ 57)) (f := 8) (sp := Spec.pure colG) rfl
    have hs := @colG.eq_1
    refine u_hp (hq := by (first | ((repeat' apply And.intro) <;> first | rfl | trivial | omega | exact hsm | exact hsm2) | exact sd_)) ?_
    refine u_mv ?_
    refine u_ex ?_
    refine u_ex ?_
    refine u_ex ?_
    refine u_al ?_
    refine u_al ?_
    refine u_st ?_
    refine u_mv ?_
    refine u_st ?_
    refine lg_nil ?_
    refine h5 _ ?_; clear h5; try clear N5
    refine vc_seq_k fun N6 h6 => ?_
    refine vc_seq_k fun N7 h7 => ?_
    refine u_reg ?_
    try refine lg_mk ?_
    refine u_pt ?_
    refine u_ld ?_
    refine u_bn ?_
    refine lg_nil ?_
    refine h7 _ ?_; clear h7; try clear N7
    refine u_cond (fun hb8 => ?_) (fun hb8 => ?_)
    ·refine vc_seq_k fun N9 h9 => ?_
     refine u_reg ?_
     try refine lg_mk ?_
     refine u_pt ?_
     refine u_ld ?_
     refine u_ln ?_
     refine u_mv ?_
     refine u_ln ?_
     refine u_bn ?_
     refine u_bn ?_
     refine u_mv ?_
     refine lg_nil ?_
     refine h9 _ ?_; clear h9; try clear N9
     refine vc_ret ?_
     try simp only [k_rules]
     refine fin2_ ?_
     (repeat' apply And.intro) <;> (first | (first | rfl | (simp; done) | (simp [*]; done) | (left; rfl)) | exact cl_)
    ·first | omega | exact absurd trivial hb8 | contradiction | (simp_all; done)
   ·have hR50 := held50 (t := t) hl30 hL20
    have hkv := ke_val hv (held l L t)
    have hkl := ke_len S (held l L t)
    have hlen := hv.len
    have hdl := dgs_len (goS S (held l L t))
    have hks := small_of hkv
    have hst := stF_of hkv
    have hst1 : (stF (keS S (held l L t))).1 = 0 := by rw [hst]
    have hst2 : (stF (keS S (held l L t))).2 = 0 := by rw [hst]
    have hmr : misR (keS S (held l L t)) = insA (misA (keS S (held l L t))) := by unfold misR; rw [hst, if_neg (by simp), mis_is]
    have hlk := ke_links hv (held l L t)
    have hml := misP_len hkv (keS S (held l L t)).length 0
    rw [misP_all (Nat.le_refl _)] at hml
    have hil := insA_len (misA (keS S (held l L t)))
    have hx0 := And.intro @p1 (And.intro @p2 (And.intro @p3 (hx0)))
    have hx := hx0
    refine u_reg ?_
    try refine lg_mk ?_
    refine u_ld ?_
    refine u_ld ?_
    refine u_mv ?_
    refine u_mv ?_
    have hc := call_rule (E := (E_exG.at_ 57)) (f := 8) (sp := Spec.pure colG) rfl
    have hs := @colG.eq_1
    refine u_hp (hq := by (first | ((repeat' apply And.intro) <;> first | rfl | trivial | omega | exact hsm | exact hsm2) | exact sd_)) ?_
    refine u_mv ?_
    refine u_ex ?_
    refine u_ex ?_
    refine u_ex ?_
    refine u_al ?_
    refine u_al ?_
    refine u_st ?_
    refine u_mv ?_
    refine u_st ?_
    refine lg_nil ?_
    refine h5 _ ?_; clear h5; try clear N5
    refine vc_seq_k fun N10 h10 => ?_
    refine vc_seq_k fun N11 h11 => ?_
    refine u_reg ?_
    try refine lg_mk ?_
    refine u_pt ?_
    refine u_ld ?_
    refine u_bn ?_
    refine lg_nil ?_
    refine h11 _ ?_; clear h11; try clear N11
    refine u_cond (fun hb12 => ?_) (fun hb12 => ?_)
    ·first | omega | exact absurd trivial hb12 | contradiction | (simp_all; done)
    ·refine vc_skip ?_
     try simp only [k_rules]
     refine h10 _ ?_; clear h10; try clear N10
     refine vc_seq_k fun N13 h13 => ?_
     have hx := And.intro @hst1 (And.intro @hst2 (And.intro @hmr hx0))
     refine u_reg ?_
     try refine lg_mk ?_
     refine u_ld ?_
     have hc := call_rule (E := (E_exG.at_ 57)) (f := 18) (sp := Spec.pure misG) rfl
     have hs := @misG.eq_1
     refine u_hp (hq := by (first | (exact ⟨by omega, hks⟩) | exact sd_)) ?_
     refine u_mv ?_
     refine u_ex ?_
     refine u_ex ?_
     refine u_al ?_
     refine u_mv ?_
     refine u_st ?_
     refine lg_nil ?_
     have hx := hx0
     refine h13 _ ?_; clear h13; try clear N13
     refine vc_seq_k fun N14 h14 => ?_
     refine vc_seq_k fun N15 h15 => ?_
     refine u_reg ?_
     try refine lg_mk ?_
     refine u_pt ?_
     refine u_ld ?_
     refine u_bn ?_
     refine lg_nil ?_
     refine h15 _ ?_; clear h15; try clear N15
     refine u_cond (fun hb16 => ?_) (fun hb16 => ?_)
     ·first | omega | exact absurd trivial hb16 | contradiction | (simp_all; done)
     ·refine vc_skip ?_
      try simp only [k_rules]
      refine h14 _ ?_; clear h14; try clear N14
      refine vc_seq_k fun N17 h17 => ?_
      refine vc_seq_k fun N18 h18 => ?_
      refine u_reg ?_
      try refine lg_mk ?_
      refine u_mv ?_
      refine lg_nil ?_
      refine h18 _ ?_; clear h18; try clear N18
      refine vc_block ?_
      refine vc_loop_mk (σ := Nat) (fun s => (fun i => i ≤ (insA (misA (keS S (held l L t)))).length) s)
       (fun s => (fun i => [(2, .d (.sl (rows eW L))), (3, .d (.int .i64 t)), (4, .ptr 0 0 0), (12, .d (.sl (rows eI (insA (misA (keS S (held l L t))))))), (14, .d (.int .i64 (i : Nat)))]) s)
       (fun s => (fun i => [some (.one 24 [.d (.sl (rows eO S))])]) s) (fun s => (fun i => (insA (misA (keS S (held l L t)))).length - i) s) hnp 0 ?_ [some 0] ?_ ?_
      ·dsimp only
       omega
      ·dsimp only
       refine ⟨by rfl, ?_, ?_⟩
       ·refine fin_ ?_
        exact cl_
       ·refine fin_ ?_
        exact cl_
      ·rintro i hinv N19 h19
       dsimp only at hinv ⊢
       have i1 := hinv
       refine vc_seq_k fun N20 h20 => ?_
       refine vc_seq_k fun N21 h21 => ?_
       refine u_reg ?_
       try refine lg_mk ?_
       refine u_mv ?_
       refine u_mv ?_
       refine u_ln ?_
       refine u_bn ?_
       refine lg_nil ?_
       refine h21 _ ?_; clear h21; try clear N21
       refine u_cond (fun hb22 => ?_) (fun hb22 => ?_)
       ·obtain ⟨d, hde⟩ := getE (l := insA (misA (keS S (held l L t)))) (i := i) (by omega)
        have hda := hlk d (mem_at hde)
        refine vc_skip ?_
        try simp only [k_rules]
        refine h20 _ ?_; clear h20; try clear N20
        refine vc_seq_k fun N23 h23 => ?_
        refine vc_block ?_
        refine vc_seq_k fun N24 h24 => ?_
        have hx := And.intro @hde (And.intro @eI.eq_1 (And.intro @hda hx0))
        refine u_reg ?_
        try refine lg_mk ?_
        refine u_ld ?_
        refine u_mv ?_
        refine u_mv ?_
        refine u_pt ?_
        refine u_ld ?_
        have hc := call_rule (E := (E_exG.at_ 57)) (f := 17) (sp := Spec.pure atG) rfl
        have hs := @atG.eq_1
        refine u_cp (hq := by (first | (exact ⟨hv.sort, by omega⟩) | exact sd_)) ?_
        refine u_bn ?_
        refine lg_nil ?_
        have hx := hx0
        refine h24 _ ?_; clear h24; try clear N24
        refine u_cond (fun hb25 => ?_) (fun hb25 => ?_)
        ·first | omega | exact absurd trivial hb25 | contradiction | (simp_all; done)
        ·refine vc_skip ?_
         try simp only [k_rules]
         refine h23 _ ?_; clear h23; try clear N23
         refine u_reg ?_
         try refine lg_mk ?_
         refine u_mv ?_
         refine u_bn ?_
         refine u_mv ?_
         refine lg_nil ?_
         refine h19 _ ⟨i + 1, ?_, ?_, [some 0], ?_⟩
         ·dsimp only
          omega
         ·dsimp only
          omega
         ·dsimp only
          refine ⟨by rfl, ?_, ?_⟩
          ·refine fin_ ?_
           exact cl_
          ·refine fin_ ?_
           exact cl_
       ·refine vc_exit ?_
        simp only [k_rules, Nat.reduceEqDiff, reduceIte, eq_self]
        refine h17 _ ?_; clear h17; try clear N17
        refine vc_seq_k fun N26 h26 => ?_
        refine u_reg ?_
        try refine lg_mk ?_
        refine u_mv ?_
        refine lg_nil ?_
        refine h26 _ ?_; clear h26; try clear N26
        refine vc_ret ?_
        try simp only [k_rules]
        refine fin2_ ?_
        (repeat' apply And.intro) <;> (first | (first | rfl | (simp; done) | (simp [*]; done) | (left; rfl)) | exact cl_)
 ·cases hg
end Go.Proofs.YtcjipciiljjfhaaGreatDoor
