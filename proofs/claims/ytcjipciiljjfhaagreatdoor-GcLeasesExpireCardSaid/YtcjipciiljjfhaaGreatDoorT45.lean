/- Walks, printed by wip/gen/walk.py. -/
import Derived.Test.YtcjipciiljjfhaaGreatDoorT41
import Derived.Test.YtcjipciiljjfhaaGreatDoorV5
set_option linter.all false
set_option maxRecDepth 100000
set_option maxHeartbeats 4000000
namespace Go.Proofs.YtcjipciiljjfhaaGreatDoor
open Go Go.Vc Go.RowKit
theorem lawGL_meets : Meets Tryz.prog 5 (Spec.pure lawCLG) := by
 refine meets_fun (E_exG.at_ 93) Tryz.func5 rfl rfl rfl ?_
 intro args p r hg hp
 unfold lawCLG at hg
 split at hg
 ·rename_i xs zs ys t t'
  simp only [Option.some.injEq, Prod.mk.injEq] at hg
  obtain ⟨rfl, rfl⟩ := hg
  obtain ⟨he, hl, hsm, he2, hl2, hsm2, he3, hl3⟩ := hp
  generalize dO xs = S at *
  generalize dR zs = l at *
  generalize dW ys = L at *
  subst he he2 he3
  have hT : (E_exG).X = T := rfl
  have hx0 := And.intro @rect_eO (And.intro @dI_rows (And.intro @dU_rows (And.intro @dO_rows (And.intro @dB_rows (And.intro @dec_t (And.intro @dec_f (And.intro @rect_eR (And.intro @rect_eW (And.intro @dR_rows (And.intro @dW_rows @Tryz.results5))))))))))
  have hx := hx0
  refine ⟨by rfl, ?_⟩
  intro F W0 hnp hmk
  refine vc_seq_k fun N1 h1 => ?_
  refine u_reg ?_
  try refine lg_mk ?_
  refine u_bx ?_
  refine u_bx ?_
  refine u_mv ?_
  refine lg_nil ?_
  refine h1 _ ?_; clear h1; try clear N1
  refine vc_seq_k fun N2 h2 => ?_
  refine vc_seq_k fun N3 h3 => ?_
  refine u_reg ?_
  try refine lg_mk ?_
  have hc := call_rule (E := (E_exG.at_ 93)) (f := 7) (sp := Spec.pure exG) rfl
  have hs := @exG.eq_1
  refine u_cp ?_
  refine u_un ?_
  refine lg_nil ?_
  refine h3 _ ?_; clear h3; try clear N3
  refine u_cond (fun hb4 => ?_) (fun hb4 => ?_)
  ·first | omega | exact absurd trivial hb4 | contradiction | (simp_all; done)
  ·refine vc_skip ?_
   try simp only [k_rules]
   refine h2 _ ?_; clear h2; try clear N2
   refine vc_seq_k fun N5 h5 => ?_
   rcases col_or S l L t with ⟨p1, p2, p3⟩ | ⟨p1, hv, hl30, hL20, p2, p3⟩ <;> rcases col_or S l L t' with ⟨u1, u2, u3⟩ | ⟨u1, hv', hl30', hL20', u2, u3⟩
   ·have p5 : ((colF S l L t).1 = 0) = False := eq_false p1
    have u5 : ((colF S l L t').1 = 0) = False := eq_false u1
    have hx0 := And.intro @p2 (And.intro @p3 (And.intro @p5 (And.intro @u2 (And.intro @u3 (And.intro @u5 (hx0))))))
    have hx := hx0
    refine u_reg ?_
    try refine lg_mk ?_
    refine u_ld ?_
    refine u_ld ?_
    refine u_mv ?_
    refine u_mv ?_
    have hc := call_rule (E := (E_exG.at_ 93)) (f := 8) (sp := Spec.pure colG) rfl
    have hs := @colG.eq_1
    refine u_hp (hq := by (first | ((repeat' apply And.intro) <;> first | rfl | trivial | omega | exact hsm | exact hsm2) | exact sd_)) ?_
    refine u_mv ?_
    refine u_ex ?_
    refine u_ex ?_
    refine u_ex ?_
    refine u_al ?_
    refine u_al ?_
    refine u_st ?_
    refine u_mv ?_
    refine u_st ?_
    refine lg_nil ?_
    refine h5 _ ?_; clear h5; try clear N5
    refine vc_seq_k fun N6 h6 => ?_
    refine u_reg ?_
    try refine lg_mk ?_
    refine u_ld ?_
    refine u_ld ?_
    refine u_mv ?_
    refine u_mv ?_
    have hc := call_rule (E := (E_exG.at_ 93)) (f := 8) (sp := Spec.pure colG) rfl
    have hs := @colG.eq_1
    refine u_hp (hq := by (first | ((repeat' apply And.intro) <;> first | rfl | trivial | omega | exact hsm | exact hsm2) | exact sd_)) ?_
    refine u_mv ?_
    refine u_ex ?_
    refine u_ex ?_
    refine u_ex ?_
    refine u_al ?_
    refine u_al ?_
    refine u_st ?_
    refine u_mv ?_
    refine u_st ?_
    refine lg_nil ?_
    refine h6 _ ?_; clear h6; try clear N6
    refine vc_seq_k fun N7 h7 => ?_
    refine vc_seq_k fun N8 h8 => ?_
    refine u_reg ?_
    try refine lg_mk ?_
    refine u_pt ?_
    refine u_ld ?_
    refine u_bn ?_
    refine u_mv ?_
    refine g_pt ?_
    refine g_ld ?_
    refine g_bn ?_
    refine u_pk ?_
    refine u_mv ?_
    refine g_mv ?_
    refine g_mv ?_
    refine g_bn ?_
    refine u_pk ?_
    refine lg_nil ?_
    refine h8 _ ?_; clear h8; try clear N8
    refine u_cond (fun hb9 => ?_) (fun hb9 => ?_)
    ·refine vc_seq_k fun N10 h10 => ?_
     refine u_reg ?_
     try refine lg_mk ?_
     refine u_pt ?_
     refine u_ld ?_
     refine u_bn ?_
     refine u_mv ?_
     refine g_pt ?_
     refine g_ld ?_
     refine g_ln ?_
     refine g_mv ?_
     refine g_ln ?_
     refine g_bn ?_
     refine g_bn ?_
     refine u_pk ?_
     refine u_mv ?_
     refine lg_nil ?_
     refine h10 _ ?_; clear h10; try clear N10
     refine vc_ret ?_
     try simp only [k_rules]
     refine fin2_ ?_
     (repeat' apply And.intro) <;> (first | (first | rfl | (simp; done) | (simp [*]; done) | (left; rfl)) | exact cl_)
    ·first | omega | exact absurd trivial hb9 | contradiction | (simp_all; done)
   ·have p5 : ((colF S l L t).1 = 0) = False := eq_false p1
    have hx0 := And.intro @p2 (And.intro @p3 (And.intro @p5 (And.intro @u1 (And.intro @u2 (And.intro @u3 (hx0))))))
    have hx := hx0
    refine u_reg ?_
    try refine lg_mk ?_
    refine u_ld ?_
    refine u_ld ?_
    refine u_mv ?_
    refine u_mv ?_
    have hc := call_rule (E := (E_exG.at_ 93)) (f := 8) (sp := Spec.pure colG) rfl
    have hs := @colG.eq_1
    refine u_hp (hq := by (first | ((repeat' apply And.intro) <;> first | rfl | trivial | omega | exact hsm | exact hsm2) | exact sd_)) ?_
    refine u_mv ?_
    refine u_ex ?_
    refine u_ex ?_
    refine u_ex ?_
    refine u_al ?_
    refine u_al ?_
    refine u_st ?_
    refine u_mv ?_
    refine u_st ?_
    refine lg_nil ?_
    refine h5 _ ?_; clear h5; try clear N5
    refine vc_seq_k fun N11 h11 => ?_
    refine u_reg ?_
    try refine lg_mk ?_
    refine u_ld ?_
    refine u_ld ?_
    refine u_mv ?_
    refine u_mv ?_
    have hc := call_rule (E := (E_exG.at_ 93)) (f := 8) (sp := Spec.pure colG) rfl
    have hs := @colG.eq_1
    refine u_hp (hq := by (first | ((repeat' apply And.intro) <;> first | rfl | trivial | omega | exact hsm | exact hsm2) | exact sd_)) ?_
    refine u_mv ?_
    refine u_ex ?_
    refine u_ex ?_
    refine u_ex ?_
    refine u_al ?_
    refine u_al ?_
    refine u_st ?_
    refine u_mv ?_
    refine u_st ?_
    refine lg_nil ?_
    refine h11 _ ?_; clear h11; try clear N11
    refine vc_seq_k fun N12 h12 => ?_
    refine vc_seq_k fun N13 h13 => ?_
    refine u_reg ?_
    try refine lg_mk ?_
    refine u_pt ?_
    refine u_ld ?_
    refine u_bn ?_
    refine u_mv ?_
    refine g_pt ?_
    refine g_ld ?_
    refine g_bn ?_
    refine u_pk ?_
    refine u_mv ?_
    refine g_mv ?_
    refine g_mv ?_
    refine g_bn ?_
    refine u_pk ?_
    refine lg_nil ?_
    refine h13 _ ?_; clear h13; try clear N13
    refine u_cond (fun hb14 => ?_) (fun hb14 => ?_)
    ·refine vc_seq_k fun N15 h15 => ?_
     refine u_reg ?_
     try refine lg_mk ?_
     refine u_pt ?_
     refine u_ld ?_
     refine u_bn ?_
     refine u_mv ?_
     refine g_pt ?_
     refine g_ld ?_
     refine g_ln ?_
     refine g_mv ?_
     refine g_ln ?_
     refine g_bn ?_
     refine g_bn ?_
     refine u_pk ?_
     refine u_mv ?_
     refine lg_nil ?_
     refine h15 _ ?_; clear h15; try clear N15
     refine vc_ret ?_
     try simp only [k_rules]
     refine fin2_ ?_
     (repeat' apply And.intro) <;> (first | (first | rfl | (simp; done) | (simp [*]; done) | (left; rfl)) | exact cl_)
    ·first | omega | exact absurd trivial hb14 | contradiction | (simp_all; done)
   ·have u5 : ((colF S l L t').1 = 0) = False := eq_false u1
    have hx0 := And.intro @p1 (And.intro @p2 (And.intro @p3 (And.intro @u2 (And.intro @u3 (And.intro @u5 (hx0))))))
    have hx := hx0
    refine u_reg ?_
    try refine lg_mk ?_
    refine u_ld ?_
    refine u_ld ?_
    refine u_mv ?_
    refine u_mv ?_
    have hc := call_rule (E := (E_exG.at_ 93)) (f := 8) (sp := Spec.pure colG) rfl
    have hs := @colG.eq_1
    refine u_hp (hq := by (first | ((repeat' apply And.intro) <;> first | rfl | trivial | omega | exact hsm | exact hsm2) | exact sd_)) ?_
    refine u_mv ?_
    refine u_ex ?_
    refine u_ex ?_
    refine u_ex ?_
    refine u_al ?_
    refine u_al ?_
    refine u_st ?_
    refine u_mv ?_
    refine u_st ?_
    refine lg_nil ?_
    refine h5 _ ?_; clear h5; try clear N5
    refine vc_seq_k fun N16 h16 => ?_
    refine u_reg ?_
    try refine lg_mk ?_
    refine u_ld ?_
    refine u_ld ?_
    refine u_mv ?_
    refine u_mv ?_
    have hc := call_rule (E := (E_exG.at_ 93)) (f := 8) (sp := Spec.pure colG) rfl
    have hs := @colG.eq_1
    refine u_hp (hq := by (first | ((repeat' apply And.intro) <;> first | rfl | trivial | omega | exact hsm | exact hsm2) | exact sd_)) ?_
    refine u_mv ?_
    refine u_ex ?_
    refine u_ex ?_
    refine u_ex ?_
    refine u_al ?_
    refine u_al ?_
    refine u_st ?_
    refine u_mv ?_
    refine u_st ?_
    refine lg_nil ?_
    refine h16 _ ?_; clear h16; try clear N16
    refine vc_seq_k fun N17 h17 => ?_
    refine vc_seq_k fun N18 h18 => ?_
    refine u_reg ?_
    try refine lg_mk ?_
    refine u_pt ?_
    refine u_ld ?_
    refine u_bn ?_
    refine u_mv ?_
    refine g_pt ?_
    refine g_ld ?_
    refine g_bn ?_
    refine u_pk ?_
    refine u_mv ?_
    refine g_mv ?_
    refine g_mv ?_
    refine g_bn ?_
    refine u_pk ?_
    refine lg_nil ?_
    refine h18 _ ?_; clear h18; try clear N18
    refine u_cond (fun hb19 => ?_) (fun hb19 => ?_)
    ·refine vc_seq_k fun N20 h20 => ?_
     refine u_reg ?_
     try refine lg_mk ?_
     refine u_pt ?_
     refine u_ld ?_
     refine u_bn ?_
     refine u_mv ?_
     refine g_pt ?_
     refine g_ld ?_
     refine g_ln ?_
     refine g_mv ?_
     refine g_ln ?_
     refine g_bn ?_
     refine g_bn ?_
     refine u_pk ?_
     refine u_mv ?_
     refine lg_nil ?_
     refine h20 _ ?_; clear h20; try clear N20
     refine vc_ret ?_
     try simp only [k_rules]
     refine fin2_ ?_
     (repeat' apply And.intro) <;> (first | (first | rfl | (simp; done) | (simp [*]; done) | (left; rfl)) | exact cl_)
    ·first | omega | exact absurd trivial hb19 | contradiction | (simp_all; done)
   ·have hlen := hv.len
    have hkl := ke_len S (held l L t)
    have hkl' := ke_len S (held l L t')
    have hdl := dgs_len (goS S (held l L t))
    have hdl' := dgs_len (goS S (held l L t'))
    have hkv := ke_val hv (held l L t)
    have hx0 := And.intro @p1 (And.intro @p2 (And.intro @p3 (And.intro @u1 (And.intro @u2 (And.intro @u3 (hx0))))))
    have hx := hx0
    refine u_reg ?_
    try refine lg_mk ?_
    refine u_ld ?_
    refine u_ld ?_
    refine u_mv ?_
    refine u_mv ?_
    have hc := call_rule (E := (E_exG.at_ 93)) (f := 8) (sp := Spec.pure colG) rfl
    have hs := @colG.eq_1
    refine u_hp (hq := by (first | ((repeat' apply And.intro) <;> first | rfl | trivial | omega | exact hsm | exact hsm2) | exact sd_)) ?_
    refine u_mv ?_
    refine u_ex ?_
    refine u_ex ?_
    refine u_ex ?_
    refine u_al ?_
    refine u_al ?_
    refine u_st ?_
    refine u_mv ?_
    refine u_st ?_
    refine lg_nil ?_
    refine h5 _ ?_; clear h5; try clear N5
    refine vc_seq_k fun N21 h21 => ?_
    refine u_reg ?_
    try refine lg_mk ?_
    refine u_ld ?_
    refine u_ld ?_
    refine u_mv ?_
    refine u_mv ?_
    have hc := call_rule (E := (E_exG.at_ 93)) (f := 8) (sp := Spec.pure colG) rfl
    have hs := @colG.eq_1
    refine u_hp (hq := by (first | ((repeat' apply And.intro) <;> first | rfl | trivial | omega | exact hsm | exact hsm2) | exact sd_)) ?_
    refine u_mv ?_
    refine u_ex ?_
    refine u_ex ?_
    refine u_ex ?_
    refine u_al ?_
    refine u_al ?_
    refine u_st ?_
    refine u_mv ?_
    refine u_st ?_
    refine lg_nil ?_
    refine h21 _ ?_; clear h21; try clear N21
    refine vc_seq_k fun N22 h22 => ?_
    refine vc_seq_k fun N23 h23 => ?_
    refine u_reg ?_
    try refine lg_mk ?_
    refine u_pt ?_
    refine u_ld ?_
    refine u_bn ?_
    refine u_mv ?_
    refine g_pt ?_
    refine g_ld ?_
    refine g_bn ?_
    refine u_pk ?_
    refine u_mv ?_
    refine g_mv ?_
    refine g_mv ?_
    refine g_bn ?_
    refine u_pk ?_
    refine lg_nil ?_
    refine h23 _ ?_; clear h23; try clear N23
    refine u_cond (fun hb24 => ?_) (fun hb24 => ?_)
    ·refine vc_seq_k fun N25 h25 => ?_
     refine u_reg ?_
     try refine lg_mk ?_
     refine u_pt ?_
     refine u_ld ?_
     refine u_bn ?_
     refine u_mv ?_
     refine g_pt ?_
     refine g_ld ?_
     refine g_ln ?_
     refine g_mv ?_
     refine g_ln ?_
     refine g_bn ?_
     refine g_bn ?_
     refine u_pk ?_
     refine u_mv ?_
     refine lg_nil ?_
     refine h25 _ ?_; clear h25; try clear N25
     refine vc_ret ?_
     try simp only [k_rules]
     refine fin2_ ?_
     (repeat' apply And.intro) <;> (first | (first | rfl | (simp; done) | (simp [*]; done) | (left; rfl)) | exact cl_)
    ·have htt : t ≤ t' := by have h9 := hb24; (try simp at h9); omega
     have hhm := held_mono (l := l) (L := L) htt
     have hgm := go_mono hv hhm
     have hkm := ke_mono hv hhm
     refine vc_skip ?_
     try simp only [k_rules]
     refine h22 _ ?_; clear h22; try clear N22
     refine vc_seq_k fun N26 h26 => ?_
     refine vc_seq_k fun N27 h27 => ?_
     refine u_reg ?_
     try refine lg_mk ?_
     refine u_mv ?_
     refine lg_nil ?_
     refine h27 _ ?_; clear h27; try clear N27
     refine vc_block ?_
     refine vc_loop_mk (σ := Nat) (fun s => (fun i => i ≤ (dgs (goS S (held l L t))).length) s)
      (fun s => (fun i => [(2, .d (.sl (rows eW L))), (3, .d (.int .i64 t)), (4, .d (.int .i64 t')), (11, .ptr 0 0 0), (12, .d (.sl (rows eI (dgs (goS S (held l L t)))))), (14, .ptr 1 0 0), (15, .d (.sl (rows eI (dgs (goS S (held l L t')))))), (17, .d (.int .i64 (i : Nat)))]) s)
      (fun s => (fun i => [some (.one 24 [.d (.sl (rows eO (keS S (held l L t))))]), some (.one 24 [.d (.sl (rows eO (keS S (held l L t'))))])]) s) (fun s => (fun i => (dgs (goS S (held l L t))).length - i) s) hnp 0 ?_ [some 2, some 4] ?_ ?_
     ·dsimp only
      omega
     ·dsimp only
      refine ⟨by rfl, ?_, ?_⟩
      ·refine fin_ ?_
       exact cl_
      ·refine fin_ ?_
       exact cl_
     ·rintro i hinv N28 h28
      dsimp only at hinv ⊢
      have i1 := hinv
      refine vc_seq_k fun N29 h29 => ?_
      refine vc_seq_k fun N30 h30 => ?_
      refine u_reg ?_
      try refine lg_mk ?_
      refine u_mv ?_
      refine u_mv ?_
      refine u_ln ?_
      refine u_bn ?_
      refine lg_nil ?_
      refine h30 _ ?_; clear h30; try clear N30
      refine u_cond (fun hb31 => ?_) (fun hb31 => ?_)
      ·obtain ⟨d, hde⟩ := getE (l := dgs (goS S (held l L t))) (i := i) (by omega)
       have hda : decide (d ∈ dgs (goS S (held l L t'))) = true := decide_eq_true (hgm d (mem_at hde))
       refine vc_skip ?_
       try simp only [k_rules]
       refine h29 _ ?_; clear h29; try clear N29
       refine vc_seq_k fun N32 h32 => ?_
       refine vc_block ?_
       refine vc_seq_k fun N33 h33 => ?_
       have hx := And.intro @hde (And.intro @eI.eq_1 (And.intro @hda hx0))
       refine u_reg ?_
       try refine lg_mk ?_
       refine u_mv ?_
       refine u_mv ?_
       refine u_mv ?_
       refine u_pt ?_
       refine u_ld ?_
       have hc := call_rule (E := (E_exG.at_ 93)) (f := 16) (sp := Spec.pure hasG) rfl
       have hs := @hasG.eq_1
       refine u_cp (hq := by (first | (omega) | exact sd_)) ?_
       refine u_un ?_
       refine lg_nil ?_
       have hx := hx0
       refine h33 _ ?_; clear h33; try clear N33
       refine u_cond (fun hb34 => ?_) (fun hb34 => ?_)
       ·first | omega | exact absurd trivial hb34 | contradiction | (simp_all; done)
       ·refine vc_skip ?_
        try simp only [k_rules]
        refine h32 _ ?_; clear h32; try clear N32
        refine u_reg ?_
        try refine lg_mk ?_
        refine u_mv ?_
        refine u_bn ?_
        refine u_mv ?_
        refine lg_nil ?_
        refine h28 _ ⟨i + 1, ?_, ?_, [some 0, some 1], ?_⟩
        ·dsimp only
         omega
        ·dsimp only
         omega
        ·dsimp only
         refine ⟨by rfl, ?_, ?_⟩
         ·refine fin_ ?_
          exact cl_
         ·refine fin_ ?_
          exact cl_
      ·refine vc_exit ?_
       simp only [k_rules, Nat.reduceEqDiff, reduceIte, eq_self]
       refine h26 _ ?_; clear h26; try clear N26
       refine vc_seq_k fun N35 h35 => ?_
       refine vc_seq_k fun N36 h36 => ?_
       refine u_reg ?_
       try refine lg_mk ?_
       refine u_mv ?_
       refine lg_nil ?_
       refine h36 _ ?_; clear h36; try clear N36
       refine vc_block ?_
       refine vc_loop_mk (σ := Nat) (fun s => (fun j => j ≤ (keS S (held l L t')).length) s)
        (fun s => (fun j => [(2, .d (.sl (rows eW L))), (3, .d (.int .i64 t)), (4, .d (.int .i64 t')), (11, .ptr 0 0 0), (14, .ptr 1 0 0), (18, .d (.int .i64 (j : Nat)))]) s)
        (fun s => (fun j => [some (.one 24 [.d (.sl (rows eO (keS S (held l L t))))]), some (.one 24 [.d (.sl (rows eO (keS S (held l L t'))))])]) s) (fun s => (fun j => (keS S (held l L t')).length - j) s) hnp 0 ?_ [some 0, some 1] ?_ ?_
       ·dsimp only
        omega
       ·dsimp only
        refine ⟨by rfl, ?_, ?_⟩
        ·refine fin_ ?_
         exact cl_
        ·refine fin_ ?_
         exact cl_
       ·rintro j hinv N37 h37
        dsimp only at hinv ⊢
        have j1 := hinv
        refine vc_seq_k fun N38 h38 => ?_
        refine vc_seq_k fun N39 h39 => ?_
        refine u_reg ?_
        try refine lg_mk ?_
        refine u_mv ?_
        refine u_pt ?_
        refine u_ld ?_
        refine u_ln ?_
        refine u_bn ?_
        refine lg_nil ?_
        refine h39 _ ?_; clear h39; try clear N39
        refine u_cond (fun hb40 => ?_) (fun hb40 => ?_)
        ·obtain ⟨x, hxe⟩ := getE (l := keS S (held l L t')) (i := j) (by omega)
         have hxi := hkm x (mem_at hxe)
         have hat : atS (keS S (held l L t)) x.dg = ((lbS (keS S (held l L t)) x.dg : Nat) : Int) := by unfold atS; rw [hxi]; rfl
         obtain ⟨d, o⟩ := x
         obtain ⟨kd, ll, u⟩ := o
         dsimp only at hat
         refine vc_skip ?_
         try simp only [k_rules]
         refine h38 _ ?_; clear h38; try clear N38
         refine vc_seq_k fun N41 h41 => ?_
         refine vc_block ?_
         refine vc_seq_k fun N42 h42 => ?_
         have hx := And.intro @hxe (And.intro @eO.eq_1 (And.intro @hat hx0))
         refine u_reg ?_
         try refine lg_mk ?_
         refine u_ld ?_
         refine u_pt ?_
         refine u_ld ?_
         refine u_mv ?_
         refine u_pt ?_
         refine u_pt ?_
         refine u_ld ?_
         have hc := call_rule (E := (E_exG.at_ 93)) (f := 17) (sp := Spec.pure atG) rfl
         have hs := @atG.eq_1
         refine u_cp (hq := by (first | (exact ⟨hkv.sort, by omega⟩) | exact sd_)) ?_
         refine u_bn ?_
         refine lg_nil ?_
         have hx := hx0
         refine h42 _ ?_; clear h42; try clear N42
         refine u_cond (fun hb43 => ?_) (fun hb43 => ?_)
         ·first | omega | exact absurd trivial hb43 | contradiction | (simp_all; done)
         ·refine vc_skip ?_
          try simp only [k_rules]
          refine h41 _ ?_; clear h41; try clear N41
          refine u_reg ?_
          try refine lg_mk ?_
          refine u_mv ?_
          refine u_bn ?_
          refine u_mv ?_
          refine lg_nil ?_
          refine h37 _ ⟨j + 1, ?_, ?_, [some 0, some 1], ?_⟩
          ·dsimp only
           omega
          ·dsimp only
           omega
          ·dsimp only
           refine ⟨by rfl, ?_, ?_⟩
           ·refine fin_ ?_
            exact cl_
           ·refine fin_ ?_
            exact cl_
        ·refine vc_exit ?_
         simp only [k_rules, Nat.reduceEqDiff, reduceIte, eq_self]
         refine h35 _ ?_; clear h35; try clear N35
         refine vc_seq_k fun N44 h44 => ?_
         refine u_reg ?_
         try refine lg_mk ?_
         refine u_mv ?_
         refine lg_nil ?_
         refine h44 _ ?_; clear h44; try clear N44
         refine vc_ret ?_
         try simp only [k_rules]
         refine fin2_ ?_
         (repeat' apply And.intro) <;> (first | (first | rfl | (simp; done) | (simp [*]; done) | (left; rfl)) | exact cl_)
 ·cases hg
end Go.Proofs.YtcjipciiljjfhaaGreatDoor
