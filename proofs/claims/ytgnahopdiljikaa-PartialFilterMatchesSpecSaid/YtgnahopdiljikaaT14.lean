/- Walks, printed by wip/gen/walk.py. -/
import Derived.Test.YtgnahopdiljikaaT13
import Derived.Test.YtgnahopdiljikaaV5
set_option linter.all false
set_option maxRecDepth 100000
set_option maxHeartbeats 4000000
namespace Go.Proofs.Ytgnahopdiljikaa
open Go Go.Vc Go.RowKit
theorem putR_meets : Meets Try.prog 41 (Spec.pure putRG) := by
 refine meets_fun (E_putO.at_ 86) Try.func41 rfl rfl rfl ?_
 intro args p r hg hp
 unfold putRG at hg
 split at hg
 ·rename_i xs k ls ds
  simp only [Option.some.injEq, Prod.mk.injEq] at hg
  obtain ⟨rfl, rfl⟩ := hg
  obtain ⟨he, hv, e1, e2, hov⟩ := hp
  generalize dO xs = S at *
  generalize dI ls = l at *
  generalize dU ds = u at *
  subst he e1 e2
  have hlen := hv.len
  have hol : l.length ≤ 30 := hov.ln
  have hou : u.length ≤ 1000 := hov.da
  have haL := addS_len S ⟨objD ⟨k, l, u⟩, ⟨k, l, u⟩⟩
  have hT : (E_putO).X = T := rfl
  have hx0 := And.intro @rect_eO (And.intro @dI_rows (And.intro @dU_rows (And.intro @dO_rows (And.intro @dec_t (And.intro @dec_f (And.intro @takeS_len (And.intro @takeS_ap (And.intro @eO_snoc @Try.results41))))))))
  have hx := hx0
  refine ⟨by rfl, ?_⟩
  intro F W0 hnp hmk
  refine vc_seq_k fun N1 h1 => ?_
  refine u_reg ?_
  try refine lg_mk ?_
  refine u_bx ?_
  refine u_bx ?_
  refine u_al ?_
  refine u_mv ?_
  refine u_mv ?_
  refine lg_nil ?_
  refine h1 _ ?_; clear h1; try clear N1
  refine vc_seq_k fun N2 h2 => ?_
  refine u_reg ?_
  try refine lg_mk ?_
  refine u_ld ?_
  have hc := call_rule (E := (E_putO.at_ 86)) (f := 29) (sp := Spec.pure objDG) rfl
  have hs := @objDG.eq_1
  refine u_cp (hq := by (first | (exact hov) | exact sd_)) ?_
  refine u_mv ?_
  refine lg_nil ?_
  refine h2 _ ?_; clear h2; try clear N2
  refine vc_seq_k fun N3 h3 => ?_
  refine vc_seq_k fun N4 h4 => ?_
  refine u_reg ?_
  try refine lg_mk ?_
  refine u_ld ?_
  refine u_mv ?_
  have hc := call_rule (E := (E_putO.at_ 86)) (f := 36) (sp := Spec.pure atG) rfl
  have hs := @atG.eq_1
  refine u_cp (hq := by (first | (exact ⟨hv.sort, by omega⟩) | exact sd_)) ?_
  refine u_mv ?_
  refine lg_nil ?_
  refine h4 _ ?_; clear h4; try clear N4
  refine vc_seq_k fun N5 h5 => ?_
  rcases put_cases hv hov with ⟨hin, ⟨y, hye, hyd, hyo⟩, hmm, g1, g2, g3⟩ | ⟨hin, ⟨y, hye, hyd, hyo⟩, hmm, g1, g2, g3⟩ | ⟨hin, hfl, g1, g2, g3⟩ | ⟨hin, hfl, g1, g2, g3⟩
  ·have hat : atS S (objD ⟨k, l, u⟩) = ((lbS S (objD ⟨k, l, u⟩) : Nat) : Int) := by unfold atS; rw [hin]; rfl
   have hklt := (List.getElem?_eq_some_iff.1 hye).1
   have hyk := (hv.ok y (mem_at hye)).ln
   obtain ⟨d', k', l', u'⟩ := y
   have hyk' : l'.length ≤ 30 := hyk
   obtain rfl : d' = objD ⟨k, l, u⟩ := hyd
   obtain ⟨rfl, rfl, rfl⟩ : k' = k ∧ l' = l ∧ u' = u := by simpa using hyo
   have hyn := hat
   have hx := And.intro @hat hx0
   refine u_reg ?_
   try refine lg_mk ?_
   refine u_mv ?_
   refine u_bn ?_
   refine lg_nil ?_
   have hx := hx0
   refine h5 _ ?_; clear h5; try clear N5
   refine u_cond (fun hb6 => ?_) (fun hb6 => ?_)
   ·refine vc_seq_k fun N7 h7 => ?_
    refine vc_seq_k fun N8 h8 => ?_
    have hx := And.intro @hat (And.intro @hye (And.intro @hyn (And.intro @eO.eq_1 hx0)))
    refine u_reg ?_
    try refine lg_mk ?_
    refine u_pt ?_
    refine u_ld ?_
    refine u_mv ?_
    refine u_pt ?_
    refine u_pt ?_
    refine u_ld ?_
    refine u_ld ?_
    have hc := call_rule (E := (E_putO.at_ 86)) (f := 30) (sp := Spec.pure sameG) rfl
    have hs := @sameG.eq_1
    refine u_cp ?_
    refine u_un ?_
    refine lg_nil ?_
    have hx := hx0
    refine h8 _ ?_; clear h8; try clear N8
    refine u_cond (fun hb9 => ?_) (fun hb9 => ?_)
    ·first | (simp at hb9; done) | exact absurd hb9 (by simp)
    ·refine vc_skip ?_
     try simp only [k_rules]
     refine h7 _ ?_; clear h7; try clear N7
     refine vc_seq_k fun N10 h10 => ?_
     refine u_reg ?_
     try refine lg_mk ?_
     refine u_ld ?_
     refine u_mv ?_
     refine u_st ?_
     refine u_mv ?_
     refine u_mv ?_
     refine lg_nil ?_
     refine h10 _ ?_; clear h10; try clear N10
     refine vc_ret ?_
     try simp only [k_rules]
     rw [g1, g2, g3]
     refine fin2_ ?_
     exact cl_
   ·first | omega | exact absurd trivial hb6 | contradiction | (simp_all; done)
  ·have hat : atS S (objD ⟨k, l, u⟩) = ((lbS S (objD ⟨k, l, u⟩) : Nat) : Int) := by unfold atS; rw [hin]; rfl
   have hklt := (List.getElem?_eq_some_iff.1 hye).1
   have hyk := (hv.ok y (mem_at hye)).ln
   obtain ⟨d', k', l', u'⟩ := y
   have hyk' : l'.length ≤ 30 := hyk
   obtain rfl : d' = objD ⟨k, l, u⟩ := hyd
   have hyn : decide (k' = k ∧ l' = l ∧ u' = u) = false := decide_eq_false (fun h => hyo (by obtain ⟨rfl, rfl, rfl⟩ := h; rfl))
   have hx := And.intro @hat hx0
   refine u_reg ?_
   try refine lg_mk ?_
   refine u_mv ?_
   refine u_bn ?_
   refine lg_nil ?_
   have hx := hx0
   refine h5 _ ?_; clear h5; try clear N5
   refine u_cond (fun hb11 => ?_) (fun hb11 => ?_)
   ·refine vc_seq_k fun N12 h12 => ?_
    refine vc_seq_k fun N13 h13 => ?_
    have hx := And.intro @hat (And.intro @hye (And.intro @hyn (And.intro @eO.eq_1 hx0)))
    refine u_reg ?_
    try refine lg_mk ?_
    refine u_pt ?_
    refine u_ld ?_
    refine u_mv ?_
    refine u_pt ?_
    refine u_pt ?_
    refine u_ld ?_
    refine u_ld ?_
    have hc := call_rule (E := (E_putO.at_ 86)) (f := 30) (sp := Spec.pure sameG) rfl
    have hs := @sameG.eq_1
    refine u_cp ?_
    refine u_un ?_
    refine lg_nil ?_
    have hx := hx0
    refine h13 _ ?_; clear h13; try clear N13
    refine u_cond (fun hb14 => ?_) (fun hb14 => ?_)
    ·refine vc_seq_k fun N15 h15 => ?_
     refine u_reg ?_
     try refine lg_mk ?_
     refine u_bd ?_
     refine u_st ?_
     refine u_mv ?_
     refine u_mv ?_
     refine lg_nil ?_
     refine h15 _ ?_; clear h15; try clear N15
     refine vc_ret ?_
     try simp only [k_rules]
     rw [g1, g2, g3]
     refine fin2_ ?_
     exact cl_
    ·cases hb14
   ·first | omega | exact absurd trivial hb11 | contradiction | (simp_all; done)
  ·have hat : atS S (objD ⟨k, l, u⟩) = -1 := by unfold atS; rw [hin]; rfl
   have hye := hat
   have hx := And.intro @hat hx0
   refine u_reg ?_
   try refine lg_mk ?_
   refine u_mv ?_
   refine u_bn ?_
   refine lg_nil ?_
   have hx := hx0
   refine h5 _ ?_; clear h5; try clear N5
   refine u_cond (fun hb16 => ?_) (fun hb16 => ?_)
   ·first | omega | exact absurd trivial hb16 | contradiction | (simp_all; done)
   ·refine vc_skip ?_
    try simp only [k_rules]
    refine h3 _ ?_; clear h3; try clear N3
    refine vc_seq_k fun N17 h17 => ?_
    refine vc_seq_k fun N18 h18 => ?_
    refine u_reg ?_
    try refine lg_mk ?_
    refine u_pt ?_
    refine u_ld ?_
    refine u_ln ?_
    refine u_bn ?_
    refine lg_nil ?_
    refine h18 _ ?_; clear h18; try clear N18
    refine u_cond (fun hb19 => ?_) (fun hb19 => ?_)
    ·refine vc_seq_k fun N20 h20 => ?_
     refine u_reg ?_
     try refine lg_mk ?_
     refine u_bd ?_
     refine u_st ?_
     refine u_mv ?_
     refine u_mv ?_
     refine lg_nil ?_
     refine h20 _ ?_; clear h20; try clear N20
     refine vc_ret ?_
     try simp only [k_rules]
     rw [g1, g2, g3]
     refine fin2_ ?_
     exact cl_
    ·first | omega | exact absurd trivial hb19 | contradiction | (simp_all; done)
  ·have hat : atS S (objD ⟨k, l, u⟩) = -1 := by unfold atS; rw [hin]; rfl
   have hye := hat
   have hx := And.intro @hat hx0
   refine u_reg ?_
   try refine lg_mk ?_
   refine u_mv ?_
   refine u_bn ?_
   refine lg_nil ?_
   have hx := hx0
   refine h5 _ ?_; clear h5; try clear N5
   refine u_cond (fun hb21 => ?_) (fun hb21 => ?_)
   ·first | omega | exact absurd trivial hb21 | contradiction | (simp_all; done)
   ·refine vc_skip ?_
    try simp only [k_rules]
    refine h3 _ ?_; clear h3; try clear N3
    refine vc_seq_k fun N22 h22 => ?_
    refine vc_seq_k fun N23 h23 => ?_
    refine u_reg ?_
    try refine lg_mk ?_
    refine u_pt ?_
    refine u_ld ?_
    refine u_ln ?_
    refine u_bn ?_
    refine lg_nil ?_
    refine h23 _ ?_; clear h23; try clear N23
    refine u_cond (fun hb24 => ?_) (fun hb24 => ?_)
    ·first | omega | exact absurd trivial hb24 | contradiction | (simp_all; done)
    ·refine vc_skip ?_
     try simp only [k_rules]
     refine h22 _ ?_; clear h22; try clear N22
     refine vc_seq_k fun N25 h25 => ?_
     refine u_reg ?_
     try refine lg_mk ?_
     refine u_bd ?_
     refine u_al ?_
     refine u_st ?_
     refine lg_nil ?_
     refine h25 _ ?_; clear h25; try clear N25
     refine vc_seq_k fun N26 h26 => ?_
     refine vc_nil1 3 0 _ 4 (vec_nil 39 4) rfl rfl rfl ?_
     simp only [updL, List.set, List.cons_append, List.nil_append]
     refine u_reg ?_
     try refine lg_mk ?_
     refine u_mv ?_
     refine lg_nil ?_
     refine h26 _ ?_; clear h26; try clear N26
     refine vc_seq_k fun N27 h27 => ?_
     refine vc_seq_k fun N28 h28 => ?_
     refine u_reg ?_
     try refine lg_mk ?_
     refine u_mv ?_
     refine lg_nil ?_
     refine h28 _ ?_; clear h28; try clear N28
     refine vc_block ?_
     refine vc_loop_mk (σ := Nat) (fun s => (fun i => i ≤ S.length) s)
      (fun s => (fun i => [(2, .ptr 0 0 0), (3, .ptr 1 0 0), (4, .ptr 2 0 0), (7, .d (.int .i64 (objD ⟨k, l, u⟩))), (9, .ptr 3 0 0), (10, .d (.bool (decide ((lbS S (objD ⟨k, l, u⟩)) < i)))), (11, .d (.int .i64 (i : Nat)))]) s)
      (fun s => (fun i => [some (.one 24 [.d (.sl (rows eO S))]), some (.one 37 [.d (.int .i64 k), .d (.sl (rows eI l)), .d (.sl (rows eU u))]), some (.one 24 [.d .nils]), some (.one 24 [.sl 4 0 (insK S (⟨objD ⟨k, l, u⟩, ⟨k, l, u⟩⟩ : SO) i).length]), some (.vec 39 4 (rows eO (insK S (⟨objD ⟨k, l, u⟩, ⟨k, l, u⟩⟩ : SO) i)))]) s) (fun s => (fun i => S.length - i) s) hnp 0 ?_ [some 0, some 1, some 2, some 3, some 4] ?_ ?_
     ·dsimp only
      omega
     ·dsimp only
      refine ⟨by rfl, ?_, ?_⟩
      ·refine fin_ ?_
       exact cl_
      ·refine fin_ ?_
       exact cl_
     ·rintro i hinv N29 h29
      dsimp only at hinv ⊢
      have i1 := hinv
      refine vc_seq_k fun N30 h30 => ?_
      refine vc_seq_k fun N31 h31 => ?_
      refine u_reg ?_
      try refine lg_mk ?_
      refine u_mv ?_
      refine u_pt ?_
      refine u_ld ?_
      refine u_ln ?_
      refine u_bn ?_
      refine lg_nil ?_
      refine h31 _ ?_; clear h31; try clear N31
      refine u_cond (fun hb32 => ?_) (fun hb32 => ?_)
      ·obtain ⟨y, hye⟩ := getE (l := S) (i := i) (by omega)
       have hgt := lb_gt hv.sort hin hye
       have hyo := hv.ok y (mem_at hye)
       have hyl := hyo.ln
       have hil := insK_len (S := S) (x := (⟨objD ⟨k, l, u⟩, ⟨k, l, u⟩⟩ : SO)) (i := i) (by omega)
       dsimp only at hil
       refine vc_skip ?_
       try simp only [k_rules]
       refine h30 _ ?_; clear h30; try clear N30
       refine vc_seq_k fun N33 h33 => ?_
       refine vc_block ?_
       refine vc_seq_k fun N34 h34 => ?_
       refine vc_seq_k fun N35 h35 => ?_
       rcases Nat.lt_trichotomy (lbS S (objD ⟨k, l, u⟩)) i with hc | hc | hc
       ·have hq1 : decide ((lbS S (objD ⟨k, l, u⟩)) < i) = true := decide_eq_true hc
        have hq2 := hq1
        rw [if_pos hc] at hil
        have hx := And.intro @hq1 (And.intro @hq2 (And.intro @hye (And.intro @eO.eq_1 hx0)))
        refine u_reg ?_
        try refine lg_mk ?_
        refine u_mv ?_
        refine u_un ?_
        refine u_mv ?_
        refine g_pt ?_
        refine g_ld ?_
        refine g_mv ?_
        refine g_pt ?_
        refine g_pt ?_
        refine g_ld ?_
        refine g_mv ?_
        refine g_bn ?_
        refine u_pk ?_
        refine lg_nil ?_
        have hx := hx0
        refine h35 _ ?_; clear h35; try clear N35
        refine u_cond (fun hb36 => ?_) (fun hb36 => ?_)
        ·cases hb36
        ·refine vc_skip ?_
         try simp only [k_rules]
         refine h34 _ ?_; clear h34; try clear N34
         have hx := And.intro @hye (And.intro @eO.eq_1 hx0)
         refine u_reg ?_
         try refine lg_mk ?_
         refine u_pt ?_
         refine u_ld ?_
         refine u_pt ?_
         refine u_ld ?_
         refine u_mv ?_
         refine u_pt ?_
         refine u_ld ?_
         refine u_bs ?_
         refine u_ap (hq := by (first | (first | omega | (constructor <;> first | omega | (simp; omega) | (simp; done))) | exact sd_)) ?_
         refine u_pt ?_
         refine u_st ?_
         refine lg_nil ?_
         have hx := hx0
         refine h33 _ ?_; clear h33; try clear N33
         refine u_reg ?_
         try refine lg_mk ?_
         refine u_mv ?_
         refine u_bn ?_
         refine u_mv ?_
         refine lg_nil ?_
         have hsn := insK_off (x := (⟨objD ⟨k, l, u⟩, ⟨k, l, u⟩⟩ : SO)) hye (show i ≠ (lbS S (objD ⟨k, l, u⟩)) by omega)
         refine h29 _ ⟨i + 1, ?_, ?_, [some 0, some 1, some 2, some 3, some 6], ?_⟩
         ·dsimp only
          omega
         ·dsimp only
          omega
         ·dsimp only
          refine ⟨by rfl, ?_, ?_⟩
          ·refine fin_ ?_
           (repeat' apply And.intro) <;> (first | (first | rfl | trivial | omega | (rw [hsn]; done) | (rw [hsn]; simp; done) | (rw [hsn]; simp; omega)) | exact cl_)
          ·refine fin_ ?_
           (repeat' apply And.intro) <;> (first | (first | rfl | trivial | omega | (rw [hsn]; done) | (rw [hsn]; simp; done) | (rw [hsn]; simp; omega)) | exact cl_)
       ·have hq1 : decide ((lbS S (objD ⟨k, l, u⟩)) < i) = false := decide_eq_false (by omega)
        have hq2 : decide (objD ⟨k, l, u⟩ < y.dg) = true := decide_eq_true (hgt.2 (by omega))
        rw [if_neg (by omega)] at hil
        have hx := And.intro @hq1 (And.intro @hq2 (And.intro @hye (And.intro @eO.eq_1 hx0)))
        refine u_reg ?_
        try refine lg_mk ?_
        refine u_mv ?_
        refine u_un ?_
        refine u_mv ?_
        refine g_pt ?_
        refine g_ld ?_
        refine g_mv ?_
        refine g_pt ?_
        refine g_pt ?_
        refine g_ld ?_
        refine g_mv ?_
        refine g_bn ?_
        refine u_pk ?_
        refine lg_nil ?_
        have hx := hx0
        refine h35 _ ?_; clear h35; try clear N35
        refine u_cond (fun hb37 => ?_) (fun hb37 => ?_)
        ·refine vc_seq_k fun N38 h38 => ?_
         refine u_reg ?_
         try refine lg_mk ?_
         refine u_pt ?_
         refine u_ld ?_
         refine u_mv ?_
         refine u_ld ?_
         refine u_bd ?_
         refine u_bs ?_
         refine u_ap (hq := by (first | (first | omega | (constructor <;> first | omega | (simp; omega) | (simp; done))) | exact sd_)) ?_
         refine u_pt ?_
         refine u_st ?_
         refine lg_nil ?_
         refine h38 _ ?_; clear h38; try clear N38
         refine u_reg ?_
         try refine lg_mk ?_
         refine u_mv ?_
         refine lg_nil ?_
         refine h34 _ ?_; clear h34; try clear N34
         have hx := And.intro @hye (And.intro @eO.eq_1 hx0)
         refine u_reg ?_
         try refine lg_mk ?_
         refine u_pt ?_
         refine u_ld ?_
         refine u_pt ?_
         refine u_ld ?_
         refine u_mv ?_
         refine u_pt ?_
         refine u_ld ?_
         refine u_bs ?_
         refine u_ap (hq := by (first | (first | omega | (constructor <;> first | omega | (simp; omega) | (simp; done))) | exact sd_)) ?_
         refine u_pt ?_
         refine u_st ?_
         refine lg_nil ?_
         have hx := hx0
         refine h33 _ ?_; clear h33; try clear N33
         refine u_reg ?_
         try refine lg_mk ?_
         refine u_mv ?_
         refine u_bn ?_
         refine u_mv ?_
         refine lg_nil ?_
         have hsn := insK_at (x := (⟨objD ⟨k, l, u⟩, ⟨k, l, u⟩⟩ : SO)) hye (show i = (lbS S (objD ⟨k, l, u⟩)) by omega)
         refine h29 _ ⟨i + 1, ?_, ?_, [some 0, some 1, some 2, some 3, some 8], ?_⟩
         ·dsimp only
          omega
         ·dsimp only
          omega
         ·dsimp only
          refine ⟨by rfl, ?_, ?_⟩
          ·refine fin_ ?_
           (repeat' apply And.intro) <;> (first | (first | rfl | trivial | omega | (rw [hsn]; done) | (rw [hsn]; simp; done) | (rw [hsn]; simp; omega)) | exact cl_)
          ·refine fin_ ?_
           (repeat' apply And.intro) <;> (first | (first | rfl | trivial | omega | (rw [hsn]; done) | (rw [hsn]; simp; done) | (rw [hsn]; simp; omega)) | exact cl_)
        ·cases hb37
       ·have hq1 : decide ((lbS S (objD ⟨k, l, u⟩)) < i) = false := decide_eq_false (by omega)
        have hq2 : decide (objD ⟨k, l, u⟩ < y.dg) = false := decide_eq_false (fun h => by have := hgt.1 h; omega)
        rw [if_neg (by omega)] at hil
        have hx := And.intro @hq1 (And.intro @hq2 (And.intro @hye (And.intro @eO.eq_1 hx0)))
        refine u_reg ?_
        try refine lg_mk ?_
        refine u_mv ?_
        refine u_un ?_
        refine u_mv ?_
        refine g_pt ?_
        refine g_ld ?_
        refine g_mv ?_
        refine g_pt ?_
        refine g_pt ?_
        refine g_ld ?_
        refine g_mv ?_
        refine g_bn ?_
        refine u_pk ?_
        refine lg_nil ?_
        have hx := hx0
        refine h35 _ ?_; clear h35; try clear N35
        refine u_cond (fun hb39 => ?_) (fun hb39 => ?_)
        ·cases hb39
        ·refine vc_skip ?_
         try simp only [k_rules]
         refine h34 _ ?_; clear h34; try clear N34
         have hx := And.intro @hye (And.intro @eO.eq_1 hx0)
         refine u_reg ?_
         try refine lg_mk ?_
         refine u_pt ?_
         refine u_ld ?_
         refine u_pt ?_
         refine u_ld ?_
         refine u_mv ?_
         refine u_pt ?_
         refine u_ld ?_
         refine u_bs ?_
         refine u_ap (hq := by (first | (first | omega | (constructor <;> first | omega | (simp; omega) | (simp; done))) | exact sd_)) ?_
         refine u_pt ?_
         refine u_st ?_
         refine lg_nil ?_
         have hx := hx0
         refine h33 _ ?_; clear h33; try clear N33
         refine u_reg ?_
         try refine lg_mk ?_
         refine u_mv ?_
         refine u_bn ?_
         refine u_mv ?_
         refine lg_nil ?_
         have hsn := insK_off (x := (⟨objD ⟨k, l, u⟩, ⟨k, l, u⟩⟩ : SO)) hye (show i ≠ (lbS S (objD ⟨k, l, u⟩)) by omega)
         refine h29 _ ⟨i + 1, ?_, ?_, [some 0, some 1, some 2, some 3, some 6], ?_⟩
         ·dsimp only
          omega
         ·dsimp only
          omega
         ·dsimp only
          refine ⟨by rfl, ?_, ?_⟩
          ·refine fin_ ?_
           (repeat' apply And.intro) <;> (first | (first | rfl | trivial | omega | (rw [hsn]; done) | (rw [hsn]; simp; done) | (rw [hsn]; simp; omega)) | exact cl_)
          ·refine fin_ ?_
           (repeat' apply And.intro) <;> (first | (first | rfl | trivial | omega | (rw [hsn]; done) | (rw [hsn]; simp; done) | (rw [hsn]; simp; omega)) | exact cl_)
      ·have hil := insK_len (S := S) (x := (⟨objD ⟨k, l, u⟩, ⟨k, l, u⟩⟩ : SO)) (i := i) (by omega)
       dsimp only at hil
       have hil9 : (insK S (⟨objD ⟨k, l, u⟩, ⟨k, l, u⟩⟩ : SO) i).length ≤ i + 1 := by rw [hil]; split <;> omega
       obtain rfl : i = S.length := by omega
       refine vc_exit ?_
       simp only [k_rules, Nat.reduceEqDiff, reduceIte, eq_self]
       refine h27 _ ?_; clear h27; try clear N27
       refine vc_seq_k fun N40 h40 => ?_
       refine vc_seq_k fun N41 h41 => ?_
       refine u_reg ?_
       try refine lg_mk ?_
       refine u_mv ?_
       refine u_un ?_
       refine lg_nil ?_
       refine h41 _ ?_; clear h41; try clear N41
       refine u_cond (fun hb42 => ?_) (fun hb42 => ?_)
       ·refine u_reg ?_
        try refine lg_mk ?_
        refine u_pt ?_
        refine u_ld ?_
        refine u_mv ?_
        refine u_ld ?_
        refine u_bd ?_
        refine u_bs ?_
        refine u_ap (hq := by (first | (first | omega | (constructor <;> first | omega | (simp; omega) | (simp; done))) | exact sd_)) ?_
        refine u_pt ?_
        refine u_st ?_
        refine lg_nil ?_
        refine h40 _ ?_; clear h40; try clear N40
        refine vc_seq_k fun N43 h43 => ?_
        refine u_reg ?_
        try refine lg_mk ?_
        refine u_ld ?_
        refine u_mv ?_
        refine u_st ?_
        refine u_mv ?_
        refine u_mv ?_
        refine lg_nil ?_
        refine h43 _ ?_; clear h43; try clear N43
        refine vc_ret ?_
        try simp only [k_rules]
        rw [g1, g2, g3]
        have hnl : ¬ (lbS S (objD ⟨k, l, u⟩)) < S.length := by have := hb42; simpa using this
        have hall := insK_end (S := S) (x := (⟨objD ⟨k, l, u⟩, ⟨k, l, u⟩⟩ : SO)) hnl
        rw [← hall]
        refine fin2_ ?_
        (repeat' apply And.intro) <;> (first | (first | rfl | trivial | omega | exact Or.inl rfl | (simp; done) | (simp; omega)) | exact cl_)
       ·refine vc_skip ?_
        try simp only [k_rules]
        refine h40 _ ?_; clear h40; try clear N40
        refine vc_seq_k fun N44 h44 => ?_
        refine u_reg ?_
        try refine lg_mk ?_
        refine u_ld ?_
        refine u_mv ?_
        refine u_st ?_
        refine u_mv ?_
        refine u_mv ?_
        refine lg_nil ?_
        refine h44 _ ?_; clear h44; try clear N44
        refine vc_ret ?_
        try simp only [k_rules]
        rw [g1, g2, g3]
        have hnl : (lbS S (objD ⟨k, l, u⟩)) < S.length := by have := hb42; simpa using this
        have hall := insK_all (S := S) (x := (⟨objD ⟨k, l, u⟩, ⟨k, l, u⟩⟩ : SO)) hnl
        rw [← hall]
        refine fin2_ ?_
        (repeat' apply And.intro) <;> (first | (first | rfl | trivial | omega | exact Or.inl rfl | (simp; done) | (simp; omega)) | exact cl_)
 ·cases hg

def E_putR : Env Try.prog := E_putO.add 41 (Spec.pure putRG) putR_meets (by kernel_rfl)
end Go.Proofs.Ytgnahopdiljikaa
