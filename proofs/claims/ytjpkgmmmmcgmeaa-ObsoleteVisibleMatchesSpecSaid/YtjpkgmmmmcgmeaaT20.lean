/- Walks, printed by wip/gen/walk.py. -/
import Derived.Test.YtjpkgmmmmcgmeaaT14
import Derived.Test.YtjpkgmmmmcgmeaaV6
import Derived.Test.YtjpkgmmmmcgmeaaV5
set_option linter.all false
set_option maxRecDepth 100000
set_option maxHeartbeats 4000000
namespace Go.Proofs.Ytjpkgmmmmcgmeaa
open Go Go.Vc Go.RowKit
theorem lawVi_meets : Meets Try.prog 8 (Spec.pure lawVG) := by
 refine meets_fun (E_exO.at_ 140) Try.func8 rfl rfl rfl ?_
 intro args p r hg hp
 unfold lawVG at hg
 split at hg
 ·rename_i xs ys zs
  simp only [Option.some.injEq, Prod.mk.injEq] at hg
  obtain ⟨rfl, rfl⟩ := hg
  obtain ⟨he, hl, hsm, he2, hl2, he3, hl3, hsc⟩ := hp
  generalize dM xs = l at *
  generalize dI ys = cs at *
  generalize dC zs = C at *
  subst he he2 he3
  have hvl := visR_len l cs
  have hol := orpR_len l C
  have hkl := orpK_len l C
  have hT : (E_exO).X = T := rfl
  have hx0 := And.intro @rect_eM (And.intro @dI_rows (And.intro @dM_rows (And.intro @dC_rows (And.intro @dI_nil (And.intro @dM_nil (And.intro @rI_nil (And.intro @rM_nil (And.intro @dI_one (And.intro @rI_one (And.intro @dec_t (And.intro @dec_f @Try.results8)))))))))))
  have hx := hx0
  refine ⟨by rfl, ?_⟩
  intro F W0 hnp hmk
  refine vc_seq_k fun N1 h1 => ?_
  refine u_reg ?_
  try refine lg_mk ?_
  refine u_mv ?_
  refine lg_nil ?_
  refine h1 _ ?_; clear h1; try clear N1
  refine vc_seq_k fun N2 h2 => ?_
  refine vc_seq_k fun N3 h3 => ?_
  refine u_reg ?_
  try refine lg_mk ?_
  have hc := call_rule (E := (E_exO.at_ 140)) (f := 9) (sp := Spec.pure exG) rfl
  have hs := @exG.eq_1
  refine u_cp ?_
  refine u_un ?_
  refine lg_nil ?_
  refine h3 _ ?_; clear h3; try clear N3
  refine u_cond (fun hb4 => ?_) (fun hb4 => ?_)
  ·first | omega | exact absurd trivial hb4 | contradiction | (simp_all; done)
  ·refine vc_skip ?_
   try simp only [k_rules]
   refine h2 _ ?_; clear h2; try clear N2
   refine vc_seq_k fun N5 h5 => ?_
   rcases Decidable.em ((mkF l).1 = 0) with p1 | p1
   ·have hx0 := And.intro @p1 (hx0)
    have hx := hx0
    refine u_reg ?_
    try refine lg_mk ?_
    refine u_mv ?_
    refine u_mv ?_
    have hc := call_rule (E := (E_exO.at_ 140)) (f := 23) (sp := Spec.pure visG) rfl
    have hs := @visG.eq_1
    refine u_hp ?_
    refine u_mv ?_
    refine u_ex ?_
    refine u_ex ?_
    refine u_al ?_
    refine u_mv ?_
    refine u_st ?_
    refine lg_nil ?_
    refine h5 _ ?_; clear h5; try clear N5
    refine vc_seq_k fun N6 h6 => ?_
    refine u_reg ?_
    try refine lg_mk ?_
    refine u_mv ?_
    refine u_mv ?_
    have hc := call_rule (E := (E_exO.at_ 140)) (f := 25) (sp := Spec.pure orpG) rfl
    have hs := @orpG.eq_1
    refine u_hp ?_
    refine u_mv ?_
    refine u_ex ?_
    refine u_ex ?_
    refine u_al ?_
    refine u_mv ?_
    refine u_st ?_
    refine lg_nil ?_
    refine h6 _ ?_; clear h6; try clear N6
    refine vc_seq_k fun N7 h7 => ?_
    refine u_reg ?_
    try refine lg_mk ?_
    refine u_mv ?_
    have hc := call_rule (E := (E_exO.at_ 140)) (f := 11) (sp := Spec.pure valKG) rfl
    have hs := @valKG.eq_1
    refine u_cp ?_
    refine u_al ?_
    refine u_st ?_
    refine lg_nil ?_
    refine h7 _ ?_; clear h7; try clear N7
    refine vc_seq_k fun N8 h8 => ?_
    refine vc_seq_k fun N9 h9 => ?_
    refine u_reg ?_
    try refine lg_mk ?_
    refine u_pt ?_
    refine u_ld ?_
    refine u_bn ?_
    refine lg_nil ?_
    refine h9 _ ?_; clear h9; try clear N9
    refine u_cond (fun hb10 => ?_) (fun hb10 => ?_)
    ·first | omega | exact absurd trivial hb10 | contradiction | (simp_all; done)
    ·refine vc_skip ?_
     try simp only [k_rules]
     refine h8 _ ?_; clear h8; try clear N8
     refine vc_seq_k fun N11 h11 => ?_
     refine u_reg ?_
     try refine lg_mk ?_
     refine u_bd ?_
     refine u_al ?_
     refine u_st ?_
     refine lg_nil ?_
     refine h11 _ ?_; clear h11; try clear N11
     refine vc_seq_k fun N12 h12 => ?_
     refine u_reg ?_
     try refine lg_mk ?_
     refine u_mv ?_
     refine lg_nil ?_
     refine h12 _ ?_; clear h12; try clear N12
     refine vc_seq_k fun N13 h13 => ?_
     refine vc_seq_k fun N14 h14 => ?_
     refine u_reg ?_
     try refine lg_mk ?_
     refine u_mv ?_
     refine lg_nil ?_
     refine h14 _ ?_; clear h14; try clear N14
     refine vc_block ?_
     refine vc_loop_mk (σ := Nat × Int × Int × List Int) (fun s => (fun i c z W => VI l cs i c z W) (s.1) (s.2.1) (s.2.2.1) (s.2.2.2))
      (fun s => (fun i c z W => [(0, .d (.sl (rows eM l))), (1, .d (.sl (rows eI cs))), (2, .d (.sl (rows eC C))), (7, .d (.sl (rows eI (visR l cs)))), (8, .ptr 0 0 0), (9, .d (.sl (rows eI (orpR l C)))), (10, .ptr 1 0 0), (12, .ptr 2 0 0), (13, .sl 3 0 W.length), (14, .d (.int .i64 (i : Nat)))]) (s.1) (s.2.1) (s.2.2.1) (s.2.2.2))
      (fun s => (fun i c z W => [some (.one 25 [.d (.int .i64 (visF l cs).1), .d (.int .i64 (visF l cs).2)]), some (.one 25 [.d (.int .i64 (orpF l C).1), .d (.int .i64 (orpF l C).2)]), some (.one 25 [.d (.int .i64 c), .d (.int .i64 z)]), some (.vec 3 1 (rows eI W))]) (s.1) (s.2.1) (s.2.2.1) (s.2.2.2)) (fun s => (fun i c z W => cs.length - i) (s.1) (s.2.1) (s.2.2.1) (s.2.2.2)) hnp (0, 0, 0, []) ?_ [some 0, some 1, some 3, none] ?_ ?_
     ·dsimp only
      exact ⟨⟨by omega, by simp⟩, .inl ⟨rfl, rfl, fun j hj => by omega, rfl⟩⟩
     ·dsimp only
      refine ⟨by rfl, ?_, ?_⟩
      ·refine fin_ ?_
       exact cl_
      ·refine fin_ ?_
       exact cl_
     ·rintro ⟨i, c, z, W⟩ hinv N15 h15
      dsimp only at hinv ⊢
      have hvi := hinv
      obtain ⟨⟨i1, i2⟩, -⟩ := hinv
      refine vc_seq_k fun N16 h16 => ?_
      refine vc_seq_k fun N17 h17 => ?_
      refine u_reg ?_
      try refine lg_mk ?_
      refine u_mv ?_
      refine u_mv ?_
      refine u_ln ?_
      refine u_bn ?_
      refine u_mv ?_
      refine g_pt ?_
      refine g_ld ?_
      refine g_bn ?_
      refine u_pk ?_
      refine lg_nil ?_
      refine h17 _ ?_; clear h17; try clear N17
      refine u_cond (fun hb18 => ?_) (fun hb18 => ?_)
      ·have ht := hb18
       try simp only [Bool.and_eq_true, decide_eq_true_eq] at ht
       obtain ⟨hic, rfl⟩ := ht
       obtain ⟨⟨v1, v2⟩, ⟨-, rfl, v3, v4⟩ | ⟨v3, -⟩⟩ := hvi
       rotate_left 1
       ·exact absurd rfl v3
       have hi60 := vis_60 v1 v3
       obtain ⟨x, hxe⟩ := getE (l := cs) (i := i) (by omega)
       have hsn := want_snoc (l := l) hxe
       refine vc_skip ?_
       try simp only [k_rules]
       refine h16 _ ?_; clear h16; try clear N16
       refine vc_seq_k fun N19 h19 => ?_
       refine vc_block ?_
       refine vc_seq_k fun N20 h20 => ?_
       have hx := And.intro @hxe (And.intro @eI.eq_1 hx0)
       refine u_reg ?_
       try refine lg_mk ?_
       refine u_mv ?_
       refine u_mv ?_
       refine u_pt ?_
       refine u_ld ?_
       have hc := call_rule (E := (E_exO.at_ 140)) (f := 21) (sp := Spec.pure inG) rfl
       have hs := @inG.eq_1
       refine u_cp ?_
       refine u_un ?_
       refine lg_nil ?_
       have hx := hx0
       refine h20 _ ?_; clear h20; try clear N20
       refine u_cond (fun hb21 => ?_) (fun hb21 => ?_)
       ·refine u_reg ?_
        try refine lg_mk ?_
        refine u_mv ?_
        refine u_bn ?_
        have hc := call_rule (E := (E_exO.at_ 140)) (f := 12) (sp := Spec.pure faultG) rfl
        have hs := @faultG.eq_1
        refine u_cp ?_
        refine u_st ?_
        refine lg_nil ?_
        refine h19 _ ?_; clear h19; try clear N19
        refine u_reg ?_
        try refine lg_mk ?_
        refine u_mv ?_
        refine u_bn ?_
        refine u_mv ?_
        refine lg_nil ?_
        refine h15 _ ⟨(i + 1, 3, -2 - (i : Int), W), ?_, ?_, [some 0, some 1, some 2, some 3], ?_⟩
        ·dsimp only
         exact ⟨⟨by omega, by omega⟩, .inr ⟨by decide, visF_at p1 (by omega) v3 (visC_rng hxe (by have := hb21; unfold rgK; simpa using this)) (by decide)⟩⟩
        ·dsimp only
         omega
        ·dsimp only
         refine ⟨by rfl, ?_, ?_⟩
         ·refine fin_ ?_
          exact cl_
         ·refine fin_ ?_
          exact cl_
       ·refine vc_seq_k fun N22 h22 => ?_
        rcases Nat.eq_zero_or_pos i with hk0 | hk0
        ·have hrx : rgK x = true := by have := hb21; unfold rgK; simpa using this
         have hye := hxe
         have hgt : decide ((0 : Int) < (i : Int)) = false := decide_eq_false (by omega)
         have hpm := hxe
         have hx := And.intro @hxe (And.intro @hye (And.intro @hgt (And.intro @hpm (And.intro @eI.eq_1 hx0))))
         refine u_reg ?_
         try refine lg_mk ?_
         refine u_mv ?_
         refine u_bn ?_
         refine u_mv ?_
         refine g_mv ?_
         refine g_mv ?_
         refine g_pt ?_
         refine g_ld ?_
         refine g_mv ?_
         refine g_mv ?_
         refine g_bn ?_
         refine g_pt ?_
         refine g_ld ?_
         refine g_bn ?_
         refine u_pk ?_
         refine lg_nil ?_
         have hx := hx0
         refine h22 _ ?_; clear h22; try clear N22
         refine u_cond (fun hb23 => ?_) (fun hb23 => ?_)
         ·first | omega | exact absurd trivial hb23 | contradiction | (simp_all; done)
         ·refine vc_seq_k fun N24 h24 => ?_
          have hx := And.intro @hxe (And.intro @eI.eq_1 hx0)
          refine u_reg ?_
          try refine lg_mk ?_
          refine u_mv ?_
          refine u_mv ?_
          refine u_mv ?_
          refine u_pt ?_
          refine u_ld ?_
          have hc := call_rule (E := (E_exO.at_ 140)) (f := 26) (sp := Spec.pure goneG) rfl
          have hs := @goneG.eq_1
          refine u_cp ?_
          refine u_un ?_
          refine lg_nil ?_
          have hx := hx0
          refine h24 _ ?_; clear h24; try clear N24
          refine u_cond (fun hb25 => ?_) (fun hb25 => ?_)
          ·have hx := And.intro @hxe (And.intro @eI.eq_1 hx0)
           refine u_reg ?_
           try refine lg_mk ?_
           refine u_mv ?_
           refine u_mv ?_
           refine u_mv ?_
           refine u_pt ?_
           refine u_ld ?_
           refine u_bs ?_
           refine u_ap ?_
           refine u_mv ?_
           refine lg_nil ?_
           have hx := hx0
           refine h19 _ ?_; clear h19; try clear N19
           refine u_reg ?_
           try refine lg_mk ?_
           refine u_mv ?_
           refine u_bn ?_
           refine u_mv ?_
           refine lg_nil ?_
           refine h15 _ ⟨(i + 1, 0, 0, W ++ [x]), ?_, ?_, [some 0, some 1, some 2, some 5], ?_⟩
           ·dsimp only
            refine ⟨⟨by omega, by simp; omega⟩, .inl ⟨rfl, rfl, lt_snoc v3 (by rw [visC_ok (y := 0) hxe hrx (fun h => by omega)]), ?_⟩⟩
            rw [hsn, v4, if_neg (by have := hb25; simpa using this)]
           ·dsimp only
            omega
           ·dsimp only
            refine ⟨by rfl, ?_, ?_⟩
            ·refine fin_ ?_
             (repeat' apply And.intro) <;> (first | (first | (with_reducible rfl) | exact True.intro | (simp [rows, eI]; done)) | exact cl_)
            ·refine fin_ ?_
             (repeat' apply And.intro) <;> (first | (first | (with_reducible rfl) | exact True.intro | (simp [rows, eI]; done)) | exact cl_)
          ·refine vc_skip ?_
           try simp only [k_rules]
           refine h19 _ ?_; clear h19; try clear N19
           refine u_reg ?_
           try refine lg_mk ?_
           refine u_mv ?_
           refine u_bn ?_
           refine u_mv ?_
           refine lg_nil ?_
           refine h15 _ ⟨(i + 1, 0, 0, W), ?_, ?_, [some 0, some 1, some 2, some 3], ?_⟩
           ·dsimp only
            refine ⟨⟨by omega, by omega⟩, .inl ⟨rfl, rfl, lt_snoc v3 (by rw [visC_ok (y := 0) hxe hrx (fun h => by omega)]), ?_⟩⟩
            rw [hsn, v4, if_pos (by have := hb25; simpa using this), List.append_nil]
           ·dsimp only
            omega
           ·dsimp only
            refine ⟨by rfl, ?_, ?_⟩
            ·refine fin_ ?_
             exact cl_
            ·refine fin_ ?_
             exact cl_
        ·have hrx : rgK x = true := by have := hb21; unfold rgK; simpa using this
         obtain ⟨y, hye⟩ := getE (l := cs) (i := i - 1) (by omega)
         have hpm : ((i : Int) - 1).toNat = i - 1 := by omega
         have hgt : decide ((0 : Int) < (i : Int)) = true := decide_eq_true (by omega)
         have hx := And.intro @hxe (And.intro @hye (And.intro @hgt (And.intro @hpm (And.intro @eI.eq_1 hx0))))
         refine u_reg ?_
         try refine lg_mk ?_
         refine u_mv ?_
         refine u_bn ?_
         refine u_mv ?_
         refine g_mv ?_
         refine g_mv ?_
         refine g_pt ?_
         refine g_ld ?_
         refine g_mv ?_
         refine g_mv ?_
         refine g_bn ?_
         refine g_pt ?_
         refine g_ld ?_
         refine g_bn ?_
         refine u_pk ?_
         refine lg_nil ?_
         have hx := hx0
         refine h22 _ ?_; clear h22; try clear N22
         refine u_cond (fun hb26 => ?_) (fun hb26 => ?_)
         ·refine u_reg ?_
          try refine lg_mk ?_
          refine u_mv ?_
          refine u_bn ?_
          have hc := call_rule (E := (E_exO.at_ 140)) (f := 12) (sp := Spec.pure faultG) rfl
          have hs := @faultG.eq_1
          refine u_cp ?_
          refine u_st ?_
          refine lg_nil ?_
          refine h19 _ ?_; clear h19; try clear N19
          refine u_reg ?_
          try refine lg_mk ?_
          refine u_mv ?_
          refine u_bn ?_
          refine u_mv ?_
          refine lg_nil ?_
          refine h15 _ ⟨(i + 1, 5, -2 - (i : Int), W), ?_, ?_, [some 0, some 1, some 2, some 3], ?_⟩
          ·dsimp only
           exact ⟨⟨by omega, by omega⟩, .inr ⟨by decide, visF_at p1 (by omega) v3 (visC_mal hxe hrx hk0 hye (by have := hb26; omega)) (by decide)⟩⟩
          ·dsimp only
           omega
          ·dsimp only
           refine ⟨by rfl, ?_, ?_⟩
           ·refine fin_ ?_
            exact cl_
           ·refine fin_ ?_
            exact cl_
         ·refine vc_seq_k fun N27 h27 => ?_
          have hx := And.intro @hxe (And.intro @eI.eq_1 hx0)
          refine u_reg ?_
          try refine lg_mk ?_
          refine u_mv ?_
          refine u_mv ?_
          refine u_mv ?_
          refine u_pt ?_
          refine u_ld ?_
          have hc := call_rule (E := (E_exO.at_ 140)) (f := 26) (sp := Spec.pure goneG) rfl
          have hs := @goneG.eq_1
          refine u_cp ?_
          refine u_un ?_
          refine lg_nil ?_
          have hx := hx0
          refine h27 _ ?_; clear h27; try clear N27
          refine u_cond (fun hb28 => ?_) (fun hb28 => ?_)
          ·have hx := And.intro @hxe (And.intro @eI.eq_1 hx0)
           refine u_reg ?_
           try refine lg_mk ?_
           refine u_mv ?_
           refine u_mv ?_
           refine u_mv ?_
           refine u_pt ?_
           refine u_ld ?_
           refine u_bs ?_
           refine u_ap ?_
           refine u_mv ?_
           refine lg_nil ?_
           have hx := hx0
           refine h19 _ ?_; clear h19; try clear N19
           refine u_reg ?_
           try refine lg_mk ?_
           refine u_mv ?_
           refine u_bn ?_
           refine u_mv ?_
           refine lg_nil ?_
           refine h15 _ ⟨(i + 1, 0, 0, W ++ [x]), ?_, ?_, [some 0, some 1, some 2, some 5], ?_⟩
           ·dsimp only
            refine ⟨⟨by omega, by simp; omega⟩, .inl ⟨rfl, rfl, lt_snoc v3 (by rw [visC_ok (y := _) hxe hrx (fun _ => ⟨hye, by have := hb26; omega⟩)]), ?_⟩⟩
            rw [hsn, v4, if_neg (by have := hb28; simpa using this)]
           ·dsimp only
            omega
           ·dsimp only
            refine ⟨by rfl, ?_, ?_⟩
            ·refine fin_ ?_
             (repeat' apply And.intro) <;> (first | (first | (with_reducible rfl) | exact True.intro | (simp [rows, eI]; done)) | exact cl_)
            ·refine fin_ ?_
             (repeat' apply And.intro) <;> (first | (first | (with_reducible rfl) | exact True.intro | (simp [rows, eI]; done)) | exact cl_)
          ·refine vc_skip ?_
           try simp only [k_rules]
           refine h19 _ ?_; clear h19; try clear N19
           refine u_reg ?_
           try refine lg_mk ?_
           refine u_mv ?_
           refine u_bn ?_
           refine u_mv ?_
           refine lg_nil ?_
           refine h15 _ ⟨(i + 1, 0, 0, W), ?_, ?_, [some 0, some 1, some 2, some 3], ?_⟩
           ·dsimp only
            refine ⟨⟨by omega, by omega⟩, .inl ⟨rfl, rfl, lt_snoc v3 (by rw [visC_ok (y := _) hxe hrx (fun _ => ⟨hye, by have := hb26; omega⟩)]), ?_⟩⟩
            rw [hsn, v4, if_pos (by have := hb28; simpa using this), List.append_nil]
           ·dsimp only
            omega
           ·dsimp only
            refine ⟨by rfl, ?_, ?_⟩
            ·refine fin_ ?_
             exact cl_
            ·refine fin_ ?_
             exact cl_
      ·obtain ⟨q1, q2, q3, q4⟩ := hvi.fin p1 (by have := hb18; (try simp only [Bool.and_eq_true, decide_eq_true_eq] at this); omega)
       refine vc_exit ?_
       simp only [k_rules, Nat.reduceEqDiff, reduceIte, eq_self]
       refine h13 _ ?_; clear h13; try clear N13
       refine vc_seq_k fun N29 h29 => ?_
       refine vc_seq_k fun N30 h30 => ?_
       refine u_reg ?_
       try refine lg_mk ?_
       refine u_pt ?_
       refine u_ld ?_
       refine u_bn ?_
       refine lg_nil ?_
       refine h30 _ ?_; clear h30; try clear N30
       refine u_cond (fun hb31 => ?_) (fun hb31 => ?_)
       ·have q5 := q4 hb31
        have hx0 := And.intro @q1 (And.intro @q2 (And.intro @q5 (hx0)))
        have hx := hx0
        refine u_reg ?_
        try refine lg_mk ?_
        refine u_mv ?_
        refine lg_nil ?_
        refine h29 _ ?_; clear h29; try clear N29
        refine vc_seq_k fun N32 h32 => ?_
        refine vc_seq_k fun N33 h33 => ?_
        refine u_reg ?_
        try refine lg_mk ?_
        refine u_ld ?_
        refine u_ld ?_
        refine u_bn ?_
        refine u_mv ?_
        refine g_mv ?_
        refine g_mv ?_
        have hc := call_rule (E := (E_exO.at_ 140)) (f := 19) (sp := Spec.pure intsG) rfl
        have hs := @intsG.eq_1
        refine g_cp ?_
        refine g_un ?_
        refine u_pk ?_
        refine lg_nil ?_
        refine h33 _ ?_; clear h33; try clear N33
        refine u_cond (fun hb34 => ?_) (fun hb34 => ?_)
        ·first | omega | exact absurd trivial hb34 | contradiction | (simp_all; done)
        ·refine vc_skip ?_
         try simp only [k_rules]
         refine h32 _ ?_; clear h32; try clear N32
         refine vc_seq_k fun N35 h35 => ?_
         refine vc_seq_k fun N36 h36 => ?_
         rcases orp_or (C := C) p1 with ho | ho
         ·obtain ⟨o1, o2, o3, o4⟩ := ho
          have hx0 := And.intro @o1 (And.intro @o2 (And.intro @o3 (And.intro @o4 (hx0))))
          have hx := hx0
          refine u_reg ?_
          try refine lg_mk ?_
          refine u_mv ?_
          have hc := call_rule (E := (E_exO.at_ 140)) (f := 27) (sp := Spec.pure histG) rfl
          have hs := @histG.eq_1
          refine u_cp ?_
          refine u_al ?_
          refine u_st ?_
          refine lg_nil ?_
          refine h36 _ ?_; clear h36; try clear N36
          refine vc_seq_k fun N37 h37 => ?_
          refine u_reg ?_
          try refine lg_mk ?_
          refine u_pt ?_
          refine u_ld ?_
          refine u_bn ?_
          refine lg_nil ?_
          refine h37 _ ?_; clear h37; try clear N37
          refine u_cond (fun hb38 => ?_) (fun hb38 => ?_)
          ·refine vc_seq_k fun N39 h39 => ?_
           refine vc_regT [] (.seq [1, 2] (.alt 0 (.seq [3, 4, 5, 6, 7, 8, 9, 10] .nil) (.alt 3 (.seq [0, 4, 5, 6, 7, 8, 9, 10] .nil) .nil))) hmix (by kernel_rfl) ?_
           refine at_seq ?_
           simp only [pick_rules, list_rules]
           try refine lg_mk ?_
           refine u_pt ?_
           refine u_ld ?_
           refine lg_nil ?_
           refine at_alt ?_ ?_
           ·simp only [pick_rules, list_rules]
            try refine lg_mk ?_
            refine u_ld ?_
            refine lg_nil ?_
            refine at_seq ?_
            simp only [pick_rules, list_rules]
            try refine lg_mk ?_
            have hc := call_rule (E := (E_exO.at_ 140)) (f := 12) (sp := Spec.pure faultG) rfl
            have hs := @faultG.eq_1
            refine u_cp ?_
            refine u_bn ?_
            refine u_mv ?_
            refine g_mv ?_
            refine g_ln ?_
            refine g_bn ?_
            refine u_pk ?_
            refine u_mv ?_
            refine lg_nil ?_
            refine at_nil ?_
            refine h39 _ ?_; clear h39; try clear N39
            refine vc_ret ?_
            try simp only [k_rules]
            refine fin2_ ?_
            (repeat' apply And.intro) <;> (first | (first | rfl | (simp; done) | (simp [*]; done) | (left; rfl)) | exact cl_)
           refine at_alt ?_ ?_
           ·simp only [pick_rules, list_rules]
            try refine lg_mk ?_
            have hc := call_rule (E := (E_exO.at_ 140)) (f := 12) (sp := Spec.pure faultG) rfl
            have hs := @faultG.eq_1
            refine u_cp ?_
            refine lg_nil ?_
            refine at_seq ?_
            simp only [pick_rules, list_rules]
            try refine lg_mk ?_
            refine u_ld ?_
            refine u_bn ?_
            refine u_mv ?_
            refine g_mv ?_
            refine g_ln ?_
            refine g_bn ?_
            refine u_pk ?_
            refine u_mv ?_
            refine lg_nil ?_
            refine at_nil ?_
            refine h39 _ ?_; clear h39; try clear N39
            refine vc_ret ?_
            try simp only [k_rules]
            refine fin2_ ?_
            (repeat' apply And.intro) <;> (first | (first | rfl | (simp; done) | (simp [*]; done) | (left; rfl)) | exact cl_)
           exact at_end
          ·first | omega | exact absurd trivial hb38 | contradiction | (simp_all; done)
         ·obtain ⟨hval, o1, o2, o3, o4⟩ := ho
          have hc60 := hval.len
          have hx0 := And.intro @o1 (And.intro @o2 (And.intro @o3 (And.intro @o4 (hx0))))
          have hx := hx0
          refine u_reg ?_
          try refine lg_mk ?_
          refine u_mv ?_
          have hc := call_rule (E := (E_exO.at_ 140)) (f := 27) (sp := Spec.pure histG) rfl
          have hs := @histG.eq_1
          refine u_cp ?_
          refine u_al ?_
          refine u_st ?_
          refine lg_nil ?_
          refine h36 _ ?_; clear h36; try clear N36
          refine vc_seq_k fun N40 h40 => ?_
          refine u_reg ?_
          try refine lg_mk ?_
          refine u_pt ?_
          refine u_ld ?_
          refine u_bn ?_
          refine lg_nil ?_
          refine h40 _ ?_; clear h40; try clear N40
          refine u_cond (fun hb41 => ?_) (fun hb41 => ?_)
          ·first | omega | exact absurd trivial hb41 | contradiction | (simp_all; done)
          ·refine vc_skip ?_
           try simp only [k_rules]
           refine h35 _ ?_; clear h35; try clear N35
           refine vc_seq_k fun N42 h42 => ?_
           refine u_reg ?_
           try refine lg_mk ?_
           refine u_pt ?_
           refine u_ld ?_
           refine u_bn ?_
           refine u_mv ?_
           refine g_mv ?_
           refine g_mv ?_
           refine g_mv ?_
           have hc := call_rule (E := (E_exO.at_ 140)) (f := 28) (sp := Spec.pure orpRG) rfl
           have hs := @orpRG.eq_1
           refine t_hp ?_
           have hc := call_rule (E := (E_exO.at_ 140)) (f := 19) (sp := Spec.pure intsG) rfl
           have hs := @intsG.eq_1
           refine g_cp ?_
           refine u_pk ?_
           refine u_mv ?_
           refine lg_nil ?_
           refine h42 _ ?_; clear h42; try clear N42
           refine vc_ret ?_
           try simp only [k_rules]
           refine fin2_ ?_
           (repeat' apply And.intro) <;> (first | (first | rfl | (simp; done) | (simp [*]; done) | (left; rfl)) | exact cl_)
       ·have q5 := q3 (by have := hb31; omega)
        have hwl : List.take W.length W = W := List.take_length
        have hx0 := And.intro @q1 (And.intro @q2 (And.intro @q5 (And.intro @hwl (hx0))))
        have hx := hx0
        refine vc_skip ?_
        try simp only [k_rules]
        refine h29 _ ?_; clear h29; try clear N29
        refine vc_seq_k fun N43 h43 => ?_
        refine vc_seq_k fun N44 h44 => ?_
        refine u_reg ?_
        try refine lg_mk ?_
        refine u_ld ?_
        refine u_ld ?_
        refine u_bn ?_
        refine u_mv ?_
        refine g_mv ?_
        refine g_mv ?_
        have hc := call_rule (E := (E_exO.at_ 140)) (f := 19) (sp := Spec.pure intsG) rfl
        have hs := @intsG.eq_1
        refine g_cp ?_
        refine g_un ?_
        refine u_pk ?_
        refine lg_nil ?_
        refine h44 _ ?_; clear h44; try clear N44
        refine u_cond (fun hb45 => ?_) (fun hb45 => ?_)
        ·first | omega | exact absurd trivial hb45 | contradiction | (simp_all; done)
        ·refine vc_skip ?_
         try simp only [k_rules]
         refine h43 _ ?_; clear h43; try clear N43
         refine vc_seq_k fun N46 h46 => ?_
         refine vc_seq_k fun N47 h47 => ?_
         rcases orp_or (C := C) p1 with ho | ho
         ·obtain ⟨o1, o2, o3, o4⟩ := ho
          have hx0 := And.intro @o1 (And.intro @o2 (And.intro @o3 (And.intro @o4 (hx0))))
          have hx := hx0
          refine u_reg ?_
          try refine lg_mk ?_
          refine u_mv ?_
          have hc := call_rule (E := (E_exO.at_ 140)) (f := 27) (sp := Spec.pure histG) rfl
          have hs := @histG.eq_1
          refine u_cp ?_
          refine u_al ?_
          refine u_st ?_
          refine lg_nil ?_
          refine h47 _ ?_; clear h47; try clear N47
          refine vc_seq_k fun N48 h48 => ?_
          refine u_reg ?_
          try refine lg_mk ?_
          refine u_pt ?_
          refine u_ld ?_
          refine u_bn ?_
          refine lg_nil ?_
          refine h48 _ ?_; clear h48; try clear N48
          refine u_cond (fun hb49 => ?_) (fun hb49 => ?_)
          ·refine vc_seq_k fun N50 h50 => ?_
           refine vc_regT [] (.seq [1, 2] (.alt 0 (.seq [3, 4, 5, 6, 7, 8, 9, 10] .nil) (.alt 3 (.seq [0, 4, 5, 6, 7, 8, 9, 10] .nil) .nil))) hmix (by kernel_rfl) ?_
           refine at_seq ?_
           simp only [pick_rules, list_rules]
           try refine lg_mk ?_
           refine u_pt ?_
           refine u_ld ?_
           refine lg_nil ?_
           refine at_alt ?_ ?_
           ·simp only [pick_rules, list_rules]
            try refine lg_mk ?_
            refine u_ld ?_
            refine lg_nil ?_
            refine at_seq ?_
            simp only [pick_rules, list_rules]
            try refine lg_mk ?_
            have hc := call_rule (E := (E_exO.at_ 140)) (f := 12) (sp := Spec.pure faultG) rfl
            have hs := @faultG.eq_1
            refine u_cp ?_
            refine u_bn ?_
            refine u_mv ?_
            refine g_mv ?_
            refine g_ln ?_
            refine g_bn ?_
            refine u_pk ?_
            refine u_mv ?_
            refine lg_nil ?_
            refine at_nil ?_
            refine h50 _ ?_; clear h50; try clear N50
            refine vc_ret ?_
            try simp only [k_rules]
            refine fin2_ ?_
            (repeat' apply And.intro) <;> (first | (first | rfl | (simp; done) | (simp [*]; done) | (left; rfl)) | exact cl_)
           refine at_alt ?_ ?_
           ·simp only [pick_rules, list_rules]
            try refine lg_mk ?_
            have hc := call_rule (E := (E_exO.at_ 140)) (f := 12) (sp := Spec.pure faultG) rfl
            have hs := @faultG.eq_1
            refine u_cp ?_
            refine lg_nil ?_
            refine at_seq ?_
            simp only [pick_rules, list_rules]
            try refine lg_mk ?_
            refine u_ld ?_
            refine u_bn ?_
            refine u_mv ?_
            refine g_mv ?_
            refine g_ln ?_
            refine g_bn ?_
            refine u_pk ?_
            refine u_mv ?_
            refine lg_nil ?_
            refine at_nil ?_
            refine h50 _ ?_; clear h50; try clear N50
            refine vc_ret ?_
            try simp only [k_rules]
            refine fin2_ ?_
            (repeat' apply And.intro) <;> (first | (first | rfl | (simp; done) | (simp [*]; done) | (left; rfl)) | exact cl_)
           exact at_end
          ·first | omega | exact absurd trivial hb49 | contradiction | (simp_all; done)
         ·obtain ⟨hval, o1, o2, o3, o4⟩ := ho
          have hc60 := hval.len
          have hx0 := And.intro @o1 (And.intro @o2 (And.intro @o3 (And.intro @o4 (hx0))))
          have hx := hx0
          refine u_reg ?_
          try refine lg_mk ?_
          refine u_mv ?_
          have hc := call_rule (E := (E_exO.at_ 140)) (f := 27) (sp := Spec.pure histG) rfl
          have hs := @histG.eq_1
          refine u_cp ?_
          refine u_al ?_
          refine u_st ?_
          refine lg_nil ?_
          refine h47 _ ?_; clear h47; try clear N47
          refine vc_seq_k fun N51 h51 => ?_
          refine u_reg ?_
          try refine lg_mk ?_
          refine u_pt ?_
          refine u_ld ?_
          refine u_bn ?_
          refine lg_nil ?_
          refine h51 _ ?_; clear h51; try clear N51
          refine u_cond (fun hb52 => ?_) (fun hb52 => ?_)
          ·first | omega | exact absurd trivial hb52 | contradiction | (simp_all; done)
          ·refine vc_skip ?_
           try simp only [k_rules]
           refine h46 _ ?_; clear h46; try clear N46
           refine vc_seq_k fun N53 h53 => ?_
           refine u_reg ?_
           try refine lg_mk ?_
           refine u_pt ?_
           refine u_ld ?_
           refine u_bn ?_
           refine u_mv ?_
           refine g_mv ?_
           refine g_mv ?_
           refine g_mv ?_
           have hc := call_rule (E := (E_exO.at_ 140)) (f := 28) (sp := Spec.pure orpRG) rfl
           have hs := @orpRG.eq_1
           refine t_hp ?_
           have hc := call_rule (E := (E_exO.at_ 140)) (f := 19) (sp := Spec.pure intsG) rfl
           have hs := @intsG.eq_1
           refine g_cp ?_
           refine u_pk ?_
           refine u_mv ?_
           refine lg_nil ?_
           refine h53 _ ?_; clear h53; try clear N53
           refine vc_ret ?_
           try simp only [k_rules]
           refine fin2_ ?_
           (repeat' apply And.intro) <;> (first | (first | rfl | (simp; done) | (simp [*]; done) | (left; rfl)) | exact cl_)
   ·obtain ⟨p2, p3, p4⟩ := vis_bad (cs := cs) p1
    obtain ⟨p5, p6, p7⟩ := orp_bad (C := C) p1
    have hx0 := And.intro @p1 (And.intro @p2 (And.intro @p3 (And.intro @p4 (And.intro @p5 (And.intro @p6 (And.intro @p7 (hx0)))))))
    have hx := hx0
    refine u_reg ?_
    try refine lg_mk ?_
    refine u_mv ?_
    refine u_mv ?_
    have hc := call_rule (E := (E_exO.at_ 140)) (f := 23) (sp := Spec.pure visG) rfl
    have hs := @visG.eq_1
    refine u_hp ?_
    refine u_mv ?_
    refine u_ex ?_
    refine u_ex ?_
    refine u_al ?_
    refine u_mv ?_
    refine u_st ?_
    refine lg_nil ?_
    refine h5 _ ?_; clear h5; try clear N5
    refine vc_seq_k fun N54 h54 => ?_
    refine u_reg ?_
    try refine lg_mk ?_
    refine u_mv ?_
    refine u_mv ?_
    have hc := call_rule (E := (E_exO.at_ 140)) (f := 25) (sp := Spec.pure orpG) rfl
    have hs := @orpG.eq_1
    refine u_hp ?_
    refine u_mv ?_
    refine u_ex ?_
    refine u_ex ?_
    refine u_al ?_
    refine u_mv ?_
    refine u_st ?_
    refine lg_nil ?_
    refine h54 _ ?_; clear h54; try clear N54
    refine vc_seq_k fun N55 h55 => ?_
    refine u_reg ?_
    try refine lg_mk ?_
    refine u_mv ?_
    have hc := call_rule (E := (E_exO.at_ 140)) (f := 11) (sp := Spec.pure valKG) rfl
    have hs := @valKG.eq_1
    refine u_cp ?_
    refine u_al ?_
    refine u_st ?_
    refine lg_nil ?_
    refine h55 _ ?_; clear h55; try clear N55
    refine vc_seq_k fun N56 h56 => ?_
    refine vc_seq_k fun N57 h57 => ?_
    refine u_reg ?_
    try refine lg_mk ?_
    refine u_pt ?_
    refine u_ld ?_
    refine u_bn ?_
    refine lg_nil ?_
    refine h57 _ ?_; clear h57; try clear N57
    refine u_cond (fun hb58 => ?_) (fun hb58 => ?_)
    ·refine vc_seq_k fun N59 h59 => ?_
     refine u_reg ?_
     try refine lg_mk ?_
     refine u_ld ?_
     refine u_ld ?_
     refine u_bn ?_
     refine u_mv ?_
     refine g_ld ?_
     refine g_ld ?_
     refine g_bn ?_
     refine u_pk ?_
     refine u_mv ?_
     refine g_mv ?_
     refine g_ln ?_
     refine g_mv ?_
     refine g_ln ?_
     refine g_bn ?_
     refine g_bn ?_
     refine u_pk ?_
     refine u_mv ?_
     refine lg_nil ?_
     refine h59 _ ?_; clear h59; try clear N59
     refine vc_ret ?_
     try simp only [k_rules]
     refine fin2_ ?_
     (repeat' apply And.intro) <;> (first | (first | rfl | (simp; done) | (simp [*]; done) | (left; rfl)) | exact cl_)
    ·first | omega | exact absurd trivial hb58 | contradiction | (simp_all; done)
 ·cases hg
end Go.Proofs.Ytjpkgmmmmcgmeaa
