/- Walks, printed by wip/gen/walk.py. -/
import Derived.Test.YtjdhadbnmghdgaaT29
import Derived.Test.YtjdhadbnmghdgaaV5
set_option linter.all false
set_option maxRecDepth 100000
set_option maxHeartbeats 4000000
namespace Go.Proofs.Ytjdhadbnmghdgaa
open Go Go.Vc Go.RowKit
theorem nf_cases (ts : List Bs) (u : Bs) : ((textsF ts).1 ≠ 0 ∧ idxT ts = [] ∧ idxP ts = []) ∨ (textsF ts = (0, 0) ∧ idxT ts = iota ts.length ∧ idxP ts = idxK ts ts.length ∧ ts.length ≤ 20 ∧ (∀ s ∈ ts, s.length ≤ 400) ∧ candF (iota ts.length) (idxK ts ts.length) u = (10, -1) ∧ candR (iota ts.length) (idxK ts ts.length) u = []) ∨
    (textsF ts = (0, 0) ∧ idxT ts = iota ts.length ∧ idxP ts = idxK ts ts.length ∧ ts.length ≤ 20 ∧ (∀ s ∈ ts, s.length ≤ 400) ∧ u.length ≤ 400 ∧ candF (iota ts.length) (idxK ts ts.length) u = (0, 0) ∧ candR (iota ts.length) (idxK ts ts.length) u = candK (iota ts.length) (idxK ts ts.length) u (u.length - 2)) := by
  rcases textsF_or ts with h | ⟨h1, h2, h3, h4, h5⟩
  · exact .inl h
  · rcases candF_or (iota ts.length) (idxK ts ts.length) u with h | h | h
    · exact absurd (congrArg Prod.fst (val_to (val_idx h4))) h.1
    · exact .inr (.inl ⟨h1, h2, h3, h4, h5, h.2.2⟩)
    · exact .inr (.inr ⟨h1, h2, h3, h4, h5, h.2.2⟩)

theorem lawNf_meets : Meets Try.prog 5 (Spec.pure lawTSG) := by
 refine meets_fun (E_exT.at_ 57) Try.func5 rfl rfl rfl ?_
 intro args p r hg hp
 unfold lawTSG at hg
 split at hg
 ·rename_i xs u
  simp only [Option.some.injEq, Prod.mk.injEq] at hg
  obtain ⟨rfl, rfl⟩ := hg
  obtain ⟨he, hl, hsl, hul⟩ := hp
  generalize dT xs = l at *
  subst he
  have hT : (E_exT).X = T := rfl
  have hx0 := And.intro @rect_eT (And.intro @rect_eP (And.intro @dI_rows (And.intro @dP_rows (And.intro @dT_rows (And.intro @dI_nil (And.intro @dP_nil (And.intro @dec_t (And.intro @dec_f @Try.results5))))))))
  have hx := hx0
  refine ⟨by rfl, ?_⟩
  intro F W0 hnp hmk
  refine vc_seq_k fun N1 h1 => ?_
  refine u_reg ?_
  try refine lg_mk ?_
  refine u_mv ?_
  refine lg_nil ?_
  refine h1 _ ?_; clear h1; try clear N1
  refine vc_seq_k fun N2 h2 => ?_
  refine vc_seq_k fun N3 h3 => ?_
  refine u_reg ?_
  try refine lg_mk ?_
  have hc := call_rule (E := (E_exT.at_ 57)) (f := 9) (sp := Spec.pure exG) rfl
  have hs := @exG.eq_1
  refine u_cp ?_
  refine u_un ?_
  refine lg_nil ?_
  refine h3 _ ?_; clear h3; try clear N3
  refine u_cond (fun hb4 => ?_) (fun hb4 => ?_)
  ·first | omega | exact absurd trivial hb4 | contradiction | (simp_all; done)
  ·refine vc_skip ?_
   try simp only [k_rules]
   refine h2 _ ?_; clear h2; try clear N2
   refine vc_seq_k fun N5 h5 => ?_
   rcases nf_cases l u with hcs | hcs | hcs
   ·have hsn := small_nil
    obtain ⟨hb1, hb2, hb3⟩ := hcs
    have hb4 : ¬(textsF l).1 = 0 := hb1
    have hx0 := And.intro @hb2 (And.intro @hb3 (And.intro @hb4 (hx0)))
    have hx := hx0
    refine u_reg ?_
    try refine lg_mk ?_
    refine u_mv ?_
    have hc := call_rule (E := (E_exT.at_ 57)) (f := 10) (sp := Spec.pure indexTG) rfl
    have hs := @indexTG.eq_1
    refine u_hp (hq := by (first | (exact ⟨hl, hsl⟩) | (first | trivial | omega | assumption | (unfold inI64; omega) | ((repeat' apply And.intro) <;> first | rfl | trivial | omega | assumption | (unfold inI64; omega)) | (simp; done) | (simp; omega)))) ?_
    refine u_mv ?_
    refine u_ex ?_
    refine u_ex ?_
    refine u_al ?_
    refine u_al ?_
    refine u_st ?_
    refine u_st ?_
    refine lg_nil ?_
    refine h5 _ ?_; clear h5; try clear N5
    refine vc_seq_k fun N6 h6 => ?_
    refine u_reg ?_
    try refine lg_mk ?_
    refine u_ld ?_
    refine u_mv ?_
    have hc := call_rule (E := (E_exT.at_ 57)) (f := 16) (sp := Spec.pure candTG) rfl
    have hs := @candTG.eq_1
    refine u_hp (hq := by (first | (first | exact ⟨hsn, hul⟩ | exact ⟨by omega, hvl9, hvs, hul⟩ | (refine ⟨?_, ?_, ?_⟩ <;> first | exact hvs | omega) | (refine ⟨?_, ?_, ?_, ?_⟩ <;> first | exact hvs | omega)) | (first | trivial | omega | assumption | (unfold inI64; omega) | ((repeat' apply And.intro) <;> first | rfl | trivial | omega | assumption | (unfold inI64; omega)) | (simp; done) | (simp; omega)))) ?_
    refine u_mv ?_
    refine u_ex ?_
    refine u_ex ?_
    refine u_al ?_
    refine u_mv ?_
    refine u_st ?_
    refine lg_nil ?_
    refine h6 _ ?_; clear h6; try clear N6
    refine vc_seq_k fun N7 h7 => ?_
    refine vc_seq_k fun N8 h8 => ?_
    refine u_reg ?_
    try refine lg_mk ?_
    refine u_pt ?_
    refine u_ld ?_
    refine u_bn ?_
    refine u_mv ?_
    refine g_pt ?_
    refine g_ld ?_
    refine g_bn ?_
    refine u_pk ?_
    refine lg_nil ?_
    refine h8 _ ?_; clear h8; try clear N8
    refine u_cond (fun hb9 => ?_) (fun hb9 => ?_)
    ·refine vc_seq_k fun N10 h10 => ?_
     refine u_reg ?_
     try refine lg_mk ?_
     refine u_pt ?_
     refine u_ld ?_
     refine u_bn ?_
     refine u_mv ?_
     refine g_ld ?_
     refine g_bd ?_
     have hc := call_rule (E := (E_exT.at_ 57)) (f := 12) (sp := Spec.pure idxsG) rfl
     have hs := @idxsG.eq_1
     refine g_cp ?_
     refine u_pk ?_
     refine u_mv ?_
     refine lg_nil ?_
     refine h10 _ ?_; clear h10; try clear N10
     refine vc_ret ?_
     try simp only [k_rules]
     refine fin2_ ?_
     (repeat' apply And.intro) <;> (first | (first | rfl | (simp; done) | (simp [*]; done) | (left; rfl)) | (first | rfl | exact Or.inr rfl | exact Or.inl rfl | trivial | omega | assumption | (simp; done) | (simp; omega)))
    ·first | omega | exact absurd trivial hb9 | contradiction | (simp_all; done)
   ·have hsn := small_nil
    obtain ⟨hb1, hb2, hb3, hl20, hl400, hb4, hb5⟩ := hcs
    have hvi := val_idx (ts := l) hl20
    have hvl := hvi.plen
    have hvs := smallP_of hvi
    have hio := iota_len l.length
    have hx0 := And.intro @hb1 (And.intro @hb2 (And.intro @hb3 (And.intro @hb4 (And.intro @hb5 (And.intro @hio (hx0))))))
    have hx := hx0
    refine u_reg ?_
    try refine lg_mk ?_
    refine u_mv ?_
    have hc := call_rule (E := (E_exT.at_ 57)) (f := 10) (sp := Spec.pure indexTG) rfl
    have hs := @indexTG.eq_1
    refine u_hp (hq := by (first | (exact ⟨hl, hsl⟩) | (first | trivial | omega | assumption | (unfold inI64; omega) | ((repeat' apply And.intro) <;> first | rfl | trivial | omega | assumption | (unfold inI64; omega)) | (simp; done) | (simp; omega)))) ?_
    refine u_mv ?_
    refine u_ex ?_
    refine u_ex ?_
    refine u_al ?_
    refine u_al ?_
    refine u_st ?_
    refine u_st ?_
    refine lg_nil ?_
    refine h5 _ ?_; clear h5; try clear N5
    refine vc_seq_k fun N11 h11 => ?_
    refine u_reg ?_
    try refine lg_mk ?_
    refine u_ld ?_
    refine u_mv ?_
    have hc := call_rule (E := (E_exT.at_ 57)) (f := 16) (sp := Spec.pure candTG) rfl
    have hs := @candTG.eq_1
    refine u_hp (hq := by (first | (first | exact ⟨hsn, hul⟩ | exact ⟨by omega, hvl9, hvs, hul⟩ | (refine ⟨?_, ?_, ?_⟩ <;> first | exact hvs | omega) | (refine ⟨?_, ?_, ?_, ?_⟩ <;> first | exact hvs | omega)) | (first | trivial | omega | assumption | (unfold inI64; omega) | ((repeat' apply And.intro) <;> first | rfl | trivial | omega | assumption | (unfold inI64; omega)) | (simp; done) | (simp; omega)))) ?_
    refine u_mv ?_
    refine u_ex ?_
    refine u_ex ?_
    refine u_al ?_
    refine u_mv ?_
    refine u_st ?_
    refine lg_nil ?_
    refine h11 _ ?_; clear h11; try clear N11
    refine vc_seq_k fun N12 h12 => ?_
    refine vc_seq_k fun N13 h13 => ?_
    refine u_reg ?_
    try refine lg_mk ?_
    refine u_pt ?_
    refine u_ld ?_
    refine u_bn ?_
    refine u_mv ?_
    refine g_pt ?_
    refine g_ld ?_
    refine g_bn ?_
    refine u_pk ?_
    refine lg_nil ?_
    refine h13 _ ?_; clear h13; try clear N13
    refine u_cond (fun hb14 => ?_) (fun hb14 => ?_)
    ·refine vc_seq_k fun N15 h15 => ?_
     refine u_reg ?_
     try refine lg_mk ?_
     refine u_pt ?_
     refine u_ld ?_
     refine u_bn ?_
     refine u_mv ?_
     refine g_ld ?_
     refine g_bd ?_
     have hc := call_rule (E := (E_exT.at_ 57)) (f := 12) (sp := Spec.pure idxsG) rfl
     have hs := @idxsG.eq_1
     refine g_cp ?_
     refine u_pk ?_
     refine u_mv ?_
     refine lg_nil ?_
     refine h15 _ ?_; clear h15; try clear N15
     refine vc_ret ?_
     try simp only [k_rules]
     refine fin2_ ?_
     (repeat' apply And.intro) <;> (first | (first | rfl | (simp; done) | (simp [*]; done) | (left; rfl)) | (first | rfl | exact Or.inr rfl | exact Or.inl rfl | trivial | omega | assumption | (simp; done) | (simp; omega)))
    ·first | omega | exact absurd trivial hb14 | contradiction | (simp_all; done)
   ·have hsn := small_nil
    obtain ⟨hb1, hb2, hb3, hl20, hl400, hu400, hb4, hb5⟩ := hcs
    have hvi := val_idx (ts := l) hl20
    have hvl := hvi.plen
    have hvs := smallP_of hvi
    have hio := iota_len l.length
    have hck := candK_len (iota l.length) (idxK l l.length) u (u.length - 2)
    have hx0 := And.intro @hb1 (And.intro @hb2 (And.intro @hb3 (And.intro @hb4 (And.intro @hb5 (And.intro @hio (hx0))))))
    have hx := hx0
    refine u_reg ?_
    try refine lg_mk ?_
    refine u_mv ?_
    have hc := call_rule (E := (E_exT.at_ 57)) (f := 10) (sp := Spec.pure indexTG) rfl
    have hs := @indexTG.eq_1
    refine u_hp (hq := by (first | (exact ⟨hl, hsl⟩) | (first | trivial | omega | assumption | (unfold inI64; omega) | ((repeat' apply And.intro) <;> first | rfl | trivial | omega | assumption | (unfold inI64; omega)) | (simp; done) | (simp; omega)))) ?_
    refine u_mv ?_
    refine u_ex ?_
    refine u_ex ?_
    refine u_al ?_
    refine u_al ?_
    refine u_st ?_
    refine u_st ?_
    refine lg_nil ?_
    refine h5 _ ?_; clear h5; try clear N5
    refine vc_seq_k fun N16 h16 => ?_
    refine u_reg ?_
    try refine lg_mk ?_
    refine u_ld ?_
    refine u_mv ?_
    have hc := call_rule (E := (E_exT.at_ 57)) (f := 16) (sp := Spec.pure candTG) rfl
    have hs := @candTG.eq_1
    refine u_hp (hq := by (first | (first | exact ⟨hsn, hul⟩ | exact ⟨by omega, hvl9, hvs, hul⟩ | (refine ⟨?_, ?_, ?_⟩ <;> first | exact hvs | omega) | (refine ⟨?_, ?_, ?_, ?_⟩ <;> first | exact hvs | omega)) | (first | trivial | omega | assumption | (unfold inI64; omega) | ((repeat' apply And.intro) <;> first | rfl | trivial | omega | assumption | (unfold inI64; omega)) | (simp; done) | (simp; omega)))) ?_
    refine u_mv ?_
    refine u_ex ?_
    refine u_ex ?_
    refine u_al ?_
    refine u_mv ?_
    refine u_st ?_
    refine lg_nil ?_
    refine h16 _ ?_; clear h16; try clear N16
    refine vc_seq_k fun N17 h17 => ?_
    refine vc_seq_k fun N18 h18 => ?_
    refine u_reg ?_
    try refine lg_mk ?_
    refine u_pt ?_
    refine u_ld ?_
    refine u_bn ?_
    refine u_mv ?_
    refine g_pt ?_
    refine g_ld ?_
    refine g_bn ?_
    refine u_pk ?_
    refine lg_nil ?_
    refine h18 _ ?_; clear h18; try clear N18
    refine u_cond (fun hb19 => ?_) (fun hb19 => ?_)
    ·first | omega | exact absurd trivial hb19 | contradiction | (simp_all; done)
    ·refine vc_skip ?_
     try simp only [k_rules]
     refine h17 _ ?_; clear h17; try clear N17
     refine vc_seq_k fun N20 h20 => ?_
     refine vc_seq_k fun N21 h21 => ?_
     refine u_reg ?_
     try refine lg_mk ?_
     refine u_mv ?_
     refine lg_nil ?_
     refine h21 _ ?_; clear h21; try clear N21
     refine vc_block ?_
     refine vc_loop_mk (σ := Nat) (fun s => (fun i => i ≤ l.length) s)
      (fun s => (fun i => [(0, .d (.sl (rows eT l))), (1, .d (.str u)), (7, .d (.sl (rows eI (candK (iota l.length) (idxK l l.length) u (u.length - 2))))), (9, .d (.int .i64 (i : Nat)))]) s)
      (fun s => (fun i => []) s) (fun s => (fun i => l.length - i) s) hnp 0 ?_ [] ?_ ?_
     ·dsimp only
      omega
     ·dsimp only
      refine ⟨by rfl, ?_, ?_⟩
      ·refine fin_ ?_
       exact cl_
      ·refine fin_ ?_
       exact cl_
     ·rintro i hinv N22 h22
      dsimp only at hinv ⊢
      have i1 := hinv
      refine vc_seq_k fun N23 h23 => ?_
      refine vc_seq_k fun N24 h24 => ?_
      refine u_reg ?_
      try refine lg_mk ?_
      refine u_mv ?_
      refine u_mv ?_
      refine u_ln ?_
      refine u_bn ?_
      refine lg_nil ?_
      refine h24 _ ?_; clear h24; try clear N24
      refine u_cond (fun hb25 => ?_) (fun hb25 => ?_)
      ·obtain ⟨x, hxe⟩ := getE (l := l) (i := i) (by omega)
       have hxl := hl400 x (mem_at hxe)
       have hyes := fun h => no_false (p := u) hxe h
       refine vc_skip ?_
       try simp only [k_rules]
       refine h23 _ ?_; clear h23; try clear N23
       refine vc_seq_k fun N26 h26 => ?_
       refine vc_block ?_
       refine vc_seq_k fun N27 h27 => ?_
       cases hh : hasSub x u
       ·have hh2 := hh
        have hx := And.intro @hxe (And.intro @hh (And.intro @hh2 hx0))
        refine u_reg ?_
        try refine lg_mk ?_
        refine u_mv ?_
        refine u_mv ?_
        refine u_pt ?_
        refine u_ld ?_
        refine u_mv ?_
        have hc := call_rule (E := (E_exT.at_ 57)) (f := 21) (sp := Spec.pure conSG) rfl
        have hs := @conSG.eq_1
        refine u_cp (hq := by (first | (exact ⟨by omega, by omega⟩) | (first | trivial | omega | assumption | (unfold inI64; omega) | ((repeat' apply And.intro) <;> first | rfl | trivial | omega | assumption | (unfold inI64; omega)) | (simp; done) | (simp; omega)))) ?_
        refine u_mv ?_
        refine g_mv ?_
        refine g_mv ?_
        have hc := call_rule (E := (E_exT.at_ 57)) (f := 22) (sp := Spec.pure hasG) rfl
        have hs := @hasG.eq_1
        refine g_cp ?_
        refine g_un ?_
        refine u_pk ?_
        refine lg_nil ?_
        have hx := hx0
        refine h27 _ ?_; clear h27; try clear N27
        refine u_cond (fun hb28 => ?_) (fun hb28 => ?_)
        ·first | omega | exact absurd trivial hb28 | contradiction | (simp_all; done)
        ·refine vc_skip ?_
         try simp only [k_rules]
         refine h26 _ ?_; clear h26; try clear N26
         refine u_reg ?_
         try refine lg_mk ?_
         refine u_mv ?_
         refine u_bn ?_
         refine u_mv ?_
         refine lg_nil ?_
         refine h22 _ ⟨i + 1, ?_, ?_, [], ?_⟩
         ·dsimp only
          omega
         ·dsimp only
          omega
         ·dsimp only
          refine ⟨by rfl, ?_, ?_⟩
          ·refine fin_ ?_
           exact cl_
          ·refine fin_ ?_
           exact cl_
       ·have hh2 : decide ((i : Int) ∈ candK (iota l.length) (idxK l l.length) u (u.length - 2)) = true := decide_eq_true (hyes hh)
        have hx := And.intro @hxe (And.intro @hh (And.intro @hh2 hx0))
        refine u_reg ?_
        try refine lg_mk ?_
        refine u_mv ?_
        refine u_mv ?_
        refine u_pt ?_
        refine u_ld ?_
        refine u_mv ?_
        have hc := call_rule (E := (E_exT.at_ 57)) (f := 21) (sp := Spec.pure conSG) rfl
        have hs := @conSG.eq_1
        refine u_cp (hq := by (first | (exact ⟨by omega, by omega⟩) | (first | trivial | omega | assumption | (unfold inI64; omega) | ((repeat' apply And.intro) <;> first | rfl | trivial | omega | assumption | (unfold inI64; omega)) | (simp; done) | (simp; omega)))) ?_
        refine u_mv ?_
        refine g_mv ?_
        refine g_mv ?_
        have hc := call_rule (E := (E_exT.at_ 57)) (f := 22) (sp := Spec.pure hasG) rfl
        have hs := @hasG.eq_1
        refine g_cp ?_
        refine g_un ?_
        refine u_pk ?_
        refine lg_nil ?_
        have hx := hx0
        refine h27 _ ?_; clear h27; try clear N27
        refine u_cond (fun hb29 => ?_) (fun hb29 => ?_)
        ·first | omega | exact absurd trivial hb29 | contradiction | (simp_all; done)
        ·refine vc_skip ?_
         try simp only [k_rules]
         refine h26 _ ?_; clear h26; try clear N26
         refine u_reg ?_
         try refine lg_mk ?_
         refine u_mv ?_
         refine u_bn ?_
         refine u_mv ?_
         refine lg_nil ?_
         refine h22 _ ⟨i + 1, ?_, ?_, [], ?_⟩
         ·dsimp only
          omega
         ·dsimp only
          omega
         ·dsimp only
          refine ⟨by rfl, ?_, ?_⟩
          ·refine fin_ ?_
           exact cl_
          ·refine fin_ ?_
           exact cl_
      ·refine vc_exit ?_
       simp only [k_rules, Nat.reduceEqDiff, reduceIte, eq_self]
       refine h20 _ ?_; clear h20; try clear N20
       refine vc_seq_k fun N30 h30 => ?_
       refine u_reg ?_
       try refine lg_mk ?_
       refine u_mv ?_
       refine lg_nil ?_
       refine h30 _ ?_; clear h30; try clear N30
       refine vc_ret ?_
       try simp only [k_rules]
       refine fin2_ ?_
       (repeat' apply And.intro) <;> (first | (first | rfl | (simp; done) | (simp [*]; done) | (left; rfl)) | (first | rfl | exact Or.inr rfl | exact Or.inl rfl | trivial | omega | assumption | (simp; done) | (simp; omega)))
 ·cases hg
end Go.Proofs.Ytjdhadbnmghdgaa
