/- Walks, printed by wip/gen/walk.py. -/
import Derived.Test.YtiijkbidkdmilaaT50
import Derived.Test.YtiijkbidkdmilaaV5
set_option linter.all false
set_option maxRecDepth 100000
set_option maxHeartbeats 4000000
namespace Go.Proofs.Ytiijkbidkdmilaa
open Go Go.Vc Go.RowKit
/-- What step leaves, by cases; the boxes as they then lie. -/
theorem step_outs {t : TypeId} {total a tk : Int} {fs ws : List Int} {k n : Int} :
    (stepCode total a fs ws k n ≠ 0 ∧ stepBf t total a tk fs ws k n = [linkB t total a tk 1 2 fs.length ws.length, intsB fs, intsB ws]) ∨
    (stepCode total a fs ws k n = 0 ∧ ∃ fs', stepL (a, tk, fs, ws) k n = (a, tk, fs', ws) ∧ stepBf t total a tk fs ws k n = [linkB t total a tk 3 2 fs'.length ws.length, none, intsB ws, intsB fs']) ∨
    (stepCode total a fs ws k n = 0 ∧ ∃ tk' fs' ws', stepL (a, tk, fs, ws) k n = (a, tk', fs', ws') ∧ stepBf t total a tk fs ws k n = [linkB t total a tk' 1 3 fs'.length ws'.length, intsB fs', none, intsB ws']) ∨
    (stepCode total a fs ws k n = 0 ∧ ∃ a' fs' ws', stepL (a, tk, fs, ws) k n = (a', tk, fs', ws') ∧ stepBf t total a tk fs ws k n = [linkB t total a' tk 1 2 fs'.length ws'.length, intsB fs', intsB ws']) := by
  by_cases h : stepCode total a fs ws k n = 0
  · right
    rcases stepCode_cases h with ⟨rfl, rfl, ha⟩ | ⟨hk | hk | hk, ho⟩ | ⟨hk | hk, ho⟩
    · exact .inl ⟨h, _, rfl, by rw [(sc_1c ha).2]; simp⟩
    · subst hk; exact .inr (.inl ⟨h, _, _, _, rfl, by rw [(sc_2 ho).2]; simp⟩)
    · subst hk; exact .inr (.inr ⟨h, _, _, _, rfl, (sc_3 ho).2⟩)
    · subst hk; exact .inl ⟨h, _, rfl, by rw [(sc_4 ho).2]; simp⟩
    · subst hk; exact .inr (.inr ⟨h, _, _, _, rfl, (sc_5 ho).2⟩)
    · subst hk; exact .inr (.inr ⟨h, _, _, _, rfl, (sc_6 ho).2⟩)
  · exact .inl ⟨h, by unfold stepBf; rw [if_pos h]⟩
theorem framesOf_take (l : List UInt8) (k : Nat) : ((framesOf l).take k).flatten = l.take (16 * k) := by
  induction k with
  | zero => simp
  | succ k ih =>
    rw [List.take_add_one, List.flatten_append, ih]
    by_cases hk : k < (l.length + 15) / 16
    · have hc : (framesOf l)[k]? = some ((l.drop (16 * k)).take 16) := by simp [framesOf, List.getElem?_range hk]
      rw [hc, show 16 * (k + 1) = 16 * k + 16 by omega, List.take_add]; simp
    · have hc : (framesOf l)[k]? = none := List.getElem?_eq_none (by rw [framesOf_len]; omega)
      rw [hc, List.take_of_length_le (by omega : l.length ≤ 16 * k), List.take_of_length_le (by omega : l.length ≤ 16 * (k + 1))]; simp
theorem runL_cons {total : Int} {s : LS} {es : List Ev} {i : Nat} {e : Ev} (he : es[i]? = some e) : runL total s (es.drop i) i = if stepCode total s.1 s.2.2.1 s.2.2.2 e.1 e.2 = 0 then runL total (stepL s e.1 e.2) (es.drop (i + 1)) (i + 1) else .inl (stepCode total s.1 s.2.2.1 s.2.2.2 e.1 e.2, i) := by
  obtain ⟨h1, h2⟩ := List.getElem?_eq_some_iff.1 he
  rw [List.drop_eq_getElem_cons h1, runL, h2]

theorem run_meets : Meets Try.prog 8 (Spec.pure runG) := by
 refine meets_fun (E_concatU.at_ 51) Try.func8 rfl rfl rfl ?_
 intro args p r hg hp
 unfold runG at hg
 split at hg
 ·rename_i xs es
  simp only [Option.some.injEq, Prod.mk.injEq] at hg
  obtain ⟨rfl, rfl⟩ := hg
  obtain ⟨hx, hy, hl, hm⟩ := hp
  generalize dU xs = l at *
  generalize dE es = es at *
  subst hx hy
  have hnil : True := trivial
  have hT : (E_concatU).X = T := rfl
  have hx0 := And.intro @rect_eE (And.intro @hnil @Try.results8)
  have hx := hx0
  refine ⟨by rfl, ?_⟩
  intro F W0 hnp hmk
  refine vc_seq_k fun N1 h1 => ?_
  refine vc_regG [17] hmix (by kernel_rfl) ?_
  try refine lg_mk ?_
  refine u_mv ?_
  refine u_mv ?_
  refine u_al ?_
  refine lg_nil ?_
  refine h1 _ ?_; clear h1; try clear N1
  refine vc_seq_k fun N2 h2 => ?_
  rcases Nat.lt_or_ge 4096 l.length with h4 | h4
  ·have hq : (l.length ≤ 4096) = False := eq_false (by omega)
   have hx := And.intro @hq hx0
   refine vc_regG [17] hmix (by kernel_rfl) ?_
   try refine lg_mk ?_
   refine u_mv ?_
   have hc := call_rule (E := (E_concatU.at_ 51)) (f := 15) (sp := Spec.pure framesG) rfl
   have hs := @framesG.eq_1
   refine u_hp ?_
   refine u_mv ?_
   refine u_ex ?_
   refine u_ex ?_
   refine u_mv ?_
   refine u_st ?_
   refine lg_nil ?_
   have hx := hx0
   refine h2 _ ?_; clear h2; try clear N2
   refine vc_seq_k fun N3 h3 => ?_
   refine vc_seq_k fun N4 h4 => ?_
   refine vc_regG [17] hmix (by kernel_rfl) ?_
   try refine lg_mk ?_
   refine u_ld ?_
   refine u_bd ?_
   refine u_bn ?_
   refine lg_nil ?_
   refine h4 _ ?_; clear h4; try clear N4
   refine u_cond (fun hb5 => ?_) (fun hb5 => ?_)
   ·refine vc_seq_k fun N6 h6 => ?_
    refine vc_regG [17] hmix (by kernel_rfl) ?_
    try refine lg_mk ?_
    refine u_ld ?_
    refine u_mv ?_
    refine u_mv ?_
    refine u_st ?_
    refine lg_nil ?_
    refine h6 _ ?_; clear h6; try clear N6
    refine vc_ret ?_
    try simp only [k_rules]
    have hr : runR l es = ([], 0, 2, -1) := by simp [runR, hq]
    rw [hr]
    refine fin2_ ?_
    (repeat' apply And.intro) <;> (first | (first | rfl | (rw [dUU_rows]; exact Or.inl rfl) | exact Or.inl rfl | exact Or.inr rfl | trivial | exact Nat.le_refl _ | omega | (simp; done)) | exact cl_)
   ·first | omega | exact absurd trivial hb5 | contradiction | (simp_all; done)
  ·have hq : (l.length ≤ 4096) = True := eq_true (by omega)
   have hx := And.intro @hq hx0
   refine vc_regG [17] hmix (by kernel_rfl) ?_
   try refine lg_mk ?_
   refine u_mv ?_
   have hc := call_rule (E := (E_concatU.at_ 51)) (f := 15) (sp := Spec.pure framesG) rfl
   have hs := @framesG.eq_1
   refine u_hp ?_
   refine u_mv ?_
   refine u_ex ?_
   refine u_ex ?_
   refine u_mv ?_
   refine u_st ?_
   refine lg_nil ?_
   have hx := hx0
   refine h2 _ ?_; clear h2; try clear N2
   refine vc_seq_k fun N7 h7 => ?_
   refine vc_seq_k fun N8 h8 => ?_
   refine vc_regG [17] hmix (by kernel_rfl) ?_
   try refine lg_mk ?_
   refine u_ld ?_
   refine u_bd ?_
   refine u_bn ?_
   refine lg_nil ?_
   refine h8 _ ?_; clear h8; try clear N8
   refine u_cond (fun hb9 => ?_) (fun hb9 => ?_)
   ·first | omega | exact absurd trivial hb9 | contradiction | (simp_all; done)
   ·refine vc_skip ?_
    try simp only [k_rules]
    refine h7 _ ?_; clear h7; try clear N7
    refine vc_seq_k fun N10 h10 => ?_
    refine vc_seq_k fun N11 h11 => ?_
    refine vc_regG [17] hmix (by kernel_rfl) ?_
    try refine lg_mk ?_
    refine u_mv ?_
    refine u_ln ?_
    refine u_bn ?_
    refine lg_nil ?_
    refine h11 _ ?_; clear h11; try clear N11
    refine u_cond (fun hb12 => ?_) (fun hb12 => ?_)
    ·refine vc_seq_k fun N13 h13 => ?_
     refine vc_regG [17] hmix (by kernel_rfl) ?_
     try refine lg_mk ?_
     refine u_bd ?_
     refine u_mv ?_
     refine u_mv ?_
     refine u_st ?_
     refine lg_nil ?_
     refine h13 _ ?_; clear h13; try clear N13
     refine vc_ret ?_
     try simp only [k_rules]
     have hr : runR l es = ([], 0, 2, -2) := by
      unfold runR; rw [if_pos (by omega), if_neg (by omega)]
     rw [hr]
     refine fin2_ ?_
     (repeat' apply And.intro) <;> (first | (first | rfl | (rw [dUU_rows]; exact Or.inl rfl) | exact Or.inl rfl | exact Or.inr rfl | trivial | exact Nat.le_refl _ | omega | (simp; done)) | exact cl_)
    ·refine vc_skip ?_
     try simp only [k_rules]
     refine h10 _ ?_; clear h10; try clear N10
     refine vc_seq_k fun N14 h14 => ?_
     refine vc_regG [17] hmix (by kernel_rfl) ?_
     try refine lg_mk ?_
     refine u_mv ?_
     refine u_ln ?_
     refine u_bd ?_
     refine u_al ?_
     refine u_st ?_
     refine lg_nil ?_
     refine h14 _ ?_; clear h14; try clear N14
     refine vc_seq_k fun N15 h15 => ?_
     refine vc_seq_k fun N16 h16 => ?_
     refine vc_regG [17] hmix (by kernel_rfl) ?_
     try refine lg_mk ?_
     refine u_mv ?_
     refine u_ln ?_
     refine u_mv ?_
     refine lg_nil ?_
     refine h16 _ ?_; clear h16; try clear N16
     refine vc_block ?_
     refine vc_loop_mk (σ := Nat × Int × Int × List Int × List Int) (fun s => (fun i a tk fs ws => i ≤ es.length ∧ LInv ((framesOf l).length : Nat) (a, tk, fs, ws) ∧ fs.length ≤ i ∧ ws.length ≤ i ∧ runL ((framesOf l).length : Nat) (0, 0, [], []) es 0 = runL ((framesOf l).length : Nat) (a, tk, fs, ws) (es.drop i) i) (s.1) (s.2.1) (s.2.2.1) (s.2.2.2.1) (s.2.2.2.2))
      (fun s => (fun i a tk fs ws => [(6, .ptr 0 0 0), (7, .d (.sl (rows (eL eU) (framesOf l)))), (8, .ptr 1 0 0), (28, .d (.sl (rows eE es))), (29, .d (.int .i64 (es.length : Nat))), (30, .d (.int .i64 (i : Nat)))]) (s.1) (s.2.1) (s.2.2.1) (s.2.2.2.1) (s.2.2.2.2))
      (fun s => (fun i a tk fs ws => [some (.one 30 [.d (.int .i64 0), .d (.int .i64 0)]), some (.one 58 [.d (.int .i64 ((framesOf l).length : Nat)), .d (.int .i64 a), .d (.int .i64 tk), .sl 2 0 fs.length, .sl 3 0 ws.length]), some (.vec 3 1 (rows eI fs)), some (.vec 3 1 (rows eI ws))]) (s.1) (s.2.1) (s.2.2.1) (s.2.2.2.1) (s.2.2.2.2)) (fun s => (fun i a tk fs ws => es.length - i) (s.1) (s.2.1) (s.2.2.1) (s.2.2.2.1) (s.2.2.2.2)) hnp (0, 0, 0, [], []) ?_ [some 0, some 1, none, none] ?_ ?_
     ·dsimp only
      exact ⟨Nat.zero_le _, by simp [LInv], by simp, by simp, rfl⟩
     ·dsimp only
      refine ⟨by rfl, ?_, ?_⟩
      ·refine fin_ ?_
       exact cl_
      ·refine fin_ ?_
       exact cl_
     ·rintro ⟨i, a, tk, fs, ws⟩ hinv N17 h17
      dsimp only at hinv ⊢
      obtain ⟨i1, i2, i3, i4, i5⟩ := hinv
      have j2 := i2
      simp only [LInv] at j2
      obtain ⟨j1, j3, j4, j5, j6, j7⟩ := j2
      have hfl := framesOf_len l
      refine vc_seq_k fun N18 h18 => ?_
      refine vc_regG [17] hmix (by kernel_rfl) ?_
      try refine lg_mk ?_
      refine u_bn ?_
      refine lg_nil ?_
      refine h18 _ ?_; clear h18; try clear N18
      refine vc_seq_k fun N19 h19 => ?_
      refine u_cond (fun hb20 => ?_) (fun hb20 => ?_)
      ·obtain ⟨e, he⟩ : ∃ e, es[i]? = some e := ⟨_, List.getElem?_eq_getElem (by omega)⟩
       rw [runL_cons he] at i5
       refine vc_skip ?_
       try simp only [k_rules]
       refine h19 _ ?_; clear h19; try clear N19
       refine vc_seq_k fun N21 h21 => ?_
       refine vc_block ?_
       refine vc_seq_k fun N22 h22 => ?_
       have hx := And.intro @he (And.intro @eE.eq_1 hx0)
       refine vc_regG [17] hmix (by kernel_rfl) ?_
       try refine lg_mk ?_
       refine u_mv ?_
       refine u_pt ?_
       refine u_ld ?_
       refine u_al ?_
       refine u_mv ?_
       refine u_st ?_
       refine lg_nil ?_
       have hx := hx0
       refine h22 _ ?_; clear h22; try clear N22
       refine vc_seq_k fun N23 h23 => ?_
       rcases step_outs (t := 58) (total := ((framesOf l).length : Nat)) (a := a) (tk := tk) (fs := fs) (ws := ws) (k := e.1) (n := e.2) with ⟨hc, eb⟩ | ⟨hc, fs', hs, eb⟩ | ⟨hc, tk', fs', ws', hs, eb⟩ | ⟨hc, a', fs', ws', hs, eb⟩
       ·rw [if_neg hc] at i5
        have hx := And.intro @hc (And.intro @eb (And.intro @linkB.eq_1 (And.intro @intsB.eq_1 (And.intro @eE.eq_1 (And.intro @dI_rows hx0)))))
        refine vc_regG [17] hmix (by kernel_rfl) ?_
        try refine lg_mk ?_
        refine u_ld ?_
        have hc := call_rule (E := (E_concatU.at_ 51)) (f := 16) (sp := Spec.gen stepG) rfl
        have hs := @stepG.eq_1
        refine u_hg (hq := by (first | ((repeat' apply And.intro) <;> first | rfl | trivial | omega | (simp [dI_rows]; done) | (simp [dI_rows]; omega)) | exact sd_)) ?_
        refine u_mv ?_
        refine lg_nil ?_
        have hx := hx0
        refine h23 _ ?_; clear h23; try clear N23
        refine vc_seq_k fun N24 h24 => ?_
        refine vc_regG [17] hmix (by kernel_rfl) ?_
        try refine lg_mk ?_
        refine u_mv ?_
        refine u_bn ?_
        refine lg_nil ?_
        refine h24 _ ?_; clear h24; try clear N24
        refine u_cond (fun hb25 => ?_) (fun hb25 => ?_)
        ·refine vc_seq_k fun N26 h26 => ?_
         refine vc_regG [17] hmix (by kernel_rfl) ?_
         try refine lg_mk ?_
         refine u_mv ?_
         refine u_mv ?_
         refine u_bd ?_
         refine u_mv ?_
         refine u_mv ?_
         refine u_st ?_
         refine lg_nil ?_
         refine h26 _ ?_; clear h26; try clear N26
         refine vc_ret ?_
         try simp only [k_rules]
         have hr : runR l es = ([], 0, stepCode ((framesOf l).length : Nat) a fs ws e.1 e.2, (i : Int)) := by
          unfold runR; rw [if_pos (by omega), if_pos (by omega), i5]
         rw [hr]
         refine fin2_ ?_
         (repeat' apply And.intro) <;> (first | (first | rfl | (rw [dUU_rows]; exact Or.inl rfl) | exact Or.inl rfl | exact Or.inr rfl | trivial | exact Nat.le_refl _ | omega | (simp; done)) | exact cl_)
        ·first | omega | exact absurd trivial hb25 | contradiction | (simp_all; done)
       ·rw [if_pos hc, hs] at i5
        have hv := stepL_inv i2 hc
        rw [hs] at hv
        have hx := And.intro @hc (And.intro @eb (And.intro @linkB.eq_1 (And.intro @intsB.eq_1 (And.intro @eE.eq_1 (And.intro @dI_rows hx0)))))
        refine vc_regG [17] hmix (by kernel_rfl) ?_
        try refine lg_mk ?_
        refine u_ld ?_
        have hc := call_rule (E := (E_concatU.at_ 51)) (f := 16) (sp := Spec.gen stepG) rfl
        have hs := @stepG.eq_1
        refine u_hg (hq := by (first | ((repeat' apply And.intro) <;> first | rfl | trivial | omega | (simp [dI_rows]; done) | (simp [dI_rows]; omega)) | exact sd_)) ?_
        refine u_mv ?_
        refine lg_nil ?_
        have hx := hx0
        refine h23 _ ?_; clear h23; try clear N23
        refine vc_seq_k fun N27 h27 => ?_
        refine vc_regG [17] hmix (by kernel_rfl) ?_
        try refine lg_mk ?_
        refine u_mv ?_
        refine u_bn ?_
        refine lg_nil ?_
        refine h27 _ ?_; clear h27; try clear N27
        refine u_cond (fun hb28 => ?_) (fun hb28 => ?_)
        ·first | omega | exact absurd trivial hb28 | contradiction | (simp_all; done)
        ·refine vc_skip ?_
         try simp only [k_rules]
         refine h21 _ ?_; clear h21; try clear N21
         refine vc_regG [17] hmix (by kernel_rfl) ?_
         try refine lg_mk ?_
         refine u_bn ?_
         refine u_mv ?_
         refine lg_nil ?_
         refine h17 _ ⟨(i + 1, a, tk, fs', ws), ?_, ?_, [some 0, some 1, some 5, some 3], ?_⟩
         ·dsimp only
          exact ⟨by omega, hv.1, by have := hv.2.1; simp at this; omega, by have := hv.2.2; simp at this; omega, i5⟩
         ·dsimp only
          omega
         ·dsimp only
          refine ⟨by rfl, ?_, ?_⟩
          ·refine fin_ ?_
           exact cl_
          ·refine fin_ ?_
           exact cl_
       ·rw [if_pos hc, hs] at i5
        have hv := stepL_inv i2 hc
        rw [hs] at hv
        have hx := And.intro @hc (And.intro @eb (And.intro @linkB.eq_1 (And.intro @intsB.eq_1 (And.intro @eE.eq_1 (And.intro @dI_rows hx0)))))
        refine vc_regG [17] hmix (by kernel_rfl) ?_
        try refine lg_mk ?_
        refine u_ld ?_
        have hc := call_rule (E := (E_concatU.at_ 51)) (f := 16) (sp := Spec.gen stepG) rfl
        have hs := @stepG.eq_1
        refine u_hg (hq := by (first | ((repeat' apply And.intro) <;> first | rfl | trivial | omega | (simp [dI_rows]; done) | (simp [dI_rows]; omega)) | exact sd_)) ?_
        refine u_mv ?_
        refine lg_nil ?_
        have hx := hx0
        refine h23 _ ?_; clear h23; try clear N23
        refine vc_seq_k fun N29 h29 => ?_
        refine vc_regG [17] hmix (by kernel_rfl) ?_
        try refine lg_mk ?_
        refine u_mv ?_
        refine u_bn ?_
        refine lg_nil ?_
        refine h29 _ ?_; clear h29; try clear N29
        refine u_cond (fun hb30 => ?_) (fun hb30 => ?_)
        ·first | omega | exact absurd trivial hb30 | contradiction | (simp_all; done)
        ·refine vc_skip ?_
         try simp only [k_rules]
         refine h21 _ ?_; clear h21; try clear N21
         refine vc_regG [17] hmix (by kernel_rfl) ?_
         try refine lg_mk ?_
         refine u_bn ?_
         refine u_mv ?_
         refine lg_nil ?_
         refine h17 _ ⟨(i + 1, a, tk', fs', ws'), ?_, ?_, [some 0, some 1, some 2, some 5], ?_⟩
         ·dsimp only
          exact ⟨by omega, hv.1, by have := hv.2.1; simp at this; omega, by have := hv.2.2; simp at this; omega, i5⟩
         ·dsimp only
          omega
         ·dsimp only
          refine ⟨by rfl, ?_, ?_⟩
          ·refine fin_ ?_
           exact cl_
          ·refine fin_ ?_
           exact cl_
       ·rw [if_pos hc, hs] at i5
        have hv := stepL_inv i2 hc
        rw [hs] at hv
        have hx := And.intro @hc (And.intro @eb (And.intro @linkB.eq_1 (And.intro @intsB.eq_1 (And.intro @eE.eq_1 (And.intro @dI_rows hx0)))))
        refine vc_regG [17] hmix (by kernel_rfl) ?_
        try refine lg_mk ?_
        refine u_ld ?_
        have hc := call_rule (E := (E_concatU.at_ 51)) (f := 16) (sp := Spec.gen stepG) rfl
        have hs := @stepG.eq_1
        refine u_hg (hq := by (first | ((repeat' apply And.intro) <;> first | rfl | trivial | omega | (simp [dI_rows]; done) | (simp [dI_rows]; omega)) | exact sd_)) ?_
        refine u_mv ?_
        refine lg_nil ?_
        have hx := hx0
        refine h23 _ ?_; clear h23; try clear N23
        refine vc_seq_k fun N31 h31 => ?_
        refine vc_regG [17] hmix (by kernel_rfl) ?_
        try refine lg_mk ?_
        refine u_mv ?_
        refine u_bn ?_
        refine lg_nil ?_
        refine h31 _ ?_; clear h31; try clear N31
        refine u_cond (fun hb32 => ?_) (fun hb32 => ?_)
        ·first | omega | exact absurd trivial hb32 | contradiction | (simp_all; done)
        ·refine vc_skip ?_
         try simp only [k_rules]
         refine h21 _ ?_; clear h21; try clear N21
         refine vc_regG [17] hmix (by kernel_rfl) ?_
         try refine lg_mk ?_
         refine u_bn ?_
         refine u_mv ?_
         refine lg_nil ?_
         refine h17 _ ⟨(i + 1, a', tk, fs', ws'), ?_, ?_, [some 0, some 1, some 2, some 3], ?_⟩
         ·dsimp only
          exact ⟨by omega, hv.1, by have := hv.2.1; simp at this; omega, by have := hv.2.2; simp at this; omega, i5⟩
         ·dsimp only
          omega
         ·dsimp only
          refine ⟨by rfl, ?_, ?_⟩
          ·refine fin_ ?_
           exact cl_
          ·refine fin_ ?_
           exact cl_
      ·refine vc_exit ?_
       simp only [k_rules, Nat.reduceEqDiff, reduceIte, eq_self]
       refine h15 _ ?_; clear h15; try clear N15
       refine vc_seq_k fun N33 h33 => ?_
       refine vc_regO [17] [0, 1, 2, 3, 5, 6, 7, 4, 8, 9, 10] hmix (by kernel_rfl) ?_
       simp only [pick_rules, list_rules]
       try refine lg_mk ?_
       refine u_mv ?_
       refine u_pt ?_
       refine u_ld ?_
       refine u_sl ?_
       refine u_pt ?_
       refine u_ld ?_
       refine u_bd ?_
       have hc := call_rule (E := (E_concatU.at_ 51)) (f := 17) (sp := Spec.pure concatG) rfl
       have hs := @concatG.eq_1
       refine u_hp (hq := by (first | (rw [dUU_rows, Nat.sub_zero, framesOf_take]; refine ⟨?_, ?_⟩ <;> simp [framesOf_len] <;> omega) | exact sd_)) ?_
       refine u_mv ?_
       refine u_mv ?_
       refine u_st ?_
       refine lg_nil ?_
       refine h33 _ ?_; clear h33; try clear N33
       refine vc_ret ?_
       try simp only [k_rules]
       have hr : runR l es = (((framesOf l).take tk.toNat).flatten, a, 0, 0) := by
        unfold runR; rw [if_pos (by omega), if_pos (by omega), i5, List.drop_eq_nil_of_le (by omega)]; rfl
       rw [hr]
       refine fin2_ ?_
       (repeat' apply And.intro) <;> (first | (first | rfl | (rw [dUU_rows]; exact Or.inl rfl) | exact Or.inl rfl | exact Or.inr rfl | trivial | exact Nat.le_refl _ | omega | (simp; done)) | exact cl_)
 ·cases hg

def E_run : Env Try.prog := E_concatU.add 8 (Spec.pure runG) run_meets (by kernel_rfl)
end Go.Proofs.Ytiijkbidkdmilaa
