/- Walks, printed by wip/gen/walk.py. -/
import Derived.Test.YtaoifpmifpmhmaaT16
import Derived.Test.YtaoifpmifpmhmaaV4
set_option linter.all false
set_option maxRecDepth 100000
set_option maxHeartbeats 4000000
namespace Go.Proofs.Ytaoifpmifpmhmaa
open Go Go.Vc Go.RowKit
theorem lawCut_meets : Meets Try.prog 7 (Spec.pure lawCG) := by
 refine meets_fun (E_lawBd.at_ 85) Try.func7 rfl rfl rfl ?_
 intro args p r hg hp
 unfold lawCG at hg
 split at hg
 ·rename_i xs ys d
  simp only [Option.some.injEq, Prod.mk.injEq] at hg
  obtain ⟨rfl, rfl⟩ := hg
  obtain ⟨he, hf, hl, hsm, hn, hd⟩ := hp
  generalize dC xs = l at *
  generalize dI ys = ns at *
  subst he hf
  have hT : (E_lawBd).X = T := rfl
  have hx0 := And.intro @rect_eC (And.intro @dC_rows (And.intro @dI_rows (And.intro @dec_t (And.intro @dec_f @Try.results7))))
  have hx := hx0
  refine ⟨by rfl, ?_⟩
  intro F W0 hnp hmk
  refine vc_seq_k fun N1 h1 => ?_
  refine u_reg ?_
  try refine lg_mk ?_
  refine u_mv ?_
  refine lg_nil ?_
  refine h1 _ ?_; clear h1; try clear N1
  refine vc_seq_k fun N2 h2 => ?_
  refine vc_seq_k fun N3 h3 => ?_
  refine u_reg ?_
  try refine lg_mk ?_
  have hc := call_rule (E := (E_lawBd.at_ 85)) (f := 22) (sp := Spec.pure exampleG) rfl
  have hs := @exampleG.eq_1
  refine u_cp ?_
  refine u_un ?_
  refine lg_nil ?_
  refine h3 _ ?_; clear h3; try clear N3
  refine u_cond (fun hb4 => ?_) (fun hb4 => ?_)
  ·first | omega | exact absurd trivial hb4 | contradiction | (simp_all; done)
  ·refine vc_skip ?_
   try simp only [k_rules]
   refine h2 _ ?_; clear h2; try clear N2
   refine vc_seq_k fun N5 h5 => ?_
   refine u_reg ?_
   try refine lg_mk ?_
   refine u_mv ?_
   refine u_mv ?_
   refine u_mv ?_
   have hc := call_rule (E := (E_lawBd.at_ 85)) (f := 23) (sp := Spec.pure cutG) rfl
   have hs := @cutG.eq_1
   refine u_hp (hq := by (first | (exact ⟨hl, ‹smallC l›, by omega, by assumption⟩) | (first | trivial | omega | assumption | (unfold inI64; omega) | ((repeat' apply And.intro) <;> first | rfl | trivial | omega | assumption | (unfold inI64; omega)) | (simp; done) | (simp; omega)))) ?_
   refine u_mv ?_
   refine u_ex ?_
   refine u_ex ?_
   refine u_al ?_
   refine u_mv ?_
   refine u_st ?_
   refine lg_nil ?_
   refine h5 _ ?_; clear h5; try clear N5
   refine vc_seq_k fun N6 h6 => ?_
   refine u_reg ?_
   try refine lg_mk ?_
   refine u_mv ?_
   have hc := call_rule (E := (E_lawBd.at_ 85)) (f := 24) (sp := Spec.pure histG) rfl
   have hs := @histG.eq_1
   refine u_cp (hq := by (first | (exact ⟨hl, ‹smallC l›⟩) | (first | trivial | omega | assumption | (unfold inI64; omega) | ((repeat' apply And.intro) <;> first | rfl | trivial | omega | assumption | (unfold inI64; omega)) | (simp; done) | (simp; omega)))) ?_
   refine u_al ?_
   refine u_st ?_
   refine lg_nil ?_
   refine h6 _ ?_; clear h6; try clear N6
   refine vc_seq_k fun N7 h7 => ?_
   refine vc_seq_k fun N8 h8 => ?_
   refine u_reg ?_
   try refine lg_mk ?_
   refine u_pt ?_
   refine u_ld ?_
   refine u_bn ?_
   refine u_mv ?_
   refine g_mv ?_
   refine g_ln ?_
   refine g_bn ?_
   refine u_pk ?_
   refine lg_nil ?_
   refine h8 _ ?_; clear h8; try clear N8
   refine u_cond (fun hb9 => ?_) (fun hb9 => ?_)
   ·have hc0 : cutW l ns = (2, -1) := if_pos (by have := hb9; (try simp at this); omega)
    refine u_reg ?_
    try refine lg_mk ?_
    have hc := call_rule (E := (E_lawBd.at_ 85)) (f := 25) (sp := Spec.pure faultG) rfl
    have hs := @faultG.eq_1
    refine u_cp ?_
    refine u_st ?_
    refine lg_nil ?_
    refine h7 _ ?_; clear h7; try clear N7
    refine vc_seq_k fun N10 h10 => ?_
    refine vc_seq_k fun N11 h11 => ?_
    refine u_reg ?_
    try refine lg_mk ?_
    refine u_mv ?_
    refine lg_nil ?_
    refine h11 _ ?_; clear h11; try clear N11
    refine vc_block ?_
    refine vc_loop_mk (σ := Nat) (fun s => (fun i => i ≤ ns.length) s)
     (fun s => (fun i => [(0, .d (.sl (rows eC l))), (1, .d (.sl (rows eI ns))), (2, .d (.int .i64 d)), (7, .d (.sl (rows eI (cutR l ns d)))), (8, .ptr 0 0 0), (9, .ptr 1 0 0), (10, .d (.int .i64 (i : Nat)))]) s)
     (fun s => (fun i => [some (.one 27 [.d (.int .i64 (cutF l ns d).1), .d (.int .i64 (cutF l ns d).2)]), some (.one 27 [.d (.int .i64 (cutWi l ns i).1), .d (.int .i64 (cutWi l ns i).2)])]) s) (fun s => (fun i => ns.length - i) s) hnp 0 ?_ [some 0, some 1] ?_ ?_
    ·dsimp only
     omega
    ·dsimp only
     refine ⟨by rfl, ?_, ?_⟩
     ·refine fin_ ?_
      (repeat' apply And.intro) <;> (first | (first | rfl | trivial | (rw [cutWi_0, hc0]; done) | (simp [cutWi_0, hc0]; done)) | (first | rfl | exact Or.inr rfl | exact Or.inl rfl | trivial | omega | assumption | (simp; done) | (simp; omega)))
     ·refine fin_ ?_
      (repeat' apply And.intro) <;> (first | (first | rfl | trivial | (rw [cutWi_0, hc0]; done) | (simp [cutWi_0, hc0]; done)) | (first | rfl | exact Or.inr rfl | exact Or.inl rfl | trivial | omega | assumption | (simp; done) | (simp; omega)))
    ·rintro i hinv N12 h12
     dsimp only at hinv ⊢
     have hi1 := hinv
     refine vc_seq_k fun N13 h13 => ?_
     refine vc_seq_k fun N14 h14 => ?_
     refine u_reg ?_
     try refine lg_mk ?_
     refine u_mv ?_
     refine u_mv ?_
     refine u_ln ?_
     refine u_bn ?_
     refine u_mv ?_
     refine g_pt ?_
     refine g_ld ?_
     refine g_bn ?_
     refine u_pk ?_
     refine lg_nil ?_
     refine h14 _ ?_; clear h14; try clear N14
     refine u_cond (fun hb15 => ?_) (fun hb15 => ?_)
     ·obtain ⟨hi2, hw0⟩ : i < ns.length ∧ (cutWi l ns i).1 = 0 := by simpa using hb15
      obtain ⟨x, hxe⟩ := getE (l := ns) (i := i) hi2
      refine vc_skip ?_
      try simp only [k_rules]
      refine h13 _ ?_; clear h13; try clear N13
      refine vc_seq_k fun N16 h16 => ?_
      refine vc_block ?_
      refine vc_seq_k fun N17 h17 => ?_
      have hx := And.intro @hxe (And.intro @eI.eq_1 hx0)
      refine u_reg ?_
      try refine lg_mk ?_
      refine u_mv ?_
      refine u_mv ?_
      refine u_pt ?_
      refine u_ld ?_
      refine u_mv ?_
      refine u_ln ?_
      refine u_bn ?_
      have hc := call_rule (E := (E_lawBd.at_ 85)) (f := 19) (sp := Spec.pure inG) rfl
      have hs := @inG.eq_1
      refine u_cp ?_
      refine u_un ?_
      refine lg_nil ?_
      have hx := hx0
      refine h17 _ ?_; clear h17; try clear N17
      refine u_cond (fun hb18 => ?_) (fun hb18 => ?_)
      ·have hwb := cutWi_bad hw0 hxe (by have := hb18; (try simp at this); omega)
       refine u_reg ?_
       try refine lg_mk ?_
       refine u_mv ?_
       have hc := call_rule (E := (E_lawBd.at_ 85)) (f := 25) (sp := Spec.pure faultG) rfl
       have hs := @faultG.eq_1
       refine u_cp ?_
       refine u_st ?_
       refine lg_nil ?_
       refine h16 _ ?_; clear h16; try clear N16
       refine u_reg ?_
       try refine lg_mk ?_
       refine u_mv ?_
       refine u_bn ?_
       refine u_mv ?_
       refine lg_nil ?_
       refine h12 _ ⟨i + 1, ?_, ?_, [some 0, some 1], ?_⟩
       ·dsimp only
        omega
       ·dsimp only
        omega
       ·dsimp only
        refine ⟨by rfl, ?_, ?_⟩
        ·refine fin_ ?_
         (repeat' apply And.intro) <;> (first | (first | rfl | trivial | (rw [hwb]; done) | (simp [hwb]; done)) | (first | rfl | exact Or.inr rfl | exact Or.inl rfl | trivial | omega | assumption | (simp; done) | (simp; omega)))
        ·refine fin_ ?_
         (repeat' apply And.intro) <;> (first | (first | rfl | trivial | (rw [hwb]; done) | (simp [hwb]; done)) | (first | rfl | exact Or.inr rfl | exact Or.inl rfl | trivial | omega | assumption | (simp; done) | (simp; omega)))
      ·have hwb := cutWi_ok hw0 hxe (by have := hb18; (try simp at this); omega)
       refine vc_skip ?_
       try simp only [k_rules]
       refine h16 _ ?_; clear h16; try clear N16
       refine u_reg ?_
       try refine lg_mk ?_
       refine u_mv ?_
       refine u_bn ?_
       refine u_mv ?_
       refine lg_nil ?_
       refine h12 _ ⟨i + 1, ?_, ?_, [some 0, some 1], ?_⟩
       ·dsimp only
        omega
       ·dsimp only
        omega
       ·dsimp only
        refine ⟨by rfl, ?_, ?_⟩
        ·refine fin_ ?_
         (repeat' apply And.intro) <;> (first | (first | rfl | trivial | (rw [hwb]; done) | (simp [hwb]; done)) | (first | rfl | exact Or.inr rfl | exact Or.inl rfl | trivial | omega | assumption | (simp; done) | (simp; omega)))
        ·refine fin_ ?_
         (repeat' apply And.intro) <;> (first | (first | rfl | trivial | (rw [hwb]; done) | (simp [hwb]; done)) | (first | rfl | exact Or.inr rfl | exact Or.inl rfl | trivial | omega | assumption | (simp; done) | (simp; omega)))
     ·have hwe := cutWi_end (l := l) (d := d) hi1 (by simpa using hb15)
      refine vc_exit ?_
      simp only [k_rules, Nat.reduceEqDiff, reduceIte, eq_self]
      refine h10 _ ?_; clear h10; try clear N10
      refine vc_seq_k fun N19 h19 => ?_
      refine vc_seq_k fun N20 h20 => ?_
      refine u_reg ?_
      try refine lg_mk ?_
      refine u_pt ?_
      refine u_ld ?_
      refine u_bn ?_
      refine u_mv ?_
      refine g_mv ?_
      have hc := call_rule (E := (E_lawBd.at_ 85)) (f := 19) (sp := Spec.pure inG) rfl
      have hs := @inG.eq_1
      refine g_cp ?_
      refine g_un ?_
      refine u_pk ?_
      refine lg_nil ?_
      refine h20 _ ?_; clear h20; try clear N20
      refine u_cond (fun hb21 => ?_) (fun hb21 => ?_)
      ·have hf : cutF l ns d = (3, -2) := by rw [hwe, if_pos (by have := hb21; simpa using this)]
       refine u_reg ?_
       try refine lg_mk ?_
       have hc := call_rule (E := (E_lawBd.at_ 85)) (f := 25) (sp := Spec.pure faultG) rfl
       have hs := @faultG.eq_1
       refine u_cp ?_
       refine u_st ?_
       refine lg_nil ?_
       refine h19 _ ?_; clear h19; try clear N19
       refine vc_seq_k fun N22 h22 => ?_
       refine vc_seq_k fun N23 h23 => ?_
       refine u_reg ?_
       try refine lg_mk ?_
       refine u_pt ?_
       refine u_ld ?_
       refine u_bn ?_
       refine lg_nil ?_
       refine h23 _ ?_; clear h23; try clear N23
       refine u_cond (fun hb24 => ?_) (fun hb24 => ?_)
       ·have hnil := cut_nil (l := l) (ns := ns) (d := d) (by first | exact hb24 | (rw [hf]; simp))
        refine vc_seq_k fun N25 h25 => ?_
        refine u_reg ?_
        try refine lg_mk ?_
        refine u_ld ?_
        refine u_ld ?_
        refine u_bn ?_
        refine u_mv ?_
        refine g_mv ?_
        refine g_ln ?_
        refine g_bn ?_
        refine u_pk ?_
        refine u_mv ?_
        refine lg_nil ?_
        refine h25 _ ?_; clear h25; try clear N25
        refine vc_ret ?_
        try simp only [k_rules]
        refine fin2_ ?_
        (repeat' apply And.intro) <;> (first | (first | rfl | (simp [hf, hnil]; done) | (simp [hnil]; done) | (simp_all; done)) | (first | rfl | exact Or.inr rfl | exact Or.inl rfl | trivial | omega | assumption | (simp; done) | (simp; omega)))
       ·simp_all
      ·have hf : cutF l ns d = cutWi l ns i := by rw [hwe, if_neg (by have := hb21; simpa using this)]
       rw [← hf]
       refine vc_skip ?_
       try simp only [k_rules]
       refine h19 _ ?_; clear h19; try clear N19
       refine vc_seq_k fun N26 h26 => ?_
       refine vc_seq_k fun N27 h27 => ?_
       refine u_reg ?_
       try refine lg_mk ?_
       refine u_pt ?_
       refine u_ld ?_
       refine u_bn ?_
       refine lg_nil ?_
       refine h27 _ ?_; clear h27; try clear N27
       refine u_cond (fun hb28 => ?_) (fun hb28 => ?_)
       ·have hnil := cut_nil (l := l) (ns := ns) (d := d) (by first | exact hb28 | (rw [hf]; simp))
        refine vc_seq_k fun N29 h29 => ?_
        refine u_reg ?_
        try refine lg_mk ?_
        refine u_ld ?_
        refine u_ld ?_
        refine u_bn ?_
        refine u_mv ?_
        refine g_mv ?_
        refine g_ln ?_
        refine g_bn ?_
        refine u_pk ?_
        refine u_mv ?_
        refine lg_nil ?_
        refine h29 _ ?_; clear h29; try clear N29
        refine vc_ret ?_
        try simp only [k_rules]
        refine fin2_ ?_
        (repeat' apply And.intro) <;> (first | (first | rfl | (simp [hf, hnil]; done) | (simp [hnil]; done) | (simp_all; done)) | (first | rfl | exact Or.inr rfl | exact Or.inl rfl | trivial | omega | assumption | (simp; done) | (simp; omega)))
       ·have hg := cut_good (l := l) (ns := ns) (d := d) (by simpa using hb28)
        obtain ⟨g1, g2, g3, g4, g5, g6, g7⟩ := hg
        have hcv := cut_val (l := l) (ns := ns) (d := d) (by rw [g7])
        have hL := cut_len l ns d
        have hL2 := hL
        rw [hcv] at hL2
        refine vc_skip ?_
        try simp only [k_rules]
        refine h26 _ ?_; clear h26; try clear N26
        refine vc_seq_k fun N30 h30 => ?_
        have hx := And.intro @g7 hx0
        refine u_reg ?_
        try refine lg_mk ?_
        refine u_pt ?_
        refine u_ld ?_
        refine u_bn ?_
        refine u_mv ?_
        refine g_mv ?_
        refine g_mv ?_
        refine g_mv ?_
        refine g_mv ?_
        refine g_bn ?_
        have hc := call_rule (E := (E_lawBd.at_ 85)) (f := 26) (sp := Spec.pure stepsG) rfl
        have hs := @stepsG.eq_1
        refine t_hp (hq := by (first | (exact ⟨g2, g3, by omega, by omega, by omega⟩) | (first | trivial | omega | assumption | (unfold inI64; omega) | ((repeat' apply And.intro) <;> first | rfl | trivial | omega | assumption | (unfold inI64; omega)) | (simp; done) | (simp; omega)))) ?_
        have hc := call_rule (E := (E_lawBd.at_ 85)) (f := 17) (sp := Spec.pure intsG) rfl
        have hs := @intsG.eq_1
        refine g_cp ?_
        refine u_pk ?_
        refine u_mv ?_
        refine lg_nil ?_
        have hx := hx0
        refine h30 _ ?_; clear h30; try clear N30
        refine vc_ret ?_
        try simp only [k_rules]
        refine fin2_ ?_
        (repeat' apply And.intro) <;> (first | (first | rfl | (simp [g7, hcv]; done) | (simp_all; done)) | (first | rfl | exact Or.inr rfl | exact Or.inl rfl | trivial | omega | assumption | (simp; done) | (simp; omega)))
   ·have hc0 : cutW l ns = histF l := if_neg (by have := hb9; (try simp at this); omega)
    refine vc_skip ?_
    try simp only [k_rules]
    refine h7 _ ?_; clear h7; try clear N7
    refine vc_seq_k fun N31 h31 => ?_
    refine vc_seq_k fun N32 h32 => ?_
    refine u_reg ?_
    try refine lg_mk ?_
    refine u_mv ?_
    refine lg_nil ?_
    refine h32 _ ?_; clear h32; try clear N32
    refine vc_block ?_
    refine vc_loop_mk (σ := Nat) (fun s => (fun i => i ≤ ns.length) s)
     (fun s => (fun i => [(0, .d (.sl (rows eC l))), (1, .d (.sl (rows eI ns))), (2, .d (.int .i64 d)), (7, .d (.sl (rows eI (cutR l ns d)))), (8, .ptr 0 0 0), (9, .ptr 1 0 0), (10, .d (.int .i64 (i : Nat)))]) s)
     (fun s => (fun i => [some (.one 27 [.d (.int .i64 (cutF l ns d).1), .d (.int .i64 (cutF l ns d).2)]), some (.one 27 [.d (.int .i64 (cutWi l ns i).1), .d (.int .i64 (cutWi l ns i).2)])]) s) (fun s => (fun i => ns.length - i) s) hnp 0 ?_ [some 0, some 1] ?_ ?_
    ·dsimp only
     omega
    ·dsimp only
     refine ⟨by rfl, ?_, ?_⟩
     ·refine fin_ ?_
      (repeat' apply And.intro) <;> (first | (first | rfl | trivial | (rw [cutWi_0, hc0]; done) | (simp [cutWi_0, hc0]; done)) | (first | rfl | exact Or.inr rfl | exact Or.inl rfl | trivial | omega | assumption | (simp; done) | (simp; omega)))
     ·refine fin_ ?_
      (repeat' apply And.intro) <;> (first | (first | rfl | trivial | (rw [cutWi_0, hc0]; done) | (simp [cutWi_0, hc0]; done)) | (first | rfl | exact Or.inr rfl | exact Or.inl rfl | trivial | omega | assumption | (simp; done) | (simp; omega)))
    ·rintro i hinv N33 h33
     dsimp only at hinv ⊢
     have hi1 := hinv
     refine vc_seq_k fun N34 h34 => ?_
     refine vc_seq_k fun N35 h35 => ?_
     refine u_reg ?_
     try refine lg_mk ?_
     refine u_mv ?_
     refine u_mv ?_
     refine u_ln ?_
     refine u_bn ?_
     refine u_mv ?_
     refine g_pt ?_
     refine g_ld ?_
     refine g_bn ?_
     refine u_pk ?_
     refine lg_nil ?_
     refine h35 _ ?_; clear h35; try clear N35
     refine u_cond (fun hb36 => ?_) (fun hb36 => ?_)
     ·obtain ⟨hi2, hw0⟩ : i < ns.length ∧ (cutWi l ns i).1 = 0 := by simpa using hb36
      obtain ⟨x, hxe⟩ := getE (l := ns) (i := i) hi2
      refine vc_skip ?_
      try simp only [k_rules]
      refine h34 _ ?_; clear h34; try clear N34
      refine vc_seq_k fun N37 h37 => ?_
      refine vc_block ?_
      refine vc_seq_k fun N38 h38 => ?_
      have hx := And.intro @hxe (And.intro @eI.eq_1 hx0)
      refine u_reg ?_
      try refine lg_mk ?_
      refine u_mv ?_
      refine u_mv ?_
      refine u_pt ?_
      refine u_ld ?_
      refine u_mv ?_
      refine u_ln ?_
      refine u_bn ?_
      have hc := call_rule (E := (E_lawBd.at_ 85)) (f := 19) (sp := Spec.pure inG) rfl
      have hs := @inG.eq_1
      refine u_cp ?_
      refine u_un ?_
      refine lg_nil ?_
      have hx := hx0
      refine h38 _ ?_; clear h38; try clear N38
      refine u_cond (fun hb39 => ?_) (fun hb39 => ?_)
      ·have hwb := cutWi_bad hw0 hxe (by have := hb39; (try simp at this); omega)
       refine u_reg ?_
       try refine lg_mk ?_
       refine u_mv ?_
       have hc := call_rule (E := (E_lawBd.at_ 85)) (f := 25) (sp := Spec.pure faultG) rfl
       have hs := @faultG.eq_1
       refine u_cp ?_
       refine u_st ?_
       refine lg_nil ?_
       refine h37 _ ?_; clear h37; try clear N37
       refine u_reg ?_
       try refine lg_mk ?_
       refine u_mv ?_
       refine u_bn ?_
       refine u_mv ?_
       refine lg_nil ?_
       refine h33 _ ⟨i + 1, ?_, ?_, [some 0, some 1], ?_⟩
       ·dsimp only
        omega
       ·dsimp only
        omega
       ·dsimp only
        refine ⟨by rfl, ?_, ?_⟩
        ·refine fin_ ?_
         (repeat' apply And.intro) <;> (first | (first | rfl | trivial | (rw [hwb]; done) | (simp [hwb]; done)) | (first | rfl | exact Or.inr rfl | exact Or.inl rfl | trivial | omega | assumption | (simp; done) | (simp; omega)))
        ·refine fin_ ?_
         (repeat' apply And.intro) <;> (first | (first | rfl | trivial | (rw [hwb]; done) | (simp [hwb]; done)) | (first | rfl | exact Or.inr rfl | exact Or.inl rfl | trivial | omega | assumption | (simp; done) | (simp; omega)))
      ·have hwb := cutWi_ok hw0 hxe (by have := hb39; (try simp at this); omega)
       refine vc_skip ?_
       try simp only [k_rules]
       refine h37 _ ?_; clear h37; try clear N37
       refine u_reg ?_
       try refine lg_mk ?_
       refine u_mv ?_
       refine u_bn ?_
       refine u_mv ?_
       refine lg_nil ?_
       refine h33 _ ⟨i + 1, ?_, ?_, [some 0, some 1], ?_⟩
       ·dsimp only
        omega
       ·dsimp only
        omega
       ·dsimp only
        refine ⟨by rfl, ?_, ?_⟩
        ·refine fin_ ?_
         (repeat' apply And.intro) <;> (first | (first | rfl | trivial | (rw [hwb]; done) | (simp [hwb]; done)) | (first | rfl | exact Or.inr rfl | exact Or.inl rfl | trivial | omega | assumption | (simp; done) | (simp; omega)))
        ·refine fin_ ?_
         (repeat' apply And.intro) <;> (first | (first | rfl | trivial | (rw [hwb]; done) | (simp [hwb]; done)) | (first | rfl | exact Or.inr rfl | exact Or.inl rfl | trivial | omega | assumption | (simp; done) | (simp; omega)))
     ·have hwe := cutWi_end (l := l) (d := d) hi1 (by simpa using hb36)
      refine vc_exit ?_
      simp only [k_rules, Nat.reduceEqDiff, reduceIte, eq_self]
      refine h31 _ ?_; clear h31; try clear N31
      refine vc_seq_k fun N40 h40 => ?_
      refine vc_seq_k fun N41 h41 => ?_
      refine u_reg ?_
      try refine lg_mk ?_
      refine u_pt ?_
      refine u_ld ?_
      refine u_bn ?_
      refine u_mv ?_
      refine g_mv ?_
      have hc := call_rule (E := (E_lawBd.at_ 85)) (f := 19) (sp := Spec.pure inG) rfl
      have hs := @inG.eq_1
      refine g_cp ?_
      refine g_un ?_
      refine u_pk ?_
      refine lg_nil ?_
      refine h41 _ ?_; clear h41; try clear N41
      refine u_cond (fun hb42 => ?_) (fun hb42 => ?_)
      ·have hf : cutF l ns d = (3, -2) := by rw [hwe, if_pos (by have := hb42; simpa using this)]
       refine u_reg ?_
       try refine lg_mk ?_
       have hc := call_rule (E := (E_lawBd.at_ 85)) (f := 25) (sp := Spec.pure faultG) rfl
       have hs := @faultG.eq_1
       refine u_cp ?_
       refine u_st ?_
       refine lg_nil ?_
       refine h40 _ ?_; clear h40; try clear N40
       refine vc_seq_k fun N43 h43 => ?_
       refine vc_seq_k fun N44 h44 => ?_
       refine u_reg ?_
       try refine lg_mk ?_
       refine u_pt ?_
       refine u_ld ?_
       refine u_bn ?_
       refine lg_nil ?_
       refine h44 _ ?_; clear h44; try clear N44
       refine u_cond (fun hb45 => ?_) (fun hb45 => ?_)
       ·have hnil := cut_nil (l := l) (ns := ns) (d := d) (by first | exact hb45 | (rw [hf]; simp))
        refine vc_seq_k fun N46 h46 => ?_
        refine u_reg ?_
        try refine lg_mk ?_
        refine u_ld ?_
        refine u_ld ?_
        refine u_bn ?_
        refine u_mv ?_
        refine g_mv ?_
        refine g_ln ?_
        refine g_bn ?_
        refine u_pk ?_
        refine u_mv ?_
        refine lg_nil ?_
        refine h46 _ ?_; clear h46; try clear N46
        refine vc_ret ?_
        try simp only [k_rules]
        refine fin2_ ?_
        (repeat' apply And.intro) <;> (first | (first | rfl | (simp [hf, hnil]; done) | (simp [hnil]; done) | (simp_all; done)) | (first | rfl | exact Or.inr rfl | exact Or.inl rfl | trivial | omega | assumption | (simp; done) | (simp; omega)))
       ·simp_all
      ·have hf : cutF l ns d = cutWi l ns i := by rw [hwe, if_neg (by have := hb42; simpa using this)]
       rw [← hf]
       refine vc_skip ?_
       try simp only [k_rules]
       refine h40 _ ?_; clear h40; try clear N40
       refine vc_seq_k fun N47 h47 => ?_
       refine vc_seq_k fun N48 h48 => ?_
       refine u_reg ?_
       try refine lg_mk ?_
       refine u_pt ?_
       refine u_ld ?_
       refine u_bn ?_
       refine lg_nil ?_
       refine h48 _ ?_; clear h48; try clear N48
       refine u_cond (fun hb49 => ?_) (fun hb49 => ?_)
       ·have hnil := cut_nil (l := l) (ns := ns) (d := d) (by first | exact hb49 | (rw [hf]; simp))
        refine vc_seq_k fun N50 h50 => ?_
        refine u_reg ?_
        try refine lg_mk ?_
        refine u_ld ?_
        refine u_ld ?_
        refine u_bn ?_
        refine u_mv ?_
        refine g_mv ?_
        refine g_ln ?_
        refine g_bn ?_
        refine u_pk ?_
        refine u_mv ?_
        refine lg_nil ?_
        refine h50 _ ?_; clear h50; try clear N50
        refine vc_ret ?_
        try simp only [k_rules]
        refine fin2_ ?_
        (repeat' apply And.intro) <;> (first | (first | rfl | (simp [hf, hnil]; done) | (simp [hnil]; done) | (simp_all; done)) | (first | rfl | exact Or.inr rfl | exact Or.inl rfl | trivial | omega | assumption | (simp; done) | (simp; omega)))
       ·have hg := cut_good (l := l) (ns := ns) (d := d) (by simpa using hb49)
        obtain ⟨g1, g2, g3, g4, g5, g6, g7⟩ := hg
        have hcv := cut_val (l := l) (ns := ns) (d := d) (by rw [g7])
        have hL := cut_len l ns d
        have hL2 := hL
        rw [hcv] at hL2
        refine vc_skip ?_
        try simp only [k_rules]
        refine h47 _ ?_; clear h47; try clear N47
        refine vc_seq_k fun N51 h51 => ?_
        have hx := And.intro @g7 hx0
        refine u_reg ?_
        try refine lg_mk ?_
        refine u_pt ?_
        refine u_ld ?_
        refine u_bn ?_
        refine u_mv ?_
        refine g_mv ?_
        refine g_mv ?_
        refine g_mv ?_
        refine g_mv ?_
        refine g_bn ?_
        have hc := call_rule (E := (E_lawBd.at_ 85)) (f := 26) (sp := Spec.pure stepsG) rfl
        have hs := @stepsG.eq_1
        refine t_hp (hq := by (first | (exact ⟨g2, g3, by omega, by omega, by omega⟩) | (first | trivial | omega | assumption | (unfold inI64; omega) | ((repeat' apply And.intro) <;> first | rfl | trivial | omega | assumption | (unfold inI64; omega)) | (simp; done) | (simp; omega)))) ?_
        have hc := call_rule (E := (E_lawBd.at_ 85)) (f := 17) (sp := Spec.pure intsG) rfl
        have hs := @intsG.eq_1
        refine g_cp ?_
        refine u_pk ?_
        refine u_mv ?_
        refine lg_nil ?_
        have hx := hx0
        refine h51 _ ?_; clear h51; try clear N51
        refine vc_ret ?_
        try simp only [k_rules]
        refine fin2_ ?_
        (repeat' apply And.intro) <;> (first | (first | rfl | (simp [g7, hcv]; done) | (simp_all; done)) | (first | rfl | exact Or.inr rfl | exact Or.inl rfl | trivial | omega | assumption | (simp; done) | (simp; omega)))
 ·cases hg

def E_lawCut : Env Try.prog := E_lawBd.add 7 (Spec.pure lawCG) lawCut_meets (by kernel_rfl)

theorem lawDeep_meets : Meets Try.prog 9 (Spec.pure lawDG) := by
 refine meets_fun (E_lawCut.at_ 69) Try.func9 rfl rfl rfl ?_
 intro args p r hg hp
 unfold lawDG at hg
 split at hg
 ·rename_i xs ys d b
  simp only [Option.some.injEq, Prod.mk.injEq] at hg
  obtain ⟨rfl, rfl⟩ := hg
  obtain ⟨he, hf, hl, hsm, hn, hd, hb⟩ := hp
  generalize dC xs = l at *
  generalize dI ys = ns at *
  subst he hf
  have hT : (E_lawCut).X = T := rfl
  have hx0 := And.intro @rect_eC (And.intro @dC_rows (And.intro @dI_rows (And.intro @dec_t (And.intro @dec_f @Try.results9))))
  have hx := hx0
  refine ⟨by rfl, ?_⟩
  intro F W0 hnp hmk
  refine vc_seq_k fun N1 h1 => ?_
  refine u_reg ?_
  try refine lg_mk ?_
  refine u_mv ?_
  refine lg_nil ?_
  refine h1 _ ?_; clear h1; try clear N1
  refine vc_seq_k fun N2 h2 => ?_
  refine vc_seq_k fun N3 h3 => ?_
  refine u_reg ?_
  try refine lg_mk ?_
  have hc := call_rule (E := (E_lawCut.at_ 69)) (f := 22) (sp := Spec.pure exampleG) rfl
  have hs := @exampleG.eq_1
  refine u_cp ?_
  refine u_un ?_
  refine lg_nil ?_
  refine h3 _ ?_; clear h3; try clear N3
  refine u_cond (fun hb4 => ?_) (fun hb4 => ?_)
  ·first | omega | exact absurd trivial hb4 | contradiction | (simp_all; done)
  ·refine vc_skip ?_
   try simp only [k_rules]
   refine h2 _ ?_; clear h2; try clear N2
   refine vc_seq_k fun N5 h5 => ?_
   refine vc_seq_k fun N6 h6 => ?_
   refine u_reg ?_
   try refine lg_mk ?_
   refine u_mv ?_
   have hc := call_rule (E := (E_lawCut.at_ 69)) (f := 19) (sp := Spec.pure inG) rfl
   have hs := @inG.eq_1
   refine u_cp ?_
   refine u_un ?_
   refine u_mv ?_
   refine g_mv ?_
   refine g_mv ?_
   refine g_bn ?_
   have hc := call_rule (E := (E_lawCut.at_ 69)) (f := 19) (sp := Spec.pure inG) rfl
   have hs := @inG.eq_1
   refine g_cp ?_
   refine g_un ?_
   refine u_pk ?_
   refine lg_nil ?_
   refine h6 _ ?_; clear h6; try clear N6
   refine u_cond (fun hb7 => ?_) (fun hb7 => ?_)
   ·refine vc_seq_k fun N8 h8 => ?_
    refine u_reg ?_
    try refine lg_mk ?_
    refine u_mv ?_
    refine lg_nil ?_
    refine h8 _ ?_; clear h8; try clear N8
    refine vc_ret ?_
    try simp only [k_rules]
    refine fin2_ ?_
    exact cl_
   ·have hdb : (1 ≤ d ∧ d ≤ 60) ∧ 0 ≤ b ∧ b ≤ 60 - d := by simpa using hb7
    refine vc_skip ?_
    try simp only [k_rules]
    refine h5 _ ?_; clear h5; try clear N5
    refine vc_seq_k fun N9 h9 => ?_
    refine u_reg ?_
    try refine lg_mk ?_
    refine u_mv ?_
    refine u_mv ?_
    refine u_mv ?_
    have hc := call_rule (E := (E_lawCut.at_ 69)) (f := 23) (sp := Spec.pure cutG) rfl
    have hs := @cutG.eq_1
    refine u_hp (hq := by (first | (exact ⟨hl, ‹smallC l›, by omega, by assumption⟩) | (first | trivial | omega | assumption | (unfold inI64; omega) | ((repeat' apply And.intro) <;> first | rfl | trivial | omega | assumption | (unfold inI64; omega)) | (simp; done) | (simp; omega)))) ?_
    refine u_mv ?_
    refine u_ex ?_
    refine u_ex ?_
    refine u_al ?_
    refine u_mv ?_
    refine u_st ?_
    refine lg_nil ?_
    refine h9 _ ?_; clear h9; try clear N9
    refine vc_seq_k fun N10 h10 => ?_
    refine vc_seq_k fun N11 h11 => ?_
    refine u_reg ?_
    try refine lg_mk ?_
    refine u_pt ?_
    refine u_ld ?_
    refine u_bn ?_
    refine lg_nil ?_
    refine h11 _ ?_; clear h11; try clear N11
    refine u_cond (fun hb12 => ?_) (fun hb12 => ?_)
    ·have hnil := cut_nil (l := l) (ns := ns) (d := d) hb12
     refine vc_seq_k fun N13 h13 => ?_
     refine u_reg ?_
     try refine lg_mk ?_
     refine u_mv ?_
     refine u_ln ?_
     refine u_bn ?_
     refine u_mv ?_
     refine lg_nil ?_
     refine h13 _ ?_; clear h13; try clear N13
     refine vc_ret ?_
     try simp only [k_rules]
     refine fin2_ ?_
     (repeat' apply And.intro) <;> (first | (first | rfl | (simp [hnil]; done)) | (first | rfl | exact Or.inr rfl | exact Or.inl rfl | trivial | omega | assumption | (simp; done) | (simp; omega)))
    ·have h0 : (cutF l ns d).1 = 0 := by simpa using hb12
     obtain ⟨q1, q2, q3⟩ := cut_adds h0 hdb.1.1 hdb.2.1 hdb.2.2
     have hL := cut_len l ns d
     have hL2 := cut_len l ns (d + b)
     refine vc_skip ?_
     try simp only [k_rules]
     refine h10 _ ?_; clear h10; try clear N10
     refine vc_seq_k fun N14 h14 => ?_
     have hx := And.intro @q2 (And.intro @q3 hx0)
     refine u_reg ?_
     try refine lg_mk ?_
     refine u_mv ?_
     refine u_mv ?_
     refine u_mv ?_
     have hc := call_rule (E := (E_lawCut.at_ 69)) (f := 28) (sp := Spec.pure delG) rfl
     have hs := @delG.eq_1
     refine u_hp (hq := by (first | (exact ⟨hl, ‹smallC l›, by omega, by unfold inI64; omega⟩) | (first | trivial | omega | assumption | (unfold inI64; omega) | ((repeat' apply And.intro) <;> first | rfl | trivial | omega | assumption | (unfold inI64; omega)) | (simp; done) | (simp; omega)))) ?_
     refine u_mv ?_
     refine u_ex ?_
     refine u_ex ?_
     refine u_al ?_
     refine u_mv ?_
     refine u_st ?_
     refine lg_nil ?_
     have hx := hx0
     refine h14 _ ?_; clear h14; try clear N14
     refine vc_seq_k fun N15 h15 => ?_
     have hx := And.intro @q1 hx0
     refine u_reg ?_
     try refine lg_mk ?_
     refine u_mv ?_
     refine u_mv ?_
     refine u_mv ?_
     refine u_mv ?_
     refine u_bn ?_
     have hc := call_rule (E := (E_lawCut.at_ 69)) (f := 23) (sp := Spec.pure cutG) rfl
     have hs := @cutG.eq_1
     refine u_hp (hq := by (first | (exact ⟨hl, ‹smallC l›, by omega, by unfold inI64; omega⟩) | (first | trivial | omega | assumption | (unfold inI64; omega) | ((repeat' apply And.intro) <;> first | rfl | trivial | omega | assumption | (unfold inI64; omega)) | (simp; done) | (simp; omega)))) ?_
     refine u_mv ?_
     refine u_ex ?_
     refine u_ex ?_
     refine u_al ?_
     refine u_mv ?_
     refine u_st ?_
     refine lg_nil ?_
     have hx := hx0
     refine h15 _ ?_; clear h15; try clear N15
     refine vc_seq_k fun N16 h16 => ?_
     refine u_reg ?_
     try refine lg_mk ?_
     refine u_pt ?_
     refine u_ld ?_
     refine u_bn ?_
     refine u_mv ?_
     refine g_pt ?_
     refine g_ld ?_
     refine g_bn ?_
     refine u_pk ?_
     refine u_mv ?_
     refine g_mv ?_
     refine g_mv ?_
     have hc := call_rule (E := (E_lawCut.at_ 69)) (f := 17) (sp := Spec.pure intsG) rfl
     have hs := @intsG.eq_1
     refine g_cp ?_
     refine u_pk ?_
     refine u_mv ?_
     refine lg_nil ?_
     refine h16 _ ?_; clear h16; try clear N16
     refine vc_ret ?_
     try simp only [k_rules]
     refine fin2_ ?_
     (repeat' apply And.intro) <;> (first | (first | rfl | (simp; done)) | (first | rfl | exact Or.inr rfl | exact Or.inl rfl | trivial | omega | assumption | (simp; done) | (simp; omega)))
 ·cases hg

def E_lawDeep : Env Try.prog := E_lawCut.add 9 (Spec.pure lawDG) lawDeep_meets (by kernel_rfl)
end Go.Proofs.Ytaoifpmifpmhmaa
