/- Walks, printed by wip/gen/walk.py. -/
import Derived.Test.YtaoifpmifpmhmaaT32
import Derived.Test.YtaoifpmifpmhmaaV4
set_option linter.all false
set_option maxRecDepth 100000
set_option maxHeartbeats 4000000
namespace Go.Proofs.Ytaoifpmifpmhmaa
open Go Go.Vc Go.RowKit
theorem children_meets : Meets Try.prog 51 (Spec.fresh childF) := by
 refine meets_fresh (E_of.at_ 33) Try.func51 rfl rfl rfl ?_
 intro args bl p r bf hg hp
 unfold childF at hg
 split at hg
 ·rename_i xs
  simp only [Option.some.injEq, Prod.mk.injEq] at hg
  obtain ⟨rfl, rfl, rfl⟩ := hg
  obtain ⟨he, hv⟩ := hp
  generalize dC xs = l at *
  subst he
  have hl60 := hv.len
  have hT : (E_of).X = T := rfl
  have hx0 := And.intro @rect_eC (And.intro @ivec_len @Try.results51)
  have hx := hx0
  refine ⟨Nat.le_of_ble_eq_true rfl, ?_⟩
  intro F W0 M0 hnp hmk
  have hnp : Far.np = 0 := hnp
  refine vc_seq_k fun N1 h1 => ?_
  refine u_reg ?_
  try refine lg_mk ?_
  refine u_mv ?_
  refine lg_nil ?_
  refine h1 _ ?_; clear h1; try clear N1
  refine vc_seq_k fun N2 h2 => ?_
  refine u_reg ?_
  try refine lg_mk ?_
  refine u_mv ?_
  refine u_ln ?_
  refine u_ms ?_
  refine u_mv ?_
  refine lg_nil ?_
  refine h2 _ ?_; clear h2; try clear N2
  refine vc_seq_k fun N3 h3 => ?_
  refine vc_seq_k fun N4 h4 => ?_
  refine u_reg ?_
  try refine lg_mk ?_
  refine u_mv ?_
  refine u_ln ?_
  refine u_mv ?_
  refine lg_nil ?_
  refine h4 _ ?_; clear h4; try clear N4
  refine vc_block ?_
  refine vc_loop_mk (σ := Nat) (fun s => (fun m => m ≤ l.length) s)
   (fun s => (fun m => [(3, .sl 0 0 l.length), (11, .d (.sl (rows eC l))), (12, .d (.int .i64 (l.length : Nat))), (13, .d (.int .i64 (m : Nat)))]) s)
   (fun s => (fun m => [some (.vec 3 1 (rows eI (ivec l.length (cnt l [] m))))]) s) (fun s => (fun m => l.length - m) s) hnp 0 ?_ [some 0] ?_ ?_
  ·dsimp only
   omega
  ·dsimp only
   refine ⟨by rfl, ?_, ?_⟩
   ·refine fin_ ?_
    (repeat' apply And.intro) <;> (first | (first | rfl | trivial | exact ivec_rep _) | (first | rfl | exact Or.inr rfl | exact Or.inl rfl | trivial | omega | assumption | (simp; done) | (simp; omega)))
   ·refine fin_ ?_
    (repeat' apply And.intro) <;> (first | (first | rfl | trivial | exact ivec_rep _) | (first | rfl | exact Or.inr rfl | exact Or.inl rfl | trivial | omega | assumption | (simp; done) | (simp; omega)))
  ·rintro m hinv N5 h5
   dsimp only at hinv ⊢
   have hm1 := hinv
   refine vc_seq_k fun N6 h6 => ?_
   refine u_reg ?_
   try refine lg_mk ?_
   refine u_bn ?_
   refine lg_nil ?_
   refine h6 _ ?_; clear h6; try clear N6
   refine vc_seq_k fun N7 h7 => ?_
   refine u_cond (fun hb8 => ?_) (fun hb8 => ?_)
   ·obtain ⟨c, hce⟩ := getE (l := l) (i := m) (by omega)
    have hc3 := hv.few hce
    have hps := hv.parS hce
    refine vc_skip ?_
    try simp only [k_rules]
    refine h7 _ ?_; clear h7; try clear N7
    refine vc_seq_k fun N9 h9 => ?_
    refine vc_block ?_
    refine vc_seq_k fun N10 h10 => ?_
    have hx := And.intro @hce (And.intro @eC.eq_1 hx0)
    refine u_reg ?_
    try refine lg_mk ?_
    refine u_pt ?_
    refine u_ld ?_
    refine u_al ?_
    refine u_st ?_
    refine lg_nil ?_
    have hx := hx0
    refine h10 _ ?_; clear h10; try clear N10
    refine vc_seq_k fun N11 h11 => ?_
    refine u_reg ?_
    try refine lg_mk ?_
    refine u_pt ?_
    refine u_ld ?_
    refine u_ln ?_
    refine u_mv ?_
    refine lg_nil ?_
    refine h11 _ ?_; clear h11; try clear N11
    refine vc_block ?_
    refine vc_loop_mk (σ := Nat) (fun s => (fun j => j ≤ c.par.length) s)
     (fun s => (fun j => [(3, .sl 0 0 l.length), (11, .d (.sl (rows eC l))), (12, .d (.int .i64 (l.length : Nat))), (13, .d (.int .i64 (m : Nat))), (18, .d (.sl (rows eI c.par))), (19, .d (.int .i64 (c.par.length : Nat))), (20, .d (.int .i64 (j : Nat)))]) s)
     (fun s => (fun j => [some (.vec 3 1 (rows eI (ivec l.length (cntJ l m (c.par.take j)))))]) s) (fun s => (fun j => c.par.length - j) s) hnp 0 ?_ [some 0] ?_ ?_
    ·dsimp only
     omega
    ·dsimp only
     refine ⟨by rfl, ?_, ?_⟩
     ·refine fin_ ?_
      (repeat' apply And.intro) <;> (first | (first | rfl | trivial | (rw [cntJ_nil]; done)) | (first | rfl | exact Or.inr rfl | exact Or.inl rfl | trivial | omega | assumption | (simp; done) | (simp; omega)))
     ·refine fin_ ?_
      (repeat' apply And.intro) <;> (first | (first | rfl | trivial | (rw [cntJ_nil]; done)) | (first | rfl | exact Or.inr rfl | exact Or.inl rfl | trivial | omega | assumption | (simp; done) | (simp; omega)))
    ·rintro j hinv N12 h12
     dsimp only at hinv ⊢
     have hj1 := hinv
     refine vc_seq_k fun N13 h13 => ?_
     refine u_reg ?_
     try refine lg_mk ?_
     refine u_bn ?_
     refine lg_nil ?_
     refine h13 _ ?_; clear h13; try clear N13
     refine vc_seq_k fun N14 h14 => ?_
     refine u_cond (fun hb15 => ?_) (fun hb15 => ?_)
     ·obtain ⟨p, hpe⟩ := getE (l := c.par) (i := j) (by omega)
      have hpr := hv.par hce hpe
      have hg := ivec_get (n := l.length) (f := cntJ l m (c.par.take j)) (k := p.toNat) (by omega)
      have hgb := cntJ_bnd l m (c.par.take j) p.toNat
      refine vc_skip ?_
      try simp only [k_rules]
      refine h14 _ ?_; clear h14; try clear N14
      refine vc_seq_k fun N16 h16 => ?_
      refine vc_block ?_
      refine vc_seq_k fun N17 h17 => ?_
      have hx := And.intro @hpe (And.intro @eI.eq_1 hx0)
      refine u_reg ?_
      try refine lg_mk ?_
      refine u_pt ?_
      refine u_ld ?_
      refine u_mv ?_
      refine lg_nil ?_
      have hx := hx0
      refine h17 _ ?_; clear h17; try clear N17
      have hx := And.intro @hg (And.intro @eI.eq_1 hx0)
      refine u_reg ?_
      try refine lg_mk ?_
      refine u_mv ?_
      refine u_mv ?_
      refine u_pt ?_
      refine u_ld ?_
      refine u_bn ?_
      refine u_pt ?_
      refine u_st ?_
      refine lg_nil ?_
      have hx := hx0
      refine h16 _ ?_; clear h16; try clear N16
      refine u_reg ?_
      try refine lg_mk ?_
      refine u_bn ?_
      refine u_mv ?_
      refine lg_nil ?_
      refine h12 _ ⟨j + 1, ?_, ?_, [some 0], ?_⟩
      ·dsimp only
       omega
      ·dsimp only
       omega
      ·dsimp only
       refine ⟨by rfl, ?_, ?_⟩
       ·refine fin_ ?_
        (repeat' apply And.intro) <;> (first | (first | rfl | trivial | (rw [← cntJ_set hps hpe hpr.1]; simp [rows, eI]; done)) | (first | rfl | exact Or.inr rfl | exact Or.inl rfl | trivial | omega | assumption | (simp; done) | (simp; omega)))
       ·refine fin_ ?_
        (repeat' apply And.intro) <;> (first | (first | rfl | trivial | (rw [← cntJ_set hps hpe hpr.1]; simp [rows, eI]; done)) | (first | rfl | exact Or.inr rfl | exact Or.inl rfl | trivial | omega | assumption | (simp; done) | (simp; omega)))
     ·have hj : j = c.par.length := by omega
      subst hj
      refine vc_exit ?_
      simp only [k_rules, Nat.reduceEqDiff, reduceIte, eq_self]
      refine h9 _ ?_; clear h9; try clear N9
      refine u_reg ?_
      try refine lg_mk ?_
      refine u_bn ?_
      refine u_mv ?_
      refine lg_nil ?_
      refine h5 _ ⟨m + 1, ?_, ?_, [some 0], ?_⟩
      ·dsimp only
       omega
      ·dsimp only
       omega
      ·dsimp only
       refine ⟨by rfl, ?_, ?_⟩
       ·refine fin_ ?_
        (repeat' apply And.intro) <;> (first | (first | rfl | trivial | (rw [List.take_length, cntJ_all hce]; done)) | (first | rfl | exact Or.inr rfl | exact Or.inl rfl | trivial | omega | assumption | (simp; done) | (simp; omega)))
       ·refine fin_ ?_
        (repeat' apply And.intro) <;> (first | (first | rfl | trivial | (rw [List.take_length, cntJ_all hce]; done)) | (first | rfl | exact Or.inr rfl | exact Or.inl rfl | trivial | omega | assumption | (simp; done) | (simp; omega)))
   ·have hm : m = l.length := by omega
    subst hm
    refine vc_exit ?_
    simp only [k_rules, Nat.reduceEqDiff, reduceIte, eq_self]
    refine h3 _ ?_; clear h3; try clear N3
    refine vc_seq_k fun N18 h18 => ?_
    refine u_reg ?_
    try refine lg_mk ?_
    refine u_mv ?_
    refine u_mv ?_
    refine lg_nil ?_
    refine h18 _ ?_; clear h18; try clear N18
    refine vc_ret ?_
    try simp only [k_rules]
    refine fin_ ?_
    refine ⟨[some 0], by rfl, ?_, ?_⟩
    ·refine fin_ ?_
     exact cl_
    ·refine fin_ ?_
     exact cl_
 ·cases hg

def E_children : Env Try.prog := E_of.add 51 (Spec.fresh childF) children_meets (by kernel_rfl)

theorem order_meets : Meets Try.prog 37 (Spec.pure orderG) := by
 refine meets_fun (E_children.at_ 79) Try.func37 rfl rfl rfl ?_
 intro args p r hg hp
 unfold orderG at hg
 split at hg
 ·rename_i xs
  simp only [Option.some.injEq, Prod.mk.injEq] at hg
  obtain ⟨rfl, rfl⟩ := hg
  obtain ⟨he, h0, hs⟩ := hp
  generalize dC xs = l at *
  subst he
  have hz := histF_zero h0
  have hv := valid_of h0
  have hl60 := hv.len
  have hT : (E_children).X = T := rfl
  have hx0 := And.intro @rect_eC (And.intro @ivec_len (And.intro @dC_rows @Try.results37))
  have hx := hx0
  refine ⟨by rfl, ?_⟩
  intro F W0 hnp hmk
  refine vc_seq_k fun N1 h1 => ?_
  refine vc_regG [51] hmix (by kernel_rfl) ?_
  try refine lg_mk ?_
  refine u_mv ?_
  refine u_al ?_
  refine lg_nil ?_
  refine h1 _ ?_; clear h1; try clear N1
  refine vc_seq_k fun N2 h2 => ?_
  refine vc_seq_k fun N3 h3 => ?_
  have hx := And.intro @hz hx0
  refine vc_regG [51] hmix (by kernel_rfl) ?_
  try refine lg_mk ?_
  refine u_mv ?_
  have hc := call_rule (E := (E_children.at_ 79)) (f := 40) (sp := Spec.pure histG) rfl
  have hs := @histG.eq_1
  refine u_cp (hq := by (first | (exact ⟨by omega, hs⟩) | (first | trivial | omega | assumption | (unfold inI64; omega) | ((repeat' apply And.intro) <;> first | rfl | trivial | omega | assumption | (unfold inI64; omega)) | (simp; done) | (simp; omega)))) ?_
  refine u_al ?_
  refine u_st ?_
  refine lg_nil ?_
  have hx := hx0
  refine h3 _ ?_; clear h3; try clear N3
  refine vc_seq_k fun N4 h4 => ?_
  refine vc_regG [51] hmix (by kernel_rfl) ?_
  try refine lg_mk ?_
  refine u_ld ?_
  refine u_bd ?_
  refine u_bn ?_
  refine lg_nil ?_
  refine h4 _ ?_; clear h4; try clear N4
  refine u_cond (fun hb5 => ?_) (fun hb5 => ?_)
  ·first | omega | exact absurd trivial hb5 | contradiction | (simp_all; done)
  ·refine vc_skip ?_
   try simp only [k_rules]
   refine h2 _ ?_; clear h2; try clear N2
   refine vc_seq_k fun N6 h6 => ?_
   refine vc_regG [51] hmix (by kernel_rfl) ?_
   try refine lg_mk ?_
   refine u_mv ?_
   have hc := call_rule (E := (E_children.at_ 79)) (f := 51) (sp := Spec.fresh childF) rfl
   have hs := @childF.eq_1
   refine u_hg (hq := by (first | (exact ⟨rfl, hv⟩) | (first | trivial | omega | assumption | (unfold inI64; omega) | ((repeat' apply And.intro) <;> first | rfl | trivial | omega | assumption | (unfold inI64; omega)) | (simp; done) | (simp; omega)))) ?_
   refine u_mv ?_
   refine lg_nil ?_
   refine h6 _ ?_; clear h6; try clear N6
   refine vc_seq_k fun N7 h7 => ?_
   refine vc_regG [51] hmix (by kernel_rfl) ?_
   try refine lg_mk ?_
   refine u_mv ?_
   refine lg_nil ?_
   refine h7 _ ?_; clear h7; try clear N7
   refine vc_seq_k fun N8 h8 => ?_
   refine vc_seq_k fun N9 h9 => ?_
   refine vc_regG [51] hmix (by kernel_rfl) ?_
   try refine lg_mk ?_
   refine u_mv ?_
   refine u_ln ?_
   refine u_mv ?_
   refine lg_nil ?_
   refine h9 _ ?_; clear h9; try clear N9
   refine vc_block ?_
   refine vc_loop_mk (σ := Nat) (fun s => (fun m => m ≤ l.length) s)
    (fun s => (fun m => [(0, .d (.sl (rows eC l))), (3, .ptr 0 0 0), (5, .sl 1 0 l.length), (6, .sl 2 0 m), (20, .d (.sl (rows eC l))), (21, .d (.int .i64 (l.length : Nat))), (22, .d (.int .i64 (m : Nat)))]) s)
    (fun s => (fun m => [some (.one 27 [.d (.int .i64 0), .d (.int .i64 0)]), some (.vec 3 1 (rows eI (ivec l.length (leftv l (orderN l m))))), some (.vec 3 1 (rows eI (orderN l m)))]) s) (fun s => (fun m => l.length - m) s) hnp 0 ?_ [some 0, some 2, none] ?_ ?_
   ·dsimp only
    omega
   ·dsimp only
    refine ⟨by rfl, ?_, ?_⟩
    ·refine fin_ ?_
     (repeat' apply And.intro) <;> (first | (first | rfl | trivial | (rw [← leftv_nil]; done)) | (first | rfl | exact Or.inr rfl | exact Or.inl rfl | trivial | omega | assumption | (simp; done) | (simp; omega)))
    ·refine fin_ ?_
     (repeat' apply And.intro) <;> (first | (first | rfl | trivial | (rw [← leftv_nil]; done)) | (first | rfl | exact Or.inr rfl | exact Or.inl rfl | trivial | omega | assumption | (simp; done) | (simp; omega)))
   ·rintro m hinv N10 h10
    dsimp only at hinv ⊢
    have hm1 := hinv
    refine vc_seq_k fun N11 h11 => ?_
    refine vc_regG [51] hmix (by kernel_rfl) ?_
    try refine lg_mk ?_
    refine u_bn ?_
    refine lg_nil ?_
    refine h11 _ ?_; clear h11; try clear N11
    refine vc_seq_k fun N12 h12 => ?_
    refine u_cond (fun hb13 => ?_) (fun hb13 => ?_)
    ·have hml : m < l.length := by omega
     have hord := ord_all hv m (by omega)
     have hlm := hord.len
     obtain ⟨b, hb1, hb2, hb3⟩ := hord.best hv hml
     obtain ⟨cb2, hcb2⟩ := getE (l := l) (i := b) hb1
     have hcb3 := hv.few hcb2
     have hps := hv.parS hcb2
     have hrd := ready_iff.1 hb3
     refine vc_skip ?_
     try simp only [k_rules]
     refine h12 _ ?_; clear h12; try clear N12
     refine vc_seq_k fun N14 h14 => ?_
     refine vc_block ?_
     refine vc_seq_k fun N15 h15 => ?_
     refine vc_regG [51] hmix (by kernel_rfl) ?_
     try refine lg_mk ?_
     refine u_mv ?_
     refine lg_nil ?_
     refine h15 _ ?_; clear h15; try clear N15
     refine vc_seq_k fun N16 h16 => ?_
     refine vc_seq_k fun N17 h17 => ?_
     refine vc_regG [51] hmix (by kernel_rfl) ?_
     try refine lg_mk ?_
     refine u_mv ?_
     refine u_ln ?_
     refine u_mv ?_
     refine lg_nil ?_
     refine h17 _ ?_; clear h17; try clear N17
     refine vc_block ?_
     refine vc_loop_mk (σ := Nat) (fun s => (fun i => i ≤ l.length) s)
      (fun s => (fun i => [(0, .d (.sl (rows eC l))), (3, .ptr 0 0 0), (5, .sl 1 0 l.length), (6, .sl 2 0 m), (7, .d (.int .i64 (bestI (ready l (orderN l m)) l i))), (20, .d (.sl (rows eC l))), (21, .d (.int .i64 (l.length : Nat))), (22, .d (.int .i64 (m : Nat))), (24, .sl 1 0 l.length), (25, .d (.int .i64 (l.length : Nat))), (26, .d (.int .i64 (i : Nat)))]) s)
      (fun s => (fun i => [some (.one 27 [.d (.int .i64 0), .d (.int .i64 0)]), some (.vec 3 1 (rows eI (ivec l.length (leftv l (orderN l m))))), some (.vec 3 1 (rows eI (orderN l m)))]) s) (fun s => (fun i => l.length - i) s) hnp 0 ?_ [some 0, some 1, some 2] ?_ ?_
     ·dsimp only
      omega
     ·dsimp only
      refine ⟨by rfl, ?_, ?_⟩
      ·refine fin_ ?_
       exact cl_
      ·refine fin_ ?_
       exact cl_
     ·rintro i hinv N18 h18
      dsimp only at hinv ⊢
      have hi1 := hinv
      refine vc_seq_k fun N19 h19 => ?_
      refine vc_regG [51] hmix (by kernel_rfl) ?_
      try refine lg_mk ?_
      refine u_bn ?_
      refine lg_nil ?_
      refine h19 _ ?_; clear h19; try clear N19
      refine vc_seq_k fun N20 h20 => ?_
      refine u_cond (fun hb21 => ?_) (fun hb21 => ?_)
      ·have hil : i < l.length := by omega
       obtain ⟨c, hce⟩ := getE (l := l) (i := i) hil
       have hbl := bestI_lt (ready l (orderN l m)) l i
       obtain ⟨cb, hcb⟩ := getE (l := l) (i := (bestI (ready l (orderN l m)) l i).toNat) (by omega)
       have hg := ivec_get (n := l.length) (f := leftv l (orderN l m)) (k := i) hil
       have hgb := leftv_bnd l (orderN l m) i
       refine vc_skip ?_
       try simp only [k_rules]
       refine h20 _ ?_; clear h20; try clear N20
       refine vc_seq_k fun N22 h22 => ?_
       refine vc_block ?_
       refine vc_seq_k fun N23 h23 => ?_
       have hx := And.intro @hg (And.intro @eI.eq_1 hx0)
       refine vc_regG [51] hmix (by kernel_rfl) ?_
       try refine lg_mk ?_
       refine u_mv ?_
       refine u_pt ?_
       refine u_ld ?_
       refine u_mv ?_
       refine u_mv ?_
       refine lg_nil ?_
       have hx := hx0
       refine h23 _ ?_; clear h23; try clear N23
       refine vc_seq_k fun N24 h24 => ?_
       have hx := And.intro @hce (And.intro @hcb (And.intro @eC.eq_1 hx0))
       refine vc_regG [51] hmix (by kernel_rfl) ?_
       try refine lg_mk ?_
       refine u_mv ?_
       refine u_bn ?_
       refine u_mv ?_
       refine g_mv ?_
       refine g_bn ?_
       refine g_mv ?_
       refine g_mv ?_
       refine g_mv ?_
       refine g_pt ?_
       refine g_pt ?_
       refine g_ld ?_
       refine g_mv ?_
       refine g_mv ?_
       refine g_pt ?_
       refine g_pt ?_
       refine g_ld ?_
       refine g_bn ?_
       refine g_pk ?_
       refine u_pk ?_
       refine lg_nil ?_
       have hx := hx0
       refine h24 _ ?_; clear h24; try clear N24
       refine u_cond (fun hb25 => ?_) (fun hb25 => ?_)
       ·have hbi := best_T hce hcb (by have := hb25; simpa using this)
        refine vc_regG [51] hmix (by kernel_rfl) ?_
        try refine lg_mk ?_
        refine u_mv ?_
        refine u_mv ?_
        refine lg_nil ?_
        refine h22 _ ?_; clear h22; try clear N22
        refine vc_regG [51] hmix (by kernel_rfl) ?_
        try refine lg_mk ?_
        refine u_bn ?_
        refine u_mv ?_
        refine lg_nil ?_
        refine h18 _ ⟨i + 1, ?_, ?_, [some 0, some 1, some 2], ?_⟩
        ·dsimp only
         omega
        ·dsimp only
         omega
        ·dsimp only
         refine ⟨by rfl, ?_, ?_⟩
         ·refine fin_ ?_
          (repeat' apply And.intro) <;> (first | (first | rfl | trivial | (rw [hbi]; done) | (left; rw [hbi]; done)) | (first | rfl | exact Or.inr rfl | exact Or.inl rfl | trivial | omega | assumption | (simp; done) | (simp; omega)))
         ·refine fin_ ?_
          (repeat' apply And.intro) <;> (first | (first | rfl | trivial | (rw [hbi]; done) | (left; rw [hbi]; done)) | (first | rfl | exact Or.inr rfl | exact Or.inl rfl | trivial | omega | assumption | (simp; done) | (simp; omega)))
       ·have hbi := best_F hce hcb (by have := hb25; simpa using this)
        refine vc_skip ?_
        try simp only [k_rules]
        refine h22 _ ?_; clear h22; try clear N22
        refine vc_regG [51] hmix (by kernel_rfl) ?_
        try refine lg_mk ?_
        refine u_bn ?_
        refine u_mv ?_
        refine lg_nil ?_
        refine h18 _ ⟨i + 1, ?_, ?_, [some 0, some 1, some 2], ?_⟩
        ·dsimp only
         omega
        ·dsimp only
         omega
        ·dsimp only
         refine ⟨by rfl, ?_, ?_⟩
         ·refine fin_ ?_
          (repeat' apply And.intro) <;> (first | (first | rfl | trivial | (rw [hbi]; done) | (left; rw [hbi]; done)) | (first | rfl | exact Or.inr rfl | exact Or.inl rfl | trivial | omega | assumption | (simp; done) | (simp; omega)))
         ·refine fin_ ?_
          (repeat' apply And.intro) <;> (first | (first | rfl | trivial | (rw [hbi]; done) | (left; rw [hbi]; done)) | (first | rfl | exact Or.inr rfl | exact Or.inl rfl | trivial | omega | assumption | (simp; done) | (simp; omega)))
      ·have hi : i = l.length := by omega
       subst hi
       rw [hb2]
       have hgl := ivec_get (n := l.length) (f := leftv l (orderN l m)) (k := b) hb1
       refine vc_exit ?_
       simp only [k_rules, Nat.reduceEqDiff, reduceIte, eq_self]
       refine h16 _ ?_; clear h16; try clear N16
       refine vc_seq_k fun N26 h26 => ?_
       have hx := And.intro @hgl (And.intro @eI.eq_1 hx0)
       refine vc_regG [51] hmix (by kernel_rfl) ?_
       try refine lg_mk ?_
       refine u_mv ?_
       refine u_mv ?_
       refine u_pt ?_
       refine u_st ?_
       refine lg_nil ?_
       have hx := hx0
       refine h26 _ ?_; clear h26; try clear N26
       refine vc_seq_k fun N27 h27 => ?_
       refine vc_seq_k fun N28 h28 => ?_
       have hx := And.intro @hcb2 (And.intro @eC.eq_1 hx0)
       refine vc_regG [51] hmix (by kernel_rfl) ?_
       try refine lg_mk ?_
       refine u_mv ?_
       refine u_mv ?_
       refine u_pt ?_
       refine u_pt ?_
       refine u_ld ?_
       refine u_ln ?_
       refine u_mv ?_
       refine lg_nil ?_
       have hx := hx0
       refine h28 _ ?_; clear h28; try clear N28
       refine vc_block ?_
       refine vc_loop_mk (σ := Nat) (fun s => (fun j => j ≤ cb2.par.length) s)
        (fun s => (fun j => [(0, .d (.sl (rows eC l))), (3, .ptr 0 0 0), (5, .sl 1 0 l.length), (6, .sl 2 0 m), (7, .d (.int .i64 (b : Nat))), (20, .d (.sl (rows eC l))), (21, .d (.int .i64 (l.length : Nat))), (22, .d (.int .i64 (m : Nat))), (59, .d (.sl (rows eI cb2.par))), (60, .d (.int .i64 (cb2.par.length : Nat))), (61, .d (.int .i64 (j : Nat)))]) s)
        (fun s => (fun j => [some (.one 27 [.d (.int .i64 0), .d (.int .i64 0)]), some (.vec 3 1 (rows eI (ivec l.length (leftJ l (orderN l m) b (cb2.par.take j))))), some (.vec 3 1 (rows eI (orderN l m)))]) s) (fun s => (fun j => cb2.par.length - j) s) hnp 0 ?_ [some 0, some 1, some 2] ?_ ?_
       ·dsimp only
        omega
       ·dsimp only
        refine ⟨by rfl, ?_, ?_⟩
        ·refine fin_ ?_
         (repeat' apply And.intro) <;> (first | (first | rfl | trivial | (rw [← left_start rfl]; simp [rows, eI]; done)) | (first | rfl | exact Or.inr rfl | exact Or.inl rfl | trivial | omega | assumption | (simp; done) | (simp; omega)))
        ·refine fin_ ?_
         (repeat' apply And.intro) <;> (first | (first | rfl | trivial | (rw [← left_start rfl]; simp [rows, eI]; done)) | (first | rfl | exact Or.inr rfl | exact Or.inl rfl | trivial | omega | assumption | (simp; done) | (simp; omega)))
       ·rintro j hinv N29 h29
        dsimp only at hinv ⊢
        have hj1 := hinv
        refine vc_seq_k fun N30 h30 => ?_
        refine vc_regG [51] hmix (by kernel_rfl) ?_
        try refine lg_mk ?_
        refine u_bn ?_
        refine lg_nil ?_
        refine h30 _ ?_; clear h30; try clear N30
        refine vc_seq_k fun N31 h31 => ?_
        refine u_cond (fun hb32 => ?_) (fun hb32 => ?_)
        ·obtain ⟨p, hpe⟩ := getE (l := cb2.par) (i := j) (by omega)
         have hpr := hv.par hcb2 hpe
         have hg := ivec_get (n := l.length) (f := leftJ l (orderN l m) b (cb2.par.take j)) (k := p.toNat) (by omega)
         have hgb := leftJ_bnd l (orderN l m) b (cb2.par.take j) p.toNat
         have hpo : p ∉ orderN l m := fun h => by
          have hp0 : ((p.toNat : Nat) : Int) = p := by omega
          exact hrd.1 (hord.up p.toNat (by rw [hp0]; exact h) b hb1 (by rw [hp0, getD_of hcb2]; exact mem_at hpe))
         refine vc_skip ?_
         try simp only [k_rules]
         refine h31 _ ?_; clear h31; try clear N31
         refine vc_seq_k fun N33 h33 => ?_
         refine vc_block ?_
         refine vc_seq_k fun N34 h34 => ?_
         have hx := And.intro @hpe (And.intro @eI.eq_1 hx0)
         refine vc_regG [51] hmix (by kernel_rfl) ?_
         try refine lg_mk ?_
         refine u_pt ?_
         refine u_ld ?_
         refine u_mv ?_
         refine lg_nil ?_
         have hx := hx0
         refine h34 _ ?_; clear h34; try clear N34
         have hx := And.intro @hg (And.intro @eI.eq_1 hx0)
         refine vc_regG [51] hmix (by kernel_rfl) ?_
         try refine lg_mk ?_
         refine u_mv ?_
         refine u_mv ?_
         refine u_pt ?_
         refine u_ld ?_
         refine u_bn ?_
         refine u_pt ?_
         refine u_st ?_
         refine lg_nil ?_
         have hx := hx0
         refine h33 _ ?_; clear h33; try clear N33
         refine vc_regG [51] hmix (by kernel_rfl) ?_
         try refine lg_mk ?_
         refine u_bn ?_
         refine u_mv ?_
         refine lg_nil ?_
         refine h29 _ ⟨j + 1, ?_, ?_, [some 0, some 1, some 2], ?_⟩
         ·dsimp only
          omega
         ·dsimp only
          omega
         ·dsimp only
          refine ⟨by rfl, ?_, ?_⟩
          ·refine fin_ ?_
           (repeat' apply And.intro) <;> (first | (first | rfl | trivial | (rw [← left_set hps hpe hpr.1 hpo (by omega)]; simp [rows, eI]; done)) | (first | rfl | exact Or.inr rfl | exact Or.inl rfl | trivial | omega | assumption | (simp; done) | (simp; omega)))
          ·refine fin_ ?_
           (repeat' apply And.intro) <;> (first | (first | rfl | trivial | (rw [← left_set hps hpe hpr.1 hpo (by omega)]; simp [rows, eI]; done)) | (first | rfl | exact Or.inr rfl | exact Or.inl rfl | trivial | omega | assumption | (simp; done) | (simp; omega)))
        ·have hj : j = cb2.par.length := by omega
         subst hj
         refine vc_exit ?_
         simp only [k_rules, Nat.reduceEqDiff, reduceIte, eq_self]
         refine h27 _ ?_; clear h27; try clear N27
         refine vc_regG [51] hmix (by kernel_rfl) ?_
         try refine lg_mk ?_
         refine u_mv ?_
         refine u_mv ?_
         refine u_bs ?_
         refine u_ap ?_
         refine u_mv ?_
         refine lg_nil ?_
         refine h14 _ ?_; clear h14; try clear N14
         refine vc_regG [51] hmix (by kernel_rfl) ?_
         try refine lg_mk ?_
         refine u_bn ?_
         refine u_mv ?_
         refine lg_nil ?_
         have hlm := hord.len
         have htk : List.take m (orderN l m) = orderN l m := List.take_of_length_le (by omega)
         have hon : orderN l (m + 1) = orderN l m ++ [(b : Int)] := by rw [orderN, hb2]
         have hla := left_all (n := l.length) hrd.1 hb1 hcb2
         refine h10 _ ⟨m + 1, ?_, ?_, [some 0, some 1, some 4], ?_⟩
         ·dsimp only
          omega
         ·dsimp only
          omega
         ·dsimp only
          refine ⟨by rfl, ?_, ?_⟩
          ·refine fin_ ?_
           (repeat' apply And.intro) <;> (first | (first | rfl | trivial | (rw [List.take_length, hla, hon]; done) | (rw [htk, hon]; simp [rows, eI]; done)) | (first | rfl | exact Or.inr rfl | exact Or.inl rfl | trivial | omega | assumption | (simp; done) | (simp; omega)))
          ·refine fin_ ?_
           (repeat' apply And.intro) <;> (first | (first | rfl | trivial | (rw [List.take_length, hla, hon]; done) | (rw [htk, hon]; simp [rows, eI]; done)) | (first | rfl | exact Or.inr rfl | exact Or.inl rfl | trivial | omega | assumption | (simp; done) | (simp; omega)))
    ·have hm : m = l.length := by omega
     subst hm
     have hlen := (ord_all hv l.length (Nat.le_refl _)).len
     refine vc_exit ?_
     simp only [k_rules, Nat.reduceEqDiff, reduceIte, eq_self]
     refine h8 _ ?_; clear h8; try clear N8
     refine vc_seq_k fun N35 h35 => ?_
     refine vc_regG [51] hmix (by kernel_rfl) ?_
     try refine lg_mk ?_
     refine u_mv ?_
     refine u_bd ?_
     refine u_mv ?_
     refine u_st ?_
     refine lg_nil ?_
     refine h35 _ ?_; clear h35; try clear N35
     refine vc_ret ?_
     try simp only [k_rules]
     refine fin2_ ?_
     (repeat' apply And.intro) <;> (first | (first | rfl | exact Or.inl rfl | trivial | exact Nat.le_refl _ | (simp [rows_len, hlen]; done) | (rw [List.take_of_length_le (by simp [rows_len, hlen])]; done) | (rw [List.drop_zero, rows_take, List.take_of_length_le (by omega)]; done)) | (first | rfl | exact Or.inr rfl | exact Or.inl rfl | trivial | omega | assumption | (simp; done) | (simp; omega)))
 ·cases hg

def E_order : Env Try.prog := E_children.add 37 (Spec.pure orderG) order_meets (by kernel_rfl)
end Go.Proofs.Ytaoifpmifpmhmaa
