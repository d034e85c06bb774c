/- Walks, printed by wip/gen/walk.py. -/
import Derived.Test.YtaoifpmifpmhmaaT35
import Derived.Test.YtaoifpmifpmhmaaV4
set_option linter.all false
set_option maxRecDepth 100000
set_option maxHeartbeats 4000000
namespace Go.Proofs.Ytaoifpmifpmhmaa
open Go Go.Vc Go.RowKit
theorem gap_meets : Meets Try.prog 50 (Spec.pure gapG) := by
 refine meets_fun (E_orderOf.at_ 26) Try.func50 rfl rfl rfl ?_
 intro args p r hg hp
 unfold gapG at hg
 split at hg
 ·rename_i xs bs
  simp only [Option.some.injEq, Prod.mk.injEq] at hg
  obtain ⟨rfl, rfl⟩ := hg
  obtain ⟨he, hf, hv, hlen⟩ := hp
  generalize dC xs = l at *
  generalize dB bs = bs at *
  subst he hf
  have hl60 := hv.len
  have hT : (E_orderOf).X = T := rfl
  have hx0 := And.intro @rect_eC (And.intro @dI_rows (And.intro @dB_rows @Try.results50))
  have hx := hx0
  refine ⟨by rfl, ?_⟩
  intro F W0 hnp hmk
  refine vc_seq_k fun N1 h1 => ?_
  refine u_reg ?_
  try refine lg_mk ?_
  refine u_bx ?_
  refine u_mv ?_
  refine lg_nil ?_
  refine h1 _ ?_; clear h1; try clear N1
  refine vc_seq_k fun N2 h2 => ?_
  refine vc_seq_k fun N3 h3 => ?_
  refine u_reg ?_
  try refine lg_mk ?_
  refine u_mv ?_
  refine u_ln ?_
  refine u_mv ?_
  refine lg_nil ?_
  refine h3 _ ?_; clear h3; try clear N3
  refine vc_block ?_
  refine vc_loop_mk (σ := Nat) (fun s => (fun i => i ≤ l.length ∧ ∀ j, j < i → badP l bs j = false) s)
   (fun s => (fun i => [(3, .ptr 0 0 0), (7, .d (.sl (rows eC l))), (8, .d (.int .i64 (l.length : Nat))), (9, .d (.int .i64 (i : Nat)))]) s)
   (fun s => (fun i => [some (.one 23 [.d (.sl (rows eB bs))])]) s) (fun s => (fun i => l.length - i) s) hnp 0 ?_ [some 0] ?_ ?_
  ·dsimp only
   simp
  ·dsimp only
   refine ⟨by rfl, ?_, ?_⟩
   ·refine fin_ ?_
    exact cl_
   ·refine fin_ ?_
    exact cl_
  ·rintro i hinv N4 h4
   dsimp only at hinv ⊢
   obtain ⟨i1, i2⟩ := hinv
   refine vc_seq_k fun N5 h5 => ?_
   refine u_reg ?_
   try refine lg_mk ?_
   refine u_bn ?_
   refine lg_nil ?_
   refine h5 _ ?_; clear h5; try clear N5
   refine vc_seq_k fun N6 h6 => ?_
   refine u_cond (fun hb7 => ?_) (fun hb7 => ?_)
   ·have hil : i < l.length := by omega
    obtain ⟨c, hce⟩ := getE (l := l) (i := i) hil
    obtain ⟨b, hbe⟩ := getE (l := bs) (i := i) (by omega)
    have hbp := bad_eq hce hbe
    have hc3 := hv.few hce
    have hcq : c.par.length ≤ 1000000000 ∧ InR bs.length c.par := ⟨by omega, fun x hx => by obtain ⟨k, hk⟩ := List.getElem?_of_mem hx; have := hv.par hce hk; omega⟩
    refine vc_skip ?_
    try simp only [k_rules]
    refine h6 _ ?_; clear h6; try clear N6
    refine vc_seq_k fun N8 h8 => ?_
    refine vc_block ?_
    refine vc_seq_k fun N9 h9 => ?_
    have hx := And.intro @hce (And.intro @eC.eq_1 hx0)
    refine u_reg ?_
    try refine lg_mk ?_
    refine u_mv ?_
    refine u_pt ?_
    refine u_ld ?_
    refine u_al ?_
    refine u_mv ?_
    refine u_st ?_
    refine lg_nil ?_
    have hx := hx0
    refine h9 _ ?_; clear h9; try clear N9
    refine vc_seq_k fun N10 h10 => ?_
    have hx := And.intro @hbe (And.intro @eB.eq_1 hx0)
    refine u_reg ?_
    try refine lg_mk ?_
    refine u_ld ?_
    refine u_mv ?_
    refine u_pt ?_
    refine u_ld ?_
    refine u_mv ?_
    refine g_pt ?_
    refine g_ld ?_
    refine g_mf ?_
    have hc := call_rule (E := (E_orderOf.at_ 26)) (f := 46) (sp := Spec.pure conFuncG) rfl
    have hs := And.intro @conFuncG.eq_1 @conFuncG.eq_2
    refine g_cp ?_
    refine u_pk ?_
    refine lg_nil ?_
    have hx := hx0
    refine h10 _ ?_; clear h10; try clear N10
    refine u_cond (fun hb11 => ?_) (fun hb11 => ?_)
    ·have hbt : badP l bs i = true := by rw [hbp]; have := hb11; simpa using this
     refine vc_seq_k fun N12 h12 => ?_
     refine u_reg ?_
     try refine lg_mk ?_
     refine u_mv ?_
     refine u_mv ?_
     refine lg_nil ?_
     refine h12 _ ?_; clear h12; try clear N12
     refine vc_ret ?_
     try simp only [k_rules]
     have hr : gapI l bs l.length = (i : Int) := gap_hit hil i2 hbt
     rw [hr]
     refine fin2_ ?_
     exact cl_
    ·have hbf : badP l bs i = false := by rw [hbp]; have := hb11; simpa using this
     refine vc_skip ?_
     try simp only [k_rules]
     refine h8 _ ?_; clear h8; try clear N8
     refine u_reg ?_
     try refine lg_mk ?_
     refine u_bn ?_
     refine u_mv ?_
     refine lg_nil ?_
     refine h4 _ ⟨i + 1, ?_, ?_, [some 0], ?_⟩
     ·dsimp only
      exact ⟨by omega, lt_snoc i2 hbf⟩
     ·dsimp only
      omega
     ·dsimp only
      refine ⟨by rfl, ?_, ?_⟩
      ·refine fin_ ?_
       exact cl_
      ·refine fin_ ?_
       exact cl_
   ·refine vc_exit ?_
    simp only [k_rules, Nat.reduceEqDiff, reduceIte, eq_self]
    refine h2 _ ?_; clear h2; try clear N2
    refine vc_seq_k fun N13 h13 => ?_
    refine u_reg ?_
    try refine lg_mk ?_
    refine u_mv ?_
    refine lg_nil ?_
    refine h13 _ ?_; clear h13; try clear N13
    refine vc_ret ?_
    try simp only [k_rules]
    have hr : gapI l bs l.length = -1 := gap_none (fun j hj => i2 j (by omega))
    rw [hr]
    refine fin2_ ?_
    exact cl_
 ·cases hg

def E_gap : Env Try.prog := E_orderOf.add 50 (Spec.pure gapG) gap_meets (by kernel_rfl)

theorem negCheck_meets : Meets Try.prog 35 (Spec.pure negG) := by
 refine meets_fun (E_gap.at_ 73) Try.func35 rfl rfl rfl ?_
 intro args p r hg hp
 unfold negG at hg
 split at hg
 ·rename_i xs ss rs ws
  simp only [Option.some.injEq, Prod.mk.injEq] at hg
  obtain ⟨rfl, rfl⟩ := hg
  obtain ⟨he, hf, hg, hw, hl, hs, hsl, hrl, hwl⟩ := hp
  generalize dC xs = l at *
  generalize dB ss = ss at *
  generalize dB rs = rs at *
  generalize dI ws = ws at *
  subst he hf hg hw
  have hT : (E_gap).X = T := rfl
  have hx0 := And.intro @rect_eC (And.intro @dC_rows (And.intro @dI_rows (And.intro @dB_rows @Try.results35)))
  have hx := hx0
  refine ⟨by rfl, ?_⟩
  intro F W0 hnp hmk
  refine vc_seq_k fun N1 h1 => ?_
  refine u_reg ?_
  try refine lg_mk ?_
  refine u_al ?_
  refine lg_nil ?_
  refine h1 _ ?_; clear h1; try clear N1
  refine vc_seq_k fun N2 h2 => ?_
  refine vc_seq_k fun N3 h3 => ?_
  by_cases h0 : (histF l).1 = 0
  ·have hz := histF_zero h0
   have hv := valid_of h0
   have hl60 := hv.len
   have hx := And.intro @hz hx0
   refine u_reg ?_
   try refine lg_mk ?_
   refine u_mv ?_
   have hc := call_rule (E := (E_gap.at_ 73)) (f := 40) (sp := Spec.pure histG) rfl
   have hs := @histG.eq_1
   refine u_cp ?_
   refine u_al ?_
   refine u_st ?_
   refine lg_nil ?_
   have hx := hx0
   refine h3 _ ?_; clear h3; try clear N3
   refine vc_seq_k fun N4 h4 => ?_
   refine u_reg ?_
   try refine lg_mk ?_
   refine u_ld ?_
   refine u_bd ?_
   refine u_bn ?_
   refine lg_nil ?_
   refine h4 _ ?_; clear h4; try clear N4
   refine u_cond (fun hb5 => ?_) (fun hb5 => ?_)
   ·first | omega | exact absurd trivial hb5 | contradiction | (simp_all; done)
   ·refine vc_skip ?_
    try simp only [k_rules]
    refine h2 _ ?_; clear h2; try clear N2
    refine vc_seq_k fun N6 h6 => ?_
    refine vc_seq_k fun N7 h7 => ?_
    refine u_reg ?_
    try refine lg_mk ?_
    refine u_mv ?_
    refine u_ln ?_
    refine u_mv ?_
    refine u_ln ?_
    refine u_bn ?_
    refine lg_nil ?_
    refine h7 _ ?_; clear h7; try clear N7
    refine u_cond (fun hb8 => ?_) (fun hb8 => ?_)
    ·refine vc_seq_k fun N9 h9 => ?_
     refine u_reg ?_
     try refine lg_mk ?_
     refine u_bd ?_
     refine u_st ?_
     refine lg_nil ?_
     refine h9 _ ?_; clear h9; try clear N9
     refine vc_ret ?_
     try simp only [k_rules]
     have hr : negF l ss rs ws = (9, -1) := negF_s h0 (by omega)
     rw [hr]
     refine fin2_ ?_
     exact cl_
    ·refine vc_skip ?_
     try simp only [k_rules]
     refine h6 _ ?_; clear h6; try clear N6
     refine vc_seq_k fun N10 h10 => ?_
     refine vc_seq_k fun N11 h11 => ?_
     refine u_reg ?_
     try refine lg_mk ?_
     refine u_mv ?_
     refine u_ln ?_
     refine u_mv ?_
     refine u_ln ?_
     refine u_bn ?_
     refine lg_nil ?_
     refine h11 _ ?_; clear h11; try clear N11
     refine u_cond (fun hb12 => ?_) (fun hb12 => ?_)
     ·refine vc_seq_k fun N13 h13 => ?_
      refine u_reg ?_
      try refine lg_mk ?_
      refine u_bd ?_
      refine u_st ?_
      refine lg_nil ?_
      refine h13 _ ?_; clear h13; try clear N13
      refine vc_ret ?_
      try simp only [k_rules]
      have hr : negF l ss rs ws = (9, -2) := negF_r h0 (by omega) (by omega)
      rw [hr]
      refine fin2_ ?_
      exact cl_
     ·have hgs := gap_bnd l ss l.length
      have hgr := gap_bnd l rs l.length
      refine vc_skip ?_
      try simp only [k_rules]
      refine h10 _ ?_; clear h10; try clear N10
      refine vc_seq_k fun N14 h14 => ?_
      refine vc_seq_k fun N15 h15 => ?_
      refine u_reg ?_
      try refine lg_mk ?_
      refine u_mv ?_
      refine u_mv ?_
      have hc := call_rule (E := (E_gap.at_ 73)) (f := 50) (sp := Spec.pure gapG) rfl
      have hs := @gapG.eq_1
      refine u_cp (hq := by (first | (exact ⟨hv, by omega⟩) | (first | trivial | omega | assumption | (unfold inI64; omega) | ((repeat' apply And.intro) <;> first | rfl | trivial | omega | assumption | (unfold inI64; omega)) | (simp; done) | (simp; omega)))) ?_
      refine u_mv ?_
      refine lg_nil ?_
      refine h15 _ ?_; clear h15; try clear N15
      refine vc_seq_k fun N16 h16 => ?_
      refine u_reg ?_
      try refine lg_mk ?_
      refine u_mv ?_
      refine u_bn ?_
      refine lg_nil ?_
      refine h16 _ ?_; clear h16; try clear N16
      refine u_cond (fun hb17 => ?_) (fun hb17 => ?_)
      ·refine vc_seq_k fun N18 h18 => ?_
       refine u_reg ?_
       try refine lg_mk ?_
       refine u_mv ?_
       refine u_bd ?_
       refine u_st ?_
       refine lg_nil ?_
       refine h18 _ ?_; clear h18; try clear N18
       refine vc_ret ?_
       try simp only [k_rules]
       have hr : negF l ss rs ws = (5, gapI l ss l.length) := negF_gs h0 (by omega) (by omega) (by omega)
       rw [hr]
       refine fin2_ ?_
       exact cl_
      ·refine vc_skip ?_
       try simp only [k_rules]
       refine h14 _ ?_; clear h14; try clear N14
       refine vc_seq_k fun N19 h19 => ?_
       refine vc_seq_k fun N20 h20 => ?_
       refine u_reg ?_
       try refine lg_mk ?_
       refine u_mv ?_
       refine u_mv ?_
       have hc := call_rule (E := (E_gap.at_ 73)) (f := 50) (sp := Spec.pure gapG) rfl
       have hs := @gapG.eq_1
       refine u_cp (hq := by (first | (exact ⟨hv, by omega⟩) | (first | trivial | omega | assumption | (unfold inI64; omega) | ((repeat' apply And.intro) <;> first | rfl | trivial | omega | assumption | (unfold inI64; omega)) | (simp; done) | (simp; omega)))) ?_
       refine u_mv ?_
       refine lg_nil ?_
       refine h20 _ ?_; clear h20; try clear N20
       refine vc_seq_k fun N21 h21 => ?_
       refine u_reg ?_
       try refine lg_mk ?_
       refine u_mv ?_
       refine u_bn ?_
       refine lg_nil ?_
       refine h21 _ ?_; clear h21; try clear N21
       refine u_cond (fun hb22 => ?_) (fun hb22 => ?_)
       ·refine vc_seq_k fun N23 h23 => ?_
        refine u_reg ?_
        try refine lg_mk ?_
        refine u_mv ?_
        refine u_bn ?_
        refine u_bd ?_
        refine u_st ?_
        refine lg_nil ?_
        refine h23 _ ?_; clear h23; try clear N23
        refine vc_ret ?_
        try simp only [k_rules]
        have hr : negF l ss rs ws = (5, -3 - gapI l rs l.length) := negF_gr h0 (by omega) (by omega) (by omega) (by omega)
        rw [hr]
        refine fin2_ ?_
        exact cl_
       ·refine vc_skip ?_
        try simp only [k_rules]
        refine h19 _ ?_; clear h19; try clear N19
        refine vc_seq_k fun N24 h24 => ?_
        refine vc_seq_k fun N25 h25 => ?_
        refine u_reg ?_
        try refine lg_mk ?_
        refine u_mv ?_
        refine u_ln ?_
        refine u_bn ?_
        refine lg_nil ?_
        refine h25 _ ?_; clear h25; try clear N25
        refine u_cond (fun hb26 => ?_) (fun hb26 => ?_)
        ·refine vc_seq_k fun N27 h27 => ?_
         refine u_reg ?_
         try refine lg_mk ?_
         refine u_bd ?_
         refine u_st ?_
         refine lg_nil ?_
         refine h27 _ ?_; clear h27; try clear N27
         refine vc_ret ?_
         try simp only [k_rules]
         have hr : negF l ss rs ws = (2, -1) := negF_many h0 (by omega) (by omega) (by omega) (by omega) (by omega)
         rw [hr]
         refine fin2_ ?_
         exact cl_
        ·refine vc_skip ?_
         try simp only [k_rules]
         refine h24 _ ?_; clear h24; try clear N24
         refine vc_seq_k fun N28 h28 => ?_
         refine vc_seq_k fun N29 h29 => ?_
         refine u_reg ?_
         try refine lg_mk ?_
         refine u_mv ?_
         refine u_ln ?_
         refine u_mv ?_
         refine lg_nil ?_
         refine h29 _ ?_; clear h29; try clear N29
         refine vc_block ?_
         refine vc_loop_mk (σ := Nat) (fun s => (fun i => i ≤ ws.length ∧ ∀ j, j < i → wantAt l.length ss (ws.getD j 0) = 0) s)
          (fun s => (fun i => [(0, .d (.sl (rows eC l))), (1, .d (.sl (rows eB ss))), (2, .d (.sl (rows eB rs))), (3, .d (.sl (rows eI ws))), (8, .ptr 0 0 0), (51, .d (.sl (rows eI ws))), (52, .d (.int .i64 (ws.length : Nat))), (53, .d (.int .i64 (i : Nat)))]) s)
          (fun s => (fun i => [some (.one 27 [.d (.int .i64 0), .d (.int .i64 0)])]) s) (fun s => (fun i => ws.length - i) s) hnp 0 ?_ [some 0] ?_ ?_
         ·dsimp only
          simp
         ·dsimp only
          refine ⟨by rfl, ?_, ?_⟩
          ·refine fin_ ?_
           exact cl_
          ·refine fin_ ?_
           exact cl_
         ·rintro i hinv N30 h30
          dsimp only at hinv ⊢
          obtain ⟨i1, i2⟩ := hinv
          refine vc_seq_k fun N31 h31 => ?_
          refine u_reg ?_
          try refine lg_mk ?_
          refine u_bn ?_
          refine lg_nil ?_
          refine h31 _ ?_; clear h31; try clear N31
          refine vc_seq_k fun N32 h32 => ?_
          refine u_cond (fun hb33 => ?_) (fun hb33 => ?_)
          ·obtain ⟨x, hxe⟩ := getE (l := ws) (i := i) (by omega)
           refine vc_skip ?_
           try simp only [k_rules]
           refine h32 _ ?_; clear h32; try clear N32
           refine vc_seq_k fun N34 h34 => ?_
           refine vc_block ?_
           refine vc_seq_k fun N35 h35 => ?_
           have hx := And.intro @hxe (And.intro @eI.eq_1 hx0)
           refine u_reg ?_
           try refine lg_mk ?_
           refine u_mv ?_
           refine u_pt ?_
           refine u_ld ?_
           refine u_mv ?_
           refine u_mv ?_
           refine lg_nil ?_
           have hx := hx0
           refine h35 _ ?_; clear h35; try clear N35
           refine vc_seq_k fun N36 h36 => ?_
           by_cases hxo : 0 ≤ x ∧ x < l.length
           ·obtain ⟨b, hbe⟩ := getE (l := ss) (i := x.toNat) (by omega)
            have hx0' : (decide (0 ≤ x) && decide (x < (l.length : Int))) = true := by simp; omega
            have hx := And.intro @hbe (And.intro @hx0' (And.intro @eB.eq_1 hx0))
            refine u_reg ?_
            try refine lg_mk ?_
            refine u_mv ?_
            refine u_mv ?_
            have hc := call_rule (E := (E_gap.at_ 73)) (f := 41) (sp := Spec.pure isG) rfl
            have hs := @isG.eq_1
            refine u_cp ?_
            refine u_un ?_
            refine u_mv ?_
            refine g_mv ?_
            refine g_mv ?_
            refine g_pt ?_
            refine g_ld ?_
            refine g_un ?_
            refine u_pk ?_
            refine lg_nil ?_
            have hx := hx0
            refine h36 _ ?_; clear h36; try clear N36
            refine u_cond (fun hb37 => ?_) (fun hb37 => ?_)
            ·refine vc_seq_k fun N38 h38 => ?_
             refine u_reg ?_
             try refine lg_mk ?_
             refine u_mv ?_
             refine u_bd ?_
             refine u_st ?_
             refine lg_nil ?_
             refine h38 _ ?_; clear h38; try clear N38
             refine vc_ret ?_
             try simp only [k_rules]
             have hbt : b = false := by have := hb37; simpa using this
             subst hbt
             have hr : negF l ss rs ws = (6, (i : Int)) := negF_at h0 (by omega) (by omega) (by omega) (by omega) (by omega) hxe i2 (want_6s hbe)
             rw [hr]
             refine fin2_ ?_
             exact cl_
            ·refine vc_skip ?_
             try simp only [k_rules]
             refine h34 _ ?_; clear h34; try clear N34
             refine u_reg ?_
             try refine lg_mk ?_
             refine u_bn ?_
             refine u_mv ?_
             refine lg_nil ?_
             have hbt : b = true := by have := hb37; simpa using this
             subst hbt
             refine h30 _ ⟨i + 1, ?_, ?_, [some 0], ?_⟩
             ·dsimp only
              exact ⟨by omega, lt_snoc i2 (by rw [getD_of hxe]; exact want_0 hxo.1 hxo.2 hbe)⟩
             ·dsimp only
              omega
             ·dsimp only
              refine ⟨by rfl, ?_, ?_⟩
              ·refine fin_ ?_
               exact cl_
              ·refine fin_ ?_
               exact cl_
           ·have hbe := True.intro
            have hx0' : (decide (0 ≤ x) && decide (x < (l.length : Int))) = false := by simp; omega
            have hx := And.intro @hbe (And.intro @hx0' (And.intro @eB.eq_1 hx0))
            refine u_reg ?_
            try refine lg_mk ?_
            refine u_mv ?_
            refine u_mv ?_
            have hc := call_rule (E := (E_gap.at_ 73)) (f := 41) (sp := Spec.pure isG) rfl
            have hs := @isG.eq_1
            refine u_cp ?_
            refine u_un ?_
            refine u_mv ?_
            refine g_mv ?_
            refine g_mv ?_
            refine g_pt ?_
            refine g_ld ?_
            refine g_un ?_
            refine u_pk ?_
            refine lg_nil ?_
            have hx := hx0
            refine h36 _ ?_; clear h36; try clear N36
            refine u_cond (fun hb39 => ?_) (fun hb39 => ?_)
            ·refine vc_seq_k fun N40 h40 => ?_
             refine u_reg ?_
             try refine lg_mk ?_
             refine u_mv ?_
             refine u_bd ?_
             refine u_st ?_
             refine lg_nil ?_
             refine h40 _ ?_; clear h40; try clear N40
             refine vc_ret ?_
             try simp only [k_rules]
             have hr : negF l ss rs ws = (6, (i : Int)) := negF_at h0 (by omega) (by omega) (by omega) (by omega) (by omega) hxe i2 (want_6 hxo)
             rw [hr]
             refine fin2_ ?_
             exact cl_
            ·first | omega | exact absurd trivial hb39 | contradiction | (simp_all; done)
          ·refine vc_exit ?_
           simp only [k_rules, Nat.reduceEqDiff, reduceIte, eq_self]
           refine h28 _ ?_; clear h28; try clear N28
           refine vc_seq_k fun N41 h41 => ?_
           refine u_reg ?_
           try refine lg_mk ?_
           refine u_bd ?_
           refine u_st ?_
           refine lg_nil ?_
           refine h41 _ ?_; clear h41; try clear N41
           refine vc_ret ?_
           try simp only [k_rules]
           have hr : negF l ss rs ws = (0, 0) := negF_ok h0 (by omega) (by omega) (by omega) (by omega) (by omega) (fun j hj => i2 j (by omega))
           rw [hr]
           refine fin2_ ?_
           exact cl_
  ·have hz : True := trivial
   have hx := And.intro @hz hx0
   refine u_reg ?_
   try refine lg_mk ?_
   refine u_mv ?_
   have hc := call_rule (E := (E_gap.at_ 73)) (f := 40) (sp := Spec.pure histG) rfl
   have hs := @histG.eq_1
   refine u_cp ?_
   refine u_al ?_
   refine u_st ?_
   refine lg_nil ?_
   have hx := hx0
   refine h3 _ ?_; clear h3; try clear N3
   refine vc_seq_k fun N42 h42 => ?_
   refine u_reg ?_
   try refine lg_mk ?_
   refine u_ld ?_
   refine u_bd ?_
   refine u_bn ?_
   refine lg_nil ?_
   refine h42 _ ?_; clear h42; try clear N42
   refine u_cond (fun hb43 => ?_) (fun hb43 => ?_)
   ·refine vc_seq_k fun N44 h44 => ?_
    refine u_reg ?_
    try refine lg_mk ?_
    refine u_ld ?_
    refine u_st ?_
    refine lg_nil ?_
    refine h44 _ ?_; clear h44; try clear N44
    refine vc_ret ?_
    try simp only [k_rules]
    have hr : negF l ss rs ws = histF l := negF_hist h0
    rw [hr]
    refine fin2_ ?_
    exact cl_
   ·first | omega | exact absurd trivial hb43 | contradiction | (simp_all; done)
 ·cases hg

def E_negCheck : Env Try.prog := E_gap.add 35 (Spec.pure negG) negCheck_meets (by kernel_rfl)
end Go.Proofs.Ytaoifpmifpmhmaa
