/- Walks, printed by wip/gen/walk.py. -/
import Derived.Test.YtaoifpmifpmhmaaT36
import Derived.Test.YtaoifpmifpmhmaaV4
set_option linter.all false
set_option maxRecDepth 100000
set_option maxHeartbeats 4000000
namespace Go.Proofs.Ytaoifpmifpmhmaa
open Go Go.Vc Go.RowKit
theorem negFault_meets : Meets Try.prog 15 (Spec.pure negG) := by
 refine meets_fun (E_negCheck.at_ 138) Try.func15 rfl rfl rfl ?_
 intro args p r hg hp
 unfold negG at hg
 split at hg
 ·rename_i xs ss rs ws
  simp only [Option.some.injEq, Prod.mk.injEq] at hg
  obtain ⟨rfl, rfl⟩ := hg
  obtain ⟨he, hf, hg, hw, hl, hs, hsl, hrl, hwl⟩ := hp
  generalize dC xs = l at *
  generalize dB ss = ss at *
  generalize dB rs = rs at *
  generalize dI ws = ws at *
  subst he hf hg hw
  have hT : (E_negCheck).X = T := rfl
  have hx0 := And.intro @rect_eC (And.intro @dC_rows (And.intro @dI_rows (And.intro @dB_rows @Try.results15)))
  have hx := hx0
  refine ⟨by rfl, ?_⟩
  intro F W0 hnp hmk
  refine vc_seq_k fun N1 h1 => ?_
  refine u_reg ?_
  try refine lg_mk ?_
  refine u_al ?_
  refine lg_nil ?_
  refine h1 _ ?_; clear h1; try clear N1
  refine vc_seq_k fun N2 h2 => ?_
  refine vc_seq_k fun N3 h3 => ?_
  by_cases h0 : (histF l).1 = 0
  ·have hz := histF_zero h0
   have hv := valid_of h0
   have hl60 := hv.len
   have hx := And.intro @hz hx0
   refine u_reg ?_
   try refine lg_mk ?_
   refine u_mv ?_
   have hc := call_rule (E := (E_negCheck.at_ 138)) (f := 24) (sp := Spec.pure histG) rfl
   have hs := @histG.eq_1
   refine u_cp ?_
   refine u_al ?_
   refine u_st ?_
   refine lg_nil ?_
   have hx := hx0
   refine h3 _ ?_; clear h3; try clear N3
   refine vc_seq_k fun N4 h4 => ?_
   refine u_reg ?_
   try refine lg_mk ?_
   refine u_pt ?_
   refine u_ld ?_
   refine u_bn ?_
   refine lg_nil ?_
   refine h4 _ ?_; clear h4; try clear N4
   refine u_cond (fun hb5 => ?_) (fun hb5 => ?_)
   ·first | omega | exact absurd trivial hb5 | contradiction | (simp_all; done)
   ·refine vc_skip ?_
    try simp only [k_rules]
    refine h2 _ ?_; clear h2; try clear N2
    refine vc_seq_k fun N6 h6 => ?_
    refine vc_seq_k fun N7 h7 => ?_
    refine u_reg ?_
    try refine lg_mk ?_
    refine u_mv ?_
    refine u_ln ?_
    refine u_mv ?_
    refine u_ln ?_
    refine u_bn ?_
    refine lg_nil ?_
    refine h7 _ ?_; clear h7; try clear N7
    refine u_cond (fun hb8 => ?_) (fun hb8 => ?_)
    ·refine vc_seq_k fun N9 h9 => ?_
     refine u_reg ?_
     try refine lg_mk ?_
     have hc := call_rule (E := (E_negCheck.at_ 138)) (f := 25) (sp := Spec.pure faultG) rfl
     have hs := @faultG.eq_1
     refine u_cp ?_
     refine u_st ?_
     refine lg_nil ?_
     refine h9 _ ?_; clear h9; try clear N9
     refine vc_ret ?_
     try simp only [k_rules]
     have hr : negF l ss rs ws = (9, -1) := negF_s h0 (by omega)
     rw [hr]
     refine fin2_ ?_
     exact cl_
    ·refine vc_skip ?_
     try simp only [k_rules]
     refine h6 _ ?_; clear h6; try clear N6
     refine vc_seq_k fun N10 h10 => ?_
     refine vc_seq_k fun N11 h11 => ?_
     refine u_reg ?_
     try refine lg_mk ?_
     refine u_mv ?_
     refine u_ln ?_
     refine u_mv ?_
     refine u_ln ?_
     refine u_bn ?_
     refine lg_nil ?_
     refine h11 _ ?_; clear h11; try clear N11
     refine u_cond (fun hb12 => ?_) (fun hb12 => ?_)
     ·refine vc_seq_k fun N13 h13 => ?_
      refine u_reg ?_
      try refine lg_mk ?_
      have hc := call_rule (E := (E_negCheck.at_ 138)) (f := 25) (sp := Spec.pure faultG) rfl
      have hs := @faultG.eq_1
      refine u_cp ?_
      refine u_st ?_
      refine lg_nil ?_
      refine h13 _ ?_; clear h13; try clear N13
      refine vc_ret ?_
      try simp only [k_rules]
      have hr : negF l ss rs ws = (9, -2) := negF_r h0 (by omega) (by omega)
      rw [hr]
      refine fin2_ ?_
      exact cl_
     ·refine vc_skip ?_
      try simp only [k_rules]
      refine h10 _ ?_; clear h10; try clear N10
      refine vc_seq_k fun N14 h14 => ?_
      refine vc_seq_k fun N15 h15 => ?_
      refine u_reg ?_
      try refine lg_mk ?_
      refine u_mv ?_
      refine lg_nil ?_
      refine h15 _ ?_; clear h15; try clear N15
      refine vc_block ?_
      refine vc_loop_mk (σ := Nat) (fun s => (fun i => i ≤ l.length ∧ ∀ j, j < i → badP l ss j = false) s)
       (fun s => (fun i => [(0, .d (.sl (rows eC l))), (1, .d (.sl (rows eB ss))), (2, .d (.sl (rows eB rs))), (3, .d (.sl (rows eI ws))), (8, .ptr 0 0 0), (10, .d (.int .i64 (i : Nat)))]) s)
       (fun s => (fun i => [some (.one 27 [.d (.int .i64 0), .d (.int .i64 0)])]) s) (fun s => (fun i => l.length - i) s) hnp 0 ?_ [some 0] ?_ ?_
      ·dsimp only
       simp
      ·dsimp only
       refine ⟨by rfl, ?_, ?_⟩
       ·refine fin_ ?_
        exact cl_
       ·refine fin_ ?_
        exact cl_
      ·rintro i hinv N16 h16
       dsimp only at hinv ⊢
       obtain ⟨i1, i2⟩ := hinv
       refine vc_seq_k fun N17 h17 => ?_
       refine vc_seq_k fun N18 h18 => ?_
       refine u_reg ?_
       try refine lg_mk ?_
       refine u_mv ?_
       refine u_mv ?_
       refine u_ln ?_
       refine u_bn ?_
       refine lg_nil ?_
       refine h18 _ ?_; clear h18; try clear N18
       refine u_cond (fun hb19 => ?_) (fun hb19 => ?_)
       ·have hil : i < l.length := by omega
        obtain ⟨c, hce⟩ := getE (l := l) (i := i) hil
        obtain ⟨b, hbe⟩ := getE (l := ss) (i := i) (by omega)
        have hbp := bad_eq hce hbe
        have hc3 := hv.few hce
        refine vc_skip ?_
        try simp only [k_rules]
        refine h17 _ ?_; clear h17; try clear N17
        refine vc_seq_k fun N20 h20 => ?_
        refine vc_block ?_
        refine vc_seq_k fun N21 h21 => ?_
        refine u_reg ?_
        try refine lg_mk ?_
        refine u_mv ?_
        refine lg_nil ?_
        refine h21 _ ?_; clear h21; try clear N21
        refine vc_block ?_
        refine vc_loop_mk (σ := Nat) (fun s => (fun k => k ≤ c.par.length ∧ (b = true → (c.par.take k).any (lackB ss) = false)) s)
         (fun s => (fun k => [(0, .d (.sl (rows eC l))), (1, .d (.sl (rows eB ss))), (2, .d (.sl (rows eB rs))), (3, .d (.sl (rows eI ws))), (8, .ptr 0 0 0), (10, .d (.int .i64 (i : Nat))), (11, .d (.int .i64 (k : Nat)))]) s)
         (fun s => (fun k => [some (.one 27 [.d (.int .i64 0), .d (.int .i64 0)])]) s) (fun s => (fun k => c.par.length - k) s) hnp 0 ?_ [some 0] ?_ ?_
        ·dsimp only
         simp
        ·dsimp only
         refine ⟨by rfl, ?_, ?_⟩
         ·refine fin_ ?_
          exact cl_
         ·refine fin_ ?_
          exact cl_
        ·rintro k hinv N22 h22
         dsimp only at hinv ⊢
         obtain ⟨k1, k2⟩ := hinv
         refine vc_seq_k fun N23 h23 => ?_
         refine vc_seq_k fun N24 h24 => ?_
         have hx := And.intro @hce (And.intro @hbe (And.intro @eC.eq_1 (And.intro @eB.eq_1 hx0)))
         refine u_reg ?_
         try refine lg_mk ?_
         refine u_mv ?_
         refine u_mv ?_
         refine u_mv ?_
         refine u_pt ?_
         refine u_pt ?_
         refine u_ld ?_
         refine u_ln ?_
         refine u_bn ?_
         refine u_mv ?_
         refine g_mv ?_
         refine g_mv ?_
         refine g_pt ?_
         refine g_ld ?_
         refine u_pk ?_
         refine lg_nil ?_
         have hx := hx0
         refine h24 _ ?_; clear h24; try clear N24
         refine u_cond (fun hb25 => ?_) (fun hb25 => ?_)
         ·have hkb : k < c.par.length ∧ b = true := by have := hb25; simpa using this
          obtain ⟨hk2, rfl⟩ := hkb
          obtain ⟨p, hpe⟩ := getE (l := c.par) (i := k) hk2
          have hpr := hv.par hce hpe
          obtain ⟨q, hqe⟩ := getE (l := ss) (i := p.toNat) (by omega)
          refine vc_skip ?_
          try simp only [k_rules]
          refine h23 _ ?_; clear h23; try clear N23
          refine vc_seq_k fun N26 h26 => ?_
          refine vc_block ?_
          refine vc_seq_k fun N27 h27 => ?_
          have hx := And.intro @hce (And.intro @hpe (And.intro @hqe (And.intro @eC.eq_1 (And.intro @eI.eq_1 (And.intro @eB.eq_1 hx0)))))
          refine u_reg ?_
          try refine lg_mk ?_
          refine u_mv ?_
          refine u_mv ?_
          refine u_mv ?_
          refine u_pt ?_
          refine u_pt ?_
          refine u_ld ?_
          refine u_mv ?_
          refine u_pt ?_
          refine u_ld ?_
          refine u_pt ?_
          refine u_ld ?_
          refine u_un ?_
          refine lg_nil ?_
          have hx := hx0
          refine h27 _ ?_; clear h27; try clear N27
          refine u_cond (fun hb28 => ?_) (fun hb28 => ?_)
          ·have hq : q = false := by have := hb28; simpa using this
           subst hq
           have hbt : badP l ss i = true := by rw [hbp, any_of_at hpe hqe]; rfl
           have hgh := gap_hit hil i2 hbt
           refine vc_seq_k fun N29 h29 => ?_
           refine u_reg ?_
           try refine lg_mk ?_
           refine u_mv ?_
           have hc := call_rule (E := (E_negCheck.at_ 138)) (f := 25) (sp := Spec.pure faultG) rfl
           have hs := @faultG.eq_1
           refine u_cp ?_
           refine u_st ?_
           refine lg_nil ?_
           refine h29 _ ?_; clear h29; try clear N29
           refine vc_ret ?_
           try simp only [k_rules]
           have hr : negF l ss rs ws = (5, (i : Int)) := by rw [negF_gs h0 (by omega) (by omega) (by rw [hgh]; omega), hgh]
           rw [hr]
           refine fin2_ ?_
           exact cl_
          ·have hq : q = true := by have := hb28; simpa using this
           subst hq
           refine vc_skip ?_
           try simp only [k_rules]
           refine h26 _ ?_; clear h26; try clear N26
           refine u_reg ?_
           try refine lg_mk ?_
           refine u_mv ?_
           refine u_bn ?_
           refine u_mv ?_
           refine lg_nil ?_
           refine h22 _ ⟨k + 1, ?_, ?_, [some 0], ?_⟩
           ·dsimp only
            exact ⟨by omega, fun _ => by rw [par_any_snoc hpe hqe, k2 rfl]; rfl⟩
           ·dsimp only
            omega
           ·dsimp only
            refine ⟨by rfl, ?_, ?_⟩
            ·refine fin_ ?_
             exact cl_
            ·refine fin_ ?_
             exact cl_
         ·have hbf : badP l ss i = false := by
           rw [hbp]
           cases b
           ·rfl
           ·have h3 := k2 rfl
            have h4 : k = c.par.length := by have := hb25; simp at this; omega
            rw [h4, List.take_length] at h3; rw [h3]; rfl
          refine vc_exit ?_
          simp only [k_rules, Nat.reduceEqDiff, reduceIte, eq_self]
          refine h20 _ ?_; clear h20; try clear N20
          refine u_reg ?_
          try refine lg_mk ?_
          refine u_mv ?_
          refine u_bn ?_
          refine u_mv ?_
          refine lg_nil ?_
          refine h16 _ ⟨i + 1, ?_, ?_, [some 0], ?_⟩
          ·dsimp only
           exact ⟨by omega, lt_snoc i2 hbf⟩
          ·dsimp only
           omega
          ·dsimp only
           refine ⟨by rfl, ?_, ?_⟩
           ·refine fin_ ?_
            exact cl_
           ·refine fin_ ?_
            exact cl_
       ·have hgs := gap_none (l := l) (bs := ss) (m := l.length) (fun j hj => i2 j (by omega))
        refine vc_exit ?_
        simp only [k_rules, Nat.reduceEqDiff, reduceIte, eq_self]
        refine h14 _ ?_; clear h14; try clear N14
        refine vc_seq_k fun N30 h30 => ?_
        refine vc_seq_k fun N31 h31 => ?_
        refine u_reg ?_
        try refine lg_mk ?_
        refine u_mv ?_
        refine lg_nil ?_
        refine h31 _ ?_; clear h31; try clear N31
        refine vc_block ?_
        refine vc_loop_mk (σ := Nat) (fun s => (fun i => i ≤ l.length ∧ ∀ j, j < i → badP l rs j = false) s)
         (fun s => (fun i => [(0, .d (.sl (rows eC l))), (1, .d (.sl (rows eB ss))), (2, .d (.sl (rows eB rs))), (3, .d (.sl (rows eI ws))), (8, .ptr 0 0 0), (12, .d (.int .i64 (i : Nat)))]) s)
         (fun s => (fun i => [some (.one 27 [.d (.int .i64 0), .d (.int .i64 0)])]) s) (fun s => (fun i => l.length - i) s) hnp 0 ?_ [some 0] ?_ ?_
        ·dsimp only
         simp
        ·dsimp only
         refine ⟨by rfl, ?_, ?_⟩
         ·refine fin_ ?_
          exact cl_
         ·refine fin_ ?_
          exact cl_
        ·rintro i hinv N32 h32
         dsimp only at hinv ⊢
         obtain ⟨i1, i2⟩ := hinv
         refine vc_seq_k fun N33 h33 => ?_
         refine vc_seq_k fun N34 h34 => ?_
         refine u_reg ?_
         try refine lg_mk ?_
         refine u_mv ?_
         refine u_mv ?_
         refine u_ln ?_
         refine u_bn ?_
         refine lg_nil ?_
         refine h34 _ ?_; clear h34; try clear N34
         refine u_cond (fun hb35 => ?_) (fun hb35 => ?_)
         ·have hil : i < l.length := by omega
          obtain ⟨c, hce⟩ := getE (l := l) (i := i) hil
          obtain ⟨b, hbe⟩ := getE (l := rs) (i := i) (by omega)
          have hbp := bad_eq hce hbe
          have hc3 := hv.few hce
          refine vc_skip ?_
          try simp only [k_rules]
          refine h33 _ ?_; clear h33; try clear N33
          refine vc_seq_k fun N36 h36 => ?_
          refine vc_block ?_
          refine vc_seq_k fun N37 h37 => ?_
          refine u_reg ?_
          try refine lg_mk ?_
          refine u_mv ?_
          refine lg_nil ?_
          refine h37 _ ?_; clear h37; try clear N37
          refine vc_block ?_
          refine vc_loop_mk (σ := Nat) (fun s => (fun k => k ≤ c.par.length ∧ (b = true → (c.par.take k).any (lackB rs) = false)) s)
           (fun s => (fun k => [(0, .d (.sl (rows eC l))), (1, .d (.sl (rows eB ss))), (2, .d (.sl (rows eB rs))), (3, .d (.sl (rows eI ws))), (8, .ptr 0 0 0), (12, .d (.int .i64 (i : Nat))), (13, .d (.int .i64 (k : Nat)))]) s)
           (fun s => (fun k => [some (.one 27 [.d (.int .i64 0), .d (.int .i64 0)])]) s) (fun s => (fun k => c.par.length - k) s) hnp 0 ?_ [some 0] ?_ ?_
          ·dsimp only
           simp
          ·dsimp only
           refine ⟨by rfl, ?_, ?_⟩
           ·refine fin_ ?_
            exact cl_
           ·refine fin_ ?_
            exact cl_
          ·rintro k hinv N38 h38
           dsimp only at hinv ⊢
           obtain ⟨k1, k2⟩ := hinv
           refine vc_seq_k fun N39 h39 => ?_
           refine vc_seq_k fun N40 h40 => ?_
           have hx := And.intro @hce (And.intro @hbe (And.intro @eC.eq_1 (And.intro @eB.eq_1 hx0)))
           refine u_reg ?_
           try refine lg_mk ?_
           refine u_mv ?_
           refine u_mv ?_
           refine u_mv ?_
           refine u_pt ?_
           refine u_pt ?_
           refine u_ld ?_
           refine u_ln ?_
           refine u_bn ?_
           refine u_mv ?_
           refine g_mv ?_
           refine g_mv ?_
           refine g_pt ?_
           refine g_ld ?_
           refine u_pk ?_
           refine lg_nil ?_
           have hx := hx0
           refine h40 _ ?_; clear h40; try clear N40
           refine u_cond (fun hb41 => ?_) (fun hb41 => ?_)
           ·have hkb : k < c.par.length ∧ b = true := by have := hb41; simpa using this
            obtain ⟨hk2, rfl⟩ := hkb
            obtain ⟨p, hpe⟩ := getE (l := c.par) (i := k) hk2
            have hpr := hv.par hce hpe
            obtain ⟨q, hqe⟩ := getE (l := rs) (i := p.toNat) (by omega)
            refine vc_skip ?_
            try simp only [k_rules]
            refine h39 _ ?_; clear h39; try clear N39
            refine vc_seq_k fun N42 h42 => ?_
            refine vc_block ?_
            refine vc_seq_k fun N43 h43 => ?_
            have hx := And.intro @hce (And.intro @hpe (And.intro @hqe (And.intro @eC.eq_1 (And.intro @eI.eq_1 (And.intro @eB.eq_1 hx0)))))
            refine u_reg ?_
            try refine lg_mk ?_
            refine u_mv ?_
            refine u_mv ?_
            refine u_mv ?_
            refine u_pt ?_
            refine u_pt ?_
            refine u_ld ?_
            refine u_mv ?_
            refine u_pt ?_
            refine u_ld ?_
            refine u_pt ?_
            refine u_ld ?_
            refine u_un ?_
            refine lg_nil ?_
            have hx := hx0
            refine h43 _ ?_; clear h43; try clear N43
            refine u_cond (fun hb44 => ?_) (fun hb44 => ?_)
            ·have hq : q = false := by have := hb44; simpa using this
             subst hq
             have hbt : badP l rs i = true := by rw [hbp, any_of_at hpe hqe]; rfl
             have hgh := gap_hit hil i2 hbt
             refine vc_seq_k fun N45 h45 => ?_
             refine u_reg ?_
             try refine lg_mk ?_
             refine u_mv ?_
             refine u_bn ?_
             have hc := call_rule (E := (E_negCheck.at_ 138)) (f := 25) (sp := Spec.pure faultG) rfl
             have hs := @faultG.eq_1
             refine u_cp ?_
             refine u_st ?_
             refine lg_nil ?_
             refine h45 _ ?_; clear h45; try clear N45
             refine vc_ret ?_
             try simp only [k_rules]
             have hr : negF l ss rs ws = (5, -3 - (i : Int)) := by rw [negF_gr h0 (by omega) (by omega) (by omega) (by rw [hgh]; omega), hgh]
             rw [hr]
             refine fin2_ ?_
             exact cl_
            ·have hq : q = true := by have := hb44; simpa using this
             subst hq
             refine vc_skip ?_
             try simp only [k_rules]
             refine h42 _ ?_; clear h42; try clear N42
             refine u_reg ?_
             try refine lg_mk ?_
             refine u_mv ?_
             refine u_bn ?_
             refine u_mv ?_
             refine lg_nil ?_
             refine h38 _ ⟨k + 1, ?_, ?_, [some 0], ?_⟩
             ·dsimp only
              exact ⟨by omega, fun _ => by rw [par_any_snoc hpe hqe, k2 rfl]; rfl⟩
             ·dsimp only
              omega
             ·dsimp only
              refine ⟨by rfl, ?_, ?_⟩
              ·refine fin_ ?_
               exact cl_
              ·refine fin_ ?_
               exact cl_
           ·have hbf : badP l rs i = false := by
             rw [hbp]
             cases b
             ·rfl
             ·have h3 := k2 rfl
              have h4 : k = c.par.length := by have := hb41; simp at this; omega
              rw [h4, List.take_length] at h3; rw [h3]; rfl
            refine vc_exit ?_
            simp only [k_rules, Nat.reduceEqDiff, reduceIte, eq_self]
            refine h36 _ ?_; clear h36; try clear N36
            refine u_reg ?_
            try refine lg_mk ?_
            refine u_mv ?_
            refine u_bn ?_
            refine u_mv ?_
            refine lg_nil ?_
            refine h32 _ ⟨i + 1, ?_, ?_, [some 0], ?_⟩
            ·dsimp only
             exact ⟨by omega, lt_snoc i2 hbf⟩
            ·dsimp only
             omega
            ·dsimp only
             refine ⟨by rfl, ?_, ?_⟩
             ·refine fin_ ?_
              exact cl_
             ·refine fin_ ?_
              exact cl_
         ·have hgr := gap_none (l := l) (bs := rs) (m := l.length) (fun j hj => i2 j (by omega))
          refine vc_exit ?_
          simp only [k_rules, Nat.reduceEqDiff, reduceIte, eq_self]
          refine h30 _ ?_; clear h30; try clear N30
          refine vc_seq_k fun N46 h46 => ?_
          refine vc_seq_k fun N47 h47 => ?_
          refine u_reg ?_
          try refine lg_mk ?_
          refine u_mv ?_
          refine u_ln ?_
          refine u_bn ?_
          refine lg_nil ?_
          refine h47 _ ?_; clear h47; try clear N47
          refine u_cond (fun hb48 => ?_) (fun hb48 => ?_)
          ·refine vc_seq_k fun N49 h49 => ?_
           refine u_reg ?_
           try refine lg_mk ?_
           have hc := call_rule (E := (E_negCheck.at_ 138)) (f := 25) (sp := Spec.pure faultG) rfl
           have hs := @faultG.eq_1
           refine u_cp ?_
           refine u_st ?_
           refine lg_nil ?_
           refine h49 _ ?_; clear h49; try clear N49
           refine vc_ret ?_
           try simp only [k_rules]
           have hr : negF l ss rs ws = (2, -1) := negF_many h0 (by omega) (by omega) (by omega) (by omega) (by omega)
           rw [hr]
           refine fin2_ ?_
           exact cl_
          ·refine vc_skip ?_
           try simp only [k_rules]
           refine h46 _ ?_; clear h46; try clear N46
           refine vc_seq_k fun N50 h50 => ?_
           refine vc_seq_k fun N51 h51 => ?_
           refine u_reg ?_
           try refine lg_mk ?_
           refine u_mv ?_
           refine lg_nil ?_
           refine h51 _ ?_; clear h51; try clear N51
           refine vc_block ?_
           refine vc_loop_mk (σ := Nat) (fun s => (fun i => i ≤ ws.length ∧ ∀ j, j < i → wantAt l.length ss (ws.getD j 0) = 0) s)
            (fun s => (fun i => [(0, .d (.sl (rows eC l))), (1, .d (.sl (rows eB ss))), (2, .d (.sl (rows eB rs))), (3, .d (.sl (rows eI ws))), (8, .ptr 0 0 0), (14, .d (.int .i64 (i : Nat)))]) s)
            (fun s => (fun i => [some (.one 27 [.d (.int .i64 0), .d (.int .i64 0)])]) s) (fun s => (fun i => ws.length - i) s) hnp 0 ?_ [some 0] ?_ ?_
           ·dsimp only
            simp
           ·dsimp only
            refine ⟨by rfl, ?_, ?_⟩
            ·refine fin_ ?_
             exact cl_
            ·refine fin_ ?_
             exact cl_
           ·rintro i hinv N52 h52
            dsimp only at hinv ⊢
            obtain ⟨i1, i2⟩ := hinv
            refine vc_seq_k fun N53 h53 => ?_
            refine vc_seq_k fun N54 h54 => ?_
            refine u_reg ?_
            try refine lg_mk ?_
            refine u_mv ?_
            refine u_mv ?_
            refine u_ln ?_
            refine u_bn ?_
            refine lg_nil ?_
            refine h54 _ ?_; clear h54; try clear N54
            refine u_cond (fun hb55 => ?_) (fun hb55 => ?_)
            ·obtain ⟨x, hxe⟩ := getE (l := ws) (i := i) (by omega)
             refine vc_skip ?_
             try simp only [k_rules]
             refine h53 _ ?_; clear h53; try clear N53
             refine vc_seq_k fun N56 h56 => ?_
             refine vc_block ?_
             refine vc_seq_k fun N57 h57 => ?_
             by_cases hxo : 0 ≤ x ∧ x < l.length
             ·obtain ⟨b, hbe⟩ := getE (l := ss) (i := x.toNat) (by omega)
              have hx0' : (decide (0 ≤ x) && decide (x ≤ (l.length : Int) - 1)) = true := by simp; omega
              have hx := And.intro @hxe (And.intro @hbe (And.intro @hx0' (And.intro @eB.eq_1 (And.intro @eI.eq_1 hx0))))
              refine u_reg ?_
              try refine lg_mk ?_
              refine u_mv ?_
              refine u_mv ?_
              refine u_pt ?_
              refine u_ld ?_
              refine u_mv ?_
              refine u_ln ?_
              refine u_bn ?_
              have hc := call_rule (E := (E_negCheck.at_ 138)) (f := 19) (sp := Spec.pure inG) rfl
              have hs := @inG.eq_1
              refine u_cp ?_
              refine u_un ?_
              refine u_mv ?_
              refine g_mv ?_
              refine g_mv ?_
              refine g_mv ?_
              refine g_pt ?_
              refine g_ld ?_
              refine g_pt ?_
              refine g_ld ?_
              refine g_un ?_
              refine u_pk ?_
              refine lg_nil ?_
              have hx := hx0
              refine h57 _ ?_; clear h57; try clear N57
              refine u_cond (fun hb58 => ?_) (fun hb58 => ?_)
              ·refine vc_seq_k fun N59 h59 => ?_
               refine u_reg ?_
               try refine lg_mk ?_
               refine u_mv ?_
               have hc := call_rule (E := (E_negCheck.at_ 138)) (f := 25) (sp := Spec.pure faultG) rfl
               have hs := @faultG.eq_1
               refine u_cp ?_
               refine u_st ?_
               refine lg_nil ?_
               refine h59 _ ?_; clear h59; try clear N59
               refine vc_ret ?_
               try simp only [k_rules]
               have hbt : b = false := by have := hb58; simpa using this
               subst hbt
               have hr : negF l ss rs ws = (6, (i : Int)) := negF_at h0 (by omega) (by omega) (by omega) (by omega) (by omega) hxe i2 (want_6s hbe)
               rw [hr]
               refine fin2_ ?_
               exact cl_
              ·refine vc_skip ?_
               try simp only [k_rules]
               refine h56 _ ?_; clear h56; try clear N56
               refine u_reg ?_
               try refine lg_mk ?_
               refine u_mv ?_
               refine u_bn ?_
               refine u_mv ?_
               refine lg_nil ?_
               have hbt : b = true := by have := hb58; simpa using this
               subst hbt
               refine h52 _ ⟨i + 1, ?_, ?_, [some 0], ?_⟩
               ·dsimp only
                exact ⟨by omega, lt_snoc i2 (by rw [getD_of hxe]; exact want_0 hxo.1 hxo.2 hbe)⟩
               ·dsimp only
                omega
               ·dsimp only
                refine ⟨by rfl, ?_, ?_⟩
                ·refine fin_ ?_
                 exact cl_
                ·refine fin_ ?_
                 exact cl_
             ·have hbe := True.intro
              have hx0' : (decide (0 ≤ x) && decide (x ≤ (l.length : Int) - 1)) = false := by simp; omega
              have hx := And.intro @hxe (And.intro @hbe (And.intro @hx0' (And.intro @eB.eq_1 (And.intro @eI.eq_1 hx0))))
              refine u_reg ?_
              try refine lg_mk ?_
              refine u_mv ?_
              refine u_mv ?_
              refine u_pt ?_
              refine u_ld ?_
              refine u_mv ?_
              refine u_ln ?_
              refine u_bn ?_
              have hc := call_rule (E := (E_negCheck.at_ 138)) (f := 19) (sp := Spec.pure inG) rfl
              have hs := @inG.eq_1
              refine u_cp ?_
              refine u_un ?_
              refine u_mv ?_
              refine g_mv ?_
              refine g_mv ?_
              refine g_mv ?_
              refine g_pt ?_
              refine g_ld ?_
              refine g_pt ?_
              refine g_ld ?_
              refine g_un ?_
              refine u_pk ?_
              refine lg_nil ?_
              have hx := hx0
              refine h57 _ ?_; clear h57; try clear N57
              refine u_cond (fun hb60 => ?_) (fun hb60 => ?_)
              ·refine vc_seq_k fun N61 h61 => ?_
               refine u_reg ?_
               try refine lg_mk ?_
               refine u_mv ?_
               have hc := call_rule (E := (E_negCheck.at_ 138)) (f := 25) (sp := Spec.pure faultG) rfl
               have hs := @faultG.eq_1
               refine u_cp ?_
               refine u_st ?_
               refine lg_nil ?_
               refine h61 _ ?_; clear h61; try clear N61
               refine vc_ret ?_
               try simp only [k_rules]
               have hr : negF l ss rs ws = (6, (i : Int)) := negF_at h0 (by omega) (by omega) (by omega) (by omega) (by omega) hxe i2 (want_6 hxo)
               rw [hr]
               refine fin2_ ?_
               exact cl_
              ·first | omega | exact absurd trivial hb60 | contradiction | (simp_all; done)
            ·refine vc_exit ?_
             simp only [k_rules, Nat.reduceEqDiff, reduceIte, eq_self]
             refine h50 _ ?_; clear h50; try clear N50
             refine vc_seq_k fun N62 h62 => ?_
             refine u_reg ?_
             try refine lg_mk ?_
             refine u_bd ?_
             refine u_st ?_
             refine lg_nil ?_
             refine h62 _ ?_; clear h62; try clear N62
             refine vc_ret ?_
             try simp only [k_rules]
             have hr : negF l ss rs ws = (0, 0) := negF_ok h0 (by omega) (by omega) (by omega) (by omega) (by omega) (fun j hj => i2 j (by omega))
             rw [hr]
             refine fin2_ ?_
             exact cl_
  ·have hz : True := trivial
   have hx := And.intro @hz hx0
   refine u_reg ?_
   try refine lg_mk ?_
   refine u_mv ?_
   have hc := call_rule (E := (E_negCheck.at_ 138)) (f := 24) (sp := Spec.pure histG) rfl
   have hs := @histG.eq_1
   refine u_cp ?_
   refine u_al ?_
   refine u_st ?_
   refine lg_nil ?_
   have hx := hx0
   refine h3 _ ?_; clear h3; try clear N3
   refine vc_seq_k fun N63 h63 => ?_
   refine u_reg ?_
   try refine lg_mk ?_
   refine u_pt ?_
   refine u_ld ?_
   refine u_bn ?_
   refine lg_nil ?_
   refine h63 _ ?_; clear h63; try clear N63
   refine u_cond (fun hb64 => ?_) (fun hb64 => ?_)
   ·refine vc_seq_k fun N65 h65 => ?_
    refine u_reg ?_
    try refine lg_mk ?_
    refine u_ld ?_
    refine u_st ?_
    refine lg_nil ?_
    refine h65 _ ?_; clear h65; try clear N65
    refine vc_ret ?_
    try simp only [k_rules]
    have hr : negF l ss rs ws = histF l := negF_hist h0
    rw [hr]
    refine fin2_ ?_
    exact cl_
   ·first | omega | exact absurd trivial hb64 | contradiction | (simp_all; done)
 ·cases hg

def E_negFault : Env Try.prog := E_negCheck.add 15 (Spec.pure negG) negFault_meets (by kernel_rfl)
end Go.Proofs.Ytaoifpmifpmhmaa
