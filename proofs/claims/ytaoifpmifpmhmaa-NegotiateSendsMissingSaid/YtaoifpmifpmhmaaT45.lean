/- Walks, printed by wip/gen/walk.py. -/
import Derived.Test.YtaoifpmifpmhmaaT44
import Derived.Test.YtaoifpmifpmhmaaV4
set_option linter.all false
set_option maxRecDepth 100000
set_option maxHeartbeats 4000000
namespace Go.Proofs.Ytaoifpmifpmhmaa
open Go Go.Vc Go.RowKit
theorem lawCompl_meets : Meets Try.prog 5 (Spec.pure lawNG) := by
 refine meets_fun (E_lawNeg.at_ 133) Try.func5 rfl rfl rfl ?_
 intro args p r hg hp
 unfold lawNG at hg
 split at hg
 ·rename_i xs ss rs ws
  simp only [Option.some.injEq, Prod.mk.injEq] at hg
  obtain ⟨rfl, rfl⟩ := hg
  obtain ⟨he, hf, hg, hw, hl, hsm, hsl, hrl, hwl⟩ := hp
  generalize dC xs = l at *
  generalize dB ss = ss at *
  generalize dB rs = rs at *
  generalize dI ws = ws at *
  subst he hf hg hw
  have hT : (E_lawNeg).X = T := rfl
  have hx0 := And.intro @dec_t (And.intro @dec_f (And.intro @rect_eC (And.intro @dC_rows (And.intro @dI_rows (And.intro @dB_rows (And.intro @vec_len @Try.results5))))))
  have hx := hx0
  refine ⟨by rfl, ?_⟩
  intro F W0 hnp hmk
  refine vc_seq_k fun N1 h1 => ?_
  refine u_reg ?_
  try refine lg_mk ?_
  refine u_mv ?_
  refine lg_nil ?_
  refine h1 _ ?_; clear h1; try clear N1
  refine vc_seq_k fun N2 h2 => ?_
  refine vc_seq_k fun N3 h3 => ?_
  refine u_reg ?_
  try refine lg_mk ?_
  have hc := call_rule (E := (E_lawNeg.at_ 133)) (f := 12) (sp := Spec.pure exampleG) rfl
  have hs := @exampleG.eq_1
  refine u_cp ?_
  refine u_un ?_
  refine lg_nil ?_
  refine h3 _ ?_; clear h3; try clear N3
  refine u_cond (fun hb4 => ?_) (fun hb4 => ?_)
  ·first | omega | exact absurd trivial hb4 | contradiction | (simp_all; done)
  ·refine vc_skip ?_
   try simp only [k_rules]
   refine h2 _ ?_; clear h2; try clear N2
   refine vc_seq_k fun N5 h5 => ?_
   by_cases h0 : (negF l ss rs ws).1 = 0
   ·obtain ⟨hneg, hz⟩ := neg_of h0
    have hv := hneg.val
    have hl60 := hv.len
    have hsl2 := hneg.sl
    have hrl2 := hneg.rl
    have hwf := hneg.few
    have hwr := hneg.inr
    have hsm2 := sent_miss hneg
    have hsl3 := sent_len l ss rs ws
    have hml3 := miss_len l rs ws
    have hee := end_ex (ss := ss) (rs := rs) hv
    have hel := told_r_le hv hee.2
    have hrdl := rds_len l ss rs (endR l ss rs)
    have hq8 : l.length ≤ 9223372036854775807 ∧ smallC l ∧ ss.length ≤ 9223372036854775807 ∧ rs.length ≤ 9223372036854775807 ∧ ws.length ≤ 9223372036854775807 := ⟨hl, ‹smallC l›, hsl, hrl, hwl⟩
    have hx := And.intro @hz (And.intro @h0 hx0)
    refine u_reg ?_
    try refine lg_mk ?_
    refine u_mv ?_
    refine u_mv ?_
    refine u_mv ?_
    refine u_mv ?_
    have hc := call_rule (E := (E_lawNeg.at_ 133)) (f := 14) (sp := Spec.pure runG) rfl
    have hs := @runG.eq_1
    refine u_hp ?_
    refine u_mv ?_
    refine u_ex ?_
    refine u_ex ?_
    refine u_ex ?_
    refine u_al ?_
    refine u_mv ?_
    refine u_mv ?_
    refine u_st ?_
    refine lg_nil ?_
    have hx := hx0
    refine h5 _ ?_; clear h5; try clear N5
    refine vc_seq_k fun N6 h6 => ?_
    refine vc_seq_k fun N7 h7 => ?_
    have hx := And.intro @hz (And.intro @h0 hx0)
    refine u_reg ?_
    try refine lg_mk ?_
    refine u_pt ?_
    refine u_ld ?_
    refine u_bn ?_
    refine u_mv ?_
    refine g_mv ?_
    refine g_mv ?_
    refine g_mv ?_
    refine g_mv ?_
    have hc := call_rule (E := (E_lawNeg.at_ 133)) (f := 15) (sp := Spec.pure negG) rfl
    have hs := @negG.eq_1
    refine g_cp ?_
    refine g_pt ?_
    refine g_bn ?_
    refine u_pk ?_
    refine lg_nil ?_
    have hx := hx0
    refine h7 _ ?_; clear h7; try clear N7
    refine u_cond (fun hb8 => ?_) (fun hb8 => ?_)
    ·first | omega | exact absurd trivial hb8 | contradiction | (simp_all; done)
    ·refine vc_skip ?_
     try simp only [k_rules]
     refine h6 _ ?_; clear h6; try clear N6
     refine vc_seq_k fun N9 h9 => ?_
     refine u_reg ?_
     try refine lg_mk ?_
     refine u_mv ?_
     refine u_ap ?_
     refine u_mv ?_
     refine lg_nil ?_
     refine h9 _ ?_; clear h9; try clear N9
     refine vc_seq_k fun N10 h10 => ?_
     refine vc_seq_k fun N11 h11 => ?_
     refine u_reg ?_
     try refine lg_mk ?_
     refine u_mv ?_
     refine lg_nil ?_
     refine h11 _ ?_; clear h11; try clear N11
     refine vc_block ?_
     refine vc_loop_mk (σ := Nat) (fun s => (fun i => i ≤ (sentR l ss rs ws).length) s)
      (fun s => (fun i => [(0, .d (.sl (rows eC l))), (1, .d (.sl (rows eB ss))), (2, .d (.sl (rows eB rs))), (3, .d (.sl (rows eI ws))), (10, .d (.sl (rows eI (sentR l ss rs ws)))), (12, .sl 0 0 l.length), (13, .d (.int .i64 (i : Nat)))]) s)
      (fun s => (fun i => [some (.vec 4 1 (rows eB (vec l.length (hasB rs ((sentR l ss rs ws).take i)))))]) s) (fun s => (fun i => (sentR l ss rs ws).length - i) s) hnp 0 ?_ [some 1] ?_ ?_
     ·dsimp only
      omega
     ·dsimp only
      refine ⟨by rfl, ?_, ?_⟩
      ·refine fin_ ?_
       (repeat' apply And.intro) <;> (first | (first | rfl | trivial | exact congrArg (rows eB) (list_vec hrl2) | exact hrl2) | (first | rfl | exact Or.inr rfl | exact Or.inl rfl | trivial | omega | assumption | (simp; done) | (simp; omega)))
      ·refine fin_ ?_
       (repeat' apply And.intro) <;> (first | (first | rfl | trivial | exact congrArg (rows eB) (list_vec hrl2) | exact hrl2) | (first | rfl | exact Or.inr rfl | exact Or.inl rfl | trivial | omega | assumption | (simp; done) | (simp; omega)))
     ·rintro i hinv N12 h12
      dsimp only at hinv ⊢
      have hi1 := hinv
      refine vc_seq_k fun N13 h13 => ?_
      refine vc_seq_k fun N14 h14 => ?_
      refine u_reg ?_
      try refine lg_mk ?_
      refine u_mv ?_
      refine u_mv ?_
      refine u_ln ?_
      refine u_bn ?_
      refine lg_nil ?_
      refine h14 _ ?_; clear h14; try clear N14
      refine u_cond (fun hb15 => ?_) (fun hb15 => ?_)
      ·obtain ⟨x, hxe⟩ := getE (l := (sentR l ss rs ws)) (i := i) (by omega)
       obtain ⟨x0, x1, x2, x3⟩ := sent_at hneg hxe
       obtain ⟨sb, hsb⟩ := getE (l := ss) (i := x.toNat) (by omega)
       rw [getD_of hsb] at x2
       subst x2
       have hgh := vec_get (n := l.length) (f := hasB rs ((sentR l ss rs ws).take i)) (k := x.toNat) (by omega)
       rw [x3] at hgh
       have hx0' : (decide (0 ≤ x) && decide (x ≤ (l.length : Int) - 1)) = true := by simp; omega
       refine vc_skip ?_
       try simp only [k_rules]
       refine h13 _ ?_; clear h13; try clear N13
       refine vc_seq_k fun N16 h16 => ?_
       refine vc_block ?_
       refine vc_seq_k fun N17 h17 => ?_
       refine vc_seq_k fun N18 h18 => ?_
       have hx := And.intro @hxe (And.intro @hsb (And.intro @hgh (And.intro @hx0' (And.intro @eI.eq_1 (And.intro @eB.eq_1 hx0)))))
       refine u_reg ?_
       try refine lg_mk ?_
       refine u_mv ?_
       refine u_mv ?_
       refine u_pt ?_
       refine u_ld ?_
       refine u_mv ?_
       refine u_ln ?_
       refine u_bn ?_
       have hc := call_rule (E := (E_lawNeg.at_ 133)) (f := 19) (sp := Spec.pure inG) rfl
       have hs := @inG.eq_1
       refine u_cp ?_
       refine u_un ?_
       refine u_mv ?_
       refine g_mv ?_
       refine g_mv ?_
       refine g_mv ?_
       refine g_pt ?_
       refine g_ld ?_
       refine g_pt ?_
       refine g_ld ?_
       refine u_pk ?_
       refine u_mv ?_
       refine g_mv ?_
       refine g_mv ?_
       refine g_mv ?_
       refine g_pt ?_
       refine g_ld ?_
       refine g_pt ?_
       refine g_ld ?_
       refine g_un ?_
       refine u_pk ?_
       refine lg_nil ?_
       have hx := hx0
       refine h18 _ ?_; clear h18; try clear N18
       refine u_cond (fun hb19 => ?_) (fun hb19 => ?_)
       ·first | omega | exact absurd trivial hb19 | contradiction | (simp_all; done)
       ·refine vc_skip ?_
        try simp only [k_rules]
        refine h17 _ ?_; clear h17; try clear N17
        have hx := And.intro @hxe (And.intro @hgh (And.intro @eI.eq_1 (And.intro @eB.eq_1 hx0)))
        refine u_reg ?_
        try refine lg_mk ?_
        refine u_mv ?_
        refine u_mv ?_
        refine u_mv ?_
        refine u_pt ?_
        refine u_ld ?_
        refine u_pt ?_
        refine u_st ?_
        refine lg_nil ?_
        have hx := hx0
        refine h16 _ ?_; clear h16; try clear N16
        refine u_reg ?_
        try refine lg_mk ?_
        refine u_mv ?_
        refine u_bn ?_
        refine u_mv ?_
        refine lg_nil ?_
        refine h12 _ ⟨i + 1, ?_, ?_, [some 0], ?_⟩
        ·dsimp only
         omega
        ·dsimp only
         omega
        ·dsimp only
         refine ⟨by rfl, ?_, ?_⟩
         ·refine fin_ ?_
          (repeat' apply And.intro) <;> (first | (first | rfl | trivial | (rw [← has_set hxe x0]; simp [rows, eB]; done)) | (first | rfl | exact Or.inr rfl | exact Or.inl rfl | trivial | omega | assumption | (simp; done) | (simp; omega)))
         ·refine fin_ ?_
          (repeat' apply And.intro) <;> (first | (first | rfl | trivial | (rw [← has_set hxe x0]; simp [rows, eB]; done)) | (first | rfl | exact Or.inr rfl | exact Or.inl rfl | trivial | omega | assumption | (simp; done) | (simp; omega)))
      ·have hi : i = (sentR l ss rs ws).length := by omega
       subst hi
       rw [List.take_length]
       refine vc_exit ?_
       simp only [k_rules, Nat.reduceEqDiff, reduceIte, eq_self]
       refine h10 _ ?_; clear h10; try clear N10
       refine vc_seq_k fun N20 h20 => ?_
       refine vc_seq_k fun N21 h21 => ?_
       refine u_reg ?_
       try refine lg_mk ?_
       refine u_mv ?_
       refine lg_nil ?_
       refine h21 _ ?_; clear h21; try clear N21
       refine vc_block ?_
       refine vc_loop_mk (σ := Nat) (fun s => (fun i => i ≤ ws.length) s)
        (fun s => (fun i => [(0, .d (.sl (rows eC l))), (1, .d (.sl (rows eB ss))), (2, .d (.sl (rows eB rs))), (3, .d (.sl (rows eI ws))), (12, .sl 0 0 l.length), (14, .d (.int .i64 (i : Nat)))]) s)
        (fun s => (fun i => [some (.vec 4 1 (rows eB (vec l.length (hasB rs (sentR l ss rs ws)))))]) s) (fun s => (fun i => ws.length - i) s) hnp 0 ?_ [some 0] ?_ ?_
       ·dsimp only
        omega
       ·dsimp only
        refine ⟨by rfl, ?_, ?_⟩
        ·refine fin_ ?_
         exact cl_
        ·refine fin_ ?_
         exact cl_
       ·rintro i hinv N22 h22
        dsimp only at hinv ⊢
        have hi1 := hinv
        refine vc_seq_k fun N23 h23 => ?_
        refine vc_seq_k fun N24 h24 => ?_
        refine u_reg ?_
        try refine lg_mk ?_
        refine u_mv ?_
        refine u_mv ?_
        refine u_ln ?_
        refine u_bn ?_
        refine lg_nil ?_
        refine h24 _ ?_; clear h24; try clear N24
        refine u_cond (fun hb25 => ?_) (fun hb25 => ?_)
        ·obtain ⟨w, hwe⟩ := getE (l := ws) (i := i) (by omega)
         have hwr2 := hwr.at hwe
         have hgh := vec_get (n := l.length) (f := hasB rs (sentR l ss rs ws)) (k := w.toNat) (by omega)
         rw [has_want hneg (mem_at hwe)] at hgh
         refine vc_skip ?_
         try simp only [k_rules]
         refine h23 _ ?_; clear h23; try clear N23
         refine vc_seq_k fun N26 h26 => ?_
         refine vc_block ?_
         refine vc_seq_k fun N27 h27 => ?_
         have hx := And.intro @hwe (And.intro @hgh (And.intro @eI.eq_1 (And.intro @eB.eq_1 hx0)))
         refine u_reg ?_
         try refine lg_mk ?_
         refine u_mv ?_
         refine u_mv ?_
         refine u_mv ?_
         refine u_pt ?_
         refine u_ld ?_
         refine u_pt ?_
         refine u_ld ?_
         refine u_un ?_
         refine lg_nil ?_
         have hx := hx0
         refine h27 _ ?_; clear h27; try clear N27
         refine u_cond (fun hb28 => ?_) (fun hb28 => ?_)
         ·first | omega | exact absurd trivial hb28 | contradiction | (simp_all; done)
         ·refine vc_skip ?_
          try simp only [k_rules]
          refine h26 _ ?_; clear h26; try clear N26
          refine u_reg ?_
          try refine lg_mk ?_
          refine u_mv ?_
          refine u_bn ?_
          refine u_mv ?_
          refine lg_nil ?_
          refine h22 _ ⟨i + 1, ?_, ?_, [some 0], ?_⟩
          ·dsimp only
           omega
          ·dsimp only
           omega
          ·dsimp only
           refine ⟨by rfl, ?_, ?_⟩
           ·refine fin_ ?_
            exact cl_
           ·refine fin_ ?_
            exact cl_
        ·refine vc_exit ?_
         simp only [k_rules, Nat.reduceEqDiff, reduceIte, eq_self]
         refine h20 _ ?_; clear h20; try clear N20
         refine vc_seq_k fun N29 h29 => ?_
         refine vc_seq_k fun N30 h30 => ?_
         refine u_reg ?_
         try refine lg_mk ?_
         refine u_mv ?_
         refine lg_nil ?_
         refine h30 _ ?_; clear h30; try clear N30
         refine vc_block ?_
         refine vc_loop_mk (σ := Nat) (fun s => (fun i => i ≤ l.length) s)
          (fun s => (fun i => [(0, .d (.sl (rows eC l))), (1, .d (.sl (rows eB ss))), (2, .d (.sl (rows eB rs))), (3, .d (.sl (rows eI ws))), (12, .sl 0 0 l.length), (15, .d (.int .i64 (i : Nat)))]) s)
          (fun s => (fun i => [some (.vec 4 1 (rows eB (vec l.length (hasB rs (sentR l ss rs ws)))))]) s) (fun s => (fun i => l.length - i) s) hnp 0 ?_ [some 0] ?_ ?_
         ·dsimp only
          omega
         ·dsimp only
          refine ⟨by rfl, ?_, ?_⟩
          ·refine fin_ ?_
           exact cl_
          ·refine fin_ ?_
           exact cl_
         ·rintro i hinv N31 h31
          dsimp only at hinv ⊢
          have hi1 := hinv
          refine vc_seq_k fun N32 h32 => ?_
          refine vc_seq_k fun N33 h33 => ?_
          refine u_reg ?_
          try refine lg_mk ?_
          refine u_mv ?_
          refine u_mv ?_
          refine u_ln ?_
          refine u_bn ?_
          refine lg_nil ?_
          refine h33 _ ?_; clear h33; try clear N33
          refine u_cond (fun hb34 => ?_) (fun hb34 => ?_)
          ·have hil : i < l.length := by omega
           obtain ⟨c, hce⟩ := getE (l := l) (i := i) hil
           have hc3 := hv.few hce
           refine vc_skip ?_
           try simp only [k_rules]
           refine h32 _ ?_; clear h32; try clear N32
           refine vc_seq_k fun N35 h35 => ?_
           refine vc_block ?_
           refine vc_seq_k fun N36 h36 => ?_
           refine u_reg ?_
           try refine lg_mk ?_
           refine u_mv ?_
           refine lg_nil ?_
           refine h36 _ ?_; clear h36; try clear N36
           refine vc_block ?_
           refine vc_loop_mk (σ := Nat) (fun s => (fun k => k ≤ c.par.length) s)
            (fun s => (fun k => [(0, .d (.sl (rows eC l))), (1, .d (.sl (rows eB ss))), (2, .d (.sl (rows eB rs))), (3, .d (.sl (rows eI ws))), (12, .sl 0 0 l.length), (15, .d (.int .i64 (i : Nat))), (16, .d (.int .i64 (k : Nat)))]) s)
            (fun s => (fun k => [some (.vec 4 1 (rows eB (vec l.length (hasB rs (sentR l ss rs ws)))))]) s) (fun s => (fun k => c.par.length - k) s) hnp 0 ?_ [some 0] ?_ ?_
           ·dsimp only
            omega
           ·dsimp only
            refine ⟨by rfl, ?_, ?_⟩
            ·refine fin_ ?_
             exact cl_
            ·refine fin_ ?_
             exact cl_
           ·rintro k hinv N37 h37
            dsimp only at hinv ⊢
            have hk1 := hinv
            refine vc_seq_k fun N38 h38 => ?_
            refine vc_seq_k fun N39 h39 => ?_
            have hx := And.intro @hce (And.intro @eC.eq_1 hx0)
            refine u_reg ?_
            try refine lg_mk ?_
            refine u_mv ?_
            refine u_mv ?_
            refine u_mv ?_
            refine u_pt ?_
            refine u_pt ?_
            refine u_ld ?_
            refine u_ln ?_
            refine u_bn ?_
            refine lg_nil ?_
            have hx := hx0
            refine h39 _ ?_; clear h39; try clear N39
            refine u_cond (fun hb40 => ?_) (fun hb40 => ?_)
            ·obtain ⟨p, hpe⟩ := getE (l := c.par) (i := k) (by omega)
             have hpr := hv.par hce hpe
             have hgi := vec_get (n := l.length) (f := hasB rs (sentR l ss rs ws)) (k := i) hil
             have hgp := vec_get (n := l.length) (f := hasB rs (sentR l ss rs ws)) (k := p.toNat) (by omega)
             have hpp := has_par hneg hce (mem_at hpe)
             refine vc_skip ?_
             try simp only [k_rules]
             refine h38 _ ?_; clear h38; try clear N38
             refine vc_seq_k fun N41 h41 => ?_
             refine vc_block ?_
             refine vc_seq_k fun N42 h42 => ?_
             cases hbi : hasB rs (sentR l ss rs ws) i
             ·have hbp := True.intro
              have hx := And.intro @hce (And.intro @hpe (And.intro @hgi (And.intro @hgp (And.intro @hbi (And.intro @hbp (And.intro @eC.eq_1 (And.intro @eI.eq_1 (And.intro @eB.eq_1 hx0))))))))
              refine u_reg ?_
              try refine lg_mk ?_
              refine u_mv ?_
              refine u_mv ?_
              refine u_pt ?_
              refine u_ld ?_
              refine u_mv ?_
              refine g_mv ?_
              refine g_mv ?_
              refine g_mv ?_
              refine g_pt ?_
              refine g_pt ?_
              refine g_ld ?_
              refine g_mv ?_
              refine g_pt ?_
              refine g_ld ?_
              refine g_pt ?_
              refine g_ld ?_
              refine g_un ?_
              refine u_pk ?_
              refine lg_nil ?_
              have hx := hx0
              refine h42 _ ?_; clear h42; try clear N42
              refine u_cond (fun hb43 => ?_) (fun hb43 => ?_)
              ·first | omega | exact absurd trivial hb43 | contradiction | (simp_all; done)
              ·refine vc_skip ?_
               try simp only [k_rules]
               refine h41 _ ?_; clear h41; try clear N41
               refine u_reg ?_
               try refine lg_mk ?_
               refine u_mv ?_
               refine u_bn ?_
               refine u_mv ?_
               refine lg_nil ?_
               refine h37 _ ⟨k + 1, ?_, ?_, [some 0], ?_⟩
               ·dsimp only
                omega
               ·dsimp only
                omega
               ·dsimp only
                refine ⟨by rfl, ?_, ?_⟩
                ·refine fin_ ?_
                 exact cl_
                ·refine fin_ ?_
                 exact cl_
             ·have hbp := hpp hbi
              have hx := And.intro @hce (And.intro @hpe (And.intro @hgi (And.intro @hgp (And.intro @hbi (And.intro @hbp (And.intro @eC.eq_1 (And.intro @eI.eq_1 (And.intro @eB.eq_1 hx0))))))))
              refine u_reg ?_
              try refine lg_mk ?_
              refine u_mv ?_
              refine u_mv ?_
              refine u_pt ?_
              refine u_ld ?_
              refine u_mv ?_
              refine g_mv ?_
              refine g_mv ?_
              refine g_mv ?_
              refine g_pt ?_
              refine g_pt ?_
              refine g_ld ?_
              refine g_mv ?_
              refine g_pt ?_
              refine g_ld ?_
              refine g_pt ?_
              refine g_ld ?_
              refine g_un ?_
              refine u_pk ?_
              refine lg_nil ?_
              have hx := hx0
              refine h42 _ ?_; clear h42; try clear N42
              refine u_cond (fun hb44 => ?_) (fun hb44 => ?_)
              ·first | omega | exact absurd trivial hb44 | contradiction | (simp_all; done)
              ·refine vc_skip ?_
               try simp only [k_rules]
               refine h41 _ ?_; clear h41; try clear N41
               refine u_reg ?_
               try refine lg_mk ?_
               refine u_mv ?_
               refine u_bn ?_
               refine u_mv ?_
               refine lg_nil ?_
               refine h37 _ ⟨k + 1, ?_, ?_, [some 0], ?_⟩
               ·dsimp only
                omega
               ·dsimp only
                omega
               ·dsimp only
                refine ⟨by rfl, ?_, ?_⟩
                ·refine fin_ ?_
                 exact cl_
                ·refine fin_ ?_
                 exact cl_
            ·refine vc_exit ?_
             simp only [k_rules, Nat.reduceEqDiff, reduceIte, eq_self]
             refine h35 _ ?_; clear h35; try clear N35
             refine u_reg ?_
             try refine lg_mk ?_
             refine u_mv ?_
             refine u_bn ?_
             refine u_mv ?_
             refine lg_nil ?_
             refine h31 _ ⟨i + 1, ?_, ?_, [some 0], ?_⟩
             ·dsimp only
              omega
             ·dsimp only
              omega
             ·dsimp only
              refine ⟨by rfl, ?_, ?_⟩
              ·refine fin_ ?_
               exact cl_
              ·refine fin_ ?_
               exact cl_
          ·refine vc_exit ?_
           simp only [k_rules, Nat.reduceEqDiff, reduceIte, eq_self]
           refine h29 _ ?_; clear h29; try clear N29
           refine vc_seq_k fun N45 h45 => ?_
           refine u_reg ?_
           try refine lg_mk ?_
           refine u_mv ?_
           refine lg_nil ?_
           refine h45 _ ?_; clear h45; try clear N45
           refine vc_ret ?_
           try simp only [k_rules]
           refine fin2_ ?_
           (repeat' apply And.intro) <;> (first | (first | rfl | (simp [*]; done) | (simp_all; done)) | (first | rfl | exact Or.inr rfl | exact Or.inl rfl | trivial | omega | assumption | (simp; done) | (simp; omega)))
   ·have hz : True := trivial
    have hq8 : l.length ≤ 9223372036854775807 ∧ smallC l ∧ ss.length ≤ 9223372036854775807 ∧ rs.length ≤ 9223372036854775807 ∧ ws.length ≤ 9223372036854775807 := ⟨hl, ‹smallC l›, hsl, hrl, hwl⟩
    have hx := And.intro @hz (And.intro @h0 hx0)
    refine u_reg ?_
    try refine lg_mk ?_
    refine u_mv ?_
    refine u_mv ?_
    refine u_mv ?_
    refine u_mv ?_
    have hc := call_rule (E := (E_lawNeg.at_ 133)) (f := 14) (sp := Spec.pure runG) rfl
    have hs := @runG.eq_1
    refine u_hp ?_
    refine u_mv ?_
    refine u_ex ?_
    refine u_ex ?_
    refine u_ex ?_
    refine u_al ?_
    refine u_mv ?_
    refine u_mv ?_
    refine u_st ?_
    refine lg_nil ?_
    have hx := hx0
    refine h5 _ ?_; clear h5; try clear N5
    refine vc_seq_k fun N46 h46 => ?_
    refine vc_seq_k fun N47 h47 => ?_
    have hx := And.intro @hz (And.intro @h0 hx0)
    refine u_reg ?_
    try refine lg_mk ?_
    refine u_pt ?_
    refine u_ld ?_
    refine u_bn ?_
    refine u_mv ?_
    refine g_mv ?_
    refine g_mv ?_
    refine g_mv ?_
    refine g_mv ?_
    have hc := call_rule (E := (E_lawNeg.at_ 133)) (f := 15) (sp := Spec.pure negG) rfl
    have hs := @negG.eq_1
    refine g_cp ?_
    refine g_pt ?_
    refine g_bn ?_
    refine u_pk ?_
    refine lg_nil ?_
    have hx := hx0
    refine h47 _ ?_; clear h47; try clear N47
    refine u_cond (fun hb48 => ?_) (fun hb48 => ?_)
    ·refine vc_seq_k fun N49 h49 => ?_
     refine u_reg ?_
     try refine lg_mk ?_
     refine u_mv ?_
     refine u_ln ?_
     refine u_bn ?_
     refine u_mv ?_
     refine lg_nil ?_
     refine h49 _ ?_; clear h49; try clear N49
     refine vc_ret ?_
     try simp only [k_rules]
     refine fin2_ ?_
     (repeat' apply And.intro) <;> (first | (first | rfl | (simp [*]; done) | (simp_all; done)) | (first | rfl | exact Or.inr rfl | exact Or.inl rfl | trivial | omega | assumption | (simp; done) | (simp; omega)))
    ·first | omega | exact absurd trivial hb48 | contradiction | (simp_all; done)
 ·cases hg

def E_lawCompl : Env Try.prog := E_lawNeg.add 5 (Spec.pure lawNG) lawCompl_meets (by kernel_rfl)
end Go.Proofs.Ytaoifpmifpmhmaa
