/- Walks, printed by wip/gen/walk.py. -/
import Derived.Test.YtaoifpmifpmhmaaT45
import Derived.Test.YtaoifpmifpmhmaaV4
set_option linter.all false
set_option maxRecDepth 100000
set_option maxHeartbeats 4000000
namespace Go.Proofs.Ytaoifpmifpmhmaa
open Go Go.Vc Go.RowKit
theorem lawTwice_meets : Meets Try.prog 6 (Spec.pure lawNG) := by
 refine meets_fun (E_lawCompl.at_ 147) Try.func6 rfl rfl rfl ?_
 intro args p r hg hp
 unfold lawNG at hg
 split at hg
 ·rename_i xs ss rs ws
  simp only [Option.some.injEq, Prod.mk.injEq] at hg
  obtain ⟨rfl, rfl⟩ := hg
  obtain ⟨he, hf, hg, hw, hl, hsm, hsl, hrl, hwl⟩ := hp
  generalize dC xs = l at *
  generalize dB ss = ss at *
  generalize dB rs = rs at *
  generalize dI ws = ws at *
  subst he hf hg hw
  have hT : (E_lawCompl).X = T := rfl
  have hx0 := And.intro @dec_t (And.intro @dec_f (And.intro @rect_eC (And.intro @dC_rows (And.intro @dI_rows (And.intro @dB_rows (And.intro @vec_len (And.intro @ancR_len @Try.results6)))))))
  have hx := hx0
  refine ⟨by rfl, ?_⟩
  intro F W0 hnp hmk
  refine vc_seq_k fun N1 h1 => ?_
  refine u_reg ?_
  try refine lg_mk ?_
  refine u_mv ?_
  refine lg_nil ?_
  refine h1 _ ?_; clear h1; try clear N1
  refine vc_seq_k fun N2 h2 => ?_
  refine vc_seq_k fun N3 h3 => ?_
  refine u_reg ?_
  try refine lg_mk ?_
  have hc := call_rule (E := (E_lawCompl.at_ 147)) (f := 12) (sp := Spec.pure exampleG) rfl
  have hs := @exampleG.eq_1
  refine u_cp ?_
  refine u_un ?_
  refine lg_nil ?_
  refine h3 _ ?_; clear h3; try clear N3
  refine u_cond (fun hb4 => ?_) (fun hb4 => ?_)
  ·first | omega | exact absurd trivial hb4 | contradiction | (simp_all; done)
  ·refine vc_skip ?_
   try simp only [k_rules]
   refine h2 _ ?_; clear h2; try clear N2
   refine vc_seq_k fun N5 h5 => ?_
   by_cases h0 : (negF l ss rs ws).1 = 0
   ·obtain ⟨hneg, hz⟩ := neg_of h0
    have hv := hneg.val
    have hl60 := hv.len
    have hsl2 := hneg.sl
    have hrl2 := hneg.rl
    have hwf := hneg.few
    have hwr := hneg.inr
    have hsm2 := sent_miss hneg
    have hsl3 := sent_len l ss rs ws
    have hml3 := miss_len l rs ws
    have hee := end_ex (ss := ss) (rs := rs) hv
    have hel := told_r_le hv hee.2
    have hrdl := rds_len l ss rs (endR l ss rs)
    have hq8 : l.length ≤ 9223372036854775807 ∧ smallC l ∧ ss.length ≤ 9223372036854775807 ∧ rs.length ≤ 9223372036854775807 ∧ ws.length ≤ 9223372036854775807 := ⟨hl, ‹smallC l›, hsl, hrl, hwl⟩
    have hx := And.intro @hz (And.intro @h0 hx0)
    refine u_reg ?_
    try refine lg_mk ?_
    refine u_mv ?_
    refine u_mv ?_
    refine u_mv ?_
    refine u_mv ?_
    have hc := call_rule (E := (E_lawCompl.at_ 147)) (f := 14) (sp := Spec.pure runG) rfl
    have hs := @runG.eq_1
    refine u_hp ?_
    refine u_mv ?_
    refine u_ex ?_
    refine u_ex ?_
    refine u_ex ?_
    refine u_al ?_
    refine u_mv ?_
    refine u_mv ?_
    refine u_st ?_
    refine lg_nil ?_
    have hx := hx0
    refine h5 _ ?_; clear h5; try clear N5
    refine vc_seq_k fun N6 h6 => ?_
    refine vc_seq_k fun N7 h7 => ?_
    have hx := And.intro @hz (And.intro @h0 hx0)
    refine u_reg ?_
    try refine lg_mk ?_
    refine u_pt ?_
    refine u_ld ?_
    refine u_bn ?_
    refine u_mv ?_
    refine g_mv ?_
    refine g_mv ?_
    refine g_mv ?_
    refine g_mv ?_
    have hc := call_rule (E := (E_lawCompl.at_ 147)) (f := 15) (sp := Spec.pure negG) rfl
    have hs := @negG.eq_1
    refine g_cp ?_
    refine g_pt ?_
    refine g_bn ?_
    refine u_pk ?_
    refine lg_nil ?_
    have hx := hx0
    refine h7 _ ?_; clear h7; try clear N7
    refine u_cond (fun hb8 => ?_) (fun hb8 => ?_)
    ·first | omega | exact absurd trivial hb8 | contradiction | (simp_all; done)
    ·refine vc_skip ?_
     try simp only [k_rules]
     refine h6 _ ?_; clear h6; try clear N6
     refine vc_seq_k fun N9 h9 => ?_
     refine u_reg ?_
     try refine lg_mk ?_
     refine u_mv ?_
     have hc := call_rule (E := (E_lawCompl.at_ 147)) (f := 20) (sp := Spec.pure reachRG) rfl
     have hs := @reachRG.eq_1
     refine u_hp (hq := by (first | (exact hv) | (first | trivial | omega | assumption | (unfold inI64; omega) | ((repeat' apply And.intro) <;> first | rfl | trivial | omega | assumption | (unfold inI64; omega)) | (simp; done) | (simp; omega)))) ?_
     refine u_mv ?_
     refine lg_nil ?_
     refine h9 _ ?_; clear h9; try clear N9
     refine vc_seq_k fun N10 h10 => ?_
     refine u_reg ?_
     try refine lg_mk ?_
     refine u_mv ?_
     refine lg_nil ?_
     refine h10 _ ?_; clear h10; try clear N10
     refine vc_seq_k fun N11 h11 => ?_
     refine vc_seq_k fun N12 h12 => ?_
     refine u_reg ?_
     try refine lg_mk ?_
     refine u_mv ?_
     refine lg_nil ?_
     refine h12 _ ?_; clear h12; try clear N12
     refine vc_block ?_
     refine vc_loop_mk (σ := Nat) (fun s => (fun i => i ≤ endR l ss rs) s)
      (fun s => (fun i => [(0, .d (.sl (rows eC l))), (1, .d (.sl (rows eB ss))), (2, .d (.sl (rows eB rs))), (3, .d (.sl (rows eI ws))), (9, .d (.sl (rows (eL eI) (rdsT l ss rs (endR l ss rs)).2))), (12, .d (.sl (rows (eL eB) (ancR l l.length)))), (13, .sl 0 0 (rdsT l ss rs i).1.length), (14, .d (.int .i64 (i : Nat)))]) s)
      (fun s => (fun i => [some (.vec 3 1 (rows eI (rdsT l ss rs i).1))]) s) (fun s => (fun i => endR l ss rs - i) s) hnp 0 ?_ [none] ?_ ?_
     ·dsimp only
      omega
     ·dsimp only
      refine ⟨by rfl, ?_, ?_⟩
      ·refine fin_ ?_
       exact cl_
      ·refine fin_ ?_
       exact cl_
     ·rintro i hinv N13 h13
      dsimp only at hinv ⊢
      have hi1 := hinv
      refine vc_seq_k fun N14 h14 => ?_
      refine vc_seq_k fun N15 h15 => ?_
      refine u_reg ?_
      try refine lg_mk ?_
      refine u_mv ?_
      refine u_mv ?_
      refine u_ln ?_
      refine u_bn ?_
      refine lg_nil ?_
      refine h15 _ ?_; clear h15; try clear N15
      refine u_cond (fun hb16 => ?_) (fun hb16 => ?_)
      ·have hil : i < endR l ss rs := by omega
       have hge := rds_get (l := l) (ss := ss) (rs := rs) hil
       have hbl := bat_len l ss rs i
       have hne := hee.2 i hil
       have hbp : 0 < (batR l ss rs i).length := List.length_pos_iff.2 hne
       have htl := nodup_len (told_r (ss := ss) (rs := rs) hv i).nodup (told_r (ss := ss) (rs := rs) hv i).inr
       refine vc_skip ?_
       try simp only [k_rules]
       refine h14 _ ?_; clear h14; try clear N14
       refine vc_seq_k fun N17 h17 => ?_
       refine vc_block ?_
       refine vc_seq_k fun N18 h18 => ?_
       refine vc_seq_k fun N19 h19 => ?_
       have hx := And.intro @hge (And.intro @eL.eq_1 (And.intro @hrdl hx0))
       refine u_reg ?_
       try refine lg_mk ?_
       refine u_mv ?_
       refine u_mv ?_
       refine u_pt ?_
       refine u_ld ?_
       refine u_ln ?_
       refine u_bn ?_
       refine u_mv ?_
       refine g_mv ?_
       refine g_mv ?_
       refine g_pt ?_
       refine g_ld ?_
       refine g_ln ?_
       refine g_bn ?_
       refine u_pk ?_
       refine lg_nil ?_
       have hx := hx0
       refine h19 _ ?_; clear h19; try clear N19
       refine u_cond (fun hb20 => ?_) (fun hb20 => ?_)
       ·have h9 := hb20; (try simp at h9); omega
       ·refine vc_skip ?_
        try simp only [k_rules]
        refine h18 _ ?_; clear h18; try clear N18
        refine vc_seq_k fun N21 h21 => ?_
        refine vc_seq_k fun N22 h22 => ?_
        refine u_reg ?_
        try refine lg_mk ?_
        refine u_mv ?_
        refine lg_nil ?_
        refine h22 _ ?_; clear h22; try clear N22
        refine vc_block ?_
        refine vc_loop_mk (σ := Nat) (fun s => (fun k => k ≤ (batR l ss rs i).length) s)
         (fun s => (fun k => [(0, .d (.sl (rows eC l))), (1, .d (.sl (rows eB ss))), (2, .d (.sl (rows eB rs))), (3, .d (.sl (rows eI ws))), (9, .d (.sl (rows (eL eI) (rdsT l ss rs (endR l ss rs)).2))), (12, .d (.sl (rows (eL eB) (ancR l l.length)))), (13, .sl 0 0 (rdsT l ss rs i).1.length), (14, .d (.int .i64 (i : Nat))), (15, .d (.int .i64 (k : Nat)))]) s)
         (fun s => (fun k => [some (.vec 3 1 (rows eI (rdsT l ss rs i).1))]) s) (fun s => (fun k => (batR l ss rs i).length - k) s) hnp 0 ?_ [some 0] ?_ ?_
        ·dsimp only
         omega
        ·dsimp only
         refine ⟨by rfl, ?_, ?_⟩
         ·refine fin_ ?_
          exact cl_
         ·refine fin_ ?_
          exact cl_
        ·rintro k hinv N23 h23
         dsimp only at hinv ⊢
         have hk1 := hinv
         refine vc_seq_k fun N24 h24 => ?_
         refine vc_seq_k fun N25 h25 => ?_
         have hx := And.intro @hge (And.intro @eL.eq_1 (And.intro @hrdl hx0))
         refine u_reg ?_
         try refine lg_mk ?_
         refine u_mv ?_
         refine u_mv ?_
         refine u_mv ?_
         refine u_pt ?_
         refine u_ld ?_
         refine u_ln ?_
         refine u_bn ?_
         refine lg_nil ?_
         have hx := hx0
         refine h25 _ ?_; clear h25; try clear N25
         refine u_cond (fun hb26 => ?_) (fun hb26 => ?_)
         ·obtain ⟨x, hxe⟩ := getE (l := (batR l ss rs i)) (i := k) (by omega)
          obtain ⟨x0, x1, x2, x3, x4⟩ := bat_at hv hxe
          obtain ⟨rb, hrx⟩ := getE (l := rs) (i := x.toNat) (by omega)
          rw [getD_of hrx] at x2
          subst x2
          have hx0' : (decide (0 ≤ x) && decide (x ≤ (l.length : Int) - 1)) = true := by simp; omega
          have hx3' : decide (x ∈ (batR l ss rs i).take k) = false := decide_eq_false x3
          refine vc_skip ?_
          try simp only [k_rules]
          refine h24 _ ?_; clear h24; try clear N24
          refine vc_seq_k fun N27 h27 => ?_
          refine vc_block ?_
          refine vc_seq_k fun N28 h28 => ?_
          have hx := And.intro @hge (And.intro @hxe (And.intro @eL.eq_1 (And.intro @eI.eq_1 (And.intro @hrdl hx0))))
          refine u_reg ?_
          try refine lg_mk ?_
          refine u_mv ?_
          refine u_mv ?_
          refine u_pt ?_
          refine u_ld ?_
          refine u_mv ?_
          refine u_pt ?_
          refine u_ld ?_
          refine u_mv ?_
          refine lg_nil ?_
          have hx := hx0
          refine h28 _ ?_; clear h28; try clear N28
          refine vc_seq_k fun N29 h29 => ?_
          refine vc_seq_k fun N30 h30 => ?_
          have hx := And.intro @hge (And.intro @hrx (And.intro @hx0' (And.intro @hx3' (And.intro @eL.eq_1 (And.intro @eI.eq_1 (And.intro @eB.eq_1 (And.intro @hrdl hx0)))))))
          refine u_reg ?_
          try refine lg_mk ?_
          refine u_mv ?_
          refine u_mv ?_
          refine u_ln ?_
          refine u_bn ?_
          have hc := call_rule (E := (E_lawCompl.at_ 147)) (f := 19) (sp := Spec.pure inG) rfl
          have hs := @inG.eq_1
          refine u_cp ?_
          refine u_un ?_
          refine u_mv ?_
          refine g_mv ?_
          refine g_mv ?_
          refine g_pt ?_
          refine g_ld ?_
          refine g_un ?_
          refine u_pk ?_
          refine u_mv ?_
          refine g_mv ?_
          refine g_mv ?_
          refine g_pt ?_
          refine g_ld ?_
          refine g_mv ?_
          refine g_sl ?_
          refine g_mv ?_
          have hc := call_rule (E := (E_lawCompl.at_ 147)) (f := 21) (sp := Spec.pure hasG) rfl
          have hs := @hasG.eq_1
          refine g_cp ?_
          refine u_pk ?_
          refine lg_nil ?_
          have hx := hx0
          refine h30 _ ?_; clear h30; try clear N30
          refine u_cond (fun hb31 => ?_) (fun hb31 => ?_)
          ·first | omega | exact absurd trivial hb31 | contradiction | (simp_all; done)
          ·refine vc_skip ?_
           try simp only [k_rules]
           refine h29 _ ?_; clear h29; try clear N29
           refine vc_seq_k fun N32 h32 => ?_
           refine u_reg ?_
           try refine lg_mk ?_
           refine u_mv ?_
           refine lg_nil ?_
           refine h32 _ ?_; clear h32; try clear N32
           refine vc_block ?_
           refine vc_loop_mk (σ := Nat) (fun s => (fun j => j ≤ (rdsT l ss rs i).1.length) s)
            (fun s => (fun j => [(0, .d (.sl (rows eC l))), (1, .d (.sl (rows eB ss))), (2, .d (.sl (rows eB rs))), (3, .d (.sl (rows eI ws))), (9, .d (.sl (rows (eL eI) (rdsT l ss rs (endR l ss rs)).2))), (12, .d (.sl (rows (eL eB) (ancR l l.length)))), (13, .sl 0 0 (rdsT l ss rs i).1.length), (14, .d (.int .i64 (i : Nat))), (15, .d (.int .i64 (k : Nat))), (16, .d (.int .i64 x)), (17, .d (.int .i64 (j : Nat)))]) s)
            (fun s => (fun j => [some (.vec 3 1 (rows eI (rdsT l ss rs i).1))]) s) (fun s => (fun j => (rdsT l ss rs i).1.length - j) s) hnp 0 ?_ [some 0] ?_ ?_
           ·dsimp only
            omega
           ·dsimp only
            refine ⟨by rfl, ?_, ?_⟩
            ·refine fin_ ?_
             exact cl_
            ·refine fin_ ?_
             exact cl_
           ·rintro j hinv N33 h33
            dsimp only at hinv ⊢
            have hj1 := hinv
            refine vc_seq_k fun N34 h34 => ?_
            refine vc_seq_k fun N35 h35 => ?_
            refine u_reg ?_
            try refine lg_mk ?_
            refine u_mv ?_
            refine u_mv ?_
            refine u_ln ?_
            refine u_bn ?_
            refine lg_nil ?_
            refine h35 _ ?_; clear h35; try clear N35
            refine u_cond (fun hb36 => ?_) (fun hb36 => ?_)
            ·obtain ⟨t, hte⟩ := getE (l := (rdsT l ss rs i).1) (i := j) (by omega)
             have htr := (told_r (ss := ss) (rs := rs) hv i).inr.at hte
             obtain ⟨q1, q2⟩ := x4 t (mem_at hte)
             obtain ⟨sb, hsb⟩ := getE (l := ss) (i := t.toNat) (by omega)
             rw [getD_of hsb] at q2
             have hg1 := ancR_get (l := l) (m := l.length) (i := t.toNat) (by omega)
             have hg2 := vec_get (n := l.length) (f := ancB l t.toNat) (k := x.toNat) (by omega)
             have hq1 : decide (t = x) = false := decide_eq_false q1
             refine vc_skip ?_
             try simp only [k_rules]
             refine h34 _ ?_; clear h34; try clear N34
             refine vc_seq_k fun N37 h37 => ?_
             refine vc_block ?_
             refine vc_seq_k fun N38 h38 => ?_
             cases sb <;> cases hax : ancB l t.toNat x.toNat
             ·have hj0 := True.intro
              have hx := And.intro @hte (And.intro @hsb (And.intro @hg1 (And.intro @hg2 (And.intro @hax (And.intro @hq1 (And.intro @eI.eq_1 (And.intro @eB.eq_1 (And.intro @eL.eq_1 hx0))))))))
              refine u_reg ?_
              try refine lg_mk ?_
              refine u_mv ?_
              refine u_mv ?_
              refine u_pt ?_
              refine u_ld ?_
              refine u_mv ?_
              refine u_bn ?_
              refine u_mv ?_
              refine g_mv ?_
              refine g_mv ?_
              refine g_mv ?_
              refine g_pt ?_
              refine g_ld ?_
              refine g_pt ?_
              refine g_ld ?_
              refine g_mv ?_
              refine g_mv ?_
              refine g_mv ?_
              refine g_mv ?_
              refine g_pt ?_
              refine g_ld ?_
              refine g_pt ?_
              refine g_ld ?_
              refine g_mv ?_
              refine g_pt ?_
              refine g_ld ?_
              refine g_pk ?_
              refine u_pk ?_
              refine lg_nil ?_
              have hx := hx0
              refine h38 _ ?_; clear h38; try clear N38
              refine u_cond (fun hb39 => ?_) (fun hb39 => ?_)
              ·first | omega | exact absurd trivial hb39 | contradiction | (simp_all; done)
              ·refine vc_skip ?_
               try simp only [k_rules]
               refine h37 _ ?_; clear h37; try clear N37
               refine u_reg ?_
               try refine lg_mk ?_
               refine u_mv ?_
               refine u_bn ?_
               refine u_mv ?_
               refine lg_nil ?_
               refine h33 _ ⟨j + 1, ?_, ?_, [some 0], ?_⟩
               ·dsimp only
                omega
               ·dsimp only
                omega
               ·dsimp only
                refine ⟨by rfl, ?_, ?_⟩
                ·refine fin_ ?_
                 exact cl_
                ·refine fin_ ?_
                 exact cl_
             ·have hj0 := True.intro
              have hx := And.intro @hte (And.intro @hsb (And.intro @hg1 (And.intro @hg2 (And.intro @hax (And.intro @hq1 (And.intro @eI.eq_1 (And.intro @eB.eq_1 (And.intro @eL.eq_1 hx0))))))))
              refine u_reg ?_
              try refine lg_mk ?_
              refine u_mv ?_
              refine u_mv ?_
              refine u_pt ?_
              refine u_ld ?_
              refine u_mv ?_
              refine u_bn ?_
              refine u_mv ?_
              refine g_mv ?_
              refine g_mv ?_
              refine g_mv ?_
              refine g_pt ?_
              refine g_ld ?_
              refine g_pt ?_
              refine g_ld ?_
              refine g_mv ?_
              refine g_mv ?_
              refine g_mv ?_
              refine g_mv ?_
              refine g_pt ?_
              refine g_ld ?_
              refine g_pt ?_
              refine g_ld ?_
              refine g_mv ?_
              refine g_pt ?_
              refine g_ld ?_
              refine g_pk ?_
              refine u_pk ?_
              refine lg_nil ?_
              have hx := hx0
              refine h38 _ ?_; clear h38; try clear N38
              refine u_cond (fun hb40 => ?_) (fun hb40 => ?_)
              ·first | omega | exact absurd trivial hb40 | contradiction | (simp_all; done)
              ·refine vc_skip ?_
               try simp only [k_rules]
               refine h37 _ ?_; clear h37; try clear N37
               refine u_reg ?_
               try refine lg_mk ?_
               refine u_mv ?_
               refine u_bn ?_
               refine u_mv ?_
               refine lg_nil ?_
               refine h33 _ ⟨j + 1, ?_, ?_, [some 0], ?_⟩
               ·dsimp only
                omega
               ·dsimp only
                omega
               ·dsimp only
                refine ⟨by rfl, ?_, ?_⟩
                ·refine fin_ ?_
                 exact cl_
                ·refine fin_ ?_
                 exact cl_
             ·have hj0 := True.intro
              have hx := And.intro @hte (And.intro @hsb (And.intro @hg1 (And.intro @hg2 (And.intro @hax (And.intro @hq1 (And.intro @eI.eq_1 (And.intro @eB.eq_1 (And.intro @eL.eq_1 hx0))))))))
              refine u_reg ?_
              try refine lg_mk ?_
              refine u_mv ?_
              refine u_mv ?_
              refine u_pt ?_
              refine u_ld ?_
              refine u_mv ?_
              refine u_bn ?_
              refine u_mv ?_
              refine g_mv ?_
              refine g_mv ?_
              refine g_mv ?_
              refine g_pt ?_
              refine g_ld ?_
              refine g_pt ?_
              refine g_ld ?_
              refine g_mv ?_
              refine g_mv ?_
              refine g_mv ?_
              refine g_mv ?_
              refine g_pt ?_
              refine g_ld ?_
              refine g_pt ?_
              refine g_ld ?_
              refine g_mv ?_
              refine g_pt ?_
              refine g_ld ?_
              refine g_pk ?_
              refine u_pk ?_
              refine lg_nil ?_
              have hx := hx0
              refine h38 _ ?_; clear h38; try clear N38
              refine u_cond (fun hb41 => ?_) (fun hb41 => ?_)
              ·first | omega | exact absurd trivial hb41 | contradiction | (simp_all; done)
              ·refine vc_skip ?_
               try simp only [k_rules]
               refine h37 _ ?_; clear h37; try clear N37
               refine u_reg ?_
               try refine lg_mk ?_
               refine u_mv ?_
               refine u_bn ?_
               refine u_mv ?_
               refine lg_nil ?_
               refine h33 _ ⟨j + 1, ?_, ?_, [some 0], ?_⟩
               ·dsimp only
                omega
               ·dsimp only
                omega
               ·dsimp only
                refine ⟨by rfl, ?_, ?_⟩
                ·refine fin_ ?_
                 exact cl_
                ·refine fin_ ?_
                 exact cl_
             ·exact absurd q2 (by rw [hax]; simp)
            ·refine vc_exit ?_
             simp only [k_rules, Nat.reduceEqDiff, reduceIte, eq_self]
             refine h27 _ ?_; clear h27; try clear N27
             refine u_reg ?_
             try refine lg_mk ?_
             refine u_mv ?_
             refine u_bn ?_
             refine u_mv ?_
             refine lg_nil ?_
             refine h23 _ ⟨k + 1, ?_, ?_, [some 0], ?_⟩
             ·dsimp only
              omega
             ·dsimp only
              omega
             ·dsimp only
              refine ⟨by rfl, ?_, ?_⟩
              ·refine fin_ ?_
               exact cl_
              ·refine fin_ ?_
               exact cl_
         ·refine vc_exit ?_
          simp only [k_rules, Nat.reduceEqDiff, reduceIte, eq_self]
          refine h21 _ ?_; clear h21; try clear N21
          have hx := And.intro @hge (And.intro @eL.eq_1 (And.intro @hrdl hx0))
          refine u_reg ?_
          try refine lg_mk ?_
          refine u_mv ?_
          refine u_mv ?_
          refine u_mv ?_
          refine u_pt ?_
          refine u_ld ?_
          refine u_ap ?_
          refine u_mv ?_
          refine lg_nil ?_
          have hx := hx0
          refine h17 _ ?_; clear h17; try clear N17
          refine u_reg ?_
          try refine lg_mk ?_
          refine u_mv ?_
          refine u_bn ?_
          refine u_mv ?_
          refine lg_nil ?_
          have hrd : (rdsT l ss rs (i + 1)).1 = (rdsT l ss rs i).1 ++ (batR l ss rs i) := rfl
          refine h13 _ ⟨i + 1, ?_, ?_, [some 1], ?_⟩
          ·dsimp only
           omega
          ·dsimp only
           omega
          ·dsimp only
           refine ⟨by rfl, ?_, ?_⟩
           ·refine fin_ ?_
            (repeat' apply And.intro) <;> (first | (first | rfl | trivial | (rw [hrd]; simp [rows]; done) | (rw [hrd]; simp; done)) | (first | rfl | exact Or.inr rfl | exact Or.inl rfl | trivial | omega | assumption | (simp; done) | (simp; omega)))
           ·refine fin_ ?_
            (repeat' apply And.intro) <;> (first | (first | rfl | trivial | (rw [hrd]; simp [rows]; done) | (rw [hrd]; simp; done)) | (first | rfl | exact Or.inr rfl | exact Or.inl rfl | trivial | omega | assumption | (simp; done) | (simp; omega)))
      ·refine vc_exit ?_
       simp only [k_rules, Nat.reduceEqDiff, reduceIte, eq_self]
       refine h11 _ ?_; clear h11; try clear N11
       refine vc_seq_k fun N42 h42 => ?_
       refine u_reg ?_
       try refine lg_mk ?_
       refine u_mv ?_
       refine lg_nil ?_
       refine h42 _ ?_; clear h42; try clear N42
       refine vc_ret ?_
       try simp only [k_rules]
       refine fin2_ ?_
       (repeat' apply And.intro) <;> (first | (first | rfl | (simp [*]; done) | (simp_all; done)) | (first | rfl | exact Or.inr rfl | exact Or.inl rfl | trivial | omega | assumption | (simp; done) | (simp; omega)))
   ·have hz : True := trivial
    have hq8 : l.length ≤ 9223372036854775807 ∧ smallC l ∧ ss.length ≤ 9223372036854775807 ∧ rs.length ≤ 9223372036854775807 ∧ ws.length ≤ 9223372036854775807 := ⟨hl, ‹smallC l›, hsl, hrl, hwl⟩
    have hx := And.intro @hz (And.intro @h0 hx0)
    refine u_reg ?_
    try refine lg_mk ?_
    refine u_mv ?_
    refine u_mv ?_
    refine u_mv ?_
    refine u_mv ?_
    have hc := call_rule (E := (E_lawCompl.at_ 147)) (f := 14) (sp := Spec.pure runG) rfl
    have hs := @runG.eq_1
    refine u_hp ?_
    refine u_mv ?_
    refine u_ex ?_
    refine u_ex ?_
    refine u_ex ?_
    refine u_al ?_
    refine u_mv ?_
    refine u_mv ?_
    refine u_st ?_
    refine lg_nil ?_
    have hx := hx0
    refine h5 _ ?_; clear h5; try clear N5
    refine vc_seq_k fun N43 h43 => ?_
    refine vc_seq_k fun N44 h44 => ?_
    have hx := And.intro @hz (And.intro @h0 hx0)
    refine u_reg ?_
    try refine lg_mk ?_
    refine u_pt ?_
    refine u_ld ?_
    refine u_bn ?_
    refine u_mv ?_
    refine g_mv ?_
    refine g_mv ?_
    refine g_mv ?_
    refine g_mv ?_
    have hc := call_rule (E := (E_lawCompl.at_ 147)) (f := 15) (sp := Spec.pure negG) rfl
    have hs := @negG.eq_1
    refine g_cp ?_
    refine g_pt ?_
    refine g_bn ?_
    refine u_pk ?_
    refine lg_nil ?_
    have hx := hx0
    refine h44 _ ?_; clear h44; try clear N44
    refine u_cond (fun hb45 => ?_) (fun hb45 => ?_)
    ·refine vc_seq_k fun N46 h46 => ?_
     refine u_reg ?_
     try refine lg_mk ?_
     refine u_mv ?_
     refine u_ln ?_
     refine u_mv ?_
     refine u_ln ?_
     refine u_bn ?_
     refine u_bn ?_
     refine u_mv ?_
     refine lg_nil ?_
     refine h46 _ ?_; clear h46; try clear N46
     refine vc_ret ?_
     try simp only [k_rules]
     refine fin2_ ?_
     (repeat' apply And.intro) <;> (first | (first | rfl | (simp [*]; done) | (simp_all; done)) | (first | rfl | exact Or.inr rfl | exact Or.inl rfl | trivial | omega | assumption | (simp; done) | (simp; omega)))
    ·first | omega | exact absurd trivial hb45 | contradiction | (simp_all; done)
 ·cases hg

def E_lawTwice : Env Try.prog := E_lawCompl.add 6 (Spec.pure lawNG) lawTwice_meets (by kernel_rfl)
end Go.Proofs.Ytaoifpmifpmhmaa
