/- Walks, printed by wip/gen/walk.py. -/
import Derived.Test.YtaoifpmifpmhmaaT22
import Derived.Test.YtaoifpmifpmhmaaV4
set_option linter.all false
set_option maxRecDepth 100000
set_option maxHeartbeats 4000000
namespace Go.Proofs.Ytaoifpmifpmhmaa
open Go Go.Vc Go.RowKit
theorem lawAnc_meets : Meets Try.prog 11 (Spec.pure lawSG) := by
 refine meets_fun (E_reach3.at_ 120) Try.func11 rfl rfl rfl ?_
 intro args p r hg hp
 unfold lawSG at hg
 split at hg
 ·rename_i xs ys
  simp only [Option.some.injEq, Prod.mk.injEq] at hg
  obtain ⟨rfl, rfl⟩ := hg
  obtain ⟨he, hf, hl, hsm, hn⟩ := hp
  generalize dC xs = l at *
  generalize dI ys = ns at *
  subst he hf
  have hT : (E_reach3).X = T := rfl
  have hx0 := And.intro @rect_eC (And.intro @dC_rows (And.intro @dI_rows (And.intro @dec_t (And.intro @dec_f (And.intro @ancR_len (And.intro @vec_len @Try.results11))))))
  have hx := hx0
  refine ⟨by rfl, ?_⟩
  intro F W0 hnp hmk
  refine vc_seq_k fun N1 h1 => ?_
  refine u_reg ?_
  try refine lg_mk ?_
  refine u_mv ?_
  refine lg_nil ?_
  refine h1 _ ?_; clear h1; try clear N1
  refine vc_seq_k fun N2 h2 => ?_
  refine vc_seq_k fun N3 h3 => ?_
  refine u_reg ?_
  try refine lg_mk ?_
  have hc := call_rule (E := (E_reach3.at_ 120)) (f := 22) (sp := Spec.pure exampleG) rfl
  have hs := @exampleG.eq_1
  refine u_cp ?_
  refine u_un ?_
  refine lg_nil ?_
  refine h3 _ ?_; clear h3; try clear N3
  refine u_cond (fun hb4 => ?_) (fun hb4 => ?_)
  ·first | omega | exact absurd trivial hb4 | contradiction | (simp_all; done)
  ·refine vc_skip ?_
   try simp only [k_rules]
   refine h2 _ ?_; clear h2; try clear N2
   refine vc_seq_k fun N5 h5 => ?_
   by_cases h0 : (selF l ns).1 = 0
   ·have hz := selF_zero h0
    have hsel := sel_of h0
    have hl60 := hsel.val.len
    have hnl := hsel.len
    have hbl := bnd_len (l := l) (ns := ns)
    have hxl := exR_len l ns
    have hxs := small_ex hsel
    have hd1 := True.intro
    have hd2 := True.intro
    have hq4 : (exR l ns).length ≤ 9223372036854775807 ∧ (exR l ns).length ≤ 9223372036854775807 ∧ smallC (exR l ns) ∧ smallC (exR l ns) := ⟨by omega, by omega, hxs, hxs⟩
    have hq5 : l.length ≤ 9223372036854775807 ∧ smallC l ∧ ns.length ≤ 9223372036854775807 := ⟨hl, ‹smallC l›, hn⟩
    have hq6 : (exR l ns).length ≤ 9223372036854775807 ∧ smallC (exR l ns) := ⟨by omega, hxs⟩
    have hxz := histF_valid (ex_valid hsel)
    have hxv := ex_valid hsel
    have hx := And.intro @hz (And.intro @h0 hx0)
    refine u_reg ?_
    try refine lg_mk ?_
    refine u_mv ?_
    refine u_mv ?_
    have hc := call_rule (E := (E_reach3.at_ 120)) (f := 29) (sp := Spec.pure exG) rfl
    have hs := @exG.eq_1
    refine u_hp (hq := by (first | (exact ⟨hl, ‹smallC l›, by omega⟩) | (first | trivial | omega | assumption | (unfold inI64; omega) | ((repeat' apply And.intro) <;> first | rfl | trivial | omega | assumption | (unfold inI64; omega)) | (simp; done) | (simp; omega)))) ?_
    refine u_mv ?_
    refine u_ex ?_
    refine u_ex ?_
    refine u_al ?_
    refine u_mv ?_
    refine u_st ?_
    refine lg_nil ?_
    have hx := hx0
    refine h5 _ ?_; clear h5; try clear N5
    refine vc_seq_k fun N6 h6 => ?_
    have hx := And.intro @hz (And.intro @h0 hx0)
    refine u_reg ?_
    try refine lg_mk ?_
    refine u_mv ?_
    refine u_mv ?_
    have hc := call_rule (E := (E_reach3.at_ 120)) (f := 27) (sp := Spec.pure bndG) rfl
    have hs := @bndG.eq_1
    refine u_hp (hq := by (first | (exact ⟨hl, ‹smallC l›, by omega⟩) | (first | trivial | omega | assumption | (unfold inI64; omega) | ((repeat' apply And.intro) <;> first | rfl | trivial | omega | assumption | (unfold inI64; omega)) | (simp; done) | (simp; omega)))) ?_
    refine u_mv ?_
    refine u_ex ?_
    refine u_ex ?_
    refine u_al ?_
    refine u_mv ?_
    refine u_st ?_
    refine lg_nil ?_
    have hx := hx0
    refine h6 _ ?_; clear h6; try clear N6
    refine vc_seq_k fun N7 h7 => ?_
    refine vc_seq_k fun N8 h8 => ?_
    have hx := And.intro @hz (And.intro @h0 hx0)
    refine u_reg ?_
    try refine lg_mk ?_
    refine u_pt ?_
    refine u_ld ?_
    refine u_bn ?_
    refine u_mv ?_
    refine g_pt ?_
    refine g_ld ?_
    refine g_bn ?_
    refine u_pk ?_
    refine u_mv ?_
    refine g_mv ?_
    refine g_mv ?_
    have hc := call_rule (E := (E_reach3.at_ 120)) (f := 30) (sp := Spec.pure selG) rfl
    have hs := @selG.eq_1
    refine g_cp ?_
    refine g_pt ?_
    refine g_bn ?_
    refine u_pk ?_
    refine lg_nil ?_
    have hx := hx0
    refine h8 _ ?_; clear h8; try clear N8
    refine u_cond (fun hb9 => ?_) (fun hb9 => ?_)
    ·first | omega | exact absurd trivial hb9 | contradiction | (simp_all; done)
    ·refine vc_skip ?_
     try simp only [k_rules]
     refine h7 _ ?_; clear h7; try clear N7
     refine vc_seq_k fun N10 h10 => ?_
     refine vc_seq_k fun N11 h11 => ?_
     have hx := And.intro @hxl (And.intro @hxz hx0)
     refine u_reg ?_
     try refine lg_mk ?_
     refine u_mv ?_
     refine u_ln ?_
     refine u_mv ?_
     refine u_ln ?_
     refine u_bn ?_
     refine u_mv ?_
     refine g_mv ?_
     have hc := call_rule (E := (E_reach3.at_ 120)) (f := 24) (sp := Spec.pure histG) rfl
     have hs := @histG.eq_1
     refine g_cp ?_
     refine g_pt ?_
     refine g_bn ?_
     refine u_pk ?_
     refine lg_nil ?_
     have hx := hx0
     refine h11 _ ?_; clear h11; try clear N11
     refine u_cond (fun hb12 => ?_) (fun hb12 => ?_)
     ·first | omega | exact absurd trivial hb12 | contradiction | (simp_all; done)
     ·refine vc_skip ?_
      try simp only [k_rules]
      refine h10 _ ?_; clear h10; try clear N10
      refine vc_seq_k fun N13 h13 => ?_
      refine u_reg ?_
      try refine lg_mk ?_
      refine u_mv ?_
      have hc := call_rule (E := (E_reach3.at_ 120)) (f := 20) (sp := Spec.pure reachRG) rfl
      have hs := @reachRG.eq_1
      refine u_hp (hq := by (first | (exact hsel.val) | (first | trivial | omega | assumption | (unfold inI64; omega) | ((repeat' apply And.intro) <;> first | rfl | trivial | omega | assumption | (unfold inI64; omega)) | (simp; done) | (simp; omega)))) ?_
      refine u_mv ?_
      have hc := call_rule (E := (E_reach3.at_ 120)) (f := 20) (sp := Spec.pure reachRG) rfl
      have hs := @reachRG.eq_1
      refine u_hp (hq := by (first | (exact hxv) | (first | trivial | omega | assumption | (unfold inI64; omega) | ((repeat' apply And.intro) <;> first | rfl | trivial | omega | assumption | (unfold inI64; omega)) | (simp; done) | (simp; omega)))) ?_
      refine u_mv ?_
      refine u_mv ?_
      refine lg_nil ?_
      refine h13 _ ?_; clear h13; try clear N13
      refine vc_seq_k fun N14 h14 => ?_
      refine vc_seq_k fun N15 h15 => ?_
      refine u_reg ?_
      try refine lg_mk ?_
      refine u_mv ?_
      refine lg_nil ?_
      refine h15 _ ?_; clear h15; try clear N15
      refine vc_block ?_
      refine vc_loop_mk (σ := Nat) (fun s => (fun i => i ≤ (exR l ns).length) s)
       (fun s => (fun i => [(0, .d (.sl (rows eC l))), (1, .d (.sl (rows eI ns))), (5, .d (.sl (rows eC (exR l ns)))), (7, .d (.sl (rows eI (bndR l ns)))), (9, .d (.sl (rows (eL eB) (ancR l l.length)))), (10, .d (.sl (rows (eL eB) (ancR (exR l ns) (exR l ns).length)))), (11, .d (.int .i64 (i : Nat)))]) s)
       (fun s => (fun i => []) s) (fun s => (fun i => (exR l ns).length - i) s) hnp 0 ?_ [] ?_ ?_
      ·dsimp only
       omega
      ·dsimp only
       refine ⟨by rfl, ?_, ?_⟩
       ·refine fin_ ?_
        exact cl_
       ·refine fin_ ?_
        exact cl_
      ·rintro i hinv N16 h16
       dsimp only at hinv ⊢
       have hi1 := hinv
       refine vc_seq_k fun N17 h17 => ?_
       refine vc_seq_k fun N18 h18 => ?_
       refine u_reg ?_
       try refine lg_mk ?_
       refine u_mv ?_
       refine u_mv ?_
       refine u_ln ?_
       refine u_bn ?_
       refine lg_nil ?_
       refine h18 _ ?_; clear h18; try clear N18
       refine u_cond (fun hb19 => ?_) (fun hb19 => ?_)
       ·refine vc_skip ?_
        try simp only [k_rules]
        refine h17 _ ?_; clear h17; try clear N17
        refine vc_seq_k fun N20 h20 => ?_
        refine vc_block ?_
        refine vc_seq_k fun N21 h21 => ?_
        refine u_reg ?_
        try refine lg_mk ?_
        refine u_mv ?_
        refine lg_nil ?_
        refine h21 _ ?_; clear h21; try clear N21
        refine vc_block ?_
        refine vc_loop_mk (σ := Nat) (fun s => (fun k => k ≤ (exR l ns).length) s)
         (fun s => (fun k => [(0, .d (.sl (rows eC l))), (1, .d (.sl (rows eI ns))), (5, .d (.sl (rows eC (exR l ns)))), (7, .d (.sl (rows eI (bndR l ns)))), (9, .d (.sl (rows (eL eB) (ancR l l.length)))), (10, .d (.sl (rows (eL eB) (ancR (exR l ns) (exR l ns).length)))), (11, .d (.int .i64 (i : Nat))), (12, .d (.int .i64 (k : Nat)))]) s)
         (fun s => (fun k => []) s) (fun s => (fun k => (exR l ns).length - k) s) hnp 0 ?_ [] ?_ ?_
        ·dsimp only
         omega
        ·dsimp only
         refine ⟨by rfl, ?_, ?_⟩
         ·refine fin_ ?_
          exact cl_
         ·refine fin_ ?_
          exact cl_
        ·rintro k hinv N22 h22
         dsimp only at hinv ⊢
         have hk1 := hinv
         refine vc_seq_k fun N23 h23 => ?_
         refine vc_seq_k fun N24 h24 => ?_
         refine u_reg ?_
         try refine lg_mk ?_
         refine u_mv ?_
         refine u_mv ?_
         refine u_ln ?_
         refine u_bn ?_
         refine lg_nil ?_
         refine h24 _ ?_; clear h24; try clear N24
         refine u_cond (fun hb25 => ?_) (fun hb25 => ?_)
         ·obtain ⟨x, hxe⟩ := getE (l := ns) (i := i) (by omega)
          obtain ⟨y, hye⟩ := getE (l := ns) (i := k) (by omega)
          have hxr := hsel.inr.at hxe
          have hyr := hsel.inr.at hye
          have hg1 := ancR_get (l := l) (m := l.length) (i := x.toNat) (by omega)
          have hg2 := vec_get (n := l.length) (f := ancB l x.toNat) (k := y.toNat) (by omega)
          have hg3 := ancR_get (l := exR l ns) (m := (exR l ns).length) (i := i) (by omega)
          have hg4 := vec_get (n := (exR l ns).length) (f := ancB (exR l ns) i) (k := k) (by omega)
          have hkp := ex_keeps hsel hxe hye
          have hkb := keeps_bool hkp.1 hkp.2
          refine vc_skip ?_
          try simp only [k_rules]
          refine h23 _ ?_; clear h23; try clear N23
          refine vc_seq_k fun N26 h26 => ?_
          refine vc_block ?_
          refine vc_seq_k fun N27 h27 => ?_
          have hx := And.intro @hxe (And.intro @hye (And.intro @hg1 (And.intro @hg2 (And.intro @eI.eq_1 (And.intro @eB.eq_1 (And.intro @eL.eq_1 hx0))))))
          refine u_reg ?_
          try refine lg_mk ?_
          refine u_mv ?_
          refine u_mv ?_
          refine u_mv ?_
          refine u_pt ?_
          refine u_ld ?_
          refine u_pt ?_
          refine u_ld ?_
          refine u_mv ?_
          refine u_mv ?_
          refine u_pt ?_
          refine u_ld ?_
          refine u_pt ?_
          refine u_ld ?_
          refine u_mv ?_
          refine lg_nil ?_
          have hx := hx0
          refine h27 _ ?_; clear h27; try clear N27
          refine vc_seq_k fun N28 h28 => ?_
          cases hu : ancB (exR l ns) i k <;> cases his : ancB l x.toNat y.toNat
          ·have hj := True.intro
           have hx := And.intro @hg3 (And.intro @hg4 (And.intro @eB.eq_1 (And.intro @eL.eq_1 (And.intro @hu (And.intro @his hx0)))))
           refine u_reg ?_
           try refine lg_mk ?_
           refine u_mv ?_
           refine u_mv ?_
           refine u_pt ?_
           refine u_ld ?_
           refine u_mv ?_
           refine u_pt ?_
           refine u_ld ?_
           refine u_mv ?_
           refine g_mv ?_
           refine g_un ?_
           refine u_pk ?_
           refine u_mv ?_
           refine g_mv ?_
           refine g_mv ?_
           refine g_mv ?_
           refine g_mv ?_
           refine g_pt ?_
           refine g_ld ?_
           refine g_mv ?_
           refine g_pt ?_
           refine g_ld ?_
           refine g_un ?_
           refine g_pk ?_
           refine g_mv ?_
           refine g_mv ?_
           refine g_ln ?_
           refine g_bn ?_
           refine g_pk ?_
           refine u_pk ?_
           refine lg_nil ?_
           have hx := hx0
           refine h28 _ ?_; clear h28; try clear N28
           refine u_cond (fun hb29 => ?_) (fun hb29 => ?_)
           ·have h9 := hb29
            first | contradiction | (simp at h9; done) | (have h8 := hj (by (try simp at h9); omega) his; rw [hu] at h8; cases h8)
           ·refine vc_skip ?_
            try simp only [k_rules]
            refine h26 _ ?_; clear h26; try clear N26
            refine u_reg ?_
            try refine lg_mk ?_
            refine u_mv ?_
            refine u_bn ?_
            refine u_mv ?_
            refine lg_nil ?_
            refine h22 _ ⟨k + 1, ?_, ?_, [], ?_⟩
            ·dsimp only
             omega
            ·dsimp only
             omega
            ·dsimp only
             refine ⟨by rfl, ?_, ?_⟩
             ·refine fin_ ?_
              exact cl_
             ·refine fin_ ?_
              exact cl_
          ·have hj := hkp.2
           have hx := And.intro @hg3 (And.intro @hg4 (And.intro @eB.eq_1 (And.intro @eL.eq_1 (And.intro @hu (And.intro @his hx0)))))
           refine u_reg ?_
           try refine lg_mk ?_
           refine u_mv ?_
           refine u_mv ?_
           refine u_pt ?_
           refine u_ld ?_
           refine u_mv ?_
           refine u_pt ?_
           refine u_ld ?_
           refine u_mv ?_
           refine g_mv ?_
           refine g_un ?_
           refine u_pk ?_
           refine u_mv ?_
           refine g_mv ?_
           refine g_mv ?_
           refine g_mv ?_
           refine g_mv ?_
           refine g_pt ?_
           refine g_ld ?_
           refine g_mv ?_
           refine g_pt ?_
           refine g_ld ?_
           refine g_un ?_
           refine g_pk ?_
           refine g_mv ?_
           refine g_mv ?_
           refine g_ln ?_
           refine g_bn ?_
           refine g_pk ?_
           refine u_pk ?_
           refine lg_nil ?_
           have hx := hx0
           refine h28 _ ?_; clear h28; try clear N28
           refine u_cond (fun hb30 => ?_) (fun hb30 => ?_)
           ·have h9 := hb30
            first | contradiction | (simp at h9; done) | (have h8 := hj (by (try simp at h9); omega) his; rw [hu] at h8; cases h8)
           ·refine vc_skip ?_
            try simp only [k_rules]
            refine h26 _ ?_; clear h26; try clear N26
            refine u_reg ?_
            try refine lg_mk ?_
            refine u_mv ?_
            refine u_bn ?_
            refine u_mv ?_
            refine lg_nil ?_
            refine h22 _ ⟨k + 1, ?_, ?_, [], ?_⟩
            ·dsimp only
             omega
            ·dsimp only
             omega
            ·dsimp only
             refine ⟨by rfl, ?_, ?_⟩
             ·refine fin_ ?_
              exact cl_
             ·refine fin_ ?_
              exact cl_
          ·exact absurd (hkp.1 hu) (by rw [his]; simp)
          ·have hj := True.intro
           have hx := And.intro @hg3 (And.intro @hg4 (And.intro @eB.eq_1 (And.intro @eL.eq_1 (And.intro @hu (And.intro @his hx0)))))
           refine u_reg ?_
           try refine lg_mk ?_
           refine u_mv ?_
           refine u_mv ?_
           refine u_pt ?_
           refine u_ld ?_
           refine u_mv ?_
           refine u_pt ?_
           refine u_ld ?_
           refine u_mv ?_
           refine g_mv ?_
           refine g_un ?_
           refine u_pk ?_
           refine u_mv ?_
           refine g_mv ?_
           refine g_mv ?_
           refine g_mv ?_
           refine g_mv ?_
           refine g_pt ?_
           refine g_ld ?_
           refine g_mv ?_
           refine g_pt ?_
           refine g_ld ?_
           refine g_un ?_
           refine g_pk ?_
           refine g_mv ?_
           refine g_mv ?_
           refine g_ln ?_
           refine g_bn ?_
           refine g_pk ?_
           refine u_pk ?_
           refine lg_nil ?_
           have hx := hx0
           refine h28 _ ?_; clear h28; try clear N28
           refine u_cond (fun hb31 => ?_) (fun hb31 => ?_)
           ·have h9 := hb31
            first | contradiction | (simp at h9; done) | (have h8 := hj (by (try simp at h9); omega) his; rw [hu] at h8; cases h8)
           ·refine vc_skip ?_
            try simp only [k_rules]
            refine h26 _ ?_; clear h26; try clear N26
            refine u_reg ?_
            try refine lg_mk ?_
            refine u_mv ?_
            refine u_bn ?_
            refine u_mv ?_
            refine lg_nil ?_
            refine h22 _ ⟨k + 1, ?_, ?_, [], ?_⟩
            ·dsimp only
             omega
            ·dsimp only
             omega
            ·dsimp only
             refine ⟨by rfl, ?_, ?_⟩
             ·refine fin_ ?_
              exact cl_
             ·refine fin_ ?_
              exact cl_
         ·refine vc_exit ?_
          simp only [k_rules, Nat.reduceEqDiff, reduceIte, eq_self]
          refine h20 _ ?_; clear h20; try clear N20
          refine u_reg ?_
          try refine lg_mk ?_
          refine u_mv ?_
          refine u_bn ?_
          refine u_mv ?_
          refine lg_nil ?_
          refine h16 _ ⟨i + 1, ?_, ?_, [], ?_⟩
          ·dsimp only
           omega
          ·dsimp only
           omega
          ·dsimp only
           refine ⟨by rfl, ?_, ?_⟩
           ·refine fin_ ?_
            exact cl_
           ·refine fin_ ?_
            exact cl_
       ·refine vc_exit ?_
        simp only [k_rules, Nat.reduceEqDiff, reduceIte, eq_self]
        refine h14 _ ?_; clear h14; try clear N14
        refine vc_seq_k fun N32 h32 => ?_
        refine u_reg ?_
        try refine lg_mk ?_
        refine u_mv ?_
        refine lg_nil ?_
        refine h32 _ ?_; clear h32; try clear N32
        refine vc_ret ?_
        try simp only [k_rules]
        refine fin2_ ?_
        (repeat' apply And.intro) <;> (first | (first | rfl | (simp [*]; done) | (simp_all; done)) | (first | rfl | exact Or.inr rfl | exact Or.inl rfl | trivial | omega | assumption | (simp; done) | (simp; omega)))
   ·have hz : True := trivial
    have hxz := True.intro
    have hxl := True.intro
    have hq5 : l.length ≤ 9223372036854775807 ∧ smallC l ∧ ns.length ≤ 9223372036854775807 := ⟨hl, ‹smallC l›, hn⟩
    have hx := And.intro @hz (And.intro @h0 hx0)
    refine u_reg ?_
    try refine lg_mk ?_
    refine u_mv ?_
    refine u_mv ?_
    have hc := call_rule (E := (E_reach3.at_ 120)) (f := 29) (sp := Spec.pure exG) rfl
    have hs := @exG.eq_1
    refine u_hp (hq := by (first | (exact ⟨hl, ‹smallC l›, by omega⟩) | (first | trivial | omega | assumption | (unfold inI64; omega) | ((repeat' apply And.intro) <;> first | rfl | trivial | omega | assumption | (unfold inI64; omega)) | (simp; done) | (simp; omega)))) ?_
    refine u_mv ?_
    refine u_ex ?_
    refine u_ex ?_
    refine u_al ?_
    refine u_mv ?_
    refine u_st ?_
    refine lg_nil ?_
    have hx := hx0
    refine h5 _ ?_; clear h5; try clear N5
    refine vc_seq_k fun N33 h33 => ?_
    have hx := And.intro @hz (And.intro @h0 hx0)
    refine u_reg ?_
    try refine lg_mk ?_
    refine u_mv ?_
    refine u_mv ?_
    have hc := call_rule (E := (E_reach3.at_ 120)) (f := 27) (sp := Spec.pure bndG) rfl
    have hs := @bndG.eq_1
    refine u_hp (hq := by (first | (exact ⟨hl, ‹smallC l›, by omega⟩) | (first | trivial | omega | assumption | (unfold inI64; omega) | ((repeat' apply And.intro) <;> first | rfl | trivial | omega | assumption | (unfold inI64; omega)) | (simp; done) | (simp; omega)))) ?_
    refine u_mv ?_
    refine u_ex ?_
    refine u_ex ?_
    refine u_al ?_
    refine u_mv ?_
    refine u_st ?_
    refine lg_nil ?_
    have hx := hx0
    refine h33 _ ?_; clear h33; try clear N33
    refine vc_seq_k fun N34 h34 => ?_
    refine vc_seq_k fun N35 h35 => ?_
    have hx := And.intro @hz (And.intro @h0 hx0)
    refine u_reg ?_
    try refine lg_mk ?_
    refine u_pt ?_
    refine u_ld ?_
    refine u_bn ?_
    refine u_mv ?_
    refine g_pt ?_
    refine g_ld ?_
    refine g_bn ?_
    refine u_pk ?_
    refine u_mv ?_
    refine g_mv ?_
    refine g_mv ?_
    have hc := call_rule (E := (E_reach3.at_ 120)) (f := 30) (sp := Spec.pure selG) rfl
    have hs := @selG.eq_1
    refine g_cp ?_
    refine g_pt ?_
    refine g_bn ?_
    refine u_pk ?_
    refine lg_nil ?_
    have hx := hx0
    refine h35 _ ?_; clear h35; try clear N35
    refine u_cond (fun hb36 => ?_) (fun hb36 => ?_)
    ·refine vc_seq_k fun N37 h37 => ?_
     refine u_reg ?_
     try refine lg_mk ?_
     refine u_ld ?_
     refine u_ld ?_
     refine u_bn ?_
     refine u_mv ?_
     refine g_mv ?_
     refine g_ln ?_
     refine g_bn ?_
     refine u_pk ?_
     refine u_mv ?_
     refine lg_nil ?_
     refine h37 _ ?_; clear h37; try clear N37
     refine vc_ret ?_
     try simp only [k_rules]
     refine fin2_ ?_
     (repeat' apply And.intro) <;> (first | (first | rfl | (simp [*]; done) | (simp_all; done)) | (first | rfl | exact Or.inr rfl | exact Or.inl rfl | trivial | omega | assumption | (simp; done) | (simp; omega)))
    ·first | omega | exact absurd trivial hb36 | contradiction | (simp_all; done)
 ·cases hg

def E_lawAnc : Env Try.prog := E_reach3.add 11 (Spec.pure lawSG) lawAnc_meets (by kernel_rfl)
end Go.Proofs.Ytaoifpmifpmhmaa
