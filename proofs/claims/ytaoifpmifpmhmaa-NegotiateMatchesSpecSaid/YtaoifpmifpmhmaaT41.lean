/- Walks, printed by wip/gen/walk.py. -/
import Derived.Test.YtaoifpmifpmhmaaT40
import Derived.Test.YtaoifpmifpmhmaaV4
set_option linter.all false
set_option maxRecDepth 100000
set_option maxHeartbeats 4000000
namespace Go.Proofs.Ytaoifpmifpmhmaa
open Go Go.Vc Go.RowKit
theorem roundsOf_meets : Meets Try.prog 16 (Spec.pure roundsG) := by
 refine meets_fun (E_run.at_ 95) Try.func16 rfl rfl rfl ?_
 intro args p r hg hp
 unfold roundsG at hg
 split at hg
 ·rename_i xs ss rs
  simp only [Option.some.injEq, Prod.mk.injEq] at hg
  obtain ⟨rfl, rfl⟩ := hg
  obtain ⟨he, hf, hg, hv, hsl, hrl⟩ := hp
  generalize dC xs = l at *
  generalize dB ss = ss at *
  generalize dB rs = rs at *
  subst he hf hg
  have hl60 := hv.len
  have ho := ord_all hv l.length (Nat.le_refl _)
  have hol := ho.len
  have hT : (E_run).X = T := rfl
  have hx0 := And.intro @rect_eC (And.intro @dC_rows (And.intro @dI_rows (And.intro @dB_rows (And.intro @vec_len (And.intro @ancR_len @Try.results16)))))
  have hx := hx0
  refine ⟨by rfl, ?_⟩
  intro F W0 hnp hmk
  refine vc_seq_k fun N1 h1 => ?_
  refine u_reg ?_
  try refine lg_mk ?_
  refine u_mv ?_
  refine lg_nil ?_
  refine h1 _ ?_; clear h1; try clear N1
  refine vc_seq_k fun N2 h2 => ?_
  refine u_reg ?_
  try refine lg_mk ?_
  refine u_mv ?_
  have hc := call_rule (E := (E_run.at_ 95)) (f := 39) (sp := Spec.pure orderOfG) rfl
  have hs := @orderOfG.eq_1
  refine u_hp ?_
  refine u_mv ?_
  refine lg_nil ?_
  refine h2 _ ?_; clear h2; try clear N2
  refine vc_seq_k fun N3 h3 => ?_
  refine u_reg ?_
  try refine lg_mk ?_
  refine u_mv ?_
  have hc := call_rule (E := (E_run.at_ 95)) (f := 20) (sp := Spec.pure reachRG) rfl
  have hs := @reachRG.eq_1
  refine u_hp ?_
  refine u_mv ?_
  refine lg_nil ?_
  refine h3 _ ?_; clear h3; try clear N3
  refine vc_seq_k fun N4 h4 => ?_
  refine u_reg ?_
  try refine lg_mk ?_
  refine u_mv ?_
  refine lg_nil ?_
  refine h4 _ ?_; clear h4; try clear N4
  refine vc_seq_k fun N5 h5 => ?_
  refine u_reg ?_
  try refine lg_mk ?_
  refine u_mv ?_
  refine lg_nil ?_
  refine h5 _ ?_; clear h5; try clear N5
  refine vc_seq_k fun N6 h6 => ?_
  refine u_reg ?_
  try refine lg_mk ?_
  refine u_mv ?_
  refine lg_nil ?_
  refine h6 _ ?_; clear h6; try clear N6
  refine vc_block ?_
  refine vc_loop_mk (σ := Nat) (fun s => (fun r => ∀ p, p < r → batR l ss rs p ≠ []) s)
   (fun s => (fun r => [(0, .d (.sl (rows eC l))), (1, .d (.sl (rows eB ss))), (2, .d (.sl (rows eB rs))), (7, .d (.sl (rows eI (orderN l l.length)))), (8, .d (.sl (rows (eL eB) (ancR l l.length)))), (9, .sl 0 0 (rdsT l ss rs r).1.length), (10, .sl 1 0 r), (11, .d (.int .i64 (r : Nat)))]) s)
   (fun s => (fun r => [some (.vec 3 1 (rows eI (rdsT l ss rs r).1)), some (.vec 24 1 (rows (eL eI) (rdsT l ss rs r).2))]) s) (fun s => (fun r => l.length + 1 - r) s) hnp 0 ?_ [none, none] ?_ ?_
  ·dsimp only
   intro p hp; omega
  ·dsimp only
   refine ⟨by rfl, ?_, ?_⟩
   ·refine fin_ ?_
    exact cl_
   ·refine fin_ ?_
    exact cl_
  ·rintro r hinv N7 h7
   dsimp only at hinv ⊢
   have hinv0 := hinv
   have hrl2 := told_r_le hv hinv
   have hsz := sizeR_bnd r
   have hrdl := rds_len l ss rs r
   have htl := nodup_len (told_r (ss := ss) (rs := rs) hv r).nodup (told_r (ss := ss) (rs := rs) hv r).inr
   have hb16 := bat_len l ss rs r
   refine vc_seq_k fun N8 h8 => ?_
   refine vc_block ?_
   refine vc_seq_k fun N9 h9 => ?_
   refine u_reg ?_
   try refine lg_mk ?_
   refine u_mv ?_
   refine lg_nil ?_
   refine h9 _ ?_; clear h9; try clear N9
   refine vc_seq_m (σ := Unit) (fun s => (fun u => True) s)
    (fun s => (fun u => [(0, .d (.sl (rows eC l))), (1, .d (.sl (rows eB ss))), (2, .d (.sl (rows eB rs))), (7, .d (.sl (rows eI (orderN l l.length)))), (8, .d (.sl (rows (eL eB) (ancR l l.length)))), (9, .sl 0 0 (rdsT l ss rs r).1.length), (10, .sl 1 0 r), (11, .d (.int .i64 (r : Nat))), (12, .d (.int .i64 (sizeR r : Nat)))]) s)
    (fun s => (fun u => [some (.vec 3 1 (rows eI (rdsT l ss rs r).1)), some (.vec 24 1 (rows (eL eI) (rdsT l ss rs r).2))]) s) hnp ?_ ?_
   ·rintro u hinv
    dsimp only at hinv ⊢
    refine vc_seq_k fun N11 h11 => ?_
    refine u_reg ?_
    try refine lg_mk ?_
    refine u_mv ?_
    refine lg_nil ?_
    refine h11 _ ?_; clear h11; try clear N11
    refine vc_seq_k fun N12 h12 => ?_
    refine vc_seq_k fun N13 h13 => ?_
    refine u_reg ?_
    try refine lg_mk ?_
    refine u_mv ?_
    refine lg_nil ?_
    refine h13 _ ?_; clear h13; try clear N13
    refine vc_block ?_
    refine vc_loop_mk (σ := Nat) (fun s => (fun i => i ≤ (orderN l l.length).length) s)
     (fun s => (fun i => [(0, .d (.sl (rows eC l))), (1, .d (.sl (rows eB ss))), (2, .d (.sl (rows eB rs))), (7, .d (.sl (rows eI (orderN l l.length)))), (8, .d (.sl (rows (eL eB) (ancR l l.length)))), (9, .sl 0 0 (rdsT l ss rs r).1.length), (10, .sl 1 0 r), (11, .d (.int .i64 (r : Nat))), (12, .d (.int .i64 (sizeR r : Nat))), (13, .sl 2 0 ((((orderN l l.length).take i).filter (openB l ss rs (rdsT l ss rs r).1)).take (sizeR r)).length), (14, .d (.int .i64 (i : Nat)))]) s)
     (fun s => (fun i => [some (.vec 3 1 (rows eI (rdsT l ss rs r).1)), some (.vec 24 1 (rows (eL eI) (rdsT l ss rs r).2)), some (.vec 3 1 (rows eI ((((orderN l l.length).take i).filter (openB l ss rs (rdsT l ss rs r).1)).take (sizeR r))))]) s) (fun s => (fun i => (orderN l l.length).length - i) s) hnp 0 ?_ [some 0, some 1, none] ?_ ?_
    ·dsimp only
     omega
    ·dsimp only
     refine ⟨by rfl, ?_, ?_⟩
     ·refine fin_ ?_
      (repeat' apply And.intro) <;> (first | (first | rfl | trivial | (simp; done) | (simp [rows]; done)) | (first | rfl | exact Or.inr rfl | exact Or.inl rfl | trivial | omega | assumption | (simp; done) | (simp; omega)))
     ·refine fin_ ?_
      (repeat' apply And.intro) <;> (first | (first | rfl | trivial | (simp; done) | (simp [rows]; done)) | (first | rfl | exact Or.inr rfl | exact Or.inl rfl | trivial | omega | assumption | (simp; done) | (simp; omega)))
    ·rintro i hinv N14 h14
     dsimp only at hinv ⊢
     have hi1 := hinv
     have hBl := List.length_take_le (sizeR r) (((orderN l l.length).take i).filter (openB l ss rs (rdsT l ss rs r).1))
     refine vc_seq_k fun N15 h15 => ?_
     refine vc_seq_k fun N16 h16 => ?_
     refine u_reg ?_
     try refine lg_mk ?_
     refine u_mv ?_
     refine u_mv ?_
     refine u_ln ?_
     refine u_bn ?_
     refine u_mv ?_
     refine g_mv ?_
     refine g_ln ?_
     refine g_mv ?_
     refine g_bn ?_
     refine u_pk ?_
     refine lg_nil ?_
     refine h16 _ ?_; clear h16; try clear N16
     refine u_cond (fun hb17 => ?_) (fun hb17 => ?_)
     ·obtain ⟨hin2, hlt2⟩ : i < (orderN l l.length).length ∧ ((((orderN l l.length).take i).filter (openB l ss rs (rdsT l ss rs r).1)).take (sizeR r)).length < sizeR r := by have := hb17; (try simp at this); omega
      obtain ⟨x, hxe⟩ := getE hin2
      have hxr := ho.inr.at hxe
      obtain ⟨rb, hrx⟩ := getE (l := rs) (i := x.toNat) (by omega)
      have hbs := batch_snoc (P := openB l ss rs (rdsT l ss rs r).1) (s := sizeR r) hxe
      refine vc_skip ?_
      try simp only [k_rules]
      refine h15 _ ?_; clear h15; try clear N15
      refine vc_seq_k fun N18 h18 => ?_
      refine vc_block ?_
      refine vc_seq_k fun N19 h19 => ?_
      have hx := And.intro @hxe (And.intro @eI.eq_1 hx0)
      refine u_reg ?_
      try refine lg_mk ?_
      refine u_mv ?_
      refine u_mv ?_
      refine u_pt ?_
      refine u_ld ?_
      refine u_mv ?_
      refine lg_nil ?_
      have hx := hx0
      refine h19 _ ?_; clear h19; try clear N19
      refine vc_seq_k fun N20 h20 => ?_
      have hx := And.intro @hrx (And.intro @eB.eq_1 hx0)
      refine u_reg ?_
      try refine lg_mk ?_
      refine u_mv ?_
      refine u_mv ?_
      refine u_pt ?_
      refine u_ld ?_
      refine u_mv ?_
      refine g_mv ?_
      refine g_mv ?_
      have hc := call_rule (E := (E_run.at_ 95)) (f := 21) (sp := Spec.pure hasG) rfl
      have hs := @hasG.eq_1
      refine g_cp ?_
      refine g_un ?_
      refine u_pk ?_
      refine u_mv ?_
      refine lg_nil ?_
      have hx := hx0
      refine h20 _ ?_; clear h20; try clear N20
      refine vc_seq_k fun N21 h21 => ?_
      refine vc_seq_k fun N22 h22 => ?_
      refine u_reg ?_
      try refine lg_mk ?_
      refine u_mv ?_
      refine lg_nil ?_
      refine h22 _ ?_; clear h22; try clear N22
      refine vc_block ?_
      refine vc_loop_mk (σ := Nat) (fun s => (fun k => k ≤ (rdsT l ss rs r).1.length) s)
       (fun s => (fun k => [(0, .d (.sl (rows eC l))), (1, .d (.sl (rows eB ss))), (2, .d (.sl (rows eB rs))), (7, .d (.sl (rows eI (orderN l l.length)))), (8, .d (.sl (rows (eL eB) (ancR l l.length)))), (9, .sl 0 0 (rdsT l ss rs r).1.length), (10, .sl 1 0 r), (11, .d (.int .i64 (r : Nat))), (12, .d (.int .i64 (sizeR r : Nat))), (13, .sl 2 0 ((((orderN l l.length).take i).filter (openB l ss rs (rdsT l ss rs r).1)).take (sizeR r)).length), (14, .d (.int .i64 (i : Nat))), (15, .d (.int .i64 x)), (16, .d (.bool (rb && !decide (x ∈ (rdsT l ss rs r).1) && !(((rdsT l ss rs r).1.take k).any fun t => ss.getD t.toNat false && ancB l t.toNat x.toNat)))), (17, .d (.int .i64 (k : Nat)))]) s)
       (fun s => (fun k => [some (.vec 3 1 (rows eI (rdsT l ss rs r).1)), some (.vec 24 1 (rows (eL eI) (rdsT l ss rs r).2)), some (.vec 3 1 (rows eI ((((orderN l l.length).take i).filter (openB l ss rs (rdsT l ss rs r).1)).take (sizeR r))))]) s) (fun s => (fun k => (rdsT l ss rs r).1.length - k) s) hnp 0 ?_ [some 0, some 1, some 2] ?_ ?_
      ·dsimp only
       omega
      ·dsimp only
       refine ⟨by rfl, ?_, ?_⟩
       ·refine fin_ ?_
        (repeat' apply And.intro) <;> (first | (first | rfl | trivial | (simp; done)) | (first | rfl | exact Or.inr rfl | exact Or.inl rfl | trivial | omega | assumption | (simp; done) | (simp; omega)))
       ·refine fin_ ?_
        (repeat' apply And.intro) <;> (first | (first | rfl | trivial | (simp; done)) | (first | rfl | exact Or.inr rfl | exact Or.inl rfl | trivial | omega | assumption | (simp; done) | (simp; omega)))
      ·rintro k hinv N23 h23
       dsimp only at hinv ⊢
       have hk1 := hinv
       refine vc_seq_k fun N24 h24 => ?_
       refine vc_seq_k fun N25 h25 => ?_
       refine u_reg ?_
       try refine lg_mk ?_
       refine u_mv ?_
       refine u_mv ?_
       refine u_ln ?_
       refine u_bn ?_
       refine lg_nil ?_
       refine h25 _ ?_; clear h25; try clear N25
       refine u_cond (fun hb26 => ?_) (fun hb26 => ?_)
       ·obtain ⟨t, hte⟩ := getE (l := (rdsT l ss rs r).1) (i := k) (by omega)
        have htr := (told_r (ss := ss) (rs := rs) hv r).inr.at hte
        obtain ⟨sb, hsb⟩ := getE (l := ss) (i := t.toNat) (by omega)
        have hsd : ss.getD t.toNat false = sb := getD_of hsb
        have hg1 := ancR_get (l := l) (m := l.length) (i := t.toNat) (by omega)
        have hg2 := vec_get (n := l.length) (f := ancB l t.toNat) (k := x.toNat) (by omega)
        have hsn := any_snoc hte (fun t => ss.getD t.toNat false && ancB l t.toNat x.toNat)
        rw [hsd] at hsn
        refine vc_skip ?_
        try simp only [k_rules]
        refine h24 _ ?_; clear h24; try clear N24
        refine vc_seq_k fun N27 h27 => ?_
        refine vc_block ?_
        refine vc_seq_k fun N28 h28 => ?_
        have hx := And.intro @hte (And.intro @hsb (And.intro @hg1 (And.intro @hg2 (And.intro @eI.eq_1 (And.intro @eB.eq_1 (And.intro @eL.eq_1 hx0))))))
        refine u_reg ?_
        try refine lg_mk ?_
        refine u_mv ?_
        refine u_mv ?_
        refine u_mv ?_
        refine u_pt ?_
        refine u_ld ?_
        refine u_pt ?_
        refine u_ld ?_
        refine u_mv ?_
        refine g_mv ?_
        refine g_mv ?_
        refine g_mv ?_
        refine g_pt ?_
        refine g_ld ?_
        refine g_pt ?_
        refine g_ld ?_
        refine g_mv ?_
        refine g_pt ?_
        refine g_ld ?_
        refine u_pk ?_
        refine lg_nil ?_
        have hx := hx0
        refine h28 _ ?_; clear h28; try clear N28
        refine u_cond (fun hb29 => ?_) (fun hb29 => ?_)
        ·have hsn2 : (sb && ancB l t.toNat x.toNat) = true := by have := hb29; simpa using this
         rw [hsn2, Bool.or_true] at hsn
         refine u_reg ?_
         try refine lg_mk ?_
         refine u_mv ?_
         refine lg_nil ?_
         refine h27 _ ?_; clear h27; try clear N27
         refine u_reg ?_
         try refine lg_mk ?_
         refine u_mv ?_
         refine u_bn ?_
         refine u_mv ?_
         refine lg_nil ?_
         refine h23 _ ⟨k + 1, ?_, ?_, [some 0, some 1, some 2], ?_⟩
         ·dsimp only
          omega
         ·dsimp only
          omega
         ·dsimp only
          refine ⟨by rfl, ?_, ?_⟩
          ·refine fin_ ?_
           (repeat' apply And.intro) <;> (first | (first | rfl | trivial | (left; rw [hsn]; simp; done) | (rw [hsn]; simp; done)) | (first | rfl | exact Or.inr rfl | exact Or.inl rfl | trivial | omega | assumption | (simp; done) | (simp; omega)))
          ·refine fin_ ?_
           (repeat' apply And.intro) <;> (first | (first | rfl | trivial | (left; rw [hsn]; simp; done) | (rw [hsn]; simp; done)) | (first | rfl | exact Or.inr rfl | exact Or.inl rfl | trivial | omega | assumption | (simp; done) | (simp; omega)))
        ·have hsn2 : (sb && ancB l t.toNat x.toNat) = false := by have := hb29; simpa using this
         rw [hsn2, Bool.or_false] at hsn
         refine vc_skip ?_
         try simp only [k_rules]
         refine h27 _ ?_; clear h27; try clear N27
         refine u_reg ?_
         try refine lg_mk ?_
         refine u_mv ?_
         refine u_bn ?_
         refine u_mv ?_
         refine lg_nil ?_
         refine h23 _ ⟨k + 1, ?_, ?_, [some 0, some 1, some 2], ?_⟩
         ·dsimp only
          omega
         ·dsimp only
          omega
         ·dsimp only
          refine ⟨by rfl, ?_, ?_⟩
          ·refine fin_ ?_
           (repeat' apply And.intro) <;> (first | (first | rfl | trivial | (left; rw [hsn]; done) | (rw [hsn]; done)) | (first | rfl | exact Or.inr rfl | exact Or.inl rfl | trivial | omega | assumption | (simp; done) | (simp; omega)))
          ·refine fin_ ?_
           (repeat' apply And.intro) <;> (first | (first | rfl | trivial | (left; rw [hsn]; done) | (rw [hsn]; done)) | (first | rfl | exact Or.inr rfl | exact Or.inl rfl | trivial | omega | assumption | (simp; done) | (simp; omega)))
       ·have hk : k = (rdsT l ss rs r).1.length := by omega
        subst hk
        rw [List.take_length]
        have hop : (rb && !decide (x ∈ (rdsT l ss rs r).1) && !((rdsT l ss rs r).1.any fun t => ss.getD t.toNat false && ancB l t.toNat x.toNat)) = openB l ss rs (rdsT l ss rs r).1 x := by unfold openB; rw [getD_of hrx]
        rw [hop]
        refine vc_exit ?_
        simp only [k_rules, Nat.reduceEqDiff, reduceIte, eq_self]
        refine h21 _ ?_; clear h21; try clear N21
        refine vc_seq_k fun N30 h30 => ?_
        refine u_reg ?_
        try refine lg_mk ?_
        refine u_mv ?_
        refine lg_nil ?_
        refine h30 _ ?_; clear h30; try clear N30
        refine u_cond (fun hb31 => ?_) (fun hb31 => ?_)
        ·have hcd : openB l ss rs (rdsT l ss rs r).1 x = true := by have := hb31; simpa using this
         refine u_reg ?_
         try refine lg_mk ?_
         refine u_mv ?_
         refine u_mv ?_
         refine u_bs ?_
         refine u_ap ?_
         refine u_mv ?_
         refine lg_nil ?_
         refine h18 _ ?_; clear h18; try clear N18
         refine u_reg ?_
         try refine lg_mk ?_
         refine u_mv ?_
         refine u_bn ?_
         refine u_mv ?_
         refine lg_nil ?_
         rw [if_pos (by simp [hcd]; simpa using hlt2)] at hbs
         refine h14 _ ⟨i + 1, ?_, ?_, [some 0, some 1, some 4], ?_⟩
         ·dsimp only
          omega
         ·dsimp only
          omega
         ·dsimp only
          refine ⟨by rfl, ?_, ?_⟩
          ·refine fin_ ?_
           (repeat' apply And.intro) <;> (first | (first | rfl | trivial | (rw [hbs, List.take_length]; simp [rows, eI]; done) | (rw [hbs]; simp; done)) | (first | rfl | exact Or.inr rfl | exact Or.inl rfl | trivial | omega | assumption | (simp; done) | (simp; omega)))
          ·refine fin_ ?_
           (repeat' apply And.intro) <;> (first | (first | rfl | trivial | (rw [hbs, List.take_length]; simp [rows, eI]; done) | (rw [hbs]; simp; done)) | (first | rfl | exact Or.inr rfl | exact Or.inl rfl | trivial | omega | assumption | (simp; done) | (simp; omega)))
        ·have hcd : openB l ss rs (rdsT l ss rs r).1 x = false := by have := hb31; simpa using this
         refine vc_skip ?_
         try simp only [k_rules]
         refine h18 _ ?_; clear h18; try clear N18
         refine u_reg ?_
         try refine lg_mk ?_
         refine u_mv ?_
         refine u_bn ?_
         refine u_mv ?_
         refine lg_nil ?_
         rw [if_neg (by simp [hcd])] at hbs
         refine h14 _ ⟨i + 1, ?_, ?_, [some 0, some 1, some 2], ?_⟩
         ·dsimp only
          omega
         ·dsimp only
          omega
         ·dsimp only
          refine ⟨by rfl, ?_, ?_⟩
          ·refine fin_ ?_
           (repeat' apply And.intro) <;> (first | (first | rfl | trivial | (rw [hbs]; done)) | (first | rfl | exact Or.inr rfl | exact Or.inl rfl | trivial | omega | assumption | (simp; done) | (simp; omega)))
          ·refine fin_ ?_
           (repeat' apply And.intro) <;> (first | (first | rfl | trivial | (rw [hbs]; done)) | (first | rfl | exact Or.inr rfl | exact Or.inl rfl | trivial | omega | assumption | (simp; done) | (simp; omega)))
     ·have hBe : (((orderN l l.length).take i).filter (openB l ss rs (rdsT l ss rs r).1)).take (sizeR r) = (batR l ss rs r) := by
       have h9 := hb17
       (try simp at h9)
       by_cases hi : i = (orderN l l.length).length
       ·subst hi; rw [List.take_length]; rfl
       ·exact (batch_full (by omega)).symm
      rw [hBe]
      refine vc_exit ?_
      simp only [k_rules, Nat.reduceEqDiff, reduceIte, eq_self]
      refine h12 _ ?_; clear h12; try clear N12
      refine vc_seq_m (σ := Unit) (fun s => (fun u => (batR l ss rs r) ≠ []) s)
       (fun s => (fun u => [(0, .d (.sl (rows eC l))), (1, .d (.sl (rows eB ss))), (2, .d (.sl (rows eB rs))), (7, .d (.sl (rows eI (orderN l l.length)))), (8, .d (.sl (rows (eL eB) (ancR l l.length)))), (9, .sl 0 0 (rdsT l ss rs r).1.length), (10, .sl 1 0 r), (11, .d (.int .i64 (r : Nat))), (13, .d (.sl (rows eI (batR l ss rs r))))]) s)
       (fun s => (fun u => [some (.vec 3 1 (rows eI (rdsT l ss rs r).1)), some (.vec 24 1 (rows (eL eI) (rdsT l ss rs r).2))]) s) hnp ?_ ?_
      ·rintro u hinv
       dsimp only at hinv ⊢
       have hne := hinv
       refine vc_seq_k fun N33 h33 => ?_
       refine u_reg ?_
       try refine lg_mk ?_
       refine u_mv ?_
       refine u_mv ?_
       refine u_bs ?_
       refine u_ap ?_
       refine u_mv ?_
       refine lg_nil ?_
       refine h33 _ ?_; clear h33; try clear N33
       refine u_reg ?_
       try refine lg_mk ?_
       refine u_mv ?_
       refine u_mv ?_
       refine u_ap ?_
       refine u_mv ?_
       refine lg_nil ?_
       refine h8 _ ?_; clear h8; try clear N8
       refine u_reg ?_
       try refine lg_mk ?_
       refine u_mv ?_
       refine u_bn ?_
       refine u_mv ?_
       refine lg_nil ?_
       have hrd : (rdsT l ss rs (r + 1)).1 = (rdsT l ss rs r).1 ++ (batR l ss rs r) := rfl
       have hrd2 : (rdsT l ss rs (r + 1)).2 = (rdsT l ss rs r).2 ++ [(batR l ss rs r)] := rfl
       have htr : List.take r (rdsT l ss rs r).2 = (rdsT l ss rs r).2 := List.take_of_length_le (by omega)
       refine h7 _ ⟨r + 1, ?_, ?_, [some 4, some 3], ?_⟩
       ·dsimp only
        exact lt_snoc hinv0 hne
       ·dsimp only
        omega
       ·dsimp only
        refine ⟨by rfl, ?_, ?_⟩
        ·refine fin_ ?_
         (repeat' apply And.intro) <;> (first | (first | rfl | trivial | (rw [hrd]; simp [rows]; done) | (rw [htr, hrd2]; simp [rows, eL]; done)) | (first | rfl | exact Or.inr rfl | exact Or.inl rfl | trivial | omega | assumption | (simp; done) | (simp; omega)))
        ·refine fin_ ?_
         (repeat' apply And.intro) <;> (first | (first | rfl | trivial | (rw [hrd]; simp [rows]; done) | (rw [htr, hrd2]; simp [rows, eL]; done)) | (first | rfl | exact Or.inr rfl | exact Or.inl rfl | trivial | omega | assumption | (simp; done) | (simp; omega)))
      ·intro N32 h32
       refine vc_seq_k fun N34 h34 => ?_
       refine u_reg ?_
       try refine lg_mk ?_
       refine u_mv ?_
       refine u_ln ?_
       refine u_bn ?_
       refine lg_nil ?_
       refine h34 _ ?_; clear h34; try clear N34
       refine u_cond (fun hb35 => ?_) (fun hb35 => ?_)
       ·have hb0 : (batR l ss rs r) = [] := List.length_eq_zero_iff.1 (by have := hb35; omega)
        have hend := end_at hb0 hrl2 hinv0
        have hrdl := rds_len l ss rs r
        refine vc_seq_k fun N36 h36 => ?_
        refine u_reg ?_
        try refine lg_mk ?_
        refine u_mv ?_
        refine u_mv ?_
        refine lg_nil ?_
        refine h36 _ ?_; clear h36; try clear N36
        refine vc_ret ?_
        try simp only [k_rules]
        rw [hend]
        refine fin2_ ?_
        (repeat' apply And.intro) <;> (first | (first | rfl | exact Or.inl rfl | trivial | exact Nat.le_refl _ | (simp [rows_len, hrdl]; done) | (rw [List.take_of_length_le (by simp [rows_len, hrdl])]; done) | (rw [List.drop_zero, rows_take, List.take_of_length_le (by omega)]; done)) | (first | rfl | exact Or.inr rfl | exact Or.inl rfl | trivial | omega | assumption | (simp; done) | (simp; omega)))
       ·refine vc_skip ?_
        try simp only [k_rules]
        refine h32 _ ⟨(), ?_, [some 0, some 1], ?_⟩
        ·dsimp only
         intro h; have := hb35; rw [h] at this; simp at this
        ·dsimp only
         refine ⟨by rfl, ?_, ?_⟩
         ·refine fin_ ?_
          (repeat' apply And.intro) <;> (first | (first | rfl | trivial | (rw [List.drop_zero, rows_take, List.take_length]; done) | (rw [rows_take, List.take_length]; done) | (simp [rows_len]; done)) | (first | rfl | exact Or.inr rfl | exact Or.inl rfl | trivial | omega | assumption | (simp; done) | (simp; omega)))
         ·refine fin_ ?_
          (repeat' apply And.intro) <;> (first | (first | rfl | trivial | (rw [List.drop_zero, rows_take, List.take_length]; done) | (rw [rows_take, List.take_length]; done) | (simp [rows_len]; done)) | (first | rfl | exact Or.inr rfl | exact Or.inl rfl | trivial | omega | assumption | (simp; done) | (simp; omega)))
   ·intro N10 h10
    refine vc_seq_k fun N37 h37 => ?_
    refine u_reg ?_
    try refine lg_mk ?_
    refine u_mv ?_
    refine u_bn ?_
    refine lg_nil ?_
    refine h37 _ ?_; clear h37; try clear N37
    refine u_cond (fun hb38 => ?_) (fun hb38 => ?_)
    ·have hszT := shl_size (r := r) (by have := hb38; omega)
     have hx := And.intro @hszT hx0
     refine u_reg ?_
     try refine lg_mk ?_
     refine u_mv ?_
     refine u_bn ?_
     refine u_mv ?_
     refine lg_nil ?_
     have hx := hx0
     refine h10 _ ⟨(), trivial, [some 0, some 1], ?_⟩
     ·dsimp only
      refine ⟨by rfl, ?_, ?_⟩
      ·refine fin_ ?_
       exact cl_
      ·refine fin_ ?_
       exact cl_
    ·have hszF := size_16 (r := r) (by have := hb38; omega)
     refine vc_skip ?_
     try simp only [k_rules]
     refine h10 _ ⟨(), trivial, [some 0, some 1], ?_⟩
     ·dsimp only
      refine ⟨by rfl, ?_, ?_⟩
      ·refine fin_ ?_
       (repeat' apply And.intro) <;> (first | (first | rfl | (left; rw [← hszF]; done) | (rw [← hszF]; done)) | (first | rfl | exact Or.inr rfl | exact Or.inl rfl | trivial | omega | assumption | (simp; done) | (simp; omega)))
      ·refine fin_ ?_
       (repeat' apply And.intro) <;> (first | (first | rfl | (left; rw [← hszF]; done) | (rw [← hszF]; done)) | (first | rfl | exact Or.inr rfl | exact Or.inl rfl | trivial | omega | assumption | (simp; done) | (simp; omega)))
 ·cases hg

def E_roundsOf : Env Try.prog := E_run.add 16 (Spec.pure roundsG) roundsOf_meets (by kernel_rfl)
end Go.Proofs.Ytaoifpmifpmhmaa
