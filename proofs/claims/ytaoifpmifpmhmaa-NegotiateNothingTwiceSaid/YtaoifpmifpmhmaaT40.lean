/- Walks, printed by wip/gen/walk.py. -/
import Derived.Test.YtaoifpmifpmhmaaT39
import Derived.Test.YtaoifpmifpmhmaaV4
set_option linter.all false
set_option maxRecDepth 100000
set_option maxHeartbeats 4000000
namespace Go.Proofs.Ytaoifpmifpmhmaa
open Go Go.Vc Go.RowKit
theorem run_meets : Meets Try.prog 14 (Spec.pure runG) := by
 refine meets_fun (E_missing.at_ 132) Try.func14 rfl rfl rfl ?_
 intro args p r hg hp
 unfold runG at hg
 split at hg
 ·rename_i xs ss rs ws
  simp only [Option.some.injEq, Prod.mk.injEq] at hg
  obtain ⟨rfl, rfl⟩ := hg
  obtain ⟨he, hf, hg, hw, hl, hs, hsl, hrl, hwl⟩ := hp
  generalize dC xs = l at *
  generalize dB ss = ss at *
  generalize dB rs = rs at *
  generalize dI ws = ws at *
  subst he hf hg hw
  have hT : (E_missing).X = T := rfl
  have hx0 := And.intro @rect_eC (And.intro @dC_rows (And.intro @dI_rows (And.intro @dB_rows (And.intro @vec_len @Try.results14))))
  have hx := hx0
  refine ⟨by rfl, ?_⟩
  intro F W0 hnp hmk
  refine vc_seq_k fun N1 h1 => ?_
  refine u_reg ?_
  try refine lg_mk ?_
  refine u_mv ?_
  refine u_mv ?_
  refine u_al ?_
  refine lg_nil ?_
  refine h1 _ ?_; clear h1; try clear N1
  refine vc_seq_k fun N2 h2 => ?_
  refine vc_seq_k fun N3 h3 => ?_
  by_cases h0 : (negF l ss rs ws).1 = 0
  ·obtain ⟨hneg, hz⟩ := neg_of h0
   have hv := hneg.val
   have hl60 := hv.len
   have hsl2 := hneg.sl
   have hrl2 := hneg.rl
   have hwf := hneg.few
   have hwr := hneg.inr
   have hx := And.intro @hz hx0
   refine u_reg ?_
   try refine lg_mk ?_
   refine u_mv ?_
   refine u_mv ?_
   refine u_mv ?_
   refine u_mv ?_
   have hc := call_rule (E := (E_missing.at_ 132)) (f := 35) (sp := Spec.pure negG) rfl
   have hs := @negG.eq_1
   refine u_cp ?_
   refine u_al ?_
   refine u_st ?_
   refine lg_nil ?_
   have hx := hx0
   refine h3 _ ?_; clear h3; try clear N3
   refine vc_seq_k fun N4 h4 => ?_
   refine u_reg ?_
   try refine lg_mk ?_
   refine u_ld ?_
   refine u_bd ?_
   refine u_bn ?_
   refine lg_nil ?_
   refine h4 _ ?_; clear h4; try clear N4
   refine u_cond (fun hb5 => ?_) (fun hb5 => ?_)
   ·first | omega | exact absurd trivial hb5 | contradiction | (simp_all; done)
   ·refine vc_skip ?_
    try simp only [k_rules]
    refine h2 _ ?_; clear h2; try clear N2
    refine vc_seq_k fun N6 h6 => ?_
    refine u_reg ?_
    try refine lg_mk ?_
    refine u_mv ?_
    have hc := call_rule (E := (E_missing.at_ 132)) (f := 37) (sp := Spec.pure orderG) rfl
    have hs := @orderG.eq_1
    refine u_hp (hq := by (first | (exact ⟨hneg.hist, by assumption⟩) | (first | trivial | omega | assumption | (unfold inI64; omega) | ((repeat' apply And.intro) <;> first | rfl | trivial | omega | assumption | (unfold inI64; omega)) | (simp; done) | (simp; omega)))) ?_
    refine u_mv ?_
    refine u_ex ?_
    refine u_ex ?_
    refine u_al ?_
    refine u_mv ?_
    refine u_st ?_
    refine lg_nil ?_
    refine h6 _ ?_; clear h6; try clear N6
    refine vc_seq_m (σ := Unit) (fun s => (fun u => True) s)
     (fun s => (fun u => [(0, .d (.sl (rows eC l))), (1, .d (.sl (rows eB ss))), (2, .d (.sl (rows eB rs))), (3, .d (.sl (rows eI ws))), (10, .ptr 0 0 0), (12, .d (.sl (rows eI (orderN l l.length)))), (14, .sl 1 0 l.length), (15, .sl 2 0 l.length)]) s)
     (fun s => (fun u => [some (.one 27 [.d (.int .i64 0), .d (.int .i64 0)]), some (.vec 4 1 (rows eB (vec l.length (comV l ss [])))), some (.vec 4 1 (rows eB (vec l.length (mark []))))]) s) hnp ?_ ?_
    ·rintro u hinv
     dsimp only at hinv ⊢
     have ho := ord_all hv l.length (Nat.le_refl _)
     have hol := ho.len
     refine vc_seq_k fun N8 h8 => ?_
     refine u_reg ?_
     try refine lg_mk ?_
     refine u_mv ?_
     refine lg_nil ?_
     refine h8 _ ?_; clear h8; try clear N8
     refine vc_seq_k fun N9 h9 => ?_
     refine u_reg ?_
     try refine lg_mk ?_
     refine u_mv ?_
     refine lg_nil ?_
     refine h9 _ ?_; clear h9; try clear N9
     refine vc_block ?_
     refine vc_loop_mk (σ := Nat) (fun s => (fun r => ∀ p, p < r → batR l ss rs p ≠ []) s)
      (fun s => (fun r => [(0, .d (.sl (rows eC l))), (1, .d (.sl (rows eB ss))), (2, .d (.sl (rows eB rs))), (3, .d (.sl (rows eI ws))), (10, .ptr 0 0 0), (12, .d (.sl (rows eI (orderN l l.length)))), (14, .sl 1 0 l.length), (15, .sl 2 0 l.length), (16, .sl 3 0 r), (17, .d (.int .i64 (sizeR r : Nat)))]) s)
      (fun s => (fun r => [some (.one 27 [.d (.int .i64 0), .d (.int .i64 0)]), some (.vec 4 1 (rows eB (vec l.length (comV l ss ((rdsT l ss rs r).1))))), some (.vec 4 1 (rows eB (vec l.length (mark ((rdsT l ss rs r).1))))), some (.vec 24 1 (rows (eL eI) (rdsT l ss rs r).2))]) s) (fun s => (fun r => l.length + 1 - r) s) hnp 0 ?_ [some 0, some 1, some 2, none] ?_ ?_
     ·dsimp only
      intro p hp; omega
     ·dsimp only
      refine ⟨by rfl, ?_, ?_⟩
      ·refine fin_ ?_
       exact cl_
      ·refine fin_ ?_
       exact cl_
     ·rintro r hinv N10 h10
      dsimp only at hinv ⊢
      have hinv0 := hinv
      have hrl := told_r_le hv hinv
      have hsz := sizeR_bnd r
      have hss := sizeR_succ r
      have hrdl := rds_len l ss rs r
      have hb16 := bat_len l ss rs r
      refine vc_seq_k fun N11 h11 => ?_
      refine vc_block ?_
      refine vc_seq_k fun N12 h12 => ?_
      refine u_reg ?_
      try refine lg_mk ?_
      refine u_mv ?_
      refine lg_nil ?_
      refine h12 _ ?_; clear h12; try clear N12
      refine vc_seq_k fun N13 h13 => ?_
      refine vc_seq_k fun N14 h14 => ?_
      refine u_reg ?_
      try refine lg_mk ?_
      refine u_mv ?_
      refine u_ln ?_
      refine u_mv ?_
      refine lg_nil ?_
      refine h14 _ ?_; clear h14; try clear N14
      refine vc_block ?_
      refine vc_loop_mk (σ := Nat) (fun s => (fun i => i ≤ (orderN l l.length).length) s)
       (fun s => (fun i => [(0, .d (.sl (rows eC l))), (1, .d (.sl (rows eB ss))), (2, .d (.sl (rows eB rs))), (3, .d (.sl (rows eI ws))), (10, .ptr 0 0 0), (12, .d (.sl (rows eI (orderN l l.length)))), (14, .sl 1 0 l.length), (15, .sl 2 0 l.length), (16, .sl 3 0 r), (17, .d (.int .i64 (sizeR r : Nat))), (18, .sl 4 0 ((((orderN l l.length).take i).filter (openB l ss rs (rdsT l ss rs r).1)).take (sizeR r)).length), (48, .d (.sl (rows eI (orderN l l.length)))), (49, .d (.int .i64 ((orderN l l.length).length : Nat))), (50, .d (.int .i64 (i : Nat)))]) s)
       (fun s => (fun i => [some (.one 27 [.d (.int .i64 0), .d (.int .i64 0)]), some (.vec 4 1 (rows eB (vec l.length (comV l ss ((rdsT l ss rs r).1))))), some (.vec 4 1 (rows eB (vec l.length (mark ((rdsT l ss rs r).1))))), some (.vec 24 1 (rows (eL eI) (rdsT l ss rs r).2)), some (.vec 3 1 (rows eI ((((orderN l l.length).take i).filter (openB l ss rs (rdsT l ss rs r).1)).take (sizeR r))))]) s) (fun s => (fun i => (orderN l l.length).length - i) s) hnp 0 ?_ [some 0, some 1, some 2, some 3, none] ?_ ?_
      ·dsimp only
       omega
      ·dsimp only
       refine ⟨by rfl, ?_, ?_⟩
       ·refine fin_ ?_
        (repeat' apply And.intro) <;> (first | (first | rfl | trivial | (simp; done) | (simp [rows]; done)) | (first | rfl | exact Or.inr rfl | exact Or.inl rfl | trivial | omega | assumption | (simp; done) | (simp; omega)))
       ·refine fin_ ?_
        (repeat' apply And.intro) <;> (first | (first | rfl | trivial | (simp; done) | (simp [rows]; done)) | (first | rfl | exact Or.inr rfl | exact Or.inl rfl | trivial | omega | assumption | (simp; done) | (simp; omega)))
      ·rintro i hinv N15 h15
       dsimp only at hinv ⊢
       have hi1 := hinv
       refine vc_seq_k fun N16 h16 => ?_
       refine u_reg ?_
       try refine lg_mk ?_
       refine u_bn ?_
       refine lg_nil ?_
       refine h16 _ ?_; clear h16; try clear N16
       refine vc_seq_k fun N17 h17 => ?_
       refine u_cond (fun hb18 => ?_) (fun hb18 => ?_)
       ·have hin2 : i < (orderN l l.length).length := by omega
        obtain ⟨x, hxe⟩ := getE hin2
        have hxr := ho.inr.at hxe
        obtain ⟨rb, hrx⟩ := getE (l := rs) (i := x.toNat) (by omega)
        have hgt := vec_get (n := l.length) (f := mark (rdsT l ss rs r).1) (k := x.toNat) (by omega)
        have hgc := vec_get (n := l.length) (f := comV l ss (rdsT l ss rs r).1) (k := x.toNat) (by omega)
        have hbs := batch_snoc (P := openB l ss rs (rdsT l ss rs r).1) (s := sizeR r) hxe
        rw [openB_eq hxr.1, getD_of hrx] at hbs
        have hsb := sizeR_bnd r
        have hBl := List.length_take_le (sizeR r) (((orderN l l.length).take i).filter (openB l ss rs (rdsT l ss rs r).1))
        refine vc_skip ?_
        try simp only [k_rules]
        refine h17 _ ?_; clear h17; try clear N17
        refine vc_seq_k fun N19 h19 => ?_
        refine vc_block ?_
        refine vc_seq_k fun N20 h20 => ?_
        have hx := And.intro @hxe (And.intro @eI.eq_1 hx0)
        refine u_reg ?_
        try refine lg_mk ?_
        refine u_pt ?_
        refine u_ld ?_
        refine u_mv ?_
        refine lg_nil ?_
        have hx := hx0
        refine h20 _ ?_; clear h20; try clear N20
        refine vc_seq_k fun N21 h21 => ?_
        have hx := And.intro @hrx (And.intro @hgt (And.intro @hgc (And.intro @eB.eq_1 hx0)))
        refine u_reg ?_
        try refine lg_mk ?_
        refine u_mv ?_
        refine u_ln ?_
        refine u_mv ?_
        refine u_bn ?_
        refine u_mv ?_
        refine g_mv ?_
        refine g_mv ?_
        refine g_pt ?_
        refine g_ld ?_
        refine u_pk ?_
        refine u_mv ?_
        refine g_mv ?_
        refine g_mv ?_
        refine g_pt ?_
        refine g_ld ?_
        refine g_un ?_
        refine u_pk ?_
        refine u_mv ?_
        refine g_mv ?_
        refine g_mv ?_
        refine g_pt ?_
        refine g_ld ?_
        refine g_un ?_
        refine u_pk ?_
        refine lg_nil ?_
        have hx := hx0
        refine h21 _ ?_; clear h21; try clear N21
        refine u_cond (fun hb22 => ?_) (fun hb22 => ?_)
        ·have hcd := hb22
         refine u_reg ?_
         try refine lg_mk ?_
         refine u_mv ?_
         refine u_mv ?_
         refine u_bs ?_
         refine u_ap ?_
         refine u_mv ?_
         refine lg_nil ?_
         refine h19 _ ?_; clear h19; try clear N19
         refine u_reg ?_
         try refine lg_mk ?_
         refine u_bn ?_
         refine u_mv ?_
         refine lg_nil ?_
         rw [if_pos (by simpa [and_assoc] using hcd)] at hbs
         refine h15 _ ⟨i + 1, ?_, ?_, [some 0, some 1, some 2, some 3, some 6], ?_⟩
         ·dsimp only
          omega
         ·dsimp only
          omega
         ·dsimp only
          refine ⟨by rfl, ?_, ?_⟩
          ·refine fin_ ?_
           (repeat' apply And.intro) <;> (first | (first | rfl | trivial | (rw [hbs, List.take_length]; simp [rows, eI]; done) | (rw [hbs]; simp; done)) | (first | rfl | exact Or.inr rfl | exact Or.inl rfl | trivial | omega | assumption | (simp; done) | (simp; omega)))
          ·refine fin_ ?_
           (repeat' apply And.intro) <;> (first | (first | rfl | trivial | (rw [hbs, List.take_length]; simp [rows, eI]; done) | (rw [hbs]; simp; done)) | (first | rfl | exact Or.inr rfl | exact Or.inl rfl | trivial | omega | assumption | (simp; done) | (simp; omega)))
        ·have hcd := hb22
         refine vc_skip ?_
         try simp only [k_rules]
         refine h19 _ ?_; clear h19; try clear N19
         refine u_reg ?_
         try refine lg_mk ?_
         refine u_bn ?_
         refine u_mv ?_
         refine lg_nil ?_
         rw [if_neg (by simpa [and_assoc] using hcd)] at hbs
         refine h15 _ ⟨i + 1, ?_, ?_, [some 0, some 1, some 2, some 3, some 4], ?_⟩
         ·dsimp only
          omega
         ·dsimp only
          omega
         ·dsimp only
          refine ⟨by rfl, ?_, ?_⟩
          ·refine fin_ ?_
           (repeat' apply And.intro) <;> (first | (first | rfl | trivial | (rw [hbs]; done)) | (first | rfl | exact Or.inr rfl | exact Or.inl rfl | trivial | omega | assumption | (simp; done) | (simp; omega)))
          ·refine fin_ ?_
           (repeat' apply And.intro) <;> (first | (first | rfl | trivial | (rw [hbs]; done)) | (first | rfl | exact Or.inr rfl | exact Or.inl rfl | trivial | omega | assumption | (simp; done) | (simp; omega)))
       ·have hi : i = (orderN l l.length).length := by omega
        subst hi
        rw [List.take_length]
        have hBe : ((orderN l l.length).filter (openB l ss rs (rdsT l ss rs r).1)).take (sizeR r) = (batR l ss rs r) := rfl
        rw [hBe]
        refine vc_exit ?_
        simp only [k_rules, Nat.reduceEqDiff, reduceIte, eq_self]
        refine h13 _ ?_; clear h13; try clear N13
        refine vc_seq_k fun N23 h23 => ?_
        refine vc_seq_k fun N24 h24 => ?_
        refine u_reg ?_
        try refine lg_mk ?_
        refine u_mv ?_
        refine u_ln ?_
        refine u_bn ?_
        refine lg_nil ?_
        refine h24 _ ?_; clear h24; try clear N24
        refine u_cond (fun hb25 => ?_) (fun hb25 => ?_)
        ·have hb0 : (batR l ss rs r) = [] := List.length_eq_zero_iff.1 (by have := hb25; omega)
         have hend := end_at hb0 hrl hinv0
         have hse := sent_eq (ws := ws) hend
         have hrdl := rds_len l ss rs r
         refine vc_seq_k fun N26 h26 => ?_
         have hx := And.intro @vec_take (And.intro @hse hx0)
         refine u_reg ?_
         try refine lg_mk ?_
         refine u_mv ?_
         refine u_mv ?_
         refine u_mv ?_
         refine u_mv ?_
         have hc := call_rule (E := (E_missing.at_ 132)) (f := 36) (sp := Spec.pure withG) rfl
         have hs := @withG.eq_1
         refine u_hp (hq := by (first | (first | exact ⟨Nat.le_refl _, hv, hwr, by omega, by simp [vec_len]⟩ | exact ⟨Nat.le_refl _, hv, hwr, by omega⟩) | (first | trivial | omega | assumption | (unfold inI64; omega) | ((repeat' apply And.intro) <;> first | rfl | trivial | omega | assumption | (unfold inI64; omega)) | (simp; done) | (simp; omega)))) ?_
         refine u_bd ?_
         refine u_mv ?_
         refine u_mv ?_
         refine u_st ?_
         refine lg_nil ?_
         have hx := hx0
         refine h26 _ ?_; clear h26; try clear N26
         refine vc_ret ?_
         try simp only [k_rules]
         rw [if_pos h0, if_pos h0, hz, hend]
         refine fin2_ ?_
         (repeat' apply And.intro) <;> (first | (first | rfl | exact Or.inl rfl | trivial | exact Nat.le_refl _ | (simp [rows_len, hrdl]; done) | (rw [List.take_of_length_le (by simp [rows_len, hrdl])]; done) | (rw [List.drop_zero, rows_take, List.take_of_length_le (by omega)]; done)) | (first | rfl | exact Or.inr rfl | exact Or.inl rfl | trivial | omega | assumption | (simp; done) | (simp; omega)))
        ·have hne : (batR l ss rs r) ≠ [] := fun h => by have := hb25; rw [h] at this; simp at this
         refine vc_skip ?_
         try simp only [k_rules]
         refine h23 _ ?_; clear h23; try clear N23
         refine vc_seq_k fun N27 h27 => ?_
         refine vc_seq_k fun N28 h28 => ?_
         refine u_reg ?_
         try refine lg_mk ?_
         refine u_mv ?_
         refine u_ln ?_
         refine u_mv ?_
         refine lg_nil ?_
         refine h28 _ ?_; clear h28; try clear N28
         refine vc_block ?_
         refine vc_loop_mk (σ := Nat) (fun s => (fun j => j ≤ (batR l ss rs r).length) s)
          (fun s => (fun j => [(0, .d (.sl (rows eC l))), (1, .d (.sl (rows eB ss))), (2, .d (.sl (rows eB rs))), (3, .d (.sl (rows eI ws))), (10, .ptr 0 0 0), (12, .d (.sl (rows eI (orderN l l.length)))), (14, .sl 1 0 l.length), (15, .sl 2 0 l.length), (16, .sl 3 0 r), (17, .d (.int .i64 (sizeR r : Nat))), (18, .sl 4 0 (batR l ss rs r).length), (92, .sl 4 0 (batR l ss rs r).length), (93, .d (.int .i64 ((batR l ss rs r).length : Nat))), (94, .d (.int .i64 (j : Nat)))]) s)
          (fun s => (fun j => [some (.one 27 [.d (.int .i64 0), .d (.int .i64 0)]), some (.vec 4 1 (rows eB (vec l.length (comV l ss ((rdsT l ss rs r).1 ++ (batR l ss rs r).take j))))), some (.vec 4 1 (rows eB (vec l.length (mark ((rdsT l ss rs r).1 ++ (batR l ss rs r).take j))))), some (.vec 24 1 (rows (eL eI) (rdsT l ss rs r).2)), some (.vec 3 1 (rows eI (batR l ss rs r)))]) s) (fun s => (fun j => (batR l ss rs r).length - j) s) hnp 0 ?_ [some 0, some 1, some 2, some 3, some 4] ?_ ?_
         ·dsimp only
          omega
         ·dsimp only
          refine ⟨by rfl, ?_, ?_⟩
          ·refine fin_ ?_
           (repeat' apply And.intro) <;> (first | (first | rfl | trivial | (rw [List.take_zero, List.append_nil]; done)) | (first | rfl | exact Or.inr rfl | exact Or.inl rfl | trivial | omega | assumption | (simp; done) | (simp; omega)))
          ·refine fin_ ?_
           (repeat' apply And.intro) <;> (first | (first | rfl | trivial | (rw [List.take_zero, List.append_nil]; done)) | (first | rfl | exact Or.inr rfl | exact Or.inl rfl | trivial | omega | assumption | (simp; done) | (simp; omega)))
         ·rintro j hinv N29 h29
          dsimp only at hinv ⊢
          have hj1 := hinv
          refine vc_seq_k fun N30 h30 => ?_
          refine u_reg ?_
          try refine lg_mk ?_
          refine u_bn ?_
          refine lg_nil ?_
          refine h30 _ ?_; clear h30; try clear N30
          refine vc_seq_k fun N31 h31 => ?_
          refine u_cond (fun hb32 => ?_) (fun hb32 => ?_)
          ·obtain ⟨y, hye⟩ := getE (l := (batR l ss rs r)) (i := j) (by omega)
           have hyr := (told_r (ss := ss) (rs := rs) hv (r + 1)).inr y (List.mem_append.2 (.inr (mem_at hye)))
           obtain ⟨sb, hsb⟩ := getE (l := ss) (i := y.toNat) (by omega)
           have hsd : ss.getD y.toNat false = sb := getD_of hsb
           have hgt := vec_get (n := l.length) (f := mark ((rdsT l ss rs r).1 ++ (batR l ss rs r).take j)) (k := y.toNat) (by omega)
           have htk : (rdsT l ss rs r).1 ++ (batR l ss rs r).take (j + 1) = ((rdsT l ss rs r).1 ++ (batR l ss rs r).take j) ++ [y] := by rw [List.take_add_one, hye, ← List.append_assoc]; rfl
           have hmk := mark_snoc (n := l.length) (told := (rdsT l ss rs r).1 ++ (batR l ss rs r).take j) hyr.1
           refine vc_skip ?_
           try simp only [k_rules]
           refine h31 _ ?_; clear h31; try clear N31
           refine vc_seq_k fun N33 h33 => ?_
           refine vc_block ?_
           refine vc_seq_k fun N34 h34 => ?_
           have hx := And.intro @hye (And.intro @eI.eq_1 hx0)
           refine u_reg ?_
           try refine lg_mk ?_
           refine u_pt ?_
           refine u_ld ?_
           refine u_mv ?_
           refine lg_nil ?_
           have hx := hx0
           refine h34 _ ?_; clear h34; try clear N34
           refine vc_seq_k fun N35 h35 => ?_
           have hx := And.intro @hgt (And.intro @eB.eq_1 hx0)
           refine u_reg ?_
           try refine lg_mk ?_
           refine u_mv ?_
           refine u_mv ?_
           refine u_pt ?_
           refine u_st ?_
           refine lg_nil ?_
           have hx := hx0
           refine h35 _ ?_; clear h35; try clear N35
           refine vc_seq_k fun N36 h36 => ?_
           refine vc_seq_k fun N37 h37 => ?_
           have hx := And.intro @hsb (And.intro @eB.eq_1 hx0)
           refine u_reg ?_
           try refine lg_mk ?_
           refine u_mv ?_
           refine u_mv ?_
           refine u_pt ?_
           refine u_ld ?_
           refine u_un ?_
           refine lg_nil ?_
           have hx := hx0
           refine h37 _ ?_; clear h37; try clear N37
           refine u_cond (fun hb38 => ?_) (fun hb38 => ?_)
           ·have hsf : sb = false := by have := hb38; simpa using this
            subst hsf
            have hcs := comV_skip (l := l) (told := (rdsT l ss rs r).1 ++ (batR l ss rs r).take j) hsd
            refine vc_exit ?_
            simp only [k_rules, Nat.reduceEqDiff, reduceIte, eq_self]
            refine h33 _ ?_; clear h33; try clear N33
            refine u_reg ?_
            try refine lg_mk ?_
            refine u_bn ?_
            refine u_mv ?_
            refine lg_nil ?_
            refine h29 _ ⟨j + 1, ?_, ?_, [some 0, some 1, some 2, some 3, some 4], ?_⟩
            ·dsimp only
             omega
            ·dsimp only
             omega
            ·dsimp only
             refine ⟨by rfl, ?_, ?_⟩
             ·refine fin_ ?_
              (repeat' apply And.intro) <;> (first | (first | rfl | trivial | (rw [htk, hcs]; done) | (rw [htk, ← hmk]; simp [rows, eB]; done)) | (first | rfl | exact Or.inr rfl | exact Or.inl rfl | trivial | omega | assumption | (simp; done) | (simp; omega)))
             ·refine fin_ ?_
              (repeat' apply And.intro) <;> (first | (first | rfl | trivial | (rw [htk, hcs]; done) | (rw [htk, ← hmk]; simp [rows, eB]; done)) | (first | rfl | exact Or.inr rfl | exact Or.inl rfl | trivial | omega | assumption | (simp; done) | (simp; omega)))
           ·have hsf : sb = true := by have := hb38; simpa using this
            subst hsf
            have hof1 : ofB l [y] = ancB l y.toNat := funext fun k => of_one
            have hin1 : InR l.length [y] := fun z hz => by rw [List.mem_singleton.1 hz]; exact hyr
            refine vc_skip ?_
            try simp only [k_rules]
            refine h36 _ ?_; clear h36; try clear N36
            refine vc_seq_k fun N39 h39 => ?_
            have hx := And.intro @dI1 (And.intro @hof1 (And.intro @eI.eq_1 (And.intro @rows_cons hx0)))
            refine u_reg ?_
            try refine lg_mk ?_
            refine u_mv ?_
            refine u_mv ?_
            refine u_bs ?_
            have hc := call_rule (E := (E_missing.at_ 132)) (f := 38) (sp := Spec.pure ofG) rfl
            have hs := @ofG.eq_1
            refine u_hp (hq := by (first | (exact ⟨hv, hin1, by simp⟩) | (first | trivial | omega | assumption | (unfold inI64; omega) | ((repeat' apply And.intro) <;> first | rfl | trivial | omega | assumption | (unfold inI64; omega)) | (simp; done) | (simp; omega)))) ?_
            refine u_ln ?_
            refine u_mv ?_
            refine lg_nil ?_
            have hx := hx0
            refine h39 _ ?_; clear h39; try clear N39
            refine vc_block ?_
            refine vc_loop_mk (σ := Nat) (fun s => (fun i => i ≤ l.length) s)
             (fun s => (fun i => [(0, .d (.sl (rows eC l))), (1, .d (.sl (rows eB ss))), (2, .d (.sl (rows eB rs))), (3, .d (.sl (rows eI ws))), (10, .ptr 0 0 0), (12, .d (.sl (rows eI (orderN l l.length)))), (14, .sl 1 0 l.length), (15, .sl 2 0 l.length), (16, .sl 3 0 r), (17, .d (.int .i64 (sizeR r : Nat))), (18, .sl 4 0 (batR l ss rs r).length), (92, .sl 4 0 (batR l ss rs r).length), (93, .d (.int .i64 ((batR l ss rs r).length : Nat))), (94, .d (.int .i64 (j : Nat))), (109, .d (.sl (rows eB (vec l.length (ancB l y.toNat))))), (110, .d (.int .i64 ((vec l.length (ancB l y.toNat)).length : Nat))), (111, .d (.int .i64 (i : Nat)))]) s)
             (fun s => (fun i => [some (.one 27 [.d (.int .i64 0), .d (.int .i64 0)]), some (.vec 4 1 (rows eB (vec l.length (comI l ss ((rdsT l ss rs r).1 ++ (batR l ss rs r).take j) y i)))), some (.vec 4 1 (rows eB (vec l.length (mark (((rdsT l ss rs r).1 ++ (batR l ss rs r).take j) ++ [y]))))), some (.vec 24 1 (rows (eL eI) (rdsT l ss rs r).2)), some (.vec 3 1 (rows eI (batR l ss rs r)))]) s) (fun s => (fun i => l.length - i) s) hnp 0 ?_ [some 0, some 1, some 2, some 3, some 4] ?_ ?_
            ·dsimp only
             omega
            ·dsimp only
             refine ⟨by rfl, ?_, ?_⟩
             ·refine fin_ ?_
              (repeat' apply And.intro) <;> (first | (first | rfl | trivial | (rw [comI_zero]; done) | (rw [← hmk]; simp [rows, eB]; done)) | (first | rfl | exact Or.inr rfl | exact Or.inl rfl | trivial | omega | assumption | (simp; done) | (simp; omega)))
             ·refine fin_ ?_
              (repeat' apply And.intro) <;> (first | (first | rfl | trivial | (rw [comI_zero]; done) | (rw [← hmk]; simp [rows, eB]; done)) | (first | rfl | exact Or.inr rfl | exact Or.inl rfl | trivial | omega | assumption | (simp; done) | (simp; omega)))
            ·rintro i hinv N40 h40
             dsimp only at hinv ⊢
             have hi1 := hinv
             refine vc_seq_k fun N41 h41 => ?_
             refine u_reg ?_
             try refine lg_mk ?_
             refine u_bn ?_
             refine lg_nil ?_
             refine h41 _ ?_; clear h41; try clear N41
             refine vc_seq_k fun N42 h42 => ?_
             refine u_cond (fun hb43 => ?_) (fun hb43 => ?_)
             ·have hil : i < l.length := by simp only [vec_len] at *; omega
              have hgc := vec_get (n := l.length) (f := comI l ss ((rdsT l ss rs r).1 ++ (batR l ss rs r).take j) y i) (k := i) hil
              have hga := vec_get (n := l.length) (f := ancB l y.toNat) (k := i) hil
              have hcs := comI_set (l := l) (ss := ss) (told := (rdsT l ss rs r).1 ++ (batR l ss rs r).take j) (x := y) (i := i) (n := l.length)
              refine vc_skip ?_
              try simp only [k_rules]
              refine h42 _ ?_; clear h42; try clear N42
              refine vc_seq_k fun N44 h44 => ?_
              refine vc_block ?_
              refine vc_seq_k fun N45 h45 => ?_
              have hx := And.intro @hga (And.intro @eB.eq_1 hx0)
              refine u_reg ?_
              try refine lg_mk ?_
              refine u_mv ?_
              refine u_pt ?_
              refine u_ld ?_
              refine u_mv ?_
              refine u_mv ?_
              refine lg_nil ?_
              have hx := hx0
              refine h45 _ ?_; clear h45; try clear N45
              have hx := And.intro @hgc (And.intro @eB.eq_1 hx0)
              refine u_reg ?_
              try refine lg_mk ?_
              refine u_mv ?_
              refine u_mv ?_
              refine u_mv ?_
              refine u_mv ?_
              refine u_pt ?_
              refine u_ld ?_
              refine u_mv ?_
              refine g_mv ?_
              refine u_pk ?_
              refine u_pt ?_
              refine u_st ?_
              refine lg_nil ?_
              have hx := hx0
              refine h44 _ ?_; clear h44; try clear N44
              refine u_reg ?_
              try refine lg_mk ?_
              refine u_bn ?_
              refine u_mv ?_
              refine lg_nil ?_
              refine h40 _ ⟨i + 1, ?_, ?_, [some 0, some 1, some 2, some 3, some 4], ?_⟩
              ·dsimp only
               omega
              ·dsimp only
               omega
              ·dsimp only
               refine ⟨by rfl, ?_, ?_⟩
               ·refine fin_ ?_
                (repeat' apply And.intro) <;> (first | (first | rfl | trivial | (rw [← hcs]; simp [rows, eB]; done)) | (first | rfl | exact Or.inr rfl | exact Or.inl rfl | trivial | omega | assumption | (simp; done) | (simp; omega)))
               ·refine fin_ ?_
                (repeat' apply And.intro) <;> (first | (first | rfl | trivial | (rw [← hcs]; simp [rows, eB]; done)) | (first | rfl | exact Or.inr rfl | exact Or.inl rfl | trivial | omega | assumption | (simp; done) | (simp; omega)))
             ·have hi : i = l.length := by simp only [vec_len] at *; omega
              subst hi
              have hca := comI_all (l := l) (told := (rdsT l ss rs r).1 ++ (batR l ss rs r).take j) hsd
              refine vc_exit ?_
              simp only [k_rules, Nat.reduceEqDiff, reduceIte, eq_self]
              refine h33 _ ?_; clear h33; try clear N33
              refine u_reg ?_
              try refine lg_mk ?_
              refine u_bn ?_
              refine u_mv ?_
              refine lg_nil ?_
              refine h29 _ ⟨j + 1, ?_, ?_, [some 0, some 1, some 2, some 3, some 4], ?_⟩
              ·dsimp only
               omega
              ·dsimp only
               omega
              ·dsimp only
               refine ⟨by rfl, ?_, ?_⟩
               ·refine fin_ ?_
                (repeat' apply And.intro) <;> (first | (first | rfl | trivial | (rw [htk, hca]; done) | (rw [htk]; done)) | (first | rfl | exact Or.inr rfl | exact Or.inl rfl | trivial | omega | assumption | (simp; done) | (simp; omega)))
               ·refine fin_ ?_
                (repeat' apply And.intro) <;> (first | (first | rfl | trivial | (rw [htk, hca]; done) | (rw [htk]; done)) | (first | rfl | exact Or.inr rfl | exact Or.inl rfl | trivial | omega | assumption | (simp; done) | (simp; omega)))
          ·have hj : j = (batR l ss rs r).length := by omega
           subst hj
           rw [List.take_length]
           refine vc_exit ?_
           simp only [k_rules, Nat.reduceEqDiff, reduceIte, eq_self]
           refine h27 _ ?_; clear h27; try clear N27
           refine u_reg ?_
           try refine lg_mk ?_
           refine u_mv ?_
           refine u_mv ?_
           refine u_bs ?_
           refine u_ap ?_
           refine u_mv ?_
           refine lg_nil ?_
           refine h11 _ ?_; clear h11; try clear N11
           refine u_reg ?_
           try refine lg_mk ?_
           refine u_mv ?_
           refine u_bn ?_
           refine u_mm ?_
           refine u_mv ?_
           refine lg_nil ?_
           have hrd : (rdsT l ss rs (r + 1)).1 = (rdsT l ss rs r).1 ++ (batR l ss rs r) := rfl
           have hrd2 : (rdsT l ss rs (r + 1)).2 = (rdsT l ss rs r).2 ++ [(batR l ss rs r)] := rfl
           have htr : List.take r (rdsT l ss rs r).2 = (rdsT l ss rs r).2 := List.take_of_length_le (by omega)
           refine h10 _ ⟨r + 1, ?_, ?_, [some 0, some 1, some 2, some 6], ?_⟩
           ·dsimp only
            exact lt_snoc hinv0 hne
           ·dsimp only
            omega
           ·dsimp only
            refine ⟨by rfl, ?_, ?_⟩
            ·refine fin_ ?_
             (repeat' apply And.intro) <;> (first | (first | rfl | trivial | (rw [hrd]; done) | (rw [htr, hrd2]; simp [rows, eL]; done) | (left; rw [hss]; split <;> rfl) | (rw [hss]; done)) | (first | rfl | exact Or.inr rfl | exact Or.inl rfl | trivial | omega | assumption | (simp; done) | (simp; omega)))
            ·refine fin_ ?_
             (repeat' apply And.intro) <;> (first | (first | rfl | trivial | (rw [hrd]; done) | (rw [htr, hrd2]; simp [rows, eL]; done) | (left; rw [hss]; split <;> rfl) | (rw [hss]; done)) | (first | rfl | exact Or.inr rfl | exact Or.inl rfl | trivial | omega | assumption | (simp; done) | (simp; omega)))
    ·intro N7 h7
     refine vc_regT [] (.seq [0, 1, 3, 4] (.alt 2 (.seq [6, 5, 7] .nil) (.alt 5 (.seq [2, 6, 7] .nil) .nil))) hmix (by kernel_rfl) ?_
     refine at_seq ?_
     simp only [pick_rules, list_rules]
     try refine lg_mk ?_
     refine u_mv ?_
     refine u_ln ?_
     refine u_mv ?_
     refine u_ln ?_
     refine lg_nil ?_
     refine at_alt ?_ ?_
     ·simp only [pick_rules, list_rules]
      try refine lg_mk ?_
      refine u_ms ?_
      refine lg_nil ?_
      refine at_seq ?_
      simp only [pick_rules, list_rules]
      try refine lg_mk ?_
      refine u_mv ?_
      refine u_ms ?_
      refine u_mv ?_
      refine lg_nil ?_
      refine at_nil ?_
      refine h7 _ ⟨(), trivial, [some 0, some 3, some 4], ?_⟩
      ·dsimp only
       refine ⟨by rfl, ?_, ?_⟩
       ·refine fin_ ?_
        (repeat' apply And.intro) <;> (first | (first | rfl | trivial | exact vec_com _ _ _ | exact vec_rep _) | (first | rfl | exact Or.inr rfl | exact Or.inl rfl | trivial | omega | assumption | (simp; done) | (simp; omega)))
       ·refine fin_ ?_
        (repeat' apply And.intro) <;> (first | (first | rfl | trivial | exact vec_com _ _ _ | exact vec_rep _) | (first | rfl | exact Or.inr rfl | exact Or.inl rfl | trivial | omega | assumption | (simp; done) | (simp; omega)))
     refine at_alt ?_ ?_
     ·simp only [pick_rules, list_rules]
      try refine lg_mk ?_
      refine u_ms ?_
      refine lg_nil ?_
      refine at_seq ?_
      simp only [pick_rules, list_rules]
      try refine lg_mk ?_
      refine u_ms ?_
      refine u_mv ?_
      refine u_mv ?_
      refine lg_nil ?_
      refine at_nil ?_
      refine h7 _ ⟨(), trivial, [some 0, some 4, some 3], ?_⟩
      ·dsimp only
       refine ⟨by rfl, ?_, ?_⟩
       ·refine fin_ ?_
        (repeat' apply And.intro) <;> (first | (first | rfl | trivial | exact vec_com _ _ _ | exact vec_rep _) | (first | rfl | exact Or.inr rfl | exact Or.inl rfl | trivial | omega | assumption | (simp; done) | (simp; omega)))
       ·refine fin_ ?_
        (repeat' apply And.intro) <;> (first | (first | rfl | trivial | exact vec_com _ _ _ | exact vec_rep _) | (first | rfl | exact Or.inr rfl | exact Or.inl rfl | trivial | omega | assumption | (simp; done) | (simp; omega)))
     exact at_end
  ·have hz : True := trivial
   have hx := And.intro @hz hx0
   refine u_reg ?_
   try refine lg_mk ?_
   refine u_mv ?_
   refine u_mv ?_
   refine u_mv ?_
   refine u_mv ?_
   have hc := call_rule (E := (E_missing.at_ 132)) (f := 35) (sp := Spec.pure negG) rfl
   have hs := @negG.eq_1
   refine u_cp ?_
   refine u_al ?_
   refine u_st ?_
   refine lg_nil ?_
   have hx := hx0
   refine h3 _ ?_; clear h3; try clear N3
   refine vc_seq_k fun N46 h46 => ?_
   refine u_reg ?_
   try refine lg_mk ?_
   refine u_ld ?_
   refine u_bd ?_
   refine u_bn ?_
   refine lg_nil ?_
   refine h46 _ ?_; clear h46; try clear N46
   refine u_cond (fun hb47 => ?_) (fun hb47 => ?_)
   ·refine vc_seq_k fun N48 h48 => ?_
    refine u_reg ?_
    try refine lg_mk ?_
    refine u_ld ?_
    refine u_mv ?_
    refine u_mv ?_
    refine u_st ?_
    refine lg_nil ?_
    refine h48 _ ?_; clear h48; try clear N48
    refine vc_ret ?_
    try simp only [k_rules]
    rw [if_neg h0, if_neg h0]
    refine fin2_ ?_
    exact cl_
   ·first | omega | exact absurd trivial hb47 | contradiction | (simp_all; done)
 ·cases hg

def E_run : Env Try.prog := E_missing.add 14 (Spec.pure runG) run_meets (by kernel_rfl)
end Go.Proofs.Ytaoifpmifpmhmaa
