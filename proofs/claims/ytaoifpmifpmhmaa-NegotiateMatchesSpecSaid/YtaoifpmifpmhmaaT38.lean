/- Walks, printed by wip/gen/walk.py. -/
import Derived.Test.YtaoifpmifpmhmaaT37
import Derived.Test.YtaoifpmifpmhmaaV4
set_option linter.all false
set_option maxRecDepth 100000
set_option maxHeartbeats 4000000
namespace Go.Proofs.Ytaoifpmifpmhmaa
open Go Go.Vc Go.RowKit
theorem without_meets : Meets Try.prog 36 (Spec.pure withG) := by
 refine meets_fun (E_negFault.at_ 33) Try.func36 rfl rfl rfl ?_
 intro args p r hg hp
 unfold withG at hg
 split at hg
 ·rename_i xs ws bs
  simp only [Option.some.injEq, Prod.mk.injEq] at hg
  obtain ⟨rfl, rfl⟩ := hg
  obtain ⟨he, hf, hg, hv, hin, hwl, hlen⟩ := hp
  generalize dC xs = l at *
  generalize dI ws = ws at *
  generalize dB bs = bs at *
  subst he hf hg
  have hl60 := hv.len
  have hT : (E_negFault).X = T := rfl
  have hx0 := And.intro @rect_eC (And.intro @vec_len (And.intro @dC_rows (And.intro @dI_rows @Try.results36)))
  have hx := hx0
  refine ⟨by rfl, ?_⟩
  intro F W0 hnp hmk
  refine vc_seq_k fun N1 h1 => ?_
  refine u_reg ?_
  try refine lg_mk ?_
  refine u_mv ?_
  refine lg_nil ?_
  refine h1 _ ?_; clear h1; try clear N1
  refine vc_seq_k fun N2 h2 => ?_
  refine u_reg ?_
  try refine lg_mk ?_
  refine u_mv ?_
  refine lg_nil ?_
  refine h2 _ ?_; clear h2; try clear N2
  refine vc_seq_k fun N3 h3 => ?_
  refine vc_seq_k fun N4 h4 => ?_
  refine u_reg ?_
  try refine lg_mk ?_
  refine u_mv ?_
  refine u_mv ?_
  have hc := call_rule (E := (E_negFault.at_ 33)) (f := 38) (sp := Spec.pure ofG) rfl
  have hs := @ofG.eq_1
  refine u_hp ?_
  refine u_ln ?_
  refine u_mv ?_
  refine lg_nil ?_
  refine h4 _ ?_; clear h4; try clear N4
  refine vc_block ?_
  refine vc_loop_mk (σ := Nat) (fun s => (fun i => i ≤ l.length) s)
   (fun s => (fun i => [(0, .d (.sl (rows eC l))), (1, .d (.sl (rows eI ws))), (2, .d (.sl (rows eB bs))), (7, .sl 0 0 (lst i (fun k => ofB l ws k && !(bs.getD k false))).length), (12, .d (.sl (rows eB (vec l.length (ofB l ws))))), (13, .d (.int .i64 ((vec l.length (ofB l ws)).length : Nat))), (14, .d (.int .i64 (i : Nat)))]) s)
   (fun s => (fun i => [some (.vec 3 1 (rows eI (lst i (fun k => ofB l ws k && !(bs.getD k false)))))]) s) (fun s => (fun i => l.length - i) s) hnp 0 ?_ [none] ?_ ?_
  ·dsimp only
   omega
  ·dsimp only
   refine ⟨by rfl, ?_, ?_⟩
   ·refine fin_ ?_
    exact cl_
   ·refine fin_ ?_
    exact cl_
  ·rintro i hinv N5 h5
   dsimp only at hinv ⊢
   have hi1 := hinv
   have hlw := lst_len i (fun k => ofB l ws k && !(bs.getD k false))
   refine vc_seq_k fun N6 h6 => ?_
   refine u_reg ?_
   try refine lg_mk ?_
   refine u_bn ?_
   refine lg_nil ?_
   refine h6 _ ?_; clear h6; try clear N6
   refine vc_seq_k fun N7 h7 => ?_
   refine u_cond (fun hb8 => ?_) (fun hb8 => ?_)
   ·have hil : i < l.length := by simp only [vec_len] at *; omega
    have hgo := vec_get (n := l.length) (f := ofB l ws) (k := i) hil
    obtain ⟨b, hbe⟩ := getE (l := bs) (i := i) (by omega)
    have hgd : bs.getD i false = b := getD_of hbe
    refine vc_skip ?_
    try simp only [k_rules]
    refine h7 _ ?_; clear h7; try clear N7
    refine vc_seq_k fun N9 h9 => ?_
    refine vc_block ?_
    refine vc_seq_k fun N10 h10 => ?_
    have hx := And.intro @hgo (And.intro @eB.eq_1 hx0)
    refine u_reg ?_
    try refine lg_mk ?_
    refine u_mv ?_
    refine u_pt ?_
    refine u_ld ?_
    refine u_mv ?_
    refine u_mv ?_
    refine lg_nil ?_
    have hx := hx0
    refine h10 _ ?_; clear h10; try clear N10
    refine vc_seq_k fun N11 h11 => ?_
    have hx := And.intro @hbe (And.intro @eB.eq_1 hx0)
    refine u_reg ?_
    try refine lg_mk ?_
    refine u_mv ?_
    refine u_mv ?_
    refine g_mv ?_
    refine g_mv ?_
    refine g_pt ?_
    refine g_ld ?_
    refine g_un ?_
    refine u_pk ?_
    refine lg_nil ?_
    have hx := hx0
    refine h11 _ ?_; clear h11; try clear N11
    refine u_cond (fun hb12 => ?_) (fun hb12 => ?_)
    ·refine u_reg ?_
     try refine lg_mk ?_
     refine u_mv ?_
     refine u_mv ?_
     refine u_bs ?_
     refine u_ap ?_
     refine u_mv ?_
     refine lg_nil ?_
     refine h9 _ ?_; clear h9; try clear N9
     refine u_reg ?_
     try refine lg_mk ?_
     refine u_bn ?_
     refine u_mv ?_
     refine lg_nil ?_
     refine h5 _ ⟨i + 1, ?_, ?_, [some 2], ?_⟩
     ·dsimp only
      omega
     ·dsimp only
      omega
     ·dsimp only
      refine ⟨by rfl, ?_, ?_⟩
      ·refine fin_ ?_
       (repeat' apply And.intro) <;> (first | (first | rfl | trivial | (rw [lst_succ, if_pos (by rw [hgd]; have := hb12; simpa using this)]; simp [rows, eI]; done) | (rw [lst_succ, if_pos (by rw [hgd]; have := hb12; simpa using this)]; simp; done)) | (first | rfl | exact Or.inr rfl | exact Or.inl rfl | trivial | omega | assumption | (simp; done) | (simp; omega)))
      ·refine fin_ ?_
       (repeat' apply And.intro) <;> (first | (first | rfl | trivial | (rw [lst_succ, if_pos (by rw [hgd]; have := hb12; simpa using this)]; simp [rows, eI]; done) | (rw [lst_succ, if_pos (by rw [hgd]; have := hb12; simpa using this)]; simp; done)) | (first | rfl | exact Or.inr rfl | exact Or.inl rfl | trivial | omega | assumption | (simp; done) | (simp; omega)))
    ·refine vc_skip ?_
     try simp only [k_rules]
     refine h9 _ ?_; clear h9; try clear N9
     refine u_reg ?_
     try refine lg_mk ?_
     refine u_bn ?_
     refine u_mv ?_
     refine lg_nil ?_
     refine h5 _ ⟨i + 1, ?_, ?_, [some 0], ?_⟩
     ·dsimp only
      omega
     ·dsimp only
      omega
     ·dsimp only
      refine ⟨by rfl, ?_, ?_⟩
      ·refine fin_ ?_
       (repeat' apply And.intro) <;> (first | (first | rfl | trivial | (rw [lst_succ, if_neg (by rw [hgd]; have := hb12; simpa using this), List.append_nil]; done)) | (first | rfl | exact Or.inr rfl | exact Or.inl rfl | trivial | omega | assumption | (simp; done) | (simp; omega)))
      ·refine fin_ ?_
       (repeat' apply And.intro) <;> (first | (first | rfl | trivial | (rw [lst_succ, if_neg (by rw [hgd]; have := hb12; simpa using this), List.append_nil]; done)) | (first | rfl | exact Or.inr rfl | exact Or.inl rfl | trivial | omega | assumption | (simp; done) | (simp; omega)))
   ·have hi : i = l.length := by simp only [vec_len] at *; omega
    subst hi
    refine vc_exit ?_
    simp only [k_rules, Nat.reduceEqDiff, reduceIte, eq_self]
    refine h3 _ ?_; clear h3; try clear N3
    refine vc_seq_k fun N13 h13 => ?_
    refine u_reg ?_
    try refine lg_mk ?_
    refine u_mv ?_
    refine u_mv ?_
    refine lg_nil ?_
    refine h13 _ ?_; clear h13; try clear N13
    refine vc_ret ?_
    try simp only [k_rules]
    refine fin2_ ?_
    (repeat' apply And.intro) <;> (first | (first | rfl | exact Or.inl rfl | trivial | exact Nat.le_refl _ | (simp [rows_len]; done) | (rw [List.drop_zero, rows_take, List.take_length]; done) | (rw [rows_take, List.take_length]; done)) | (first | rfl | exact Or.inr rfl | exact Or.inl rfl | trivial | omega | assumption | (simp; done) | (simp; omega)))
 ·cases hg

def E_without : Env Try.prog := E_negFault.add 36 (Spec.pure withG) without_meets (by kernel_rfl)

theorem lacks_meets : Meets Try.prog 18 (Spec.pure withG) := by
 refine meets_fun (E_without.at_ 52) Try.func18 rfl rfl rfl ?_
 intro args p r hg hp
 unfold withG at hg
 split at hg
 ·rename_i xs ws bs
  simp only [Option.some.injEq, Prod.mk.injEq] at hg
  obtain ⟨rfl, rfl⟩ := hg
  obtain ⟨he, hf, hg, hv, hin, hwl, hlen⟩ := hp
  generalize dC xs = l at *
  generalize dI ws = ws at *
  generalize dB bs = bs at *
  subst he hf hg
  have hl60 := hv.len
  have hT : (E_without).X = T := rfl
  have hx0 := And.intro @rect_eC (And.intro @vec_len (And.intro @ancR_len (And.intro @dC_rows (And.intro @dI_rows @Try.results18))))
  have hx := hx0
  refine ⟨by rfl, ?_⟩
  intro F W0 hnp hmk
  refine vc_seq_k fun N1 h1 => ?_
  refine u_reg ?_
  try refine lg_mk ?_
  refine u_mv ?_
  refine lg_nil ?_
  refine h1 _ ?_; clear h1; try clear N1
  refine vc_seq_k fun N2 h2 => ?_
  refine u_reg ?_
  try refine lg_mk ?_
  refine u_mv ?_
  have hc := call_rule (E := (E_without.at_ 52)) (f := 20) (sp := Spec.pure reachRG) rfl
  have hs := @reachRG.eq_1
  refine u_hp ?_
  refine u_mv ?_
  refine lg_nil ?_
  refine h2 _ ?_; clear h2; try clear N2
  refine vc_seq_k fun N3 h3 => ?_
  refine u_reg ?_
  try refine lg_mk ?_
  refine u_mv ?_
  refine lg_nil ?_
  refine h3 _ ?_; clear h3; try clear N3
  refine vc_seq_k fun N4 h4 => ?_
  refine vc_seq_k fun N5 h5 => ?_
  refine u_reg ?_
  try refine lg_mk ?_
  refine u_mv ?_
  refine lg_nil ?_
  refine h5 _ ?_; clear h5; try clear N5
  refine vc_block ?_
  refine vc_loop_mk (σ := Nat) (fun s => (fun i => i ≤ l.length) s)
   (fun s => (fun i => [(0, .d (.sl (rows eC l))), (1, .d (.sl (rows eI ws))), (2, .d (.sl (rows eB bs))), (7, .d (.sl (rows (eL eB) (ancR l l.length)))), (8, .sl 0 0 (lst i (fun k => ofB l ws k && !(bs.getD k false))).length), (9, .d (.int .i64 (i : Nat)))]) s)
   (fun s => (fun i => [some (.vec 3 1 (rows eI (lst i (fun k => ofB l ws k && !(bs.getD k false)))))]) s) (fun s => (fun i => l.length - i) s) hnp 0 ?_ [none] ?_ ?_
  ·dsimp only
   omega
  ·dsimp only
   refine ⟨by rfl, ?_, ?_⟩
   ·refine fin_ ?_
    exact cl_
   ·refine fin_ ?_
    exact cl_
  ·rintro i hinv N6 h6
   dsimp only at hinv ⊢
   have hi1 := hinv
   have hlw := lst_len i (fun k => ofB l ws k && !(bs.getD k false))
   refine vc_seq_k fun N7 h7 => ?_
   refine vc_seq_k fun N8 h8 => ?_
   refine u_reg ?_
   try refine lg_mk ?_
   refine u_mv ?_
   refine u_mv ?_
   refine u_ln ?_
   refine u_bn ?_
   refine lg_nil ?_
   refine h8 _ ?_; clear h8; try clear N8
   refine u_cond (fun hb9 => ?_) (fun hb9 => ?_)
   ·have hil : i < l.length := by omega
    obtain ⟨b, hbe⟩ := getE (l := bs) (i := i) (by omega)
    have hgd : bs.getD i false = b := getD_of hbe
    refine vc_skip ?_
    try simp only [k_rules]
    refine h7 _ ?_; clear h7; try clear N7
    refine vc_seq_k fun N10 h10 => ?_
    refine vc_block ?_
    refine vc_seq_k fun N11 h11 => ?_
    refine u_reg ?_
    try refine lg_mk ?_
    refine u_mv ?_
    refine lg_nil ?_
    refine h11 _ ?_; clear h11; try clear N11
    refine vc_seq_k fun N12 h12 => ?_
    refine vc_seq_k fun N13 h13 => ?_
    refine u_reg ?_
    try refine lg_mk ?_
    refine u_mv ?_
    refine lg_nil ?_
    refine h13 _ ?_; clear h13; try clear N13
    refine vc_block ?_
    refine vc_loop_mk (σ := Nat) (fun s => (fun k => k ≤ ws.length) s)
     (fun s => (fun k => [(0, .d (.sl (rows eC l))), (1, .d (.sl (rows eI ws))), (2, .d (.sl (rows eB bs))), (7, .d (.sl (rows (eL eB) (ancR l l.length)))), (8, .sl 0 0 (lst i (fun k => ofB l ws k && !(bs.getD k false))).length), (9, .d (.int .i64 (i : Nat))), (10, .d (.bool ((ws.take k).any fun w => ancB l w.toNat i))), (11, .d (.int .i64 (k : Nat)))]) s)
     (fun s => (fun k => [some (.vec 3 1 (rows eI (lst i (fun k => ofB l ws k && !(bs.getD k false)))))]) s) (fun s => (fun k => ws.length - k) s) hnp 0 ?_ [some 0] ?_ ?_
    ·dsimp only
     omega
    ·dsimp only
     refine ⟨by rfl, ?_, ?_⟩
     ·refine fin_ ?_
      exact cl_
     ·refine fin_ ?_
      exact cl_
    ·rintro k hinv N14 h14
     dsimp only at hinv ⊢
     have hk1 := hinv
     refine vc_seq_k fun N15 h15 => ?_
     refine vc_seq_k fun N16 h16 => ?_
     refine u_reg ?_
     try refine lg_mk ?_
     refine u_mv ?_
     refine u_mv ?_
     refine u_ln ?_
     refine u_bn ?_
     refine lg_nil ?_
     refine h16 _ ?_; clear h16; try clear N16
     refine u_cond (fun hb17 => ?_) (fun hb17 => ?_)
     ·obtain ⟨x, hxe⟩ := getE (l := ws) (i := k) (by omega)
      have hxr := hin.at hxe
      have hg1 := ancR_get (l := l) (m := l.length) (i := x.toNat) (by omega)
      have hg2 := vec_get (n := l.length) (f := ancB l x.toNat) (k := i) hil
      have hsn := any_snoc hxe (fun w => ancB l w.toNat i)
      refine vc_skip ?_
      try simp only [k_rules]
      refine h15 _ ?_; clear h15; try clear N15
      refine vc_seq_k fun N18 h18 => ?_
      refine vc_block ?_
      have hx := And.intro @hxe (And.intro @hg1 (And.intro @hg2 (And.intro @eI.eq_1 (And.intro @eB.eq_1 (And.intro @eL.eq_1 hx0)))))
      refine u_reg ?_
      try refine lg_mk ?_
      refine u_mv ?_
      refine u_mv ?_
      refine g_mv ?_
      refine g_mv ?_
      refine g_mv ?_
      refine g_pt ?_
      refine g_ld ?_
      refine g_pt ?_
      refine g_ld ?_
      refine g_mv ?_
      refine g_pt ?_
      refine g_ld ?_
      refine u_pk ?_
      refine u_mv ?_
      refine lg_nil ?_
      have hx := hx0
      refine h18 _ ?_; clear h18; try clear N18
      refine u_reg ?_
      try refine lg_mk ?_
      refine u_mv ?_
      refine u_bn ?_
      refine u_mv ?_
      refine lg_nil ?_
      refine h14 _ ⟨k + 1, ?_, ?_, [some 0], ?_⟩
      ·dsimp only
       omega
      ·dsimp only
       omega
      ·dsimp only
       refine ⟨by rfl, ?_, ?_⟩
       ·refine fin_ ?_
        (repeat' apply And.intro) <;> (first | (first | rfl | trivial | (rw [hsn]; done) | (left; rw [hsn]; done)) | (first | rfl | exact Or.inr rfl | exact Or.inl rfl | trivial | omega | assumption | (simp; done) | (simp; omega)))
       ·refine fin_ ?_
        (repeat' apply And.intro) <;> (first | (first | rfl | trivial | (rw [hsn]; done) | (left; rw [hsn]; done)) | (first | rfl | exact Or.inr rfl | exact Or.inl rfl | trivial | omega | assumption | (simp; done) | (simp; omega)))
     ·have hk : k = ws.length := by omega
      subst hk
      rw [List.take_length]
      have hof : (ws.any fun w => ancB l w.toNat i) = ofB l ws i := rfl
      rw [hof]
      refine vc_exit ?_
      simp only [k_rules, Nat.reduceEqDiff, reduceIte, eq_self]
      refine h12 _ ?_; clear h12; try clear N12
      refine vc_seq_k fun N19 h19 => ?_
      have hx := And.intro @hbe (And.intro @eB.eq_1 hx0)
      refine u_reg ?_
      try refine lg_mk ?_
      refine u_mv ?_
      refine u_mv ?_
      refine g_mv ?_
      refine g_mv ?_
      refine g_pt ?_
      refine g_ld ?_
      refine g_un ?_
      refine u_pk ?_
      refine lg_nil ?_
      have hx := hx0
      refine h19 _ ?_; clear h19; try clear N19
      refine u_cond (fun hb20 => ?_) (fun hb20 => ?_)
      ·refine u_reg ?_
       try refine lg_mk ?_
       refine u_mv ?_
       refine u_mv ?_
       refine u_bs ?_
       refine u_ap ?_
       refine u_mv ?_
       refine lg_nil ?_
       refine h10 _ ?_; clear h10; try clear N10
       refine u_reg ?_
       try refine lg_mk ?_
       refine u_mv ?_
       refine u_bn ?_
       refine u_mv ?_
       refine lg_nil ?_
       refine h6 _ ⟨i + 1, ?_, ?_, [some 2], ?_⟩
       ·dsimp only
        omega
       ·dsimp only
        omega
       ·dsimp only
        refine ⟨by rfl, ?_, ?_⟩
        ·refine fin_ ?_
         (repeat' apply And.intro) <;> (first | (first | rfl | trivial | (rw [lst_succ, if_pos (by rw [hgd]; have := hb20; simpa using this)]; simp [rows, eI]; done) | (rw [lst_succ, if_pos (by rw [hgd]; have := hb20; simpa using this)]; simp; done)) | (first | rfl | exact Or.inr rfl | exact Or.inl rfl | trivial | omega | assumption | (simp; done) | (simp; omega)))
        ·refine fin_ ?_
         (repeat' apply And.intro) <;> (first | (first | rfl | trivial | (rw [lst_succ, if_pos (by rw [hgd]; have := hb20; simpa using this)]; simp [rows, eI]; done) | (rw [lst_succ, if_pos (by rw [hgd]; have := hb20; simpa using this)]; simp; done)) | (first | rfl | exact Or.inr rfl | exact Or.inl rfl | trivial | omega | assumption | (simp; done) | (simp; omega)))
      ·refine vc_skip ?_
       try simp only [k_rules]
       refine h10 _ ?_; clear h10; try clear N10
       refine u_reg ?_
       try refine lg_mk ?_
       refine u_mv ?_
       refine u_bn ?_
       refine u_mv ?_
       refine lg_nil ?_
       refine h6 _ ⟨i + 1, ?_, ?_, [some 0], ?_⟩
       ·dsimp only
        omega
       ·dsimp only
        omega
       ·dsimp only
        refine ⟨by rfl, ?_, ?_⟩
        ·refine fin_ ?_
         (repeat' apply And.intro) <;> (first | (first | rfl | trivial | (rw [lst_succ, if_neg (by rw [hgd]; have := hb20; simpa using this), List.append_nil]; done)) | (first | rfl | exact Or.inr rfl | exact Or.inl rfl | trivial | omega | assumption | (simp; done) | (simp; omega)))
        ·refine fin_ ?_
         (repeat' apply And.intro) <;> (first | (first | rfl | trivial | (rw [lst_succ, if_neg (by rw [hgd]; have := hb20; simpa using this), List.append_nil]; done)) | (first | rfl | exact Or.inr rfl | exact Or.inl rfl | trivial | omega | assumption | (simp; done) | (simp; omega)))
   ·have hi : i = l.length := by omega
    subst hi
    refine vc_exit ?_
    simp only [k_rules, Nat.reduceEqDiff, reduceIte, eq_self]
    refine h4 _ ?_; clear h4; try clear N4
    refine vc_seq_k fun N21 h21 => ?_
    refine u_reg ?_
    try refine lg_mk ?_
    refine u_mv ?_
    refine u_mv ?_
    refine lg_nil ?_
    refine h21 _ ?_; clear h21; try clear N21
    refine vc_ret ?_
    try simp only [k_rules]
    refine fin2_ ?_
    (repeat' apply And.intro) <;> (first | (first | rfl | exact Or.inl rfl | trivial | exact Nat.le_refl _ | (simp [rows_len]; done) | (rw [List.drop_zero, rows_take, List.take_length]; done) | (rw [rows_take, List.take_length]; done)) | (first | rfl | exact Or.inr rfl | exact Or.inl rfl | trivial | omega | assumption | (simp; done) | (simp; omega)))
 ·cases hg

def E_lacks : Env Try.prog := E_without.add 18 (Spec.pure withG) lacks_meets (by kernel_rfl)

theorem missing_meets : Meets Try.prog 13 (Spec.pure missG) := by
 refine meets_fun (E_lacks.at_ 25) Try.func13 rfl rfl rfl ?_
 intro args p r hg hp
 unfold missG at hg
 split at hg
 ·rename_i xs ss rs ws
  simp only [Option.some.injEq, Prod.mk.injEq] at hg
  obtain ⟨rfl, rfl⟩ := hg
  obtain ⟨he, hf, hg, hw, hl, hs, hsl, hrl, hwl⟩ := hp
  generalize dC xs = l at *
  generalize dB ss = ss at *
  generalize dB rs = rs at *
  generalize dI ws = ws at *
  subst he hf hg hw
  have hT : (E_lacks).X = T := rfl
  have hx0 := And.intro @rect_eC (And.intro @dC_rows (And.intro @dI_rows (And.intro @dB_rows @Try.results13)))
  have hx := hx0
  refine ⟨by rfl, ?_⟩
  intro F W0 hnp hmk
  refine vc_seq_k fun N1 h1 => ?_
  refine u_reg ?_
  try refine lg_mk ?_
  refine u_mv ?_
  refine u_al ?_
  refine lg_nil ?_
  refine h1 _ ?_; clear h1; try clear N1
  refine vc_seq_k fun N2 h2 => ?_
  refine vc_seq_k fun N3 h3 => ?_
  by_cases h0 : (negF l ss rs ws).1 = 0
  ·obtain ⟨hneg, hz⟩ := neg_of h0
   have hv := hneg.val
   have hl60 := hv.len
   have hsl2 := hneg.sl
   have hrl2 := hneg.rl
   have hwf := hneg.few
   have hwr := hneg.inr
   have hx := And.intro @hz hx0
   refine u_reg ?_
   try refine lg_mk ?_
   refine u_mv ?_
   refine u_mv ?_
   refine u_mv ?_
   refine u_mv ?_
   have hc := call_rule (E := (E_lacks.at_ 25)) (f := 35) (sp := Spec.pure negG) rfl
   have hs := @negG.eq_1
   refine u_cp ?_
   refine u_al ?_
   refine u_st ?_
   refine lg_nil ?_
   have hx := hx0
   refine h3 _ ?_; clear h3; try clear N3
   refine vc_seq_k fun N4 h4 => ?_
   refine u_reg ?_
   try refine lg_mk ?_
   refine u_ld ?_
   refine u_bd ?_
   refine u_bn ?_
   refine lg_nil ?_
   refine h4 _ ?_; clear h4; try clear N4
   refine u_cond (fun hb5 => ?_) (fun hb5 => ?_)
   ·first | omega | exact absurd trivial hb5 | contradiction | (simp_all; done)
   ·refine vc_skip ?_
    try simp only [k_rules]
    refine h2 _ ?_; clear h2; try clear N2
    refine vc_seq_k fun N6 h6 => ?_
    refine u_reg ?_
    try refine lg_mk ?_
    refine u_mv ?_
    refine u_mv ?_
    refine u_mv ?_
    have hc := call_rule (E := (E_lacks.at_ 25)) (f := 36) (sp := Spec.pure withG) rfl
    have hs := @withG.eq_1
    refine u_hp (hq := by (first | (exact ⟨hv, hwr, by omega, hrl2⟩) | (first | trivial | omega | assumption | (unfold inI64; omega) | ((repeat' apply And.intro) <;> first | rfl | trivial | omega | assumption | (unfold inI64; omega)) | (simp; done) | (simp; omega)))) ?_
    refine u_bd ?_
    refine u_mv ?_
    refine u_st ?_
    refine lg_nil ?_
    refine h6 _ ?_; clear h6; try clear N6
    refine vc_ret ?_
    try simp only [k_rules]
    rw [if_pos h0, hz]
    refine fin2_ ?_
    exact cl_
  ·have hz : True := trivial
   have hx := And.intro @hz hx0
   refine u_reg ?_
   try refine lg_mk ?_
   refine u_mv ?_
   refine u_mv ?_
   refine u_mv ?_
   refine u_mv ?_
   have hc := call_rule (E := (E_lacks.at_ 25)) (f := 35) (sp := Spec.pure negG) rfl
   have hs := @negG.eq_1
   refine u_cp ?_
   refine u_al ?_
   refine u_st ?_
   refine lg_nil ?_
   have hx := hx0
   refine h3 _ ?_; clear h3; try clear N3
   refine vc_seq_k fun N7 h7 => ?_
   refine u_reg ?_
   try refine lg_mk ?_
   refine u_ld ?_
   refine u_bd ?_
   refine u_bn ?_
   refine lg_nil ?_
   refine h7 _ ?_; clear h7; try clear N7
   refine u_cond (fun hb8 => ?_) (fun hb8 => ?_)
   ·refine vc_seq_k fun N9 h9 => ?_
    refine u_reg ?_
    try refine lg_mk ?_
    refine u_ld ?_
    refine u_mv ?_
    refine u_st ?_
    refine lg_nil ?_
    refine h9 _ ?_; clear h9; try clear N9
    refine vc_ret ?_
    try simp only [k_rules]
    rw [if_neg h0]
    refine fin2_ ?_
    exact cl_
   ·first | omega | exact absurd trivial hb8 | contradiction | (simp_all; done)
 ·cases hg

def E_missing : Env Try.prog := E_lacks.add 13 (Spec.pure missG) missing_meets (by kernel_rfl)
end Go.Proofs.Ytaoifpmifpmhmaa
