/- Walks, printed by wip/gen/walk.py. -/
import Derived.Test.YtjdhadbnmghdgaaT25
import Derived.Test.YtjdhadbnmghdgaaV5
set_option linter.all false
set_option maxRecDepth 100000
set_option maxHeartbeats 4000000
namespace Go.Proofs.Ytjdhadbnmghdgaa
open Go Go.Vc Go.RowKit
theorem delPF_meets : Meets Try.prog 44 (Spec.gen delPG) := by
 refine meets_handed (E_ixP.at_ 42) Try.func44 rfl rfl rfl ?_
 intro args bl p r bf hg hp
 unfold delPG at hg
 split at hg
 ·rename_i n t s xs
  simp only [Option.some.injEq, Prod.mk.injEq] at hg
  obtain ⟨rfl, rfl, rfl⟩ := hg
  obtain ⟨rfl, rfl, he, rfl, hl, hsm⟩ := hp
  generalize dP xs = l at *
  subst he
  have hT : (E_ixP).X = T := rfl
  have hx0 := And.intro @rect_eP (And.intro @eP_eq (And.intro @dI_rows (And.intro @dP_rows @Try.results44)))
  have hx := hx0
  refine ⟨Nat.le_of_ble_eq_true rfl, ?_⟩
  intro F W0 M0 hnp hmk
  have hnp : Far.np = 1 := hnp
  refine vc_seq_k fun N1 h1 => ?_
  refine u_reg ?_
  try refine lg_mk ?_
  refine u_mv ?_
  refine lg_nil ?_
  refine h1 _ ?_; clear h1; try clear N1
  refine vc_seq_k fun N2 h2 => ?_
  refine u_reg ?_
  try refine lg_mk ?_
  refine u_mv ?_
  refine u_mv ?_
  have hc := call_rule (E := (E_ixP.at_ 42)) (f := 54) (sp := Spec.pure ixPG) rfl
  have hs := @ixPG.eq_1
  refine u_cp (hq := by (first | (first | exact ⟨by simp; omega, by rw [List.take_length]; exact hsm⟩ | exact ⟨by simp, by simp; omega, by rw [List.take_length]; exact hsm⟩) | exact sd_)) ?_
  refine u_mv ?_
  refine lg_nil ?_
  try simp only [List.take_length]
  refine h2 _ ?_; clear h2; try clear N2
  refine vc_seq_k fun N3 h3 => ?_
  refine vc_seq_k fun N4 h4 => ?_
  rcases fidxA_or noT l with ⟨hf1, hf2⟩ | ⟨i0, x0, hf1, hf2, hf3, hf4⟩
  ·have hdl := delA_none hf2
   have hx := And.intro @hf1 hx0
   refine u_reg ?_
   try refine lg_mk ?_
   refine u_mv ?_
   refine u_bn ?_
   refine lg_nil ?_
   have hx := hx0
   refine h4 _ ?_; clear h4; try clear N4
   refine u_cond (fun hb5 => ?_) (fun hb5 => ?_)
   ·refine vc_seq_k fun N6 h6 => ?_
    refine u_reg ?_
    try refine lg_mk ?_
    refine u_mv ?_
    refine u_mv ?_
    refine lg_nil ?_
    refine h6 _ ?_; clear h6; try clear N6
    refine vc_ret ?_
    try simp only [k_rules]
    rw [hdl]
    refine fin_ ?_
    refine ⟨[some 0], by rfl, ?_, ?_⟩
    ·refine fin_ ?_
     exact cl_
    ·refine fin_ ?_
     exact cl_
   ·first | omega | exact absurd trivial hb5 | contradiction | (simp_all; done)
  ·have hst := DelA.start hf2 hf3 hf4
   have hi0 := (List.getElem?_eq_some_iff.1 hf2).1
   have hx := And.intro @hf1 hx0
   refine u_reg ?_
   try refine lg_mk ?_
   refine u_mv ?_
   refine u_bn ?_
   refine lg_nil ?_
   have hx := hx0
   refine h4 _ ?_; clear h4; try clear N4
   refine u_cond (fun hb7 => ?_) (fun hb7 => ?_)
   ·first | omega | exact absurd trivial hb7 | contradiction | (simp_all; done)
   ·refine vc_skip ?_
    try simp only [k_rules]
    refine h3 _ ?_; clear h3; try clear N3
    refine vc_seq_k fun N8 h8 => ?_
    refine vc_seq_k fun N9 h9 => ?_
    refine u_reg ?_
    try refine lg_mk ?_
    refine u_mv ?_
    refine u_bn ?_
    refine u_mv ?_
    refine lg_nil ?_
    refine h9 _ ?_; clear h9; try clear N9
    refine vc_block ?_
    refine vc_loop_mk (σ := Nat × Nat × List Post) (fun s => (fun i j m => DelA noT l m i j) (s.1) (s.2.1) (s.2.2))
     (fun s => (fun i j m => [(0, .sl 0 0 l.length), (1, .clo (.func 45) []), (5, .d (.int .i64 (i : Nat))), (6, .d (.int .i64 (j : Nat)))]) (s.1) (s.2.1) (s.2.2))
     (fun s => (fun i j m => [some (.vec 55 2 (rows eP m))]) (s.1) (s.2.1) (s.2.2)) (fun s => (fun i j m => l.length - j) (s.1) (s.2.1) (s.2.2)) hnp (i0, i0 + 1, l) ?_ [some 0] ?_ ?_
    ·dsimp only
     exact hst
    ·dsimp only
     refine ⟨by rfl, ?_, ?_⟩
     ·refine fin_ ?_
      exact cl_
     ·refine fin_ ?_
      exact cl_
    ·rintro ⟨i, j, m⟩ hinv N10 h10
     dsimp only at hinv ⊢
     have hiv := hinv
     have hml := hinv.len
     have hij := hinv.le
     have hjl := hinv.jl
     refine vc_seq_k fun N11 h11 => ?_
     refine vc_seq_k fun N12 h12 => ?_
     refine u_reg ?_
     try refine lg_mk ?_
     refine u_mv ?_
     refine u_mv ?_
     refine u_ln ?_
     refine u_bn ?_
     refine lg_nil ?_
     refine h12 _ ?_; clear h12; try clear N12
     refine u_cond (fun hb13 => ?_) (fun hb13 => ?_)
     ·obtain ⟨⟨g, t⟩, hmx, hlx⟩ := hiv.get (by have := hiv.len; omega)
      have htl : t.length ≤ 9223372036854775807 := (hsm _ (mem_at hlx)).2
      refine vc_skip ?_
      try simp only [k_rules]
      refine h11 _ ?_; clear h11; try clear N11
      refine vc_seq_k fun N14 h14 => ?_
      refine vc_block ?_
      refine vc_seq_k fun N15 h15 => ?_
      have hx := And.intro @hmx hx0
      refine u_reg ?_
      try refine lg_mk ?_
      refine u_mv ?_
      refine u_mv ?_
      refine u_pt ?_
      refine u_ld ?_
      refine u_al ?_
      refine u_st ?_
      refine lg_nil ?_
      have hx := hx0
      refine h15 _ ?_; clear h15; try clear N15
      refine vc_seq_k fun N16 h16 => ?_
      refine u_reg ?_
      try refine lg_mk ?_
      refine u_mv ?_
      refine u_ld ?_
      have hc := (rfl : ((E_ixP.at_ 42)).Γ 45 = some (Spec.pure noTG))
      have hs := (@noTG.eq_1)
      refine u_kp (hq := by (first | (first | exact htl | exact ⟨rfl, htl⟩ | (rw [dI_rows]; exact ⟨rfl, htl⟩)) | exact sd_)) ?_
      refine u_un ?_
      refine lg_nil ?_
      refine h16 _ ?_; clear h16; try clear N16
      refine u_cond (fun hb17 => ?_) (fun hb17 => ?_)
      ·have hq : noT (g, t) = false := by have := hb17; (try simp only [dI_rows] at this); unfold noT; simpa using this
       obtain ⟨y, hye⟩ := getE (l := m) (i := i) (by omega)
       obtain ⟨yg, yt⟩ := y
       refine vc_seq_k fun N18 h18 => ?_
       have hx := And.intro @hye hx0
       refine u_reg ?_
       try refine lg_mk ?_
       refine u_mv ?_
       refine u_mv ?_
       refine u_ld ?_
       refine u_pt ?_
       refine u_st ?_
       refine lg_nil ?_
       have hx := hx0
       refine h18 _ ?_; clear h18; try clear N18
       refine u_reg ?_
       try refine lg_mk ?_
       refine u_mv ?_
       refine u_bn ?_
       refine u_mv ?_
       refine lg_nil ?_
       refine h14 _ ?_; clear h14; try clear N14
       refine u_reg ?_
       try refine lg_mk ?_
       refine u_mv ?_
       refine u_bn ?_
       refine u_mv ?_
       refine lg_nil ?_
       refine h10 _ ⟨(i + 1, j + 1, m.set i (g, t)), ?_, ?_, [some 0], ?_⟩
       ·dsimp only
        exact hiv.keep hlx hq
       ·dsimp only
        omega
       ·dsimp only
        refine ⟨by rfl, ?_, ?_⟩
        ·refine fin_ ?_
         (repeat' apply And.intro) <;> (first | (first | rfl | trivial | (rw [set_rowP2]; done) | exact set_rowP2) | exact cl_)
        ·refine fin_ ?_
         (repeat' apply And.intro) <;> (first | (first | rfl | trivial | (rw [set_rowP2]; done) | exact set_rowP2) | exact cl_)
      ·have hq : noT (g, t) = true := by have := hb17; (try simp only [dI_rows] at this); unfold noT; simpa using this
       refine vc_skip ?_
       try simp only [k_rules]
       refine h14 _ ?_; clear h14; try clear N14
       refine u_reg ?_
       try refine lg_mk ?_
       refine u_mv ?_
       refine u_bn ?_
       refine u_mv ?_
       refine lg_nil ?_
       refine h10 _ ⟨(i, j + 1, m), ?_, ?_, [some 0], ?_⟩
       ·dsimp only
        exact hiv.skip hlx hq
       ·dsimp only
        omega
       ·dsimp only
        refine ⟨by rfl, ?_, ?_⟩
        ·refine fin_ ?_
         (repeat' apply And.intro) <;> (first | (first | rfl | trivial | (rw [set_rowP2]; done) | exact set_rowP2) | exact cl_)
        ·refine fin_ ?_
         (repeat' apply And.intro) <;> (first | (first | rfl | trivial | (rw [set_rowP2]; done) | exact set_rowP2) | exact cl_)
     ·refine vc_exit ?_
      simp only [k_rules, Nat.reduceEqDiff, reduceIte, eq_self]
      refine h8 _ ?_; clear h8; try clear N8
      refine vc_seq_k fun N19 h19 => ?_
      refine u_reg ?_
      try refine lg_mk ?_
      refine u_mv ?_
      refine u_mv ?_
      refine u_sl ?_
      refine lg_sem (by rfl) (sem_clear (by first | (simp only [wB, eq_self, Nat.reduceEqDiff, reduceIte]; done) | (simp only [wB, eq_self, Nat.reduceEqDiff, reduceIte]; rfl)) (by first | trivial | simp only [wB, eq_self, Nat.reduceEqDiff, reduceIte]) (by simp only [wB, eq_self, Nat.reduceEqDiff, reduceIte]; rfl) (by first | (simp only [wB, eq_self, Nat.reduceEqDiff, reduceIte, env_rules, tys, hT, tiAgg]; done) | (simp only [wB, eq_self, Nat.reduceEqDiff, reduceIte, env_rules, tys, hT, tiAgg]; rfl)) (by first | (simp only [wB, eq_self, Nat.reduceEqDiff, reduceIte, env_rules, tys, hT, tiAgg]; done) | (simp only [wB, eq_self, Nat.reduceEqDiff, reduceIte, env_rules, tys, hT, tiAgg]; rfl)) rfl ?_)
      try simp only [wB, eq_self, Nat.reduceEqDiff, reduceIte, wL, Int.toNat_natCast, Int.reduceToNat, Nat.reduceAdd, Nat.reduceMul, Nat.reduceSub, Nat.reduceLeDiff, hx]
      refine lg_nil ?_
      refine h19 _ ?_; clear h19; try clear N19
      refine vc_seq_k fun N20 h20 => ?_
      refine u_reg ?_
      try refine lg_mk ?_
      refine u_mv ?_
      refine u_mv ?_
      refine u_sl ?_
      refine u_mv ?_
      refine lg_nil ?_
      refine h20 _ ?_; clear h20; try clear N20
      refine vc_ret ?_
      try simp only [k_rules]
      obtain rfl : j = l.length := by omega
      obtain ⟨hfi, hfl⟩ := hiv.fin
      rw [hfl, ← hfi]
      refine fin_ ?_
      refine ⟨[some 0], by rfl, ?_, ?_⟩
      ·refine fin_ ?_
       (repeat' apply And.intro) <;> (first | (first | rfl | trivial | omega | (simp [rows, splice, List.map_take]; done) | (simp [rows, splice, List.map_take]; omega)) | exact cl_)
      ·refine fin_ ?_
       (repeat' apply And.intro) <;> (first | (first | rfl | trivial | omega | (simp [rows, splice, List.map_take]; done) | (simp [rows, splice, List.map_take]; omega)) | exact cl_)
 ·cases hg

def E_delPF : Env Try.prog := E_ixP.add 44 (Spec.gen delPG) delPF_meets (by kernel_rfl)
end Go.Proofs.Ytjdhadbnmghdgaa
