/- Walks, printed by wip/gen/walk.py. -/
import Derived.Test.YtoagbjhlpfepkaaGreatDoorT21
import Derived.Test.YtoagbjhlpfepkaaGreatDoorV5
set_option linter.all false
set_option maxRecDepth 100000
set_option maxHeartbeats 4000000
namespace Go.Proofs.YtoagbjhlpfepkaaGreatDoor
open Go Go.Vc Go.RowKit
theorem missingR_meets : Meets Tryz.prog 9 (Spec.pure misRG) := by
 refine meets_fun (E_missing.at_ 41) Tryz.func9 rfl rfl rfl ?_
 intro args p r hg hp
 unfold misRG at hg
 split at hg
 ·rename_i xs
  simp only [Option.some.injEq, Prod.mk.injEq] at hg
  obtain ⟨rfl, rfl⟩ := hg
  obtain ⟨he, hv⟩ := hp
  generalize dO xs = S at *
  subst he
  have hlen := hv.len
  have hT : (E_missing).X = T := rfl
  have hx0 := And.intro @rect_eO (And.intro @dI_rows (And.intro @dU_rows (And.intro @dO_rows (And.intro @takeI_len @Tryz.results9))))
  have hx := hx0
  refine ⟨by rfl, ?_⟩
  intro F W0 hnp hmk
  refine vc_seq_k fun N1 h1 => ?_
  refine u_reg ?_
  try refine lg_mk ?_
  refine u_bx ?_
  refine u_mv ?_
  refine lg_nil ?_
  refine h1 _ ?_; clear h1; try clear N1
  refine vc_seq_k fun N2 h2 => ?_
  refine u_reg ?_
  try refine lg_mk ?_
  refine u_mv ?_
  refine lg_nil ?_
  refine h2 _ ?_; clear h2; try clear N2
  refine vc_seq_k fun N3 h3 => ?_
  refine vc_seq_k fun N4 h4 => ?_
  refine u_reg ?_
  try refine lg_mk ?_
  refine u_mv ?_
  refine lg_nil ?_
  refine h4 _ ?_; clear h4; try clear N4
  refine vc_block ?_
  refine vc_loop_mk (σ := Nat) (fun s => (fun i => i ≤ S.length) s)
   (fun s => (fun i => [(1, .ptr 0 0 0), (3, .d (.sl (rows eI (insA (misP S i 0))))), (4, .d (.int .i64 (i : Nat)))]) s)
   (fun s => (fun i => [some (.one 24 [.d (.sl (rows eO S))])]) s) (fun s => (fun i => S.length - i) s) hnp 0 ?_ [some 0] ?_ ?_
  ·dsimp only
   omega
  ·dsimp only
   refine ⟨by rfl, ?_, ?_⟩
   ·refine fin_ ?_
    (repeat' apply And.intro) <;> (first | (first | rfl | trivial | omega | (rw [misP_zero]; rfl) | (simp [misP_zero, insA]; done)) | exact cl_)
   ·refine fin_ ?_
    (repeat' apply And.intro) <;> (first | (first | rfl | trivial | omega | (rw [misP_zero]; rfl) | (simp [misP_zero, insA]; done)) | exact cl_)
  ·rintro i hinv N5 h5
   dsimp only at hinv ⊢
   have i1 := hinv
   refine vc_seq_k fun N6 h6 => ?_
   refine vc_seq_k fun N7 h7 => ?_
   refine u_reg ?_
   try refine lg_mk ?_
   refine u_mv ?_
   refine u_pt ?_
   refine u_ld ?_
   refine u_ln ?_
   refine u_bn ?_
   refine lg_nil ?_
   refine h7 _ ?_; clear h7; try clear N7
   refine u_cond (fun hb8 => ?_) (fun hb8 => ?_)
   ·obtain ⟨x, hxe⟩ := getE (l := S) (i := i) (by omega)
    have hxo := hv.ok x (mem_at hxe)
    obtain ⟨d, o⟩ := x
    obtain ⟨kd, l, u⟩ := o
    have hxl : l.length ≤ 30 := hxo.ln
    refine vc_skip ?_
    try simp only [k_rules]
    refine h6 _ ?_; clear h6; try clear N6
    refine vc_seq_k fun N9 h9 => ?_
    refine vc_block ?_
    refine vc_seq_k fun N10 h10 => ?_
    have hx := And.intro @hxe (And.intro @eO.eq_1 hx0)
    refine u_reg ?_
    try refine lg_mk ?_
    refine u_pt ?_
    refine u_ld ?_
    refine u_mv ?_
    refine u_pt ?_
    refine u_pt ?_
    refine u_pt ?_
    refine u_ld ?_
    refine u_mv ?_
    refine lg_nil ?_
    have hx := hx0
    refine h10 _ ?_; clear h10; try clear N10
    refine vc_seq_k fun N11 h11 => ?_
    refine u_reg ?_
    try refine lg_mk ?_
    refine u_mv ?_
    refine lg_nil ?_
    refine h11 _ ?_; clear h11; try clear N11
    refine vc_block ?_
    refine vc_loop_mk (σ := Nat) (fun s => (fun k => k ≤ l.length) s)
     (fun s => (fun k => [(1, .ptr 0 0 0), (3, .d (.sl (rows eI (insA (misP S i k))))), (4, .d (.int .i64 (i : Nat))), (5, .d (.sl (rows eI l))), (6, .d (.int .i64 (k : Nat)))]) s)
     (fun s => (fun k => [some (.one 24 [.d (.sl (rows eO S))])]) s) (fun s => (fun k => l.length - k) s) hnp 0 ?_ [some 0] ?_ ?_
    ·dsimp only
     omega
    ·dsimp only
     refine ⟨by rfl, ?_, ?_⟩
     ·refine fin_ ?_
      exact cl_
     ·refine fin_ ?_
      exact cl_
    ·rintro k hinv N12 h12
     dsimp only at hinv ⊢
     have k1 := hinv
     refine vc_seq_k fun N13 h13 => ?_
     refine vc_seq_k fun N14 h14 => ?_
     refine u_reg ?_
     try refine lg_mk ?_
     refine u_mv ?_
     refine u_mv ?_
     refine u_ln ?_
     refine u_bn ?_
     refine lg_nil ?_
     refine h14 _ ?_; clear h14; try clear N14
     refine u_cond (fun hb15 => ?_) (fun hb15 => ?_)
     ·obtain ⟨z, hze⟩ := getE (l := l) (i := k) (by omega)
      have hml := misP_len hv i k
      have hil := insA_len (misP S i k)
      refine vc_skip ?_
      try simp only [k_rules]
      refine h13 _ ?_; clear h13; try clear N13
      refine vc_seq_k fun N16 h16 => ?_
      refine vc_block ?_
      refine vc_seq_k fun N17 h17 => ?_
      rcases (show inS S z = true ∨ inS S z = false by cases inS S z <;> simp) with hin | hin
      ·have hpp := misP_in (k := k) hxe hze hin
       have hat : atS S z = ((lbS S z : Nat) : Int) := by unfold atS; rw [hin]; rfl
       have hx := And.intro @hze (And.intro @eI.eq_1 (And.intro @hat hx0))
       refine u_reg ?_
       try refine lg_mk ?_
       refine u_ld ?_
       refine u_mv ?_
       refine u_mv ?_
       refine u_pt ?_
       refine u_ld ?_
       have hc := call_rule (E := (E_missing.at_ 41)) (f := 22) (sp := Spec.pure atG) rfl
       have hs := @atG.eq_1
       refine u_cp (hq := by (first | (exact ⟨hv.sort, by omega⟩) | exact sd_)) ?_
       refine u_bn ?_
       refine lg_nil ?_
       have hx := hx0
       refine h17 _ ?_; clear h17; try clear N17
       refine u_cond (fun hb18 => ?_) (fun hb18 => ?_)
       ·first | omega | (simp at hb18; done)
       ·refine vc_skip ?_
        try simp only [k_rules]
        refine h16 _ ?_; clear h16; try clear N16
        refine u_reg ?_
        try refine lg_mk ?_
        refine u_mv ?_
        refine u_bn ?_
        refine u_mv ?_
        refine lg_nil ?_
        refine h12 _ ⟨k + 1, ?_, ?_, [some 0], ?_⟩
        ·dsimp only
         omega
        ·dsimp only
         omega
        ·dsimp only
         refine ⟨by rfl, ?_, ?_⟩
         ·refine fin_ ?_
          (repeat' apply And.intro) <;> (first | (first | rfl | trivial | omega | (rw [hpp]; done) | (left; rw [hpp]; done)) | exact cl_)
         ·refine fin_ ?_
          (repeat' apply And.intro) <;> (first | (first | rfl | trivial | omega | (rw [hpp]; done) | (left; rw [hpp]; done)) | exact cl_)
      ·have hpp := misP_out (k := k) hxe hze hin
       have hat : atS S z = -1 := by unfold atS; rw [hin]; rfl
       have hx := And.intro @hze (And.intro @eI.eq_1 (And.intro @hat hx0))
       refine u_reg ?_
       try refine lg_mk ?_
       refine u_ld ?_
       refine u_mv ?_
       refine u_mv ?_
       refine u_pt ?_
       refine u_ld ?_
       have hc := call_rule (E := (E_missing.at_ 41)) (f := 22) (sp := Spec.pure atG) rfl
       have hs := @atG.eq_1
       refine u_cp (hq := by (first | (exact ⟨hv.sort, by omega⟩) | exact sd_)) ?_
       refine u_bn ?_
       refine lg_nil ?_
       have hx := hx0
       refine h17 _ ?_; clear h17; try clear N17
       refine u_cond (fun hb19 => ?_) (fun hb19 => ?_)
       ·have hx := And.intro @hze (And.intro @eI.eq_1 hx0)
        refine u_reg ?_
        try refine lg_mk ?_
        refine u_mv ?_
        refine u_mv ?_
        refine u_mv ?_
        refine u_pt ?_
        refine u_ld ?_
        have hc := call_rule (E := (E_missing.at_ 41)) (f := 23) (sp := Spec.pure insG) rfl
        have hs := @insG.eq_1
        refine u_hp ?_
        refine u_mv ?_
        refine lg_nil ?_
        have hx := hx0
        refine h16 _ ?_; clear h16; try clear N16
        refine u_reg ?_
        try refine lg_mk ?_
        refine u_mv ?_
        refine u_bn ?_
        refine u_mv ?_
        refine lg_nil ?_
        refine h12 _ ⟨k + 1, ?_, ?_, [some 0], ?_⟩
        ·dsimp only
         omega
        ·dsimp only
         omega
        ·dsimp only
         refine ⟨by rfl, ?_, ?_⟩
         ·refine fin_ ?_
          (repeat' apply And.intro) <;> (first | (first | rfl | trivial | omega | (rw [hpp, insA_snoc]; done) | (left; rw [hpp, insA_snoc]; done)) | exact cl_)
         ·refine fin_ ?_
          (repeat' apply And.intro) <;> (first | (first | rfl | trivial | omega | (rw [hpp, insA_snoc]; done) | (left; rw [hpp, insA_snoc]; done)) | exact cl_)
       ·first | omega | (simp at hb19; done)
     ·have hnx := misP_next (k := k) hxe (by dsimp only; omega)
      refine vc_exit ?_
      simp only [k_rules, Nat.reduceEqDiff, reduceIte, eq_self]
      refine h9 _ ?_; clear h9; try clear N9
      refine u_reg ?_
      try refine lg_mk ?_
      refine u_mv ?_
      refine u_bn ?_
      refine u_mv ?_
      refine lg_nil ?_
      refine h5 _ ⟨i + 1, ?_, ?_, [some 0], ?_⟩
      ·dsimp only
       omega
      ·dsimp only
       omega
      ·dsimp only
       refine ⟨by rfl, ?_, ?_⟩
       ·refine fin_ ?_
        (repeat' apply And.intro) <;> (first | (first | rfl | trivial | omega | (rw [hnx]; done) | (left; rw [hnx]; done)) | exact cl_)
       ·refine fin_ ?_
        (repeat' apply And.intro) <;> (first | (first | rfl | trivial | omega | (rw [hnx]; done) | (left; rw [hnx]; done)) | exact cl_)
   ·refine vc_exit ?_
    simp only [k_rules, Nat.reduceEqDiff, reduceIte, eq_self]
    refine h3 _ ?_; clear h3; try clear N3
    refine vc_seq_k fun N20 h20 => ?_
    refine u_reg ?_
    try refine lg_mk ?_
    refine u_mv ?_
    refine u_mv ?_
    refine lg_nil ?_
    refine h20 _ ?_; clear h20; try clear N20
    refine vc_ret ?_
    try simp only [k_rules]
    rw [misP_all (S := S) (i := i) (by omega)]
    refine fin2_ ?_
    exact cl_
 ·cases hg

def E_missingR : Env Tryz.prog := E_missing.add 9 (Spec.pure misRG) missingR_meets (by kernel_rfl)
end Go.Proofs.YtoagbjhlpfepkaaGreatDoor
