/- Walks, printed by wip/gen/walk.py. -/
import Derived.Test.YtjdhadbnmghdgaaT18
import Derived.Test.YtjdhadbnmghdgaaV6
import Derived.Test.YtjdhadbnmghdgaaV5
set_option linter.all false
set_option maxRecDepth 100000
set_option maxHeartbeats 4000000
namespace Go.Proofs.Ytjdhadbnmghdgaa
open Go Go.Vc Go.RowKit
theorem addP_eq {P : List Post} {n : Int} {s : Bs} {k : Nat} (h : k = s.length - 2) : addK P n s k = addP P n s := by rw [h]; rfl
theorem idxK_succ (ts : List Bs) (k : Nat) {s : Bs} (h : ts[k]? = some s) : addP (idxK ts k) k s = idxK ts (k + 1) := by rw [idxK, getD_at h]
theorem iota_get {n i : Nat} (h : i < n) : (iota n)[i]? = some (i : Int) := by unfold iota; rw [List.getElem?_map, List.getElem?_range h]; rfl

theorem ixOf_meets : Meets Try.prog 13 (Spec.pure ixOfG) := by
 refine meets_fun (E_remT.at_ 50) Try.func13 rfl rfl rfl ?_
 intro args p r hg hp
 unfold ixOfG at hg
 split at hg
 ·rename_i ns xs
  simp only [Option.some.injEq, Prod.mk.injEq] at hg
  obtain ⟨rfl, rfl⟩ := hg
  obtain ⟨he, rfl, hl, hsl⟩ := hp
  generalize dT xs = l at *
  subst he
  have hT : (E_remT).X = T := rfl
  have hx0 := And.intro @rect_eT (And.intro @eT.eq_1 (And.intro @rect_eP (And.intro @dI_rows (And.intro @dP_rows @Try.results13))))
  have hx := hx0
  refine ⟨by rfl, ?_⟩
  intro F W0 hnp hmk
  refine vc_seq_k fun N1 h1 => ?_
  refine u_reg ?_
  try refine lg_mk ?_
  refine u_al ?_
  refine lg_nil ?_
  refine h1 _ ?_; clear h1; try clear N1
  refine vc_seq_k fun N2 h2 => ?_
  refine u_reg ?_
  try refine lg_mk ?_
  refine u_bd ?_
  refine u_al ?_
  refine u_st ?_
  refine lg_nil ?_
  refine h2 _ ?_; clear h2; try clear N2
  refine vc_seq_k fun N3 h3 => ?_
  refine vc_seq_k fun N4 h4 => ?_
  refine vc_nil1 1 1 _ 2 (vec_nil 55 2) rfl rfl rfl ?_
  simp only [updL, List.set, List.cons_append, List.nil_append]
  refine u_reg ?_
  try refine lg_mk ?_
  refine u_mv ?_
  refine lg_nil ?_
  refine h4 _ ?_; clear h4; try clear N4
  refine vc_block ?_
  refine vc_loop_mk (σ := Nat) (fun s => (fun i => i ≤ l.length) s)
   (fun s => (fun i => [(0, .d (.sl (rows eI (iota l.length)))), (1, .d (.sl (rows eT l))), (4, .ptr 0 0 0), (5, .ptr 1 0 0), (6, .d (.int .i64 (i : Nat)))]) s)
   (fun s => (fun i => [some (.one 27 [.d .nils, .d .nils]), some (.one 27 [.d (.sl (rows eI (iota i))), .sl 2 0 (idxK l i).length]), some (.vec 55 2 (rows eP (idxK l i)))]) s) (fun s => (fun i => l.length - i) s) hnp 0 ?_ [some 0, some 1, some 2] ?_ ?_
  ·dsimp only
   omega
  ·dsimp only
   refine ⟨by rfl, ?_, ?_⟩
   ·refine fin_ ?_
    exact cl_
   ·refine fin_ ?_
    exact cl_
  ·rintro i hinv N5 h5
   dsimp only at hinv ⊢
   have i1 := hinv
   have hg := idxK_good l i
   obtain ⟨hb1, hb2⟩ := idxK_bnd hsl i
   refine vc_seq_k fun N6 h6 => ?_
   refine vc_seq_k fun N7 h7 => ?_
   refine u_reg ?_
   try refine lg_mk ?_
   refine u_mv ?_
   refine u_mv ?_
   refine u_ln ?_
   refine u_bn ?_
   refine lg_nil ?_
   refine h7 _ ?_; clear h7; try clear N7
   refine u_cond (fun hb8 => ?_) (fun hb8 => ?_)
   ·have hil : i < l.length := by have := hb8; rw [iota_len] at this; omega
    obtain ⟨x, hxe⟩ := getE hil
    have hxl := hsl x (mem_at hxe)
    have hni := iota_get hil
    have hii := iota_len i
    refine vc_skip ?_
    try simp only [k_rules]
    refine h6 _ ?_; clear h6; try clear N6
    refine vc_seq_k fun N9 h9 => ?_
    refine vc_block ?_
    refine vc_seq_k fun N10 h10 => ?_
    have hx := And.intro @hni (And.intro @eI.eq_1 (And.intro @dI_rows hx0))
    refine u_reg ?_
    try refine lg_mk ?_
    refine u_pt ?_
    refine u_ld ?_
    refine u_mv ?_
    refine u_mv ?_
    refine u_pt ?_
    refine u_ld ?_
    have hc := call_rule (E := (E_remT.at_ 50)) (f := 29) (sp := Spec.pure insG) rfl
    have hs := @insG.eq_1
    refine u_hp ?_
    refine u_pt ?_
    refine u_st ?_
    refine lg_nil ?_
    have hx := hx0
    refine h10 _ ?_; clear h10; try clear N10
    refine vc_seq_k fun N11 h11 => ?_
    refine u_reg ?_
    try refine lg_mk ?_
    refine u_mv ?_
    refine lg_nil ?_
    refine h11 _ ?_; clear h11; try clear N11
    refine vc_block ?_
    refine vc_loop_mk (σ := Nat) (fun s => (fun k => k ≤ x.length - 2) s)
     (fun s => (fun k => [(0, .d (.sl (rows eI (iota l.length)))), (1, .d (.sl (rows eT l))), (4, .ptr 0 0 0), (5, .ptr 1 0 0), (6, .d (.int .i64 (i : Nat))), (7, .d (.int .i64 (k : Nat)))]) s)
     (fun s => (fun k => [some (.one 27 [.d .nils, .d .nils]), some (.one 27 [.d (.sl (rows eI (iota (i + 1)))), .sl 2 0 (addK (idxK l i) i x k).length]), some (.vec 55 2 (rows eP (addK (idxK l i) i x k)))]) s) (fun s => (fun k => x.length - k) s) hnp 0 ?_ [some 0, some 1, some 2] ?_ ?_
    ·dsimp only
     omega
    ·dsimp only
     refine ⟨by rfl, ?_, ?_⟩
     ·refine fin_ ?_
      (repeat' apply And.intro) <;> (first | (first | rfl | trivial | (rw [ins_iota]; done) | exact Or.inl (by rw [ins_iota]) | (simp [ins_iota]; done)) | exact cl_)
     ·refine fin_ ?_
      (repeat' apply And.intro) <;> (first | (first | rfl | trivial | (rw [ins_iota]; done) | exact Or.inl (by rw [ins_iota]) | (simp [ins_iota]; done)) | exact cl_)
    ·rintro k hinv N12 h12
     dsimp only at hinv ⊢
     have k1 := hinv
     refine vc_seq_k fun N13 h13 => ?_
     refine vc_seq_k fun N14 h14 => ?_
     have hx := And.intro @hxe hx0
     refine u_reg ?_
     try refine lg_mk ?_
     refine u_mv ?_
     refine u_bn ?_
     refine u_mv ?_
     refine u_mv ?_
     refine u_pt ?_
     refine u_ld ?_
     refine u_ln ?_
     refine u_bn ?_
     refine lg_nil ?_
     have hx := hx0
     refine h14 _ ?_; clear h14; try clear N14
     refine u_cond (fun hb15 => ?_) (fun hb15 => ?_)
     ·have hk3 : k + 3 ≤ x.length := by have := hb15; omega
      have hgr : List.take (((k : Int) + 3).toNat - k) (x.drop k) = gr x k := by unfold gr; congr 1; omega
      have hgk := addK_good (n := i) (s := x) hg k
      have hpk := addK_len (P := idxK l i) (n := i) (s := x) k
      have hmk := addK_max (n := i) (s := x) (M := 400 * i + 1) (by omega) hb2 k
      refine vc_skip ?_
      try simp only [k_rules]
      refine h13 _ ?_; clear h13; try clear N13
      refine vc_seq_k fun N16 h16 => ?_
      refine vc_block ?_
      have hx := And.intro @hxe (And.intro @hni (And.intro @eI.eq_1 (And.intro @hgr hx0)))
      refine u_reg ?_
      try refine lg_mk ?_
      refine u_pt ?_
      refine u_ld ?_
      refine u_mv ?_
      refine u_mv ?_
      refine u_pt ?_
      refine u_ld ?_
      refine u_mv ?_
      refine u_mv ?_
      refine u_bn ?_
      refine u_sl ?_
      refine u_mv ?_
      refine u_mv ?_
      refine u_pt ?_
      refine u_ld ?_
      have hc := call_rule (E := (E_remT.at_ 50)) (f := 30) (sp := Spec.gen postRG) rfl
      have hs := @postRG.eq_1
      refine u_hg (hq := by (first | (exact ⟨hgk.sort, by omega, fun p hp => by have := hmk p hp; omega⟩) | exact sd_)) ?_
      refine u_pt ?_
      refine u_st ?_
      refine lg_nil ?_
      have hx := hx0
      refine h16 _ ?_; clear h16; try clear N16
      refine u_reg ?_
      try refine lg_mk ?_
      refine u_mv ?_
      refine u_bn ?_
      refine u_mv ?_
      refine lg_nil ?_
      refine h12 _ ⟨k + 1, ?_, ?_, [some 0, some 1, some 3], ?_⟩
      ·dsimp only
       omega
      ·dsimp only
       omega
      ·dsimp only
       refine ⟨by rfl, ?_, ?_⟩
       ·refine fin_ ?_
        exact cl_
       ·refine fin_ ?_
        exact cl_
     ·refine vc_exit ?_
      simp only [k_rules, Nat.reduceEqDiff, reduceIte, eq_self]
      refine h9 _ ?_; clear h9; try clear N9
      refine u_reg ?_
      try refine lg_mk ?_
      refine u_mv ?_
      refine u_bn ?_
      refine u_mv ?_
      refine lg_nil ?_
      have hke : k = x.length - 2 := by have := hb15; omega
      have hks := idxK_succ l i hxe
      rw [← addP_eq hke] at hks
      rw [hks]
      refine h5 _ ⟨i + 1, ?_, ?_, [some 0, some 1, some 2], ?_⟩
      ·dsimp only
       omega
      ·dsimp only
       omega
      ·dsimp only
       refine ⟨by rfl, ?_, ?_⟩
       ·refine fin_ ?_
        exact cl_
       ·refine fin_ ?_
        exact cl_
   ·refine vc_exit ?_
    simp only [k_rules, Nat.reduceEqDiff, reduceIte, eq_self]
    refine h3 _ ?_; clear h3; try clear N3
    refine vc_seq_k fun N17 h17 => ?_
    refine u_reg ?_
    try refine lg_mk ?_
    refine u_ld ?_
    refine u_st ?_
    refine lg_nil ?_
    refine h17 _ ?_; clear h17; try clear N17
    refine vc_ret ?_
    try simp only [k_rules]
    obtain rfl : i = l.length := by have := hb8; rw [iota_len] at this; omega
    refine fin2_ ?_
    (repeat' apply And.intro) <;> (first | (first | rfl | exact Or.inl rfl | trivial | (rw [List.take_length]; done) | (simp [List.take_length]; done)) | exact cl_)
 ·cases hg

def E_ixOf : Env Try.prog := E_remT.add 13 (Spec.pure ixOfG) ixOf_meets (by kernel_rfl)
end Go.Proofs.Ytjdhadbnmghdgaa
