/- Walks, printed by wip/gen/walk.py. -/
import Derived.Test.YtjdhadbnmghdgaaT19
import Derived.Test.YtjdhadbnmghdgaaV5
set_option linter.all false
set_option maxRecDepth 100000
set_option maxHeartbeats 4000000
namespace Go.Proofs.Ytjdhadbnmghdgaa
open Go Go.Vc Go.RowKit
theorem addR_meets : Meets Try.prog 27 (Spec.pure addRG) := by
 refine meets_fun (E_ixOf.at_ 59) Try.func27 rfl rfl rfl ?_
 intro args p r hg hp
 unfold addRG at hg
 split at hg
 ·rename_i xs ps n u
  simp only [Option.some.injEq, Prod.mk.injEq] at hg
  obtain ⟨rfl, rfl⟩ := hg
  obtain ⟨he, he2, hv, hul⟩ := hp
  generalize dI xs = l at *
  generalize dP ps = P at *
  subst he he2
  have hlen20 := hv.tlen
  have hpl := hv.plen
  have hpm := hv.pmax
  have hT : (E_ixOf).X = T := rfl
  have hx0 := And.intro @rect_eP (And.intro @dI_rows (And.intro @dP_rows (And.intro @eP_eq @Try.results27)))
  have hx := hx0
  refine ⟨by rfl, ?_⟩
  intro F W0 hnp hmk
  refine vc_seq_k fun N1 h1 => ?_
  refine u_reg ?_
  try refine lg_mk ?_
  refine u_bx ?_
  refine u_al ?_
  refine lg_nil ?_
  refine h1 _ ?_; clear h1; try clear N1
  refine vc_seq_k fun N2 h2 => ?_
  refine u_reg ?_
  try refine lg_mk ?_
  refine u_pt ?_
  refine u_ld ?_
  refine u_mv ?_
  have hc := call_rule (E := (E_ixOf.at_ 59)) (f := 29) (sp := Spec.pure insG) rfl
  have hs := @insG.eq_1
  refine u_hp ?_
  refine u_bd ?_
  refine u_al ?_
  refine u_st ?_
  refine lg_nil ?_
  refine h2 _ ?_; clear h2; try clear N2
  refine vc_seq_k fun N3 h3 => ?_
  refine vc_seq_k fun N4 h4 => ?_
  refine vc_nil1 2 1 _ 2 (vec_nil 55 2) rfl rfl rfl ?_
  simp only [updL, List.set, List.cons_append, List.nil_append]
  refine u_reg ?_
  try refine lg_mk ?_
  refine u_mv ?_
  refine lg_nil ?_
  refine h4 _ ?_; clear h4; try clear N4
  refine vc_block ?_
  refine vc_loop_mk (σ := Nat) (fun s => (fun i => i ≤ P.length) s)
   (fun s => (fun i => [(1, .d (.int .i64 n)), (2, .d (.str u)), (3, .ptr 0 0 0), (6, .ptr 1 0 0), (7, .ptr 2 0 0), (8, .d (.int .i64 (i : Nat)))]) s)
   (fun s => (fun i => [some (.one 27 [.d (.sl (rows eI l)), .d (.sl (rows eP P))]), some (.one 27 [.d .nils, .d .nils]), some (.one 27 [.d (.sl (rows eI (ins l n))), .sl 3 0 i]), some (.vec 55 2 (rows eP (P.take i)))]) s) (fun s => (fun i => P.length - i) s) hnp 0 ?_ [some 0, some 1, some 2, some 3] ?_ ?_
  ·dsimp only
   omega
  ·dsimp only
   refine ⟨by rfl, ?_, ?_⟩
   ·refine fin_ ?_
    exact cl_
   ·refine fin_ ?_
    exact cl_
  ·rintro i hinv N5 h5
   dsimp only at hinv ⊢
   have i1 := hinv
   refine vc_seq_k fun N6 h6 => ?_
   refine vc_seq_k fun N7 h7 => ?_
   refine u_reg ?_
   try refine lg_mk ?_
   refine u_mv ?_
   refine u_pt ?_
   refine u_ld ?_
   refine u_ln ?_
   refine u_bn ?_
   refine lg_nil ?_
   refine h7 _ ?_; clear h7; try clear N7
   refine u_cond (fun hb8 => ?_) (fun hb8 => ?_)
   ·obtain ⟨⟨g, t⟩, hxe⟩ := getE (l := P) (i := i) (by omega)
    have htl : t.length ≤ 20 := hpm _ (mem_at hxe)
    have hsn : P.take (i + 1) = P.take i ++ [(g, t)] := by rw [List.take_add_one, hxe]; rfl
    refine vc_skip ?_
    try simp only [k_rules]
    refine h6 _ ?_; clear h6; try clear N6
    refine vc_seq_k fun N9 h9 => ?_
    refine vc_block ?_
    have hx := And.intro @hxe hx0
    refine vc_regG [1000036] hmix (by kernel_rfl) ?_
    try refine lg_mk ?_
    refine u_pt ?_
    refine u_ld ?_
    refine u_pt ?_
    refine u_ld ?_
    refine u_mv ?_
    refine u_pt ?_
    refine u_pt ?_
    refine u_ld ?_
    refine u_pt ?_
    refine u_ld ?_
    refine u_mv ?_
    refine u_pt ?_
    refine u_pt ?_
    refine u_ld ?_
    refine lg_semG (by rfl) (sem_appendD (by simp only [wB, eq_self, Nat.reduceEqDiff, reduceIte, aAppend, rowsSrc, or_self, env_rules, tys, hT, tiAgg, wL, Int.toNat_natCast, Int.reduceToNat, Nat.reduceAdd, Nat.reduceMul, Nat.reduceSub, Nat.reduceLeDiff, hx]; rfl) (by simp only [nd_rules, nd_slice, ev_rules, fr_rules, av_rules, eq_self, Nat.reduceEqDiff, reduceIte, and_true, true_and, map_rules, List.map_cons, List.map_nil]) (by exact sd_) (by first | rfl | (simp only [wB, eq_self, Nat.reduceEqDiff, reduceIte, wG, heap_rules, Nat.reduceAdd, Nat.reduceSub, Nat.reduceLT, Nat.reduceLeDiff, kilL, List.cons_append, List.nil_append, List.mem_cons, List.not_mem_nil, or_false, false_or, wL, Int.toNat_natCast, Int.reduceToNat, Nat.reduceAdd, Nat.reduceMul, Nat.reduceSub, Nat.reduceLeDiff, hx]; rfl)) (by rfl) (by rfl) (by first | exact Nat.le_refl _ | (rw [rows_len]; exact Nat.le_refl _) | exact sd_) ⟨by first | exact (fun h => Bool.noConfusion (show false = true from h)) | (dsimp only; refine hle_getB _ _ _ _ ?_; simp only [kilL, List.mem_cons, List.not_mem_nil, Nat.reduceAdd, Nat.reduceEqDiff, or_false, reduceIte, le_rules, eq_self, and_true, true_and]), ?_⟩)
    try simp only [wB, eq_self, Nat.reduceEqDiff, reduceIte, wG, heap_rules, Nat.reduceAdd, Nat.reduceSub, Nat.reduceLT, Nat.reduceLeDiff, kilL, List.cons_append, List.nil_append, List.mem_cons, List.not_mem_nil, or_false, false_or, wL, Int.toNat_natCast, Int.reduceToNat, Nat.reduceAdd, Nat.reduceMul, Nat.reduceSub, Nat.reduceLeDiff, hx, List.take_length]
    refine u_bd ?_
    refine u_bs ?_
    refine u_ap (hq := by (first | ((repeat' apply And.intro) <;> first | rfl | trivial | omega | assumption | (simp; omega) | (rw [List.length_take]; omega)) | exact sd_)) ?_
    refine u_pt ?_
    refine u_st ?_
    refine lg_nil ?_
    have hx := hx0
    refine h9 _ ?_; clear h9; try clear N9
    refine u_reg ?_
    try refine lg_mk ?_
    refine u_mv ?_
    refine u_bn ?_
    refine u_mv ?_
    refine lg_nil ?_
    refine h5 _ ⟨i + 1, ?_, ?_, [some 0, some 1, some 2, some 6], ?_⟩
    ·dsimp only
     omega
    ·dsimp only
     omega
    ·dsimp only
     refine ⟨by rfl, ?_, ?_⟩
     ·refine fin_ ?_
      (repeat' apply And.intro) <;> (first | (first | rfl | trivial | (rw [hsn]; simp; done) | (rw [hsn, ← eP_snoc]; simp; done) | (rw [hsn, ← eP_snoc, List.take_of_length_le (by simp; omega)]; done) | (simp; omega)) | exact cl_)
     ·refine fin_ ?_
      (repeat' apply And.intro) <;> (first | (first | rfl | trivial | (rw [hsn]; simp; done) | (rw [hsn, ← eP_snoc]; simp; done) | (rw [hsn, ← eP_snoc, List.take_of_length_le (by simp; omega)]; done) | (simp; omega)) | exact cl_)
   ·refine vc_exit ?_
    simp only [k_rules, Nat.reduceEqDiff, reduceIte, eq_self]
    refine h3 _ ?_; clear h3; try clear N3
    refine vc_seq_k fun N10 h10 => ?_
    refine vc_seq_k fun N11 h11 => ?_
    refine u_reg ?_
    try refine lg_mk ?_
    refine u_mv ?_
    refine lg_nil ?_
    refine h11 _ ?_; clear h11; try clear N11
    refine vc_block ?_
    obtain rfl : i = P.length := by have := hb8; omega
    rw [List.take_length]
    refine vc_loop_mk (σ := Nat) (fun s => (fun k => k ≤ u.length - 2) s)
     (fun s => (fun k => [(1, .d (.int .i64 n)), (2, .d (.str u)), (3, .ptr 0 0 0), (6, .ptr 1 0 0), (7, .ptr 2 0 0), (9, .d (.int .i64 (k : Nat)))]) s)
     (fun s => (fun k => [some (.one 27 [.d (.sl (rows eI l)), .d (.sl (rows eP P))]), some (.one 27 [.d .nils, .d .nils]), some (.one 27 [.d (.sl (rows eI (ins l n))), .sl 3 0 (addK P n u k).length]), some (.vec 55 2 (rows eP (addK P n u k)))]) s) (fun s => (fun k => u.length - k) s) hnp 0 ?_ [some 0, some 1, some 2, some 3] ?_ ?_
    ·dsimp only
     omega
    ·dsimp only
     refine ⟨by rfl, ?_, ?_⟩
     ·refine fin_ ?_
      exact cl_
     ·refine fin_ ?_
      exact cl_
    ·rintro k hinv N12 h12
     dsimp only at hinv ⊢
     have k1 := hinv
     refine vc_seq_k fun N13 h13 => ?_
     refine vc_seq_k fun N14 h14 => ?_
     refine u_reg ?_
     try refine lg_mk ?_
     refine u_mv ?_
     refine u_bn ?_
     refine u_mv ?_
     refine u_ln ?_
     refine u_bn ?_
     refine lg_nil ?_
     refine h14 _ ?_; clear h14; try clear N14
     refine u_cond (fun hb15 => ?_) (fun hb15 => ?_)
     ·have hk3 : k + 3 ≤ u.length := by have := hb15; omega
      have hgr : List.take (((k : Int) + 3).toNat - k) (u.drop k) = gr u k := by unfold gr; congr 1; omega
      have hgk := addK_good (n := n) (s := u) hv.good k
      have hpk := addK_len (P := P) (n := n) (s := u) k
      have hmk := addK_max (n := n) (s := u) (M := 20) (by omega) hpm k
      refine vc_skip ?_
      try simp only [k_rules]
      refine h13 _ ?_; clear h13; try clear N13
      refine vc_seq_k fun N16 h16 => ?_
      refine vc_block ?_
      have hx := And.intro @hgr hx0
      refine u_reg ?_
      try refine lg_mk ?_
      refine u_pt ?_
      refine u_ld ?_
      refine u_mv ?_
      refine u_mv ?_
      refine u_mv ?_
      refine u_bn ?_
      refine u_sl ?_
      refine u_mv ?_
      have hc := call_rule (E := (E_ixOf.at_ 59)) (f := 30) (sp := Spec.gen postRG) rfl
      have hs := @postRG.eq_1
      refine u_hg (hq := by (first | (exact ⟨hgk.sort, by omega, fun p hp => by have := hmk p hp; omega⟩) | exact sd_)) ?_
      refine u_pt ?_
      refine u_st ?_
      refine lg_nil ?_
      have hx := hx0
      refine h16 _ ?_; clear h16; try clear N16
      refine u_reg ?_
      try refine lg_mk ?_
      refine u_mv ?_
      refine u_bn ?_
      refine u_mv ?_
      refine lg_nil ?_
      refine h12 _ ⟨k + 1, ?_, ?_, [some 0, some 1, some 2, some 4], ?_⟩
      ·dsimp only
       omega
      ·dsimp only
       omega
      ·dsimp only
       refine ⟨by rfl, ?_, ?_⟩
       ·refine fin_ ?_
        exact cl_
       ·refine fin_ ?_
        exact cl_
     ·refine vc_exit ?_
      simp only [k_rules, Nat.reduceEqDiff, reduceIte, eq_self]
      refine h10 _ ?_; clear h10; try clear N10
      refine vc_seq_k fun N17 h17 => ?_
      refine u_reg ?_
      try refine lg_mk ?_
      refine u_ld ?_
      refine u_st ?_
      refine lg_nil ?_
      refine h17 _ ?_; clear h17; try clear N17
      refine vc_ret ?_
      try simp only [k_rules]
      have hke : k = u.length - 2 := by have := hb15; omega
      have hks := addP_eq (P := P) (n := n) hke
      rw [hks]
      refine fin2_ ?_
      (repeat' apply And.intro) <;> (first | (first | rfl | exact Or.inl rfl | trivial | (rw [List.take_length]; done) | (simp [List.take_length]; done)) | exact cl_)
 ·cases hg

def E_addR : Env Try.prog := E_ixOf.add 27 (Spec.pure addRG) addR_meets (by kernel_rfl)
end Go.Proofs.Ytjdhadbnmghdgaa
