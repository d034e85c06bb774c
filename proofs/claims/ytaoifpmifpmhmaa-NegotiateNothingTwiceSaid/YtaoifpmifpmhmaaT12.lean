/- Walks, printed by wip/gen/walk.py. -/
import Derived.Test.YtaoifpmifpmhmaaT11
import Derived.Test.YtaoifpmifpmhmaaV4
set_option linter.all false
set_option maxRecDepth 100000
set_option maxHeartbeats 4000000
namespace Go.Proofs.Ytaoifpmifpmhmaa
open Go Go.Vc Go.RowKit
theorem chain_snoc (i : Nat) : chainR (i + 1) = chainR i ++ [⟨if i = 0 then [] else [(i : Int) - 1], 0, (i : Int), 0, []⟩] := range_snoc _ i
theorem chain_len (n : Nat) : (chainR n).length = n := range_len _ n

theorem chain_meets : Meets Try.prog 34 (Spec.pure chainG) := by
 refine meets_fun (E_extractOf.at_ 24) Try.func34 rfl rfl rfl ?_
 intro args p r hg hp
 unfold chainG at hg
 split at hg
 ·rename_i n
  simp only [Option.some.injEq, Prod.mk.injEq] at hg
  obtain ⟨rfl, rfl⟩ := hg
  obtain ⟨h0, h1⟩ := hp
  obtain ⟨n, rfl⟩ := Int.eq_ofNat_of_zero_le h0
  have hT : (E_extractOf).X = T := rfl
  have hx0 := And.intro @rect_eC (And.intro @chain_len @Try.results34)
  have hx := hx0
  refine ⟨by rfl, ?_⟩
  intro F W0 hnp hmk
  refine vc_seq_k fun N1 h1 => ?_
  refine u_reg ?_
  try refine lg_mk ?_
  refine u_mv ?_
  refine lg_nil ?_
  refine h1 _ ?_; clear h1; try clear N1
  refine vc_seq_k fun N2 h2 => ?_
  refine u_reg ?_
  try refine lg_mk ?_
  refine u_mv ?_
  refine lg_nil ?_
  refine h2 _ ?_; clear h2; try clear N2
  refine vc_seq_k fun N3 h3 => ?_
  refine vc_seq_k fun N4 h4 => ?_
  refine u_reg ?_
  try refine lg_mk ?_
  refine u_mv ?_
  refine lg_nil ?_
  refine h4 _ ?_; clear h4; try clear N4
  refine vc_block ?_
  refine vc_loop_mk (σ := Nat) (fun s => (fun i => i ≤ n) s)
   (fun s => (fun i => [(0, .d (.int .i64 (n : Nat))), (3, .sl 0 0 i), (4, .d (.int .i64 (i : Nat)))]) s)
   (fun s => (fun i => [some (.vec 40 5 (rows eC (chainR i)))]) s) (fun s => (fun i => n - i) s) hnp 0 ?_ [none] ?_ ?_
  ·dsimp only
   omega
  ·dsimp only
   refine ⟨by rfl, ?_, ?_⟩
   ·refine fin_ ?_
    exact cl_
   ·refine fin_ ?_
    exact cl_
  ·rintro i hinv N5 h5
   dsimp only at hinv ⊢
   have hi1 := hinv
   refine vc_seq_k fun N6 h6 => ?_
   refine vc_seq_k fun N7 h7 => ?_
   refine u_reg ?_
   try refine lg_mk ?_
   refine u_mv ?_
   refine u_mv ?_
   refine u_bn ?_
   refine lg_nil ?_
   refine h7 _ ?_; clear h7; try clear N7
   refine u_cond (fun hb8 => ?_) (fun hb8 => ?_)
   ·refine vc_skip ?_
    try simp only [k_rules]
    refine h6 _ ?_; clear h6; try clear N6
    refine vc_seq_k fun N9 h9 => ?_
    refine vc_block ?_
    refine vc_seq_k fun N10 h10 => ?_
    refine u_reg ?_
    try refine lg_mk ?_
    refine u_mv ?_
    refine u_bd ?_
    refine u_al ?_
    refine u_st ?_
    refine lg_nil ?_
    refine h10 _ ?_; clear h10; try clear N10
    refine vc_seq_k fun N11 h11 => ?_
    refine vc_seq_k fun N12 h12 => ?_
    refine u_reg ?_
    try refine lg_mk ?_
    refine u_mv ?_
    refine u_bn ?_
    refine lg_nil ?_
    refine h12 _ ?_; clear h12; try clear N12
    refine u_cond (fun hb13 => ?_) (fun hb13 => ?_)
    ·refine u_reg ?_
     try refine lg_mk ?_
     refine u_mv ?_
     refine u_bn ?_
     refine u_bs ?_
     refine u_pt ?_
     refine u_st ?_
     refine lg_nil ?_
     refine h11 _ ?_; clear h11; try clear N11
     refine u_reg ?_
     try refine lg_mk ?_
     refine u_mv ?_
     refine u_ld ?_
     refine u_bs ?_
     refine u_ap ?_
     refine u_mv ?_
     refine lg_nil ?_
     refine h9 _ ?_; clear h9; try clear N9
     refine u_reg ?_
     try refine lg_mk ?_
     refine u_mv ?_
     refine u_bn ?_
     refine u_mv ?_
     refine lg_nil ?_
     have htk : List.take i (chainR i) = chainR i := List.take_of_length_le (by rw [chain_len]; omega)
     refine h5 _ ⟨i + 1, ?_, ?_, [some 4], ?_⟩
     ·dsimp only
      omega
     ·dsimp only
      omega
     ·dsimp only
      refine ⟨by rfl, ?_, ?_⟩
      ·refine fin_ ?_
       (repeat' apply And.intro) <;> (first | (first | rfl | trivial | (rw [htk, chain_snoc, if_neg (by omega)]; simp [rows, eC, eI]; done)) | (first | rfl | exact Or.inr rfl | exact Or.inl rfl | trivial | omega | assumption | (simp; done) | (simp; omega)))
      ·refine fin_ ?_
       (repeat' apply And.intro) <;> (first | (first | rfl | trivial | (rw [htk, chain_snoc, if_neg (by omega)]; simp [rows, eC, eI]; done)) | (first | rfl | exact Or.inr rfl | exact Or.inl rfl | trivial | omega | assumption | (simp; done) | (simp; omega)))
    ·refine vc_skip ?_
     try simp only [k_rules]
     refine h11 _ ?_; clear h11; try clear N11
     refine u_reg ?_
     try refine lg_mk ?_
     refine u_mv ?_
     refine u_ld ?_
     refine u_bs ?_
     refine u_ap ?_
     refine u_mv ?_
     refine lg_nil ?_
     refine h9 _ ?_; clear h9; try clear N9
     refine u_reg ?_
     try refine lg_mk ?_
     refine u_mv ?_
     refine u_bn ?_
     refine u_mv ?_
     refine lg_nil ?_
     have htk : List.take i (chainR i) = chainR i := List.take_of_length_le (by rw [chain_len]; omega)
     refine h5 _ ⟨i + 1, ?_, ?_, [some 3], ?_⟩
     ·dsimp only
      omega
     ·dsimp only
      omega
     ·dsimp only
      refine ⟨by rfl, ?_, ?_⟩
      ·refine fin_ ?_
       (repeat' apply And.intro) <;> (first | (first | rfl | trivial | (rw [htk, chain_snoc, if_pos (by omega)]; simp [rows, eC, eI]; done)) | (first | rfl | exact Or.inr rfl | exact Or.inl rfl | trivial | omega | assumption | (simp; done) | (simp; omega)))
      ·refine fin_ ?_
       (repeat' apply And.intro) <;> (first | (first | rfl | trivial | (rw [htk, chain_snoc, if_pos (by omega)]; simp [rows, eC, eI]; done)) | (first | rfl | exact Or.inr rfl | exact Or.inl rfl | trivial | omega | assumption | (simp; done) | (simp; omega)))
   ·have hi : i = n := by omega
    subst hi
    refine vc_exit ?_
    simp only [k_rules, Nat.reduceEqDiff, reduceIte, eq_self]
    refine h3 _ ?_; clear h3; try clear N3
    refine vc_seq_k fun N14 h14 => ?_
    refine u_reg ?_
    try refine lg_mk ?_
    refine u_mv ?_
    refine u_mv ?_
    refine lg_nil ?_
    refine h14 _ ?_; clear h14; try clear N14
    refine vc_ret ?_
    try simp only [k_rules]
    refine fin2_ ?_
    (repeat' apply And.intro) <;> (first | (first | rfl | exact Or.inl rfl | trivial | exact Nat.le_refl _ | (simp [rows_len, chain_len]; done) | (rw [List.take_of_length_le (by simp [rows_len, chain_len])]; done) | (rw [List.drop_zero, rows_take, List.take_of_length_le (by rw [chain_len]; omega)]; done)) | (first | rfl | exact Or.inr rfl | exact Or.inl rfl | trivial | omega | assumption | (simp; done) | (simp; omega)))
 ·cases hg

def E_chain : Env Try.prog := E_extractOf.add 34 (Spec.pure chainG) chain_meets (by kernel_rfl)

theorem small_chain (n : Nat) : smallC (chainR n) := by
  intro c hc
  obtain ⟨i, _, rfl⟩ := List.mem_map.1 hc
  refine ⟨?_, by simp⟩
  show (if i = 0 then ([] : List Int) else [(i : Int) - 1]).length ≤ _
  split <;> simp
def exampleG : List AV → Option (Prop × AV)
  | [] => some (True, .d (.bool true))
  | _ => none
theorem dI1 (a : Int) : dI [[D.int .i64 a]] = [a] := rfl
theorem dI2 (a b : Int) : dI [[D.int .i64 a], [D.int .i64 b]] = [a, b] := rfl
theorem dI3 (a b c : Int) : dI [[D.int .i64 a], [D.int .i64 b], [D.int .i64 c]] = [a, b, c] := rfl
theorem ex_cut : cutF (chainR 3) [2] 2 = (0, 0) ∧ cutR (chainR 3) [2] 2 = [1, 2] := by decide
theorem ex_sel : selF (chainR 3) [1, 2] = (0, 0) ∧ bndR (chainR 3) [1, 2] = [1] := by decide
theorem ex_del : delF (chainR 3) [1, 2] 1 = (0, 0) ∧ delR (chainR 3) [1, 2] 1 = [0, 1, 2] := by decide
theorem ex_ex : exR (chainR 3) [1, 2] = [⟨[], 0, 1, 0, []⟩, ⟨[0], 0, 2, 0, []⟩] := by decide
end Go.Proofs.Ytaoifpmifpmhmaa
