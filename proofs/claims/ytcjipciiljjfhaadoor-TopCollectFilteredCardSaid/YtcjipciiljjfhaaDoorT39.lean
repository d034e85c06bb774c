/- Walks, printed by wip/gen/walk.py. -/
import Derived.Test.YtcjipciiljjfhaaDoorT38
import Derived.Test.YtcjipciiljjfhaaDoorV5
set_option linter.all false
set_option maxRecDepth 100000
set_option maxHeartbeats 4000000
namespace Go.Proofs.YtcjipciiljjfhaaDoor
open Go Go.Vc Go.RowKit
structure Le where
  dg : Int
  un : Int
  deriving DecidableEq, Inhabited
def eW (x : Le) : List D := [.int .i64 x.dg, .int .i64 x.un]
def dW1 : List D → Le
  | [.int _ a, .int _ b] => ⟨a, b⟩
  | _ => ⟨0, 0⟩
def dW (xs : List (List D)) : List Le := xs.map dW1
theorem dW_rows (l : List Le) : dW (rows eW l) = l := by
  simp only [dW, rows, List.map_map]
  conv => rhs; rw [← List.map_id l]
  exact List.map_congr_left fun c _ => rfl
theorem rect_eW (l : List Le) : Rect 2 (rows eW l) = True := eq_true (rows_rect (f := eW) (fun _ => rfl) l)
def leC (l : List Le) (i : Nat) : Int := if (l.getD i default).dg < 0 ∨ 2305843009213693951 ≤ (l.getD i default).dg ∨ (l.getD i default).un < 0 ∨ 100000 < (l.getD i default).un then 3 else 0
def leI (i : Nat) : Int := -3 - (i : Int)
def leF (l : List Le) (t : Int) : Int × Int := if 20 < l.length then (2, -2) else if (firstF (leC l) leI l.length).1 ≠ 0 then firstF (leC l) leI l.length else if t < 0 ∨ 100000 < t then (3, -2) else (0, 0)
theorem leF_at {l : List Le} {t : Int} {i : Nat} (hl : ¬ 20 < l.length) (hi : i < l.length) (h : ∀ j, j < i → leC l j = 0) (hc : leC l i = 3) : leF l t = (3, -3 - (i : Int)) := by
  have : firstF (leC l) leI l.length = (3, -3 - (i : Int)) := by rw [firstF_at (i := i) (by rw [hc]; decide) h hi, hc]; rfl
  unfold leF; rw [if_neg hl, this, if_pos (show (3 : Int) ≠ 0 by decide)]
theorem leF_ok {l : List Le} {t : Int} (hl : ¬ 20 < l.length) (h : ∀ j, j < l.length → leC l j = 0) : leF l t = if t < 0 ∨ 100000 < t then (3, -2) else (0, 0) := by
  unfold leF; rw [if_neg hl, firstF_none h, if_neg (by decide)]
def leG : List AV → Option (Prop × AV)
  | [.d (.sl ys), .d (.int .i64 t)] => some (ys = rows eW (dW ys) ∧ (dW ys).length ≤ 9223372036854775807, .agg [.d (.int .i64 (leF (dW ys) t).1), .d (.int .i64 (leF (dW ys) t).2)])
  | _ => none
def colF (S : List SO) (l : List Rf) (L : List Le) (t : Int) : Int × Int := if (stF S).1 ≠ 0 then stF S else if (rfF l).1 ≠ 0 then ((rfF l).1, -1) else leF L t
def colFG : List AV → Option (Prop × AV)
  | [.agg [.d (.sl xs)], .agg [.d (.sl zs)], .d (.sl ys), .d (.int .i64 t)] => some (xs = rows eO (dO xs) ∧ (dO xs).length ≤ 9223372036854775807 ∧ smallS (dO xs) ∧ zs = rows eR (dR zs) ∧ (dR zs).length ≤ 9223372036854775807 ∧ smallR (dR zs) ∧ ys = rows eW (dW ys) ∧ (dW ys).length ≤ 9223372036854775807,
      .agg [.d (.int .i64 (colF (dO xs) (dR zs) (dW ys) t).1), .d (.int .i64 (colF (dO xs) (dR zs) (dW ys) t).2)])
  | _ => none
def rtg (l : List Rf) : List Int := l.map (·.tg)
def heldK (l : List Rf) (L : List Le) (t : Int) (j : Nat) : List Int := rtg l ++ ((L.take j).filter fun x => decide (t < x.un)).map (·.dg)
def held (l : List Rf) (L : List Le) (t : Int) : List Int := heldK l L t L.length
def heldG : List AV → Option (Prop × AV)
  | [.agg [.d (.sl zs)], .d (.sl ys), .d (.int .i64 t)] => some (zs = rows eR (dR zs) ∧ (dR zs).length ≤ 1000000 ∧ ys = rows eW (dW ys) ∧ (dW ys).length ≤ 1000000, .d (.sl (rows eI (held (dR zs) (dW ys) t))))
  | _ => none
theorem rtg_snoc {l : List Rf} {i : Nat} {x : Rf} (h : l[i]? = some x) : (rtg l).take (i + 1) = (rtg l).take i ++ [x.tg] := by unfold rtg; rw [List.take_add_one, List.getElem?_map, h]; rfl
theorem rtg_len (l : List Rf) : (rtg l).length = l.length := List.length_map ..
theorem held_zero (l : List Rf) (L : List Le) (t : Int) : heldK l L t 0 = rtg l := by unfold heldK; simp
theorem held_in {l : List Rf} {L : List Le} {t : Int} {j : Nat} {x : Le} (h : L[j]? = some x) (ht : t < x.un) : heldK l L t (j + 1) = heldK l L t j ++ [x.dg] := by
  unfold heldK; rw [List.take_add_one, h, List.filter_append]; simp [ht]
theorem held_out {l : List Rf} {L : List Le} {t : Int} {j : Nat} {x : Le} (h : L[j]? = some x) (ht : ¬ t < x.un) : heldK l L t (j + 1) = heldK l L t j := by
  unfold heldK; rw [List.take_add_one, h, List.filter_append]; simp [ht]
theorem held_len (l : List Rf) (L : List Le) (t : Int) (j : Nat) : (heldK l L t j).length ≤ l.length + j := by
  unfold heldK; rw [List.length_append, rtg_len, List.length_map]
  have := List.length_filter_le (fun x : Le => decide (t < x.un)) (L.take j)
  rw [List.length_take] at this; omega
theorem rfF_or (l : List Rf) : ((rfF l).1 = 0 ∧ (rfF l).2 = 0 ∧ l.length ≤ 30) ∨ (rfF l).1 ≠ 0 := by
  unfold rfF
  by_cases h : 30 < l.length
  · rw [if_pos h]; exact .inr (by decide)
  · rw [if_neg h]
    have key : ∀ n, firstF (rfC l) nI n = (0, 0) ∨ (firstF (rfC l) nI n).1 ≠ 0 := fun n => by
      induction n with
      | zero => exact .inl rfl
      | succ n ih =>
        unfold firstF
        split
        · rename_i h; exact .inr h
        · split
          · rename_i h; exact .inr h
          · exact .inl rfl
    rcases key l.length with h1 | h1
    · rw [h1]; exact .inl ⟨rfl, rfl, by omega⟩
    · exact .inr h1
theorem leF_or (L : List Le) (t : Int) : ((leF L t).1 = 0 ∧ (leF L t).2 = 0 ∧ L.length ≤ 20) ∨ (leF L t).1 ≠ 0 := by
  unfold leF
  by_cases h : 20 < L.length
  · rw [if_pos h]; exact .inr (by decide)
  · rw [if_neg h]
    by_cases h2 : (firstF (leC L) leI L.length).1 ≠ 0
    · rw [if_pos h2]; exact .inr h2
    · rw [if_neg h2]
      by_cases h3 : t < 0 ∨ 100000 < t
      · rw [if_pos h3]; exact .inr (by decide)
      · rw [if_neg h3]; exact .inl ⟨rfl, rfl, by omega⟩
theorem eI_snoc2 (l : List Int) (d : Int) : rows eI l ++ [[.int .i64 d]] = rows eI (l ++ [d]) := by simp [rows, eI]

theorem leases_meets : Meets Tryd.prog 13 (Spec.pure leG) := by
 refine meets_fun (E_refsV.at_ 48) Tryd.func13 rfl rfl rfl ?_
 intro args p r hg hp
 unfold leG at hg
 split at hg
 ·rename_i ys t
  simp only [Option.some.injEq, Prod.mk.injEq] at hg
  obtain ⟨rfl, rfl⟩ := hg
  obtain ⟨he, hl⟩ := hp
  generalize dW ys = L at *
  subst he
  have hT : (E_refsV).X = T := rfl
  have hx0 := And.intro @rect_eW (And.intro @dec_t (And.intro @dec_f @Tryd.results13))
  have hx := hx0
  refine ⟨by rfl, ?_⟩
  intro F W0 hnp hmk
  refine vc_seq_k fun N1 h1 => ?_
  refine u_reg ?_
  try refine lg_mk ?_
  refine u_al ?_
  refine lg_nil ?_
  refine h1 _ ?_; clear h1; try clear N1
  refine vc_seq_k fun N2 h2 => ?_
  refine vc_seq_k fun N3 h3 => ?_
  refine u_reg ?_
  try refine lg_mk ?_
  refine u_mv ?_
  refine u_ln ?_
  refine u_bn ?_
  refine lg_nil ?_
  refine h3 _ ?_; clear h3; try clear N3
  refine u_cond (fun hb4 => ?_) (fun hb4 => ?_)
  ·refine vc_seq_k fun N5 h5 => ?_
   refine u_reg ?_
   try refine lg_mk ?_
   refine u_bd ?_
   refine u_st ?_
   refine lg_nil ?_
   refine h5 _ ?_; clear h5; try clear N5
   refine vc_ret ?_
   try simp only [k_rules]
   have hr : leF L t = (2, -2) := by unfold leF; rw [if_pos (by have := hb4; omega)]
   rw [hr]
   refine fin2_ ?_
   exact cl_
  ·refine vc_skip ?_
   try simp only [k_rules]
   refine h2 _ ?_; clear h2; try clear N2
   refine vc_seq_k fun N6 h6 => ?_
   refine vc_seq_k fun N7 h7 => ?_
   refine u_reg ?_
   try refine lg_mk ?_
   refine u_mv ?_
   refine u_ln ?_
   refine u_mv ?_
   refine lg_nil ?_
   refine h7 _ ?_; clear h7; try clear N7
   refine vc_block ?_
   refine vc_loop_mk (σ := Nat) (fun s => (fun i => i ≤ L.length ∧ ∀ j, j < i → leC L j = 0) s)
    (fun s => (fun i => [(0, .d (.sl (rows eW L))), (1, .d (.int .i64 t)), (4, .ptr 0 0 0), (11, .d (.sl (rows eW L))), (12, .d (.int .i64 (L.length : Nat))), (13, .d (.int .i64 (i : Nat)))]) s)
    (fun s => (fun i => [some (.one 33 [.d (.int .i64 0), .d (.int .i64 0)])]) s) (fun s => (fun i => L.length - i) s) hnp 0 ?_ [some 0] ?_ ?_
   ·dsimp only
    exact ⟨by omega, fun j hj => by omega⟩
   ·dsimp only
    refine ⟨by rfl, ?_, ?_⟩
    ·refine fin_ ?_
     exact cl_
    ·refine fin_ ?_
     exact cl_
   ·rintro i hinv N8 h8
    dsimp only at hinv ⊢
    obtain ⟨i1, i2⟩ := hinv
    refine vc_seq_k fun N9 h9 => ?_
    refine u_reg ?_
    try refine lg_mk ?_
    refine u_bn ?_
    refine lg_nil ?_
    refine h9 _ ?_; clear h9; try clear N9
    refine vc_seq_k fun N10 h10 => ?_
    refine u_cond (fun hb11 => ?_) (fun hb11 => ?_)
    ·obtain ⟨x, hxe⟩ := getE (l := L) (i := i) (by omega)
     have hxd : L.getD i default = x := getD_at hxe
     obtain ⟨dg, un⟩ := x
     refine vc_skip ?_
     try simp only [k_rules]
     refine h10 _ ?_; clear h10; try clear N10
     refine vc_seq_k fun N12 h12 => ?_
     refine vc_block ?_
     refine vc_seq_k fun N13 h13 => ?_
     have hx := And.intro @hxe (And.intro @eW.eq_1 hx0)
     refine u_reg ?_
     try refine lg_mk ?_
     refine u_mv ?_
     refine u_pt ?_
     refine u_ld ?_
     refine u_al ?_
     refine u_mv ?_
     refine u_st ?_
     refine lg_nil ?_
     have hx := hx0
     refine h13 _ ?_; clear h13; try clear N13
     refine vc_seq_k fun N14 h14 => ?_
     refine u_reg ?_
     try refine lg_mk ?_
     refine u_pt ?_
     refine u_ld ?_
     refine u_bn ?_
     refine u_mv ?_
     refine g_pt ?_
     refine g_ld ?_
     refine g_bn ?_
     refine u_pk ?_
     refine u_mv ?_
     refine g_pt ?_
     refine g_ld ?_
     refine g_bn ?_
     refine u_pk ?_
     refine u_mv ?_
     refine g_pt ?_
     refine g_ld ?_
     refine g_bn ?_
     refine u_pk ?_
     refine lg_nil ?_
     refine h14 _ ?_; clear h14; try clear N14
     refine u_cond (fun hb15 => ?_) (fun hb15 => ?_)
     ·have hx3 : leC L i = 3 := by
       unfold leC; rw [hxd]; dsimp only
       rw [if_pos (by have h9 := hb15; (try simp at h9); omega)]
      refine vc_seq_k fun N16 h16 => ?_
      refine u_reg ?_
      try refine lg_mk ?_
      refine u_mv ?_
      refine u_bn ?_
      refine u_bd ?_
      refine u_st ?_
      refine lg_nil ?_
      refine h16 _ ?_; clear h16; try clear N16
      refine vc_ret ?_
      try simp only [k_rules]
      have hr := leF_at (t := t) (show ¬ 20 < L.length by omega) (by omega) i2 hx3
      rw [hr]
      refine fin2_ ?_
      exact cl_
     ·have hx3 : leC L i = 0 := by
       unfold leC; rw [hxd]; dsimp only
       rw [if_neg (by have h9 := hb15; (try simp at h9); omega)]
      refine vc_skip ?_
      try simp only [k_rules]
      refine h12 _ ?_; clear h12; try clear N12
      refine u_reg ?_
      try refine lg_mk ?_
      refine u_bn ?_
      refine u_mv ?_
      refine lg_nil ?_
      refine h8 _ ⟨i + 1, ?_, ?_, [some 0], ?_⟩
      ·dsimp only
       exact ⟨by omega, lt_succO i2 hx3⟩
      ·dsimp only
       omega
      ·dsimp only
       refine ⟨by rfl, ?_, ?_⟩
       ·refine fin_ ?_
        exact cl_
       ·refine fin_ ?_
        exact cl_
    ·have hle := leF_ok (t := t) (show ¬ 20 < L.length by omega) (fun j hj => i2 j (by omega))
     refine vc_exit ?_
     simp only [k_rules, Nat.reduceEqDiff, reduceIte, eq_self]
     refine h6 _ ?_; clear h6; try clear N6
     refine vc_seq_k fun N17 h17 => ?_
     refine vc_seq_k fun N18 h18 => ?_
     refine u_reg ?_
     try refine lg_mk ?_
     refine u_mv ?_
     refine u_bn ?_
     refine u_mv ?_
     refine g_mv ?_
     refine g_bn ?_
     refine u_pk ?_
     refine lg_nil ?_
     refine h18 _ ?_; clear h18; try clear N18
     refine u_cond (fun hb19 => ?_) (fun hb19 => ?_)
     ·refine vc_seq_k fun N20 h20 => ?_
      refine u_reg ?_
      try refine lg_mk ?_
      refine u_bd ?_
      refine u_st ?_
      refine lg_nil ?_
      refine h20 _ ?_; clear h20; try clear N20
      refine vc_ret ?_
      try simp only [k_rules]
      rw [if_pos (by have h9 := hb19; (try simp at h9); omega)] at hle
      rw [hle]
      refine fin2_ ?_
      exact cl_
     ·refine vc_skip ?_
      try simp only [k_rules]
      refine h17 _ ?_; clear h17; try clear N17
      refine vc_seq_k fun N21 h21 => ?_
      refine u_reg ?_
      try refine lg_mk ?_
      refine u_bd ?_
      refine u_st ?_
      refine lg_nil ?_
      refine h21 _ ?_; clear h21; try clear N21
      refine vc_ret ?_
      try simp only [k_rules]
      rw [if_neg (by have h9 := hb19; (try simp at h9); omega)] at hle
      rw [hle]
      refine fin2_ ?_
      exact cl_
 ·cases hg

def E_leases : Env Tryd.prog := E_refsV.add 13 (Spec.pure leG) leases_meets (by kernel_rfl)
end Go.Proofs.YtcjipciiljjfhaaDoor
