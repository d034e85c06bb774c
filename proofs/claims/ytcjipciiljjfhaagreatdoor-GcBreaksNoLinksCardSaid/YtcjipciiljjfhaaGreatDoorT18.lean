/- Walks, printed by wip/gen/walk.py. -/
import Derived.Test.YtcjipciiljjfhaaGreatDoorT17
import Derived.Test.YtcjipciiljjfhaaGreatDoorV5
set_option linter.all false
set_option maxRecDepth 100000
set_option maxHeartbeats 4000000
namespace Go.Proofs.YtcjipciiljjfhaaGreatDoor
open Go Go.Vc Go.RowKit
def dgsG : List AV → Option (Prop × AV)
  | [.agg [.d (.sl xs)]] => some (xs = rows eO (dO xs) ∧ (dO xs).length ≤ 1000000000, .d (.sl (rows eI (dgs (dO xs)))))
  | _ => none
def chs (S : List SO) (b : List Bool) (w : Bool) : List SO := ((S.zip b).filter fun p => decide (p.2 = w)).map (·.1)
def chsG : List AV → Option (Prop × AV)
  | [.agg [.d (.sl xs)], .d (.sl bs), .d (.bool w)] => some (xs = rows eO (dO xs) ∧ bs = rows eB (dB bs) ∧ (dB bs).length = (dO xs).length ∧ (dO xs).length ≤ 1000000000, .agg [.d (.sl (rows eO (chs (dO xs) (dB bs) w)))])
  | _ => none
theorem chs_snoc {S : List SO} {b : List Bool} {w c : Bool} {i : Nat} {x : SO} (h1 : S[i]? = some x) (h2 : b[i]? = some c) : chs (S.take (i + 1)) (b.take (i + 1)) w = chs (S.take i) (b.take i) w ++ if c = w then [x] else [] := by
  unfold chs
  have e : ∀ j, (S.take j).zip (b.take j) = (S.zip b).take j := fun j => (List.take_zipWith (f := Prod.mk)).symm
  rw [e, e, List.take_add_one, (show (S.zip b)[i]? = some (x, c) from List.getElem?_zip_eq_some.2 ⟨h1, h2⟩), List.filter_append, List.map_append]
  by_cases h : c = w <;> simp [h]
theorem chs_len (S : List SO) (b : List Bool) (w : Bool) (i : Nat) : (chs (S.take i) (b.take i) w).length ≤ i := by
  unfold chs; rw [List.length_map]
  exact Nat.le_trans (List.length_filter_le ..) (by rw [List.length_zip, List.length_take]; omega)
def mkV (S : List SO) (R : List Int) : List Bool := S.map fun x => decide (x.dg ∈ keysM (reachM S R))
def markedG : List AV → Option (Prop × AV)
  | [.agg [.d (.sl xs)], .d (.sl rs)] => some (xs = rows eO (dO xs) ∧ ValS (dO xs) ∧ rs = rows eI (dI rs) ∧ (dI rs).length ≤ 1000000000, .d (.sl (rows eB (mkV (dO xs) (dI rs)))))
  | _ => none
theorem takeS_z (S : List SO) : S.take 0 = [] := rfl

theorem eI_snoc (l : List Int) (d : Int) : rows eI l ++ [[.int .i64 d]] = rows eI (l ++ [d]) := by simp [rows, eI]
theorem takeDg_len (S : List SO) : (dgs S).take S.length = dgs S := List.take_of_length_le (by rw [dgs_len]; exact Nat.le_refl _)

theorem dgsR_meets : Meets Tryz.prog 15 (Spec.pure dgsG) := by
 refine meets_fun (E_mark.at_ 22) Tryz.func15 rfl rfl rfl ?_
 intro args p r hg hp
 unfold dgsG at hg
 split at hg
 ·rename_i xs
  simp only [Option.some.injEq, Prod.mk.injEq] at hg
  obtain ⟨rfl, rfl⟩ := hg
  obtain ⟨he, hl⟩ := hp
  generalize dO xs = S at *
  subst he
  have hT : (E_mark).X = T := rfl
  have hx0 := And.intro @rect_eO (And.intro @dI_rows (And.intro @takeI_len (And.intro @eI_snoc (And.intro @dgs_len (And.intro @takeDg_len @Tryz.results15)))))
  have hx := hx0
  refine ⟨by rfl, ?_⟩
  intro F W0 hnp hmk
  refine vc_seq_k fun N1 h1 => ?_
  refine u_reg ?_
  try refine lg_mk ?_
  refine u_bx ?_
  refine u_mv ?_
  refine lg_nil ?_
  refine h1 _ ?_; clear h1; try clear N1
  refine vc_seq_k fun N2 h2 => ?_
  refine u_reg ?_
  try refine lg_mk ?_
  refine u_mv ?_
  refine lg_nil ?_
  refine h2 _ ?_; clear h2; try clear N2
  refine vc_seq_k fun N3 h3 => ?_
  refine vc_seq_k fun N4 h4 => ?_
  refine u_reg ?_
  try refine lg_mk ?_
  refine u_mv ?_
  refine lg_nil ?_
  refine h4 _ ?_; clear h4; try clear N4
  refine vc_block ?_
  refine vc_loop_mk (σ := Nat) (fun s => (fun i => i ≤ S.length) s)
   (fun s => (fun i => [(1, .ptr 0 0 0), (3, .sl 1 0 i), (4, .d (.int .i64 (i : Nat)))]) s)
   (fun s => (fun i => [some (.one 24 [.d (.sl (rows eO S))]), some (.vec 3 1 (rows eI (dgs (S.take i))))]) s) (fun s => (fun i => S.length - i) s) hnp 0 ?_ [some 0, none] ?_ ?_
  ·dsimp only
   omega
  ·dsimp only
   refine ⟨by rfl, ?_, ?_⟩
   ·refine fin_ ?_
    exact cl_
   ·refine fin_ ?_
    exact cl_
  ·rintro i hinv N5 h5
   dsimp only at hinv ⊢
   have i1 := hinv
   have htk : (dgs (S.take i)).take i = dgs (S.take i) := List.take_of_length_le (by rw [dgs_len, List.length_take]; omega)
   refine vc_seq_k fun N6 h6 => ?_
   refine vc_seq_k fun N7 h7 => ?_
   refine u_reg ?_
   try refine lg_mk ?_
   refine u_mv ?_
   refine u_pt ?_
   refine u_ld ?_
   refine u_ln ?_
   refine u_bn ?_
   refine lg_nil ?_
   refine h7 _ ?_; clear h7; try clear N7
   refine u_cond (fun hb8 => ?_) (fun hb8 => ?_)
   ·obtain ⟨x, hxe⟩ := getE (l := S) (i := i) (by omega)
    have hsn := take_snoc hxe
    have htl : (S.take i).length = i := by rw [List.length_take]; omega
    refine vc_skip ?_
    try simp only [k_rules]
    refine h6 _ ?_; clear h6; try clear N6
    refine vc_seq_k fun N9 h9 => ?_
    refine vc_block ?_
    have hx := And.intro @hxe (And.intro @eO.eq_1 (And.intro @htl hx0))
    refine u_reg ?_
    try refine lg_mk ?_
    refine u_mv ?_
    refine u_pt ?_
    refine u_ld ?_
    refine u_mv ?_
    refine u_pt ?_
    refine u_pt ?_
    refine u_ld ?_
    refine u_bs ?_
    refine u_ap ?_
    refine u_mv ?_
    refine lg_nil ?_
    have hx := hx0
    refine h9 _ ?_; clear h9; try clear N9
    refine u_reg ?_
    try refine lg_mk ?_
    refine u_mv ?_
    refine u_bn ?_
    refine u_mv ?_
    refine lg_nil ?_
    refine h5 _ ⟨i + 1, ?_, ?_, [some 0, some 3], ?_⟩
    ·dsimp only
     omega
    ·dsimp only
     omega
    ·dsimp only
     refine ⟨by rfl, ?_, ?_⟩
     ·refine fin_ ?_
      (repeat' apply And.intro) <;> (first | (first | rfl | trivial | omega | (rw [hsn, htk]; simp [dgs]; done) | (rw [hsn]; simp [dgs, rows, eI]; done)) | exact cl_)
     ·refine fin_ ?_
      (repeat' apply And.intro) <;> (first | (first | rfl | trivial | omega | (rw [hsn, htk]; simp [dgs]; done) | (rw [hsn]; simp [dgs, rows, eI]; done)) | exact cl_)
   ·refine vc_exit ?_
    simp only [k_rules, Nat.reduceEqDiff, reduceIte, eq_self]
    refine h3 _ ?_; clear h3; try clear N3
    refine vc_seq_k fun N10 h10 => ?_
    refine u_reg ?_
    try refine lg_mk ?_
    refine u_mv ?_
    refine u_mv ?_
    refine lg_nil ?_
    refine h10 _ ?_; clear h10; try clear N10
    refine vc_ret ?_
    try simp only [k_rules]
    obtain rfl : i = S.length := by omega
    rw [takeS_len] at *
    refine fin2_ ?_
    (repeat' apply And.intro) <;> (first | (first | rfl | trivial | omega | (rw [dgs_len]; omega) | (rw [takeDg_len]; done) | (left; rw [takeDg_len]; done) | (simp; done)) | exact cl_)
 ·cases hg

def E_dgsR : Env Tryz.prog := E_mark.add 15 (Spec.pure dgsG) dgsR_meets (by kernel_rfl)

theorem chsR_meets : Meets Tryz.prog 13 (Spec.pure chsG) := by
 refine meets_fun (E_dgsR.at_ 33) Tryz.func13 rfl rfl rfl ?_
 intro args p r hg hp
 unfold chsG at hg
 split at hg
 ·rename_i xs bs w
  simp only [Option.some.injEq, Prod.mk.injEq] at hg
  obtain ⟨rfl, rfl⟩ := hg
  obtain ⟨he, he2, hbl, hl⟩ := hp
  generalize dO xs = S at *
  generalize dB bs = b at *
  subst he he2
  have hT : (E_dgsR).X = T := rfl
  have hx0 := And.intro @rect_eO (And.intro @dI_rows (And.intro @dU_rows (And.intro @dB_rows (And.intro @takeS_len (And.intro @eO_snoc @Tryz.results13)))))
  have hx := hx0
  refine ⟨by rfl, ?_⟩
  intro F W0 hnp hmk
  refine vc_seq_k fun N1 h1 => ?_
  refine u_reg ?_
  try refine lg_mk ?_
  refine u_bx ?_
  refine u_al ?_
  refine lg_nil ?_
  refine h1 _ ?_; clear h1; try clear N1
  refine vc_seq_k fun N2 h2 => ?_
  refine u_reg ?_
  try refine lg_mk ?_
  refine u_bd ?_
  refine u_al ?_
  refine u_st ?_
  refine lg_nil ?_
  refine h2 _ ?_; clear h2; try clear N2
  refine vc_seq_k fun N3 h3 => ?_
  refine vc_seq_k fun N4 h4 => ?_
  refine vc_nil1 2 0 _ 4 (vec_nil 50 4) rfl rfl rfl ?_
  simp only [updL, List.set, List.cons_append, List.nil_append]
  refine u_reg ?_
  try refine lg_mk ?_
  refine u_mv ?_
  refine lg_nil ?_
  refine h4 _ ?_; clear h4; try clear N4
  refine vc_block ?_
  refine vc_loop_mk (σ := Nat) (fun s => (fun i => i ≤ b.length) s)
   (fun s => (fun i => [(1, .d (.sl (rows eB b))), (2, .d (.bool w)), (3, .ptr 0 0 0), (6, .ptr 1 0 0), (7, .ptr 2 0 0), (8, .d (.int .i64 (i : Nat)))]) s)
   (fun s => (fun i => [some (.one 24 [.d (.sl (rows eO S))]), some (.one 24 [.d .nils]), some (.one 24 [.sl 3 0 (chs (S.take i) (b.take i) w).length]), some (.vec 50 4 (rows eO (chs (S.take i) (b.take i) w)))]) s) (fun s => (fun i => b.length - i) s) hnp 0 ?_ [some 0, some 1, some 2, some 3] ?_ ?_
  ·dsimp only
   omega
  ·dsimp only
   refine ⟨by rfl, ?_, ?_⟩
   ·refine fin_ ?_
    exact cl_
   ·refine fin_ ?_
    exact cl_
  ·rintro i hinv N5 h5
   dsimp only at hinv ⊢
   have i1 := hinv
   refine vc_seq_k fun N6 h6 => ?_
   refine vc_seq_k fun N7 h7 => ?_
   refine u_reg ?_
   try refine lg_mk ?_
   refine u_mv ?_
   refine u_mv ?_
   refine u_ln ?_
   refine u_bn ?_
   refine lg_nil ?_
   refine h7 _ ?_; clear h7; try clear N7
   refine u_cond (fun hb8 => ?_) (fun hb8 => ?_)
   ·obtain ⟨x, hxe⟩ := getE (l := S) (i := i) (by omega)
    obtain ⟨c, hce⟩ := getE (l := b) (i := i) (by omega)
    have hcs := chs_snoc (w := w) hxe hce
    have hcl := chs_len S b w i
    obtain ⟨d, k, l, u⟩ := x
    refine vc_skip ?_
    try simp only [k_rules]
    refine h6 _ ?_; clear h6; try clear N6
    refine vc_seq_k fun N9 h9 => ?_
    refine vc_block ?_
    refine vc_seq_k fun N10 h10 => ?_
    have hx := And.intro @hce (And.intro @eB.eq_1 hx0)
    refine u_reg ?_
    try refine lg_mk ?_
    refine u_mv ?_
    refine u_mv ?_
    refine u_pt ?_
    refine u_ld ?_
    refine u_mv ?_
    refine u_bn ?_
    refine lg_nil ?_
    have hx := hx0
    refine h10 _ ?_; clear h10; try clear N10
    refine u_cond (fun hb11 => ?_) (fun hb11 => ?_)
    ·have hx := And.intro @hxe (And.intro @eO.eq_1 hx0)
     refine u_reg ?_
     try refine lg_mk ?_
     refine u_pt ?_
     refine u_ld ?_
     refine u_pt ?_
     refine u_ld ?_
     refine u_mv ?_
     refine u_pt ?_
     refine u_ld ?_
     refine u_bs ?_
     refine u_ap ?_
     refine u_pt ?_
     refine u_st ?_
     refine lg_nil ?_
     have hx := hx0
     refine h9 _ ?_; clear h9; try clear N9
     refine u_reg ?_
     try refine lg_mk ?_
     refine u_mv ?_
     refine u_bn ?_
     refine u_mv ?_
     refine lg_nil ?_
     have hcw : c = w := by have := hb11; simpa using this
     rw [if_pos hcw] at hcs
     refine h5 _ ⟨i + 1, ?_, ?_, [some 0, some 1, some 2, some 5], ?_⟩
     ·dsimp only
      omega
     ·dsimp only
      omega
     ·dsimp only
      refine ⟨by rfl, ?_, ?_⟩
      ·refine fin_ ?_
       (repeat' apply And.intro) <;> (first | (first | rfl | trivial | omega | (rw [hcs]; done) | (rw [hcs]; simp; done)) | exact cl_)
      ·refine fin_ ?_
       (repeat' apply And.intro) <;> (first | (first | rfl | trivial | omega | (rw [hcs]; done) | (rw [hcs]; simp; done)) | exact cl_)
    ·refine vc_skip ?_
     try simp only [k_rules]
     refine h9 _ ?_; clear h9; try clear N9
     refine u_reg ?_
     try refine lg_mk ?_
     refine u_mv ?_
     refine u_bn ?_
     refine u_mv ?_
     refine lg_nil ?_
     have hcw : ¬ c = w := by have := hb11; simpa using this
     rw [if_neg hcw, List.append_nil] at hcs
     refine h5 _ ⟨i + 1, ?_, ?_, [some 0, some 1, some 2, some 3], ?_⟩
     ·dsimp only
      omega
     ·dsimp only
      omega
     ·dsimp only
      refine ⟨by rfl, ?_, ?_⟩
      ·refine fin_ ?_
       (repeat' apply And.intro) <;> (first | (first | rfl | trivial | omega | (rw [hcs]; done)) | exact cl_)
      ·refine fin_ ?_
       (repeat' apply And.intro) <;> (first | (first | rfl | trivial | omega | (rw [hcs]; done)) | exact cl_)
   ·refine vc_exit ?_
    simp only [k_rules, Nat.reduceEqDiff, reduceIte, eq_self]
    refine h3 _ ?_; clear h3; try clear N3
    refine vc_seq_k fun N12 h12 => ?_
    refine u_reg ?_
    try refine lg_mk ?_
    refine u_ld ?_
    refine u_st ?_
    refine lg_nil ?_
    refine h12 _ ?_; clear h12; try clear N12
    refine vc_ret ?_
    try simp only [k_rules]
    obtain rfl : i = b.length := by omega
    rw [List.take_length, hbl, takeS_len]
    refine fin2_ ?_
    (repeat' apply And.intro) <;> (first | (first | rfl | trivial | omega | (rw [takeS_len]; done) | (left; rw [takeS_len]; done) | (simp; done)) | exact cl_)
 ·cases hg

def E_chsR : Env Tryz.prog := E_dgsR.add 13 (Spec.pure chsG) chsR_meets (by kernel_rfl)
end Go.Proofs.YtcjipciiljjfhaaGreatDoor
