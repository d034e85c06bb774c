/- Walks, printed by wip/gen/walk.py. -/
import Derived.Test.YtcjipciiljjfhaaDoorT39
import Derived.Test.YtcjipciiljjfhaaDoorV5
set_option linter.all false
set_option maxRecDepth 100000
set_option maxHeartbeats 4000000
namespace Go.Proofs.YtcjipciiljjfhaaDoor
open Go Go.Vc Go.RowKit
def colS (S : List SO) (l : List Rf) (L : List Le) (t : Int) : List SO := if (colF S l L t).1 ≠ 0 then [] else chs S (mkV S (held l L t)) true
def colD (S : List SO) (l : List Rf) (L : List Le) (t : Int) : List Int := if (colF S l L t).1 ≠ 0 then [] else dgs (chs S (mkV S (held l L t)) false)
def colG : List AV → Option (Prop × AV)
  | [.agg [.d (.sl xs)], .agg [.d (.sl zs)], .d (.sl ys), .d (.int .i64 t)] => some (xs = rows eO (dO xs) ∧ (dO xs).length ≤ 9223372036854775807 ∧ smallS (dO xs) ∧ zs = rows eR (dR zs) ∧ (dR zs).length ≤ 9223372036854775807 ∧ smallR (dR zs) ∧ ys = rows eW (dW ys) ∧ (dW ys).length ≤ 9223372036854775807,
      .tup [.agg [.d (.sl (rows eO (colS (dO xs) (dR zs) (dW ys) t)))], .d (.sl (rows eI (colD (dO xs) (dR zs) (dW ys) t))), .agg [.d (.int .i64 (colF (dO xs) (dR zs) (dW ys) t).1), .d (.int .i64 (colF (dO xs) (dR zs) (dW ys) t).2)]])
  | _ => none
/-- What is kept of the first i; what goes. -/
def inR (S : List SO) (R : List Int) (x : SO) : Bool := decide (x.dg ∈ keysM (reachM S R))
def kpt (S : List SO) (R : List Int) (i : Nat) : List SO := (S.take i).filter fun x => inR S R x
def gon (S : List SO) (R : List Int) (i : Nat) : List SO := (S.take i).filter fun x => !inR S R x
theorem kpt_in {S : List SO} {R : List Int} {i : Nat} {x : SO} (h : S[i]? = some x) (hi : inR S R x = true) : kpt S R (i + 1) = kpt S R i ++ [x] ∧ gon S R (i + 1) = gon S R i := by
  unfold kpt gon; rw [List.take_add_one, h, List.filter_append, List.filter_append]; simp [hi]
theorem kpt_out {S : List SO} {R : List Int} {i : Nat} {x : SO} (h : S[i]? = some x) (hi : inR S R x = false) : kpt S R (i + 1) = kpt S R i ∧ gon S R (i + 1) = gon S R i ++ [x] := by
  unfold kpt gon; rw [List.take_add_one, h, List.filter_append, List.filter_append]; simp [hi]
theorem kpt_all (S : List SO) (R : List Int) : kpt S R S.length = chs S (mkV S R) true ∧ gon S R S.length = chs S (mkV S R) false := by
  unfold kpt gon mkV; rw [chs_map, chs_map, List.take_length]
  refine ⟨?_, ?_⟩
  · refine List.filter_congr fun x _ => ?_
    unfold inR; simp
  · refine List.filter_congr fun x _ => ?_
    unfold inR; simp
theorem kpt_len (S : List SO) (R : List Int) (i : Nat) : (kpt S R i).length ≤ i ∧ (gon S R i).length ≤ i := by
  have h1 := List.length_filter_le (fun x => inR S R x) (S.take i)
  have h2 := List.length_filter_le (fun x => !inR S R x) (S.take i)
  rw [List.length_take] at h1 h2
  exact ⟨by unfold kpt; omega, by unfold gon; omega⟩
theorem get_in {S : List SO} {R : List Int} (hv : ValS S) (x : SO) : (getI (reachM S R) x.dg).getD false = inR S R x := by
  have h := (reach_set R hv).1.in_iff x.dg
  unfold inM at h
  unfold inR
  cases hg : (getI (reachM S R) x.dg).getD false with
  | true => exact (decide_eq_true (h.1 hg)).symm
  | false => exact (decide_eq_false (fun e => by rw [h.2 e] at hg; cases hg)).symm
theorem eO_snoc2 (S : List SO) (d k : Int) (l : List Int) (u : List UInt8) : rows eO S ++ [[.int .i64 d, .int .i64 k, .sl (rows eI l), .sl (rows eU u)]] = rows eO (S ++ [⟨d, ⟨k, l, u⟩⟩]) := eO_snoc S d k l u

theorem collect_meets : Meets Tryd.prog 5 (Spec.pure colG) := by
 refine meets_fun (E_leases.at_ 107) Tryd.func5 rfl rfl rfl ?_
 intro args p r hg hp
 unfold colG at hg
 split at hg
 ·rename_i xs zs ys t
  simp only [Option.some.injEq, Prod.mk.injEq] at hg
  obtain ⟨rfl, rfl⟩ := hg
  obtain ⟨he, hl, hsm, he2, hl2, hsm2, he3, hl3⟩ := hp
  generalize dO xs = S at *
  generalize dR zs = l at *
  generalize dW ys = L at *
  subst he he2 he3
  have hT : (E_leases).X = T := rfl
  have hx0 := And.intro @rect_eO (And.intro @rect_eR (And.intro @rect_eW (And.intro @dI_rows (And.intro @dU_rows (And.intro @dO_rows (And.intro @dR_rows (And.intro @dW_rows (And.intro @takeI_len (And.intro @dec_t (And.intro @dec_f @Tryd.results5))))))))))
  have hx := hx0
  refine ⟨by rfl, ?_⟩
  intro F W0 hnp hmk
  refine vc_seq_k fun N1 h1 => ?_
  refine u_reg ?_
  try refine lg_mk ?_
  refine u_bx ?_
  refine u_bx ?_
  refine u_al ?_
  refine u_mv ?_
  refine u_al ?_
  refine lg_nil ?_
  refine h1 _ ?_; clear h1; try clear N1
  refine vc_seq_k fun N2 h2 => ?_
  refine vc_seq_k fun N3 h3 => ?_
  refine u_reg ?_
  try refine lg_mk ?_
  refine u_ld ?_
  have hc := call_rule (E := (E_leases.at_ 107)) (f := 11) (sp := Spec.pure valG) rfl
  have hs := @valG.eq_1
  refine u_cp (hq := by (first | (exact ⟨hl, hsm⟩) | exact sd_)) ?_
  refine u_al ?_
  refine u_st ?_
  refine lg_nil ?_
  refine h3 _ ?_; clear h3; try clear N3
  refine vc_seq_k fun N4 h4 => ?_
  rcases stF_or S with ⟨hvx, hv⟩ | hvx
  ·have hz1 : (stF S).1 = 0 := by rw [hvx]
   have hz2 : (stF S).2 = 0 := by rw [hvx]
   have hlen := hv.len
   refine u_reg ?_
   try refine lg_mk ?_
   refine u_ld ?_
   refine u_bd ?_
   refine u_bn ?_
   refine lg_nil ?_
   refine h4 _ ?_; clear h4; try clear N4
   refine u_cond (fun hb5 => ?_) (fun hb5 => ?_)
   ·exact absurd (And.intro hz1 hz2) (by have := hb5; simpa using this)
   ·refine vc_skip ?_
    try simp only [k_rules]
    refine h2 _ ?_; clear h2; try clear N2
    refine vc_seq_k fun N6 h6 => ?_
    refine vc_seq_k fun N7 h7 => ?_
    refine u_reg ?_
    try refine lg_mk ?_
    refine u_ld ?_
    have hc := call_rule (E := (E_leases.at_ 107)) (f := 12) (sp := Spec.pure valRG) rfl
    have hs := @valRG.eq_1
    refine u_cp (hq := by (first | (exact ⟨hl2, hsm2⟩) | exact sd_)) ?_
    refine u_al ?_
    refine u_st ?_
    refine lg_nil ?_
    refine h7 _ ?_; clear h7; try clear N7
    refine vc_seq_k fun N8 h8 => ?_
    rcases rfF_or l with ⟨hr1, hr2, hrl⟩ | hr1
    ·refine u_reg ?_
     try refine lg_mk ?_
     refine u_ld ?_
     refine u_bd ?_
     refine u_bn ?_
     refine lg_nil ?_
     refine h8 _ ?_; clear h8; try clear N8
     refine u_cond (fun hb9 => ?_) (fun hb9 => ?_)
     ·exact absurd (And.intro hr1 hr2) (by have := hb9; simpa using this)
     ·refine vc_skip ?_
      try simp only [k_rules]
      refine h6 _ ?_; clear h6; try clear N6
      refine vc_seq_k fun N10 h10 => ?_
      refine vc_seq_k fun N11 h11 => ?_
      refine u_reg ?_
      try refine lg_mk ?_
      refine u_mv ?_
      refine u_mv ?_
      have hc := call_rule (E := (E_leases.at_ 107)) (f := 13) (sp := Spec.pure leG) rfl
      have hs := @leG.eq_1
      refine u_cp (hq := by (first | (first | exact hl3 | exact ⟨rfl, hl3⟩) | exact sd_)) ?_
      refine u_al ?_
      refine u_st ?_
      refine lg_nil ?_
      refine h11 _ ?_; clear h11; try clear N11
      refine vc_seq_k fun N12 h12 => ?_
      rcases leF_or L t with ⟨hx1, hx2, hxl⟩ | hx1
      ·have hcf : colF S l L t = (0, 0) := by unfold colF; rw [if_neg (by rw [hz1]; simp), if_neg (by rw [hr1]; simp)]; exact Prod.ext hx1 hx2
       have hgl := rtg_len l
       refine u_reg ?_
       try refine lg_mk ?_
       refine u_ld ?_
       refine u_bd ?_
       refine u_bn ?_
       refine lg_nil ?_
       refine h12 _ ?_; clear h12; try clear N12
       refine u_cond (fun hb13 => ?_) (fun hb13 => ?_)
       ·exact absurd (And.intro hx1 hx2) (by have := hb13; simpa using this)
       ·refine vc_skip ?_
        try simp only [k_rules]
        refine h10 _ ?_; clear h10; try clear N10
        refine vc_seq_k fun N14 h14 => ?_
        refine u_reg ?_
        try refine lg_mk ?_
        refine u_mv ?_
        refine lg_nil ?_
        refine h14 _ ?_; clear h14; try clear N14
        refine vc_seq_k fun N15 h15 => ?_
        refine vc_seq_k fun N16 h16 => ?_
        refine u_reg ?_
        try refine lg_mk ?_
        refine u_pt ?_
        refine u_ld ?_
        refine u_ln ?_
        refine u_mv ?_
        refine lg_nil ?_
        refine h16 _ ?_; clear h16; try clear N16
        refine vc_block ?_
        refine vc_loop_mk (σ := Nat) (fun s => (fun i => i ≤ l.length) s)
         (fun s => (fun i => [(2, .d (.sl (rows eW L))), (3, .d (.int .i64 t)), (4, .ptr 0 0 0), (5, .ptr 1 0 0), (8, .ptr 2 0 0), (10, .ptr 3 0 0), (11, .ptr 4 0 0), (12, .ptr 5 0 0), (13, .ptr 6 0 0), (14, .sl 7 0 i), (49, .d (.sl (rows eR l))), (50, .d (.int .i64 (l.length : Nat))), (51, .d (.int .i64 (i : Nat)))]) s)
         (fun s => (fun i => [some (.one 24 [.d (.sl (rows eO S))]), some (.one 27 [.d (.sl (rows eR l))]), some (.one 24 [.d .nils]), some (.one 33 [.d (.int .i64 0), .d (.int .i64 0)]), some (.one 33 [.d (.int .i64 0), .d (.int .i64 0)]), some (.one 33 [.d (.int .i64 0), .d (.int .i64 0)]), some (.one 33 [.d (.int .i64 0), .d (.int .i64 0)]), some (.vec 3 1 (rows eI ((rtg l).take i)))]) s) (fun s => (fun i => l.length - i) s) hnp 0 ?_ [some 0, some 1, some 2, some 3, some 4, some 5, some 6, none] ?_ ?_
        ·dsimp only
         omega
        ·dsimp only
         refine ⟨by rfl, ?_, ?_⟩
         ·refine fin_ ?_
          exact cl_
         ·refine fin_ ?_
          exact cl_
        ·rintro i hinv N17 h17
         dsimp only at hinv ⊢
         have i1 := hinv
         have htk : ((rtg l).take i).take i = (rtg l).take i := List.take_of_length_le (by simp; omega)
         refine vc_seq_k fun N18 h18 => ?_
         refine u_reg ?_
         try refine lg_mk ?_
         refine u_bn ?_
         refine lg_nil ?_
         refine h18 _ ?_; clear h18; try clear N18
         refine vc_seq_k fun N19 h19 => ?_
         refine u_cond (fun hb20 => ?_) (fun hb20 => ?_)
         ·obtain ⟨x, hxe⟩ := getE (l := l) (i := i) (by omega)
          have hsn := rtg_snoc hxe
          obtain ⟨nm, tg⟩ := x
          dsimp only at hsn
          refine vc_skip ?_
          try simp only [k_rules]
          refine h19 _ ?_; clear h19; try clear N19
          refine vc_seq_k fun N21 h21 => ?_
          refine vc_block ?_
          refine vc_seq_k fun N22 h22 => ?_
          have hx := And.intro @hxe (And.intro @eR.eq_1 hx0)
          refine u_reg ?_
          try refine lg_mk ?_
          refine u_pt ?_
          refine u_ld ?_
          refine u_al ?_
          refine u_st ?_
          refine lg_nil ?_
          have hx := hx0
          refine h22 _ ?_; clear h22; try clear N22
          refine u_reg ?_
          try refine lg_mk ?_
          refine u_mv ?_
          refine u_pt ?_
          refine u_ld ?_
          refine u_bs ?_
          refine u_ap ?_
          refine u_mv ?_
          refine lg_nil ?_
          refine h21 _ ?_; clear h21; try clear N21
          refine u_reg ?_
          try refine lg_mk ?_
          refine u_bn ?_
          refine u_mv ?_
          refine lg_nil ?_
          refine h17 _ ⟨i + 1, ?_, ?_, [some 0, some 1, some 2, some 3, some 4, some 5, some 6, some 10], ?_⟩
          ·dsimp only
           omega
          ·dsimp only
           omega
          ·dsimp only
           refine ⟨by rfl, ?_, ?_⟩
           ·refine fin_ ?_
            (repeat' apply And.intro) <;> (first | (first | rfl | trivial | omega | (rw [hsn, htk]; simp [rows, eI]; done)) | exact cl_)
           ·refine fin_ ?_
            (repeat' apply And.intro) <;> (first | (first | rfl | trivial | omega | (rw [hsn, htk]; simp [rows, eI]; done)) | exact cl_)
         ·refine vc_exit ?_
          simp only [k_rules, Nat.reduceEqDiff, reduceIte, eq_self]
          refine h15 _ ?_; clear h15; try clear N15
          refine vc_seq_k fun N23 h23 => ?_
          refine vc_seq_k fun N24 h24 => ?_
          refine u_reg ?_
          try refine lg_mk ?_
          refine u_mv ?_
          refine u_ln ?_
          refine u_mv ?_
          refine lg_nil ?_
          refine h24 _ ?_; clear h24; try clear N24
          refine vc_block ?_
          refine vc_loop_mk (σ := Nat) (fun s => (fun j => j ≤ L.length) s)
           (fun s => (fun j => [(2, .d (.sl (rows eW L))), (3, .d (.int .i64 t)), (4, .ptr 0 0 0), (5, .ptr 1 0 0), (8, .ptr 2 0 0), (10, .ptr 3 0 0), (11, .ptr 4 0 0), (12, .ptr 5 0 0), (13, .ptr 6 0 0), (14, .sl 7 0 (heldK l L t j).length), (61, .d (.sl (rows eW L))), (62, .d (.int .i64 (L.length : Nat))), (63, .d (.int .i64 (j : Nat)))]) s)
           (fun s => (fun j => [some (.one 24 [.d (.sl (rows eO S))]), some (.one 27 [.d (.sl (rows eR l))]), some (.one 24 [.d .nils]), some (.one 33 [.d (.int .i64 0), .d (.int .i64 0)]), some (.one 33 [.d (.int .i64 0), .d (.int .i64 0)]), some (.one 33 [.d (.int .i64 0), .d (.int .i64 0)]), some (.one 33 [.d (.int .i64 0), .d (.int .i64 0)]), some (.vec 3 1 (rows eI (heldK l L t j)))]) s) (fun s => (fun j => L.length - j) s) hnp 0 ?_ [some 0, some 1, some 2, some 3, some 4, some 5, some 6, some 7] ?_ ?_
          ·dsimp only
           omega
          ·dsimp only
           refine ⟨by rfl, ?_, ?_⟩
           ·refine fin_ ?_
            (repeat' apply And.intro) <;> (first | (first | rfl | trivial | omega | (rw [held_zero, hgl]; omega) | (obtain rfl : i = l.length := (by omega); rw [held_zero, List.take_of_length_le (by omega)]; done) | (obtain rfl : i = l.length := (by omega); rw [held_zero]; omega)) | exact cl_)
           ·refine fin_ ?_
            (repeat' apply And.intro) <;> (first | (first | rfl | trivial | omega | (rw [held_zero, hgl]; omega) | (obtain rfl : i = l.length := (by omega); rw [held_zero, List.take_of_length_le (by omega)]; done) | (obtain rfl : i = l.length := (by omega); rw [held_zero]; omega)) | exact cl_)
          ·rintro j hinv N25 h25
           dsimp only at hinv ⊢
           have j1 := hinv
           have hhl := held_len l L t j
           have htk : (heldK l L t j).take (heldK l L t j).length = heldK l L t j := List.take_length
           refine vc_seq_k fun N26 h26 => ?_
           refine u_reg ?_
           try refine lg_mk ?_
           refine u_bn ?_
           refine lg_nil ?_
           refine h26 _ ?_; clear h26; try clear N26
           refine vc_seq_k fun N27 h27 => ?_
           refine u_cond (fun hb28 => ?_) (fun hb28 => ?_)
           ·obtain ⟨x, hxe⟩ := getE (l := L) (i := j) (by omega)
            obtain ⟨dg, un⟩ := x
            refine vc_skip ?_
            try simp only [k_rules]
            refine h27 _ ?_; clear h27; try clear N27
            refine vc_seq_k fun N29 h29 => ?_
            refine vc_block ?_
            refine vc_seq_k fun N30 h30 => ?_
            have hx := And.intro @hxe (And.intro @eW.eq_1 hx0)
            refine u_reg ?_
            try refine lg_mk ?_
            refine u_pt ?_
            refine u_ld ?_
            refine u_al ?_
            refine u_st ?_
            refine lg_nil ?_
            have hx := hx0
            refine h30 _ ?_; clear h30; try clear N30
            refine vc_seq_k fun N31 h31 => ?_
            refine u_reg ?_
            try refine lg_mk ?_
            refine u_pt ?_
            refine u_ld ?_
            refine u_mv ?_
            refine u_bn ?_
            refine lg_nil ?_
            refine h31 _ ?_; clear h31; try clear N31
            refine u_cond (fun hb32 => ?_) (fun hb32 => ?_)
            ·have hsn := held_in (l := l) (t := t) hxe (by dsimp only; have := hb32; omega)
             dsimp only at hsn
             refine u_reg ?_
             try refine lg_mk ?_
             refine u_mv ?_
             refine u_pt ?_
             refine u_ld ?_
             refine u_bs ?_
             refine u_ap ?_
             refine u_mv ?_
             refine lg_nil ?_
             refine h29 _ ?_; clear h29; try clear N29
             refine u_reg ?_
             try refine lg_mk ?_
             refine u_bn ?_
             refine u_mv ?_
             refine lg_nil ?_
             refine h25 _ ⟨j + 1, ?_, ?_, [some 0, some 1, some 2, some 3, some 4, some 5, some 6, some 10], ?_⟩
             ·dsimp only
              omega
             ·dsimp only
              omega
             ·dsimp only
              refine ⟨by rfl, ?_, ?_⟩
              ·refine fin_ ?_
               (repeat' apply And.intro) <;> (first | (first | rfl | trivial | omega | (rw [hsn, htk]; simp [rows, eI]; done) | (rw [hsn]; simp; done) | (rw [hsn]; simp [rows, eI]; done)) | exact cl_)
              ·refine fin_ ?_
               (repeat' apply And.intro) <;> (first | (first | rfl | trivial | omega | (rw [hsn, htk]; simp [rows, eI]; done) | (rw [hsn]; simp; done) | (rw [hsn]; simp [rows, eI]; done)) | exact cl_)
            ·have hsn := held_out (l := l) (t := t) hxe (by dsimp only; have := hb32; omega)
             refine vc_skip ?_
             try simp only [k_rules]
             refine h29 _ ?_; clear h29; try clear N29
             refine u_reg ?_
             try refine lg_mk ?_
             refine u_bn ?_
             refine u_mv ?_
             refine lg_nil ?_
             refine h25 _ ⟨j + 1, ?_, ?_, [some 0, some 1, some 2, some 3, some 4, some 5, some 6, some 7], ?_⟩
             ·dsimp only
              omega
             ·dsimp only
              omega
             ·dsimp only
              refine ⟨by rfl, ?_, ?_⟩
              ·refine fin_ ?_
               (repeat' apply And.intro) <;> (first | (first | rfl | trivial | omega | (rw [hsn]; done) | (left; rw [hsn]; done)) | exact cl_)
              ·refine fin_ ?_
               (repeat' apply And.intro) <;> (first | (first | rfl | trivial | omega | (rw [hsn]; done) | (left; rw [hsn]; done)) | exact cl_)
           ·obtain rfl : j = L.length := by omega
            have hhe : heldK l L t L.length = held l L t := rfl
            rw [hhe] at hhl htk
            have hlen := hv.len
            refine vc_exit ?_
            simp only [k_rules, Nat.reduceEqDiff, reduceIte, eq_self]
            refine h23 _ ?_; clear h23; try clear N23
            refine vc_seq_k fun N33 h33 => ?_
            have hx := And.intro @hhe (And.intro @htk hx0)
            refine u_reg ?_
            try refine lg_mk ?_
            refine u_ld ?_
            refine u_mv ?_
            have hc := call_rule (E := (E_leases.at_ 107)) (f := 14) (sp := Spec.fresh reachG) rfl
            have hs := @reachG.eq_1
            refine u_hg (hq := by (first | (exact ⟨hv, by rw [htk]; omega⟩) | exact sd_)) ?_
            refine u_mv ?_
            refine lg_nil ?_
            have hx := hx0
            refine h33 _ ?_; clear h33; try clear N33
            refine vc_seq_k fun N34 h34 => ?_
            refine u_reg ?_
            try refine lg_mk ?_
            refine u_al ?_
            refine lg_nil ?_
            refine h34 _ ?_; clear h34; try clear N34
            refine vc_seq_k fun N35 h35 => ?_
            refine u_reg ?_
            try refine lg_mk ?_
            refine u_mv ?_
            refine lg_nil ?_
            refine h35 _ ?_; clear h35; try clear N35
            refine vc_seq_k fun N36 h36 => ?_
            refine vc_seq_k fun N37 h37 => ?_
            refine vc_nil1 9 0 _ 4 (vec_nil 58 4) rfl rfl rfl ?_
            simp only [updL, List.set, List.cons_append, List.nil_append]
            refine u_reg ?_
            try refine lg_mk ?_
            refine u_ld ?_
            have hc := call_rule (E := (E_leases.at_ 107)) (f := 15) (sp := Spec.fresh copyG) rfl
            have hs := @copyG.eq_1
            refine u_hg (hq := by (first | (exact hv) | exact sd_)) ?_
            refine u_pt ?_
            refine u_ln ?_
            refine u_mv ?_
            refine lg_nil ?_
            refine h37 _ ?_; clear h37; try clear N37
            refine vc_block ?_
            refine vc_loop_mk (σ := Nat) (fun s => (fun k => k ≤ S.length) s)
             (fun s => (fun k => [(2, .d (.sl (rows eW L))), (3, .d (.int .i64 t)), (4, .ptr 0 0 0), (5, .ptr 1 0 0), (8, .ptr 2 0 0), (10, .ptr 3 0 0), (11, .ptr 4 0 0), (12, .ptr 5 0 0), (13, .ptr 6 0 0), (19, .mp 7), (20, .ptr 8 0 0), (21, .sl 11 0 (gon S (held l L t) k).length), (82, .sl 10 0 S.length), (83, .d (.int .i64 (S.length : Nat))), (84, .d (.int .i64 (k : Nat)))]) s)
             (fun s => (fun k => [some (.one 24 [.d (.sl (rows eO S))]), some (.one 27 [.d (.sl (rows eR l))]), some (.one 24 [.d .nils]), some (.one 33 [.d (.int .i64 0), .d (.int .i64 0)]), some (.one 33 [.d (.int .i64 0), .d (.int .i64 0)]), some (.one 33 [.d (.int .i64 0), .d (.int .i64 0)]), some (.one 33 [.d (.int .i64 0), .d (.int .i64 0)]), some (.ob (.mapI (reachM S (held l L t)))), some (.one 24 [.sl 9 0 (kpt S (held l L t) k).length]), some (.vec 58 4 (rows eO (kpt S (held l L t) k))), some (.vec 58 4 (rows eO S)), some (.vec 3 1 (rows eI (dgs (gon S (held l L t) k))))]) s) (fun s => (fun k => S.length - k) s) hnp 0 ?_ [some 0, some 1, some 2, some 3, some 4, some 5, some 6, some 8, some 9, some 10, some 11, none] ?_ ?_
            ·dsimp only
             omega
            ·dsimp only
             refine ⟨by rfl, ?_, ?_⟩
             ·refine fin_ ?_
              exact cl_
             ·refine fin_ ?_
              exact cl_
            ·rintro k hinv N38 h38
             dsimp only at hinv ⊢
             have k1 := hinv
             refine vc_seq_k fun N39 h39 => ?_
             refine u_reg ?_
             try refine lg_mk ?_
             refine u_bn ?_
             refine lg_nil ?_
             refine h39 _ ?_; clear h39; try clear N39
             refine vc_seq_k fun N40 h40 => ?_
             refine u_cond (fun hb41 => ?_) (fun hb41 => ?_)
             ·obtain ⟨x, hxe⟩ := getE (l := S) (i := k) (by omega)
              have hgi := get_in (R := held l L t) hv x
              have hkl := kpt_len S (held l L t) k
              have hkt : (kpt S (held l L t) k).take (kpt S (held l L t) k).length = kpt S (held l L t) k := List.take_length
              have hgt : (dgs (gon S (held l L t) k)).take (gon S (held l L t) k).length = dgs (gon S (held l L t) k) := List.take_of_length_le (by rw [dgs_len]; exact Nat.le_refl _)
              have hdl := dgs_len (gon S (held l L t) k)
              refine vc_skip ?_
              try simp only [k_rules]
              refine h40 _ ?_; clear h40; try clear N40
              refine vc_seq_k fun N42 h42 => ?_
              refine vc_block ?_
              refine vc_seq_k fun N43 h43 => ?_
              rcases (show inR S (held l L t) x = true ∨ inR S (held l L t) x = false by cases inR S (held l L t) x <;> simp) with hin | hin
              ·rw [hin] at hgi
               obtain ⟨hk1, hk2⟩ := kpt_in hxe hin
               obtain ⟨d, o⟩ := x
               obtain ⟨kd, ll, u⟩ := o
               dsimp only at hgi
               have hx := And.intro @hxe (And.intro @eO.eq_1 hx0)
               refine u_reg ?_
               try refine lg_mk ?_
               refine u_pt ?_
               refine u_ld ?_
               refine u_al ?_
               refine u_st ?_
               refine lg_nil ?_
               have hx := hx0
               refine h43 _ ?_; clear h43; try clear N43
               refine vc_seq_k fun N44 h44 => ?_
               have hx := And.intro @hgi hx0
               refine u_reg ?_
               try refine lg_mk ?_
               refine u_mv ?_
               refine u_pt ?_
               refine u_ld ?_
               refine lg_sem (by rfl) (sem_mapGet (t := 54) (kt := 3) (et := 4) (by kernel_rfl) (by kernel_rfl) zero_bool (by first | (simp only [wB, eq_self, Nat.reduceEqDiff, reduceIte]; done) | (simp only [wB, eq_self, Nat.reduceEqDiff, reduceIte]; rfl)) (by first | trivial | simp only [wB, eq_self, Nat.reduceEqDiff, reduceIte]) (by first | (simp only [wB, eq_self, Nat.reduceEqDiff, reduceIte]; done) | (simp only [wB, eq_self, Nat.reduceEqDiff, reduceIte]; rfl)) (by first | trivial | simp only [wB, eq_self, Nat.reduceEqDiff, reduceIte]) (by simp only [wB, eq_self, Nat.reduceEqDiff, reduceIte]; rfl) ?_)
               try simp only [Bool.false_eq_true, wB, eq_self, Nat.reduceEqDiff, reduceIte, wL, Int.toNat_natCast, Int.reduceToNat, Nat.reduceAdd, Nat.reduceMul, Nat.reduceSub, Nat.reduceLeDiff, hx]
               refine lg_nil ?_
               have hx := hx0
               refine h44 _ ?_; clear h44; try clear N44
               refine u_cond (fun hb45 => ?_) (fun hb45 => ?_)
               ·refine u_reg ?_
                try refine lg_mk ?_
                refine u_pt ?_
                refine u_ld ?_
                refine u_ld ?_
                refine u_bs ?_
                refine u_ap ?_
                refine u_pt ?_
                refine u_st ?_
                refine lg_nil ?_
                refine h42 _ ?_; clear h42; try clear N42
                refine u_reg ?_
                try refine lg_mk ?_
                refine u_bn ?_
                refine u_mv ?_
                refine lg_nil ?_
                refine h38 _ ⟨k + 1, ?_, ?_, [some 0, some 1, some 2, some 3, some 4, some 5, some 6, some 7, some 8, some 14, some 10, some 11], ?_⟩
                ·dsimp only
                 omega
                ·dsimp only
                 omega
                ·dsimp only
                 refine ⟨by rfl, ?_, ?_⟩
                 ·refine fin_ ?_
                  (repeat' apply And.intro) <;> (first | (first | rfl | trivial | omega | (rw [hk1]; simp; done) | (rw [hk2]; done) | (rw [hk1, ← eO_snoc2, hkt]; done) | (left; rw [hk2]; done)) | exact cl_)
                 ·refine fin_ ?_
                  (repeat' apply And.intro) <;> (first | (first | rfl | trivial | omega | (rw [hk1]; simp; done) | (rw [hk2]; done) | (rw [hk1, ← eO_snoc2, hkt]; done) | (left; rw [hk2]; done)) | exact cl_)
               ·first | omega | exact absurd trivial hb45 | contradiction | (simp_all; done)
              ·rw [hin] at hgi
               obtain ⟨hk1, hk2⟩ := kpt_out hxe hin
               obtain ⟨d, o⟩ := x
               obtain ⟨kd, ll, u⟩ := o
               dsimp only at hgi
               have hx := And.intro @hxe (And.intro @eO.eq_1 hx0)
               refine u_reg ?_
               try refine lg_mk ?_
               refine u_pt ?_
               refine u_ld ?_
               refine u_al ?_
               refine u_st ?_
               refine lg_nil ?_
               have hx := hx0
               refine h43 _ ?_; clear h43; try clear N43
               refine vc_seq_k fun N46 h46 => ?_
               have hx := And.intro @hgi hx0
               refine u_reg ?_
               try refine lg_mk ?_
               refine u_mv ?_
               refine u_pt ?_
               refine u_ld ?_
               refine lg_sem (by rfl) (sem_mapGet (t := 54) (kt := 3) (et := 4) (by kernel_rfl) (by kernel_rfl) zero_bool (by first | (simp only [wB, eq_self, Nat.reduceEqDiff, reduceIte]; done) | (simp only [wB, eq_self, Nat.reduceEqDiff, reduceIte]; rfl)) (by first | trivial | simp only [wB, eq_self, Nat.reduceEqDiff, reduceIte]) (by first | (simp only [wB, eq_self, Nat.reduceEqDiff, reduceIte]; done) | (simp only [wB, eq_self, Nat.reduceEqDiff, reduceIte]; rfl)) (by first | trivial | simp only [wB, eq_self, Nat.reduceEqDiff, reduceIte]) (by simp only [wB, eq_self, Nat.reduceEqDiff, reduceIte]; rfl) ?_)
               try simp only [Bool.false_eq_true, wB, eq_self, Nat.reduceEqDiff, reduceIte, wL, Int.toNat_natCast, Int.reduceToNat, Nat.reduceAdd, Nat.reduceMul, Nat.reduceSub, Nat.reduceLeDiff, hx]
               refine lg_nil ?_
               have hx := hx0
               refine h46 _ ?_; clear h46; try clear N46
               refine u_cond (fun hb47 => ?_) (fun hb47 => ?_)
               ·first | omega | exact absurd trivial hb47 | contradiction | (simp_all; done)
               ·refine u_reg ?_
                try refine lg_mk ?_
                refine u_mv ?_
                refine u_pt ?_
                refine u_ld ?_
                refine u_bs ?_
                refine u_ap ?_
                refine u_mv ?_
                refine lg_nil ?_
                refine h42 _ ?_; clear h42; try clear N42
                refine u_reg ?_
                try refine lg_mk ?_
                refine u_bn ?_
                refine u_mv ?_
                refine lg_nil ?_
                refine h38 _ ⟨k + 1, ?_, ?_, [some 0, some 1, some 2, some 3, some 4, some 5, some 6, some 7, some 8, some 9, some 10, some 14], ?_⟩
                ·dsimp only
                 omega
                ·dsimp only
                 omega
                ·dsimp only
                 refine ⟨by rfl, ?_, ?_⟩
                 ·refine fin_ ?_
                  (repeat' apply And.intro) <;> (first | (first | rfl | trivial | omega | (rw [hk2]; simp; done) | (rw [hk1]; done) | (rw [hk2, hgt]; simp [dgs, rows, eI]; done) | (left; rw [hk1]; done)) | exact cl_)
                 ·refine fin_ ?_
                  (repeat' apply And.intro) <;> (first | (first | rfl | trivial | omega | (rw [hk2]; simp; done) | (rw [hk1]; done) | (rw [hk2, hgt]; simp [dgs, rows, eI]; done) | (left; rw [hk1]; done)) | exact cl_)
             ·obtain rfl : k = S.length := by omega
              obtain ⟨hk1, hk2⟩ := kpt_all S (held l L t)
              refine vc_exit ?_
              simp only [k_rules, Nat.reduceEqDiff, reduceIte, eq_self]
              refine h36 _ ?_; clear h36; try clear N36
              refine vc_seq_k fun N48 h48 => ?_
              refine u_reg ?_
              try refine lg_mk ?_
              refine u_ld ?_
              refine u_mv ?_
              refine u_bd ?_
              refine u_st ?_
              refine u_mv ?_
              refine u_st ?_
              refine lg_nil ?_
              refine h48 _ ?_; clear h48; try clear N48
              refine vc_ret ?_
              try simp only [k_rules]
              have hrS : colS S l L t = kpt S (held l L t) S.length := by unfold colS; rw [hcf, if_neg (by simp), hk1]
              have hrD : colD S l L t = dgs (gon S (held l L t) S.length) := by unfold colD; rw [hcf, if_neg (by simp), hk2]
              have hdl := dgs_len (gon S (held l L t) S.length)
              have hgt : (dgs (gon S (held l L t) S.length)).take (gon S (held l L t) S.length).length = dgs (gon S (held l L t) S.length) := List.take_of_length_le (by omega)
              have hkt : (kpt S (held l L t) S.length).take (kpt S (held l L t) S.length).length = kpt S (held l L t) S.length := List.take_length
              rw [hcf, hrS, hrD]
              refine fin2_ ?_
              (repeat' apply And.intro) <;> (first | (first | rfl | trivial | omega | exact Or.inl rfl | (rw [hgt]; done) | (left; rw [hgt]; done) | (rw [hkt]; done) | (left; rw [hkt]; done) | (simp; done)) | exact cl_)
      ·have hx2 := hx1
       refine u_reg ?_
       try refine lg_mk ?_
       refine u_ld ?_
       refine u_bd ?_
       refine u_bn ?_
       refine lg_nil ?_
       refine h12 _ ?_; clear h12; try clear N12
       refine u_cond (fun hb49 => ?_) (fun hb49 => ?_)
       ·refine vc_seq_k fun N50 h50 => ?_
        refine vc_regT [] (.seq [0] (.alt 1 (.seq [2, 3, 4] .nil) (.alt 2 (.seq [1, 3, 4] .nil) .nil))) hmix (by kernel_rfl) ?_
        refine at_seq ?_
        simp only [pick_rules, list_rules]
        try refine lg_mk ?_
        refine u_bd ?_
        refine lg_nil ?_
        refine at_alt ?_ ?_
        ·simp only [pick_rules, list_rules]
         try refine lg_mk ?_
         refine u_ld ?_
         refine lg_nil ?_
         refine at_seq ?_
         simp only [pick_rules, list_rules]
         try refine lg_mk ?_
         refine u_st ?_
         refine u_mv ?_
         refine u_st ?_
         refine lg_nil ?_
         refine at_nil ?_
         refine h50 _ ?_; clear h50; try clear N50
         refine vc_ret ?_
         try simp only [k_rules]
         have hr : colF S l L t = leF L t := by unfold colF; rw [if_neg (by rw [hz1]; simp), if_neg (by rw [hr1]; simp)]
         have hrS : colS S l L t = [] := by unfold colS; rw [hr]; rw [if_pos (by exact hx1)]
         have hrD : colD S l L t = [] := by unfold colD; rw [hr]; rw [if_pos (by exact hx1)]
         rw [hr, hrS, hrD]
         refine fin2_ ?_
         exact cl_
        refine at_alt ?_ ?_
        ·simp only [pick_rules, list_rules]
         try refine lg_mk ?_
         refine u_st ?_
         refine lg_nil ?_
         refine at_seq ?_
         simp only [pick_rules, list_rules]
         try refine lg_mk ?_
         refine u_ld ?_
         refine u_mv ?_
         refine u_st ?_
         refine lg_nil ?_
         refine at_nil ?_
         refine h50 _ ?_; clear h50; try clear N50
         refine vc_ret ?_
         try simp only [k_rules]
         have hr : colF S l L t = leF L t := by unfold colF; rw [if_neg (by rw [hz1]; simp), if_neg (by rw [hr1]; simp)]
         have hrS : colS S l L t = [] := by unfold colS; rw [hr]; rw [if_pos (by exact hx1)]
         have hrD : colD S l L t = [] := by unfold colD; rw [hr]; rw [if_pos (by exact hx1)]
         rw [hr, hrS, hrD]
         refine fin2_ ?_
         exact cl_
        exact at_end
       ·exact absurd (show (leF L t).1 = 0 by have := hb49; first | exact this.1 | exact (Classical.not_not.1 this).1 | (simp at this; exact this.1)) hx1
    ·have hr2 := hr1
     refine u_reg ?_
     try refine lg_mk ?_
     refine u_ld ?_
     refine u_bd ?_
     refine u_bn ?_
     refine lg_nil ?_
     refine h8 _ ?_; clear h8; try clear N8
     refine u_cond (fun hb51 => ?_) (fun hb51 => ?_)
     ·refine vc_seq_k fun N52 h52 => ?_
      refine vc_regT [] (.seq [0] (.alt 1 (.alt 2 (.alt 3 (.seq [4, 5, 6] .nil) (.alt 4 (.seq [3, 5, 6] .nil) .nil)) (.alt 4 (.seq [2, 3, 5, 6] .nil) .nil)) (.alt 4 (.seq [1, 2, 3, 5, 6] .nil) .nil))) hmix (by kernel_rfl) ?_
      refine at_seq ?_
      simp only [pick_rules, list_rules]
      try refine lg_mk ?_
      refine u_bd ?_
      refine lg_nil ?_
      refine at_alt ?_ ?_
      ·simp only [pick_rules, list_rules]
       try refine lg_mk ?_
       refine u_pt ?_
       refine lg_nil ?_
       refine at_alt ?_ ?_
       ·simp only [pick_rules, list_rules]
        try refine lg_mk ?_
        refine u_ld ?_
        refine lg_nil ?_
        refine at_alt ?_ ?_
        ·simp only [pick_rules, list_rules]
         try refine lg_mk ?_
         refine u_bd ?_
         refine lg_nil ?_
         refine at_seq ?_
         simp only [pick_rules, list_rules]
         try refine lg_mk ?_
         refine u_st ?_
         refine u_mv ?_
         refine u_st ?_
         refine lg_nil ?_
         refine at_nil ?_
         refine h52 _ ?_; clear h52; try clear N52
         refine vc_ret ?_
         try simp only [k_rules]
         have hr : colF S l L t = ((rfF l).1, -1) := by unfold colF; rw [if_neg (by rw [hz1]; simp), if_pos hr1]
         have hrS : colS S l L t = [] := by unfold colS; rw [hr]; rw [if_pos (by exact hr1)]
         have hrD : colD S l L t = [] := by unfold colD; rw [hr]; rw [if_pos (by exact hr1)]
         rw [hr, hrS, hrD]
         refine fin2_ ?_
         exact cl_
        refine at_alt ?_ ?_
        ·simp only [pick_rules, list_rules]
         try refine lg_mk ?_
         refine u_st ?_
         refine lg_nil ?_
         refine at_seq ?_
         simp only [pick_rules, list_rules]
         try refine lg_mk ?_
         refine u_bd ?_
         refine u_mv ?_
         refine u_st ?_
         refine lg_nil ?_
         refine at_nil ?_
         refine h52 _ ?_; clear h52; try clear N52
         refine vc_ret ?_
         try simp only [k_rules]
         have hr : colF S l L t = ((rfF l).1, -1) := by unfold colF; rw [if_neg (by rw [hz1]; simp), if_pos hr1]
         have hrS : colS S l L t = [] := by unfold colS; rw [hr]; rw [if_pos (by exact hr1)]
         have hrD : colD S l L t = [] := by unfold colD; rw [hr]; rw [if_pos (by exact hr1)]
         rw [hr, hrS, hrD]
         refine fin2_ ?_
         exact cl_
        exact at_end
       refine at_alt ?_ ?_
       ·simp only [pick_rules, list_rules]
        try refine lg_mk ?_
        refine u_st ?_
        refine lg_nil ?_
        refine at_seq ?_
        simp only [pick_rules, list_rules]
        try refine lg_mk ?_
        refine u_ld ?_
        refine u_bd ?_
        refine u_mv ?_
        refine u_st ?_
        refine lg_nil ?_
        refine at_nil ?_
        refine h52 _ ?_; clear h52; try clear N52
        refine vc_ret ?_
        try simp only [k_rules]
        have hr : colF S l L t = ((rfF l).1, -1) := by unfold colF; rw [if_neg (by rw [hz1]; simp), if_pos hr1]
        have hrS : colS S l L t = [] := by unfold colS; rw [hr]; rw [if_pos (by exact hr1)]
        have hrD : colD S l L t = [] := by unfold colD; rw [hr]; rw [if_pos (by exact hr1)]
        rw [hr, hrS, hrD]
        refine fin2_ ?_
        exact cl_
       exact at_end
      refine at_alt ?_ ?_
      ·simp only [pick_rules, list_rules]
       try refine lg_mk ?_
       refine u_st ?_
       refine lg_nil ?_
       refine at_seq ?_
       simp only [pick_rules, list_rules]
       try refine lg_mk ?_
       refine u_pt ?_
       refine u_ld ?_
       refine u_bd ?_
       refine u_mv ?_
       refine u_st ?_
       refine lg_nil ?_
       refine at_nil ?_
       refine h52 _ ?_; clear h52; try clear N52
       refine vc_ret ?_
       try simp only [k_rules]
       have hr : colF S l L t = ((rfF l).1, -1) := by unfold colF; rw [if_neg (by rw [hz1]; simp), if_pos hr1]
       have hrS : colS S l L t = [] := by unfold colS; rw [hr]; rw [if_pos (by exact hr1)]
       have hrD : colD S l L t = [] := by unfold colD; rw [hr]; rw [if_pos (by exact hr1)]
       rw [hr, hrS, hrD]
       refine fin2_ ?_
       exact cl_
      exact at_end
     ·exact absurd (show (rfF l).1 = 0 by have := hb51; first | exact this.1 | exact (Classical.not_not.1 this).1 | (simp at this; exact this.1)) hr1
  ·have hz1 := hvx
   refine u_reg ?_
   try refine lg_mk ?_
   refine u_ld ?_
   refine u_bd ?_
   refine u_bn ?_
   refine lg_nil ?_
   refine h4 _ ?_; clear h4; try clear N4
   refine u_cond (fun hb53 => ?_) (fun hb53 => ?_)
   ·refine vc_seq_k fun N54 h54 => ?_
    refine vc_regT [] (.seq [0] (.alt 1 (.seq [2, 3, 4] .nil) (.alt 2 (.seq [1, 3, 4] .nil) .nil))) hmix (by kernel_rfl) ?_
    refine at_seq ?_
    simp only [pick_rules, list_rules]
    try refine lg_mk ?_
    refine u_bd ?_
    refine lg_nil ?_
    refine at_alt ?_ ?_
    ·simp only [pick_rules, list_rules]
     try refine lg_mk ?_
     refine u_ld ?_
     refine lg_nil ?_
     refine at_seq ?_
     simp only [pick_rules, list_rules]
     try refine lg_mk ?_
     refine u_st ?_
     refine u_mv ?_
     refine u_st ?_
     refine lg_nil ?_
     refine at_nil ?_
     refine h54 _ ?_; clear h54; try clear N54
     refine vc_ret ?_
     try simp only [k_rules]
     have hr : colF S l L t = stF S := by unfold colF; rw [if_pos hz1]
     have hrS : colS S l L t = [] := by unfold colS; rw [hr]; rw [if_pos (by exact hz1)]
     have hrD : colD S l L t = [] := by unfold colD; rw [hr]; rw [if_pos (by exact hz1)]
     rw [hr, hrS, hrD]
     refine fin2_ ?_
     exact cl_
    refine at_alt ?_ ?_
    ·simp only [pick_rules, list_rules]
     try refine lg_mk ?_
     refine u_st ?_
     refine lg_nil ?_
     refine at_seq ?_
     simp only [pick_rules, list_rules]
     try refine lg_mk ?_
     refine u_ld ?_
     refine u_mv ?_
     refine u_st ?_
     refine lg_nil ?_
     refine at_nil ?_
     refine h54 _ ?_; clear h54; try clear N54
     refine vc_ret ?_
     try simp only [k_rules]
     have hr : colF S l L t = stF S := by unfold colF; rw [if_pos hz1]
     have hrS : colS S l L t = [] := by unfold colS; rw [hr]; rw [if_pos (by exact hz1)]
     have hrD : colD S l L t = [] := by unfold colD; rw [hr]; rw [if_pos (by exact hz1)]
     rw [hr, hrS, hrD]
     refine fin2_ ?_
     exact cl_
    exact at_end
   ·exact absurd (show (stF S).1 = 0 by have := hb53; first | exact this.1 | exact (Classical.not_not.1 this).1 | (simp at this; exact this.1)) hz1
 ·cases hg

def E_collect : Env Tryd.prog := E_leases.add 5 (Spec.pure colG) collect_meets (by kernel_rfl)
end Go.Proofs.YtcjipciiljjfhaaDoor
