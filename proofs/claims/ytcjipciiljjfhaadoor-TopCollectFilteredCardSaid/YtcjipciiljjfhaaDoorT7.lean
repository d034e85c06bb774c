/- Walks, printed by wip/gen/walk.py. -/
import Derived.Test.YtcjipciiljjfhaaDoorT6
import Derived.Test.YtcjipciiljjfhaaDoorV5
set_option linter.all false
set_option maxRecDepth 100000
set_option maxHeartbeats 4000000
namespace Go.Proofs.YtcjipciiljjfhaaDoor
open Go Go.Vc Go.RowKit
def eO (x : SO) : List D := [.int .i64 x.dg, .int .i64 x.ob.kd, .sl (rows eI x.ob.ln), .sl (rows eU x.ob.da)]
def dO1 (r : List D) : SO := match r with
  | [.int _ d, .int _ k, .sl l, .sl u] => ⟨d, ⟨k, dI l, dU u⟩⟩
  | _ => ⟨0, ⟨0, [], []⟩⟩
def dO (xs : List (List D)) : List SO := xs.map dO1
theorem dO_rows (l : List SO) : dO (rows eO l) = l := by
  simp only [dO, rows, List.map_map]
  conv => rhs; rw [← List.map_id l]
  refine List.map_congr_left fun c _ => ?_
  simp only [Function.comp, eO, dO1, dI_rows, dU_rows, id]
theorem rect_eO (l : List SO) : Rect 4 (rows eO l) = True := eq_true (rows_rect (f := eO) (fun _ => rfl) l)
def smallS (S : List SO) : Prop := ∀ x ∈ S, obOk x.ob
def valG : List AV → Option (Prop × AV)
  | [.agg [.d (.sl xs)]] => some (xs = rows eO (dO xs) ∧ (dO xs).length ≤ 9223372036854775807 ∧ smallS (dO xs), .agg [.d (.int .i64 (stF (dO xs)).1), .d (.int .i64 (stF (dO xs)).2)])
  | _ => none
def cmpO (a b : Int) : Int := if a < b then -1 else if b < a then 1 else 0
def cmpOG : List AV → Option (Prop × AV)
  | [.agg [.d (.int .i64 a), .d _, .d _, .d _], .d (.int .i64 b)] => some (True, .d (.int .i64 (cmpO a b)))
  | _ => none
def bsfG : List AV → Option (Prop × AV)
  | [.d (.sl xs), .d (.int .i64 q), .clo (.func 40) []] => some (xs = rows eO (dO xs) ∧ (dgs (dO xs)).Pairwise (· < ·) ∧ (dO xs).length ≤ 1000000000, .tup [.d (.int .i64 (lbS (dO xs) q : Nat)), .d (.bool (inS (dO xs) q))])
  | _ => none
def findG : List AV → Option (Prop × AV)
  | [.agg [.d (.sl xs)], .d (.int .i64 q)] => some (xs = rows eO (dO xs) ∧ (dgs (dO xs)).Pairwise (· < ·) ∧ (dO xs).length ≤ 1000000000, .tup [.d (.int .i64 (lbS (dO xs) q : Nat)), .d (.bool (inS (dO xs) q))])
  | _ => none
def atG : List AV → Option (Prop × AV)
  | [.agg [.d (.sl xs)], .d (.int .i64 q)] => some (xs = rows eO (dO xs) ∧ (dgs (dO xs)).Pairwise (· < ·) ∧ (dO xs).length ≤ 1000000000, .d (.int .i64 (atS (dO xs) q)))
  | _ => none
theorem cmpO_neg {a b : Int} : cmpO a b < 0 ↔ a < b := by unfold cmpO; split <;> (try split) <;> omega
theorem cmpO_zero {a b : Int} : cmpO a b = 0 ↔ a = b := by unfold cmpO; split <;> (try split) <;> omega
theorem atS_at {S : List SO} {d : Int} {k : Nat} {x : SO} (hs : (dgs S).Pairwise (· < ·)) (hx : S[k]? = some x) (hd : x.dg = d) : atS S d = (k : Int) := by
  have h1 : inS S d = true := decide_eq_true (List.mem_map.2 ⟨x, List.mem_of_getElem? hx, hd⟩)
  obtain ⟨y, hy, hyd⟩ := inS_get hs h1
  have e : y = x := dg_uni hs (List.mem_of_getElem? hy) (List.mem_of_getElem? hx) (by omega)
  subst e
  unfold atS; rw [if_pos h1]
  have gi : (dgs S)[lbS S d]? = some y.dg := by unfold dgs; rw [List.getElem?_map, hy]; rfl
  have gj : (dgs S)[k]? = some y.dg := by unfold dgs; rw [List.getElem?_map, hx]; rfl
  rcases Nat.lt_trichotomy (lbS S d) k with h | h | h
  · have := sort_at hs gi gj h; omega
  · rw [h]
  · have := sort_at hs gj gi h; omega
theorem atS_none {S : List SO} {d : Int} (h : ∀ x ∈ S, x.dg ≠ d) : atS S d = -1 := by
  unfold atS; rw [if_neg]; intro h1
  obtain ⟨p, hp, e⟩ := List.mem_map.1 (of_decide_eq_true h1)
  exact h p hp e
theorem ne_snoc {S : List SO} {k : Nat} {x : SO} {d : Int} (h : ∀ y ∈ S.take k, y.dg ≠ d) (hx : S[k]? = some x) (hd : x.dg ≠ d) : ∀ y ∈ S.take (k + 1), y.dg ≠ d := fun y hy => by
  rw [List.take_add_one, hx] at hy
  rcases List.mem_append.1 hy with hy | hy
  · exact h y hy
  · simp only [Option.toList_some, List.mem_singleton] at hy; rw [hy]; exact hd
theorem lt_succO {f : Nat → Int} {i : Nat} (h : ∀ j, j < i → f j = 0) (hi : f i = 0) : ∀ j, j < i + 1 → f j = 0 := lt_succF h hi

theorem valid_meets : Meets Tryd.prog 11 (Spec.pure valG) := by
 refine meets_fun (E_digest.at_ 59) Tryd.func11 rfl rfl rfl ?_
 intro args p r hg hp
 unfold valG at hg
 split at hg
 ·rename_i xs
  simp only [Option.some.injEq, Prod.mk.injEq] at hg
  obtain ⟨rfl, rfl⟩ := hg
  obtain ⟨he, hl, hsm⟩ := hp
  generalize dO xs = S at *
  subst he
  have hT : (E_digest).X = T := rfl
  have hx0 := And.intro @rect_eO (And.intro @dI_rows (And.intro @dU_rows (And.intro @dec_t (And.intro @dec_f @Tryd.results11))))
  have hx := hx0
  refine ⟨by rfl, ?_⟩
  intro F W0 hnp hmk
  refine vc_seq_k fun N1 h1 => ?_
  refine u_reg ?_
  try refine lg_mk ?_
  refine u_bx ?_
  refine u_al ?_
  refine lg_nil ?_
  refine h1 _ ?_; clear h1; try clear N1
  refine vc_seq_k fun N2 h2 => ?_
  refine vc_seq_k fun N3 h3 => ?_
  refine u_reg ?_
  try refine lg_mk ?_
  refine u_pt ?_
  refine u_ld ?_
  refine u_ln ?_
  refine u_bn ?_
  refine lg_nil ?_
  refine h3 _ ?_; clear h3; try clear N3
  refine u_cond (fun hb4 => ?_) (fun hb4 => ?_)
  ·refine vc_seq_k fun N5 h5 => ?_
   refine u_reg ?_
   try refine lg_mk ?_
   refine u_bd ?_
   refine u_st ?_
   refine lg_nil ?_
   refine h5 _ ?_; clear h5; try clear N5
   refine vc_ret ?_
   try simp only [k_rules]
   have hr : stF S = (2, 0) := by unfold stF; rw [if_pos (by have := hb4; omega)]
   rw [hr]
   refine fin2_ ?_
   exact cl_
  ·refine vc_skip ?_
   try simp only [k_rules]
   refine h2 _ ?_; clear h2; try clear N2
   refine vc_seq_k fun N6 h6 => ?_
   refine vc_seq_k fun N7 h7 => ?_
   refine u_reg ?_
   try refine lg_mk ?_
   refine u_pt ?_
   refine u_ld ?_
   refine u_ln ?_
   refine u_mv ?_
   refine lg_nil ?_
   refine h7 _ ?_; clear h7; try clear N7
   refine vc_block ?_
   refine vc_loop_mk (σ := Nat) (fun s => (fun i => i ≤ S.length ∧ ∀ j, j < i → soF S j = 0) s)
    (fun s => (fun i => [(1, .ptr 0 0 0), (2, .ptr 1 0 0), (13, .d (.sl (rows eO S))), (14, .d (.int .i64 (S.length : Nat))), (15, .d (.int .i64 (i : Nat)))]) s)
    (fun s => (fun i => [some (.one 24 [.d (.sl (rows eO S))]), some (.one 33 [.d (.int .i64 0), .d (.int .i64 0)])]) s) (fun s => (fun i => S.length - i) s) hnp 0 ?_ [some 0, some 1] ?_ ?_
   ·dsimp only
    exact ⟨by omega, fun j hj => by omega⟩
   ·dsimp only
    refine ⟨by rfl, ?_, ?_⟩
    ·refine fin_ ?_
     exact cl_
    ·refine fin_ ?_
     exact cl_
   ·rintro i hinv N8 h8
    dsimp only at hinv ⊢
    obtain ⟨i1, i2⟩ := hinv
    refine vc_seq_k fun N9 h9 => ?_
    refine u_reg ?_
    try refine lg_mk ?_
    refine u_bn ?_
    refine lg_nil ?_
    refine h9 _ ?_; clear h9; try clear N9
    refine vc_seq_k fun N10 h10 => ?_
    refine u_cond (fun hb11 => ?_) (fun hb11 => ?_)
    ·obtain ⟨x, hxe⟩ := getE (l := S) (i := i) (by omega)
     have hxd : S.getD i default = x := getD_at hxe
     have hxo := hsm x (mem_at hxe)
     obtain ⟨d, o⟩ := x
     obtain ⟨k, l, u⟩ := o
     refine vc_skip ?_
     try simp only [k_rules]
     refine h10 _ ?_; clear h10; try clear N10
     refine vc_seq_k fun N12 h12 => ?_
     refine vc_block ?_
     refine vc_seq_k fun N13 h13 => ?_
     have hx := And.intro @hxe (And.intro @eO.eq_1 hx0)
     refine u_reg ?_
     try refine lg_mk ?_
     refine u_mv ?_
     refine u_pt ?_
     refine u_ld ?_
     refine u_al ?_
     refine u_mv ?_
     refine u_st ?_
     refine lg_nil ?_
     have hx := hx0
     refine h13 _ ?_; clear h13; try clear N13
     refine vc_seq_k fun N14 h14 => ?_
     refine u_reg ?_
     try refine lg_mk ?_
     refine u_pt ?_
     refine u_ld ?_
     have hc := call_rule (E := (E_digest.at_ 59)) (f := 17) (sp := Spec.pure digestG) rfl
     have hs := @digestG.eq_1
     refine u_cp (hq := by (first | (exact hxo) | exact sd_)) ?_
     refine u_mv ?_
     refine u_ex ?_
     refine u_ex ?_
     refine u_al ?_
     refine u_mv ?_
     refine u_st ?_
     refine lg_nil ?_
     refine h14 _ ?_; clear h14; try clear N14
     refine vc_block ?_
     refine vc_seq_k fun N15 h15 => ?_
     rcases objF_or2 ⟨k, l, u⟩ with ⟨hvx, hov⟩ | hvx
     ·have hz1 : (objF ⟨k, l, u⟩).1 = 0 := by rw [hvx]
      have hz2 : (objF ⟨k, l, u⟩).2 = 0 := by rw [hvx]
      refine u_reg ?_
      try refine lg_mk ?_
      refine u_ld ?_
      refine u_bd ?_
      refine u_bn ?_
      refine u_mv ?_
      refine lg_nil ?_
      refine h15 _ ?_; clear h15; try clear N15
      refine u_cond (fun hb16 => ?_) (fun hb16 => ?_)
      ·exact absurd (And.intro hz1 hz2) (by have := hb16; simpa using this)
      ·have hd0 : objD0 ⟨k, l, u⟩ = objD ⟨k, l, u⟩ := by unfold objD0; rw [if_neg (by rw [hz1]; simp)]
       rw [hd0]
       refine vc_seq_k fun N17 h17 => ?_
       refine u_reg ?_
       try refine lg_mk ?_
       refine u_mv ?_
       refine u_pt ?_
       refine u_ld ?_
       refine u_bn ?_
       refine u_mv ?_
       refine lg_nil ?_
       refine h17 _ ?_; clear h17; try clear N17
       refine u_cond (fun hb18 => ?_) (fun hb18 => ?_)
       ·refine vc_seq_k fun N19 h19 => ?_
        refine u_reg ?_
        try refine lg_mk ?_
        refine u_mv ?_
        refine u_bd ?_
        refine u_st ?_
        refine lg_nil ?_
        refine h19 _ ?_; clear h19; try clear N19
        refine vc_ret ?_
        try simp only [k_rules]
        have hf : soF S i = 18 := by
         unfold soF; rw [hxd]; dsimp only
         rw [if_neg (by rw [hz1]; simp), if_pos (by simpa using hb18)]
        have hr : stF S = (18, (i : Int)) := by unfold stF; rw [if_neg (by omega), firstF_at (i := i) (by rw [hf]; first | decide | exact hz1) i2 (by omega), hf]; rfl
        rw [hr]
        refine fin2_ ?_
        exact cl_
       ·refine vc_seq_k fun N20 h20 => ?_
        rcases Nat.eq_zero_or_pos i with hi0 | hi0
        ·have hye := hxe
         have hgt : decide ((0 : Int) < (i : Int)) = false := decide_eq_false (by omega)
         have hpm := hxe
         have hx := And.intro @hxe (And.intro @hye (And.intro @hgt (And.intro @hpm (And.intro @eO.eq_1 hx0))))
         refine u_reg ?_
         try refine lg_mk ?_
         refine u_mv ?_
         refine u_bn ?_
         refine u_mv ?_
         refine g_mv ?_
         refine g_pt ?_
         refine g_ld ?_
         refine g_mv ?_
         refine g_bn ?_
         refine g_pt ?_
         refine g_pt ?_
         refine g_ld ?_
         refine g_bn ?_
         refine u_pk ?_
         refine u_mv ?_
         refine lg_nil ?_
         have hx := hx0
         refine h20 _ ?_; clear h20; try clear N20
         refine u_cond (fun hb21 => ?_) (fun hb21 => ?_)
         ·first | omega | exact absurd trivial hb21 | contradiction | (simp_all; done)
         ·refine vc_skip ?_
          try simp only [k_rules]
          refine h12 _ ?_; clear h12; try clear N12
          refine u_reg ?_
          try refine lg_mk ?_
          refine u_bn ?_
          refine u_mv ?_
          refine lg_nil ?_
          refine h8 _ ⟨i + 1, ?_, ?_, [some 0, some 1], ?_⟩
          ·dsimp only
           exact ⟨by omega, lt_succO i2 (by unfold soF; rw [hxd]; dsimp only; rw [if_neg (by rw [hz1]; simp), if_neg (by have := hb18; simpa using this)]; first | (rw [if_neg (by omega)]; done) | (rw [hyd, if_neg (by have := hb21; (try simp at this); omega)]; done))⟩
          ·dsimp only
           omega
          ·dsimp only
           refine ⟨by rfl, ?_, ?_⟩
           ·refine fin_ ?_
            exact cl_
           ·refine fin_ ?_
            exact cl_
        ·obtain ⟨y, hye⟩ := getE (l := S) (i := i - 1) (by omega)
         have hpm : ((i : Int) - 1).toNat = i - 1 := by omega
         have hgt : decide ((0 : Int) < (i : Int)) = true := decide_eq_true (by omega)
         have hyd : S.getD (i - 1) default = y := getD_at hye
         have hx := And.intro @hxe (And.intro @hye (And.intro @hgt (And.intro @hpm (And.intro @eO.eq_1 hx0))))
         refine u_reg ?_
         try refine lg_mk ?_
         refine u_mv ?_
         refine u_bn ?_
         refine u_mv ?_
         refine g_mv ?_
         refine g_pt ?_
         refine g_ld ?_
         refine g_mv ?_
         refine g_bn ?_
         refine g_pt ?_
         refine g_pt ?_
         refine g_ld ?_
         refine g_bn ?_
         refine u_pk ?_
         refine u_mv ?_
         refine lg_nil ?_
         have hx := hx0
         refine h20 _ ?_; clear h20; try clear N20
         refine u_cond (fun hb22 => ?_) (fun hb22 => ?_)
         ·refine vc_seq_k fun N23 h23 => ?_
          refine u_reg ?_
          try refine lg_mk ?_
          refine u_mv ?_
          refine u_bd ?_
          refine u_st ?_
          refine lg_nil ?_
          refine h23 _ ?_; clear h23; try clear N23
          refine vc_ret ?_
          try simp only [k_rules]
          have hf : soF S i = 5 := by
           unfold soF; rw [hxd]; dsimp only
           rw [if_neg (by rw [hz1]; simp), if_neg (by have := hb18; simpa using this), hyd, if_pos ⟨hi0, by have := hb22; (try simp at this); omega⟩]
          have hr : stF S = (5, (i : Int)) := by unfold stF; rw [if_neg (by omega), firstF_at (i := i) (by rw [hf]; first | decide | exact hz1) i2 (by omega), hf]; rfl
          rw [hr]
          refine fin2_ ?_
          exact cl_
         ·refine vc_skip ?_
          try simp only [k_rules]
          refine h12 _ ?_; clear h12; try clear N12
          refine u_reg ?_
          try refine lg_mk ?_
          refine u_bn ?_
          refine u_mv ?_
          refine lg_nil ?_
          refine h8 _ ⟨i + 1, ?_, ?_, [some 0, some 1], ?_⟩
          ·dsimp only
           exact ⟨by omega, lt_succO i2 (by unfold soF; rw [hxd]; dsimp only; rw [if_neg (by rw [hz1]; simp), if_neg (by have := hb18; simpa using this)]; first | (rw [if_neg (by omega)]; done) | (rw [hyd, if_neg (by have := hb22; (try simp at this); omega)]; done))⟩
          ·dsimp only
           omega
          ·dsimp only
           refine ⟨by rfl, ?_, ?_⟩
           ·refine fin_ ?_
            exact cl_
           ·refine fin_ ?_
            exact cl_
     ·have hz1 := hvx
      refine u_reg ?_
      try refine lg_mk ?_
      refine u_ld ?_
      refine u_bd ?_
      refine u_bn ?_
      refine u_mv ?_
      refine lg_nil ?_
      refine h15 _ ?_; clear h15; try clear N15
      refine u_cond (fun hb24 => ?_) (fun hb24 => ?_)
      ·refine vc_seq_k fun N25 h25 => ?_
       refine u_reg ?_
       try refine lg_mk ?_
       refine u_pt ?_
       refine u_ld ?_
       refine u_mv ?_
       refine u_bd ?_
       refine u_st ?_
       refine lg_nil ?_
       refine h25 _ ?_; clear h25; try clear N25
       refine vc_ret ?_
       try simp only [k_rules]
       have hf : soF S i = (objF ⟨k, l, u⟩).1 := by
        unfold soF; rw [hxd]; dsimp only
        rw [if_pos hz1]
       have hr : stF S = ((objF ⟨k, l, u⟩).1, (i : Int)) := by unfold stF; rw [if_neg (by omega), firstF_at (i := i) (by rw [hf]; first | decide | exact hz1) i2 (by omega), hf]; rfl
       rw [hr]
       refine fin2_ ?_
       exact cl_
      ·exact absurd (show (objF ⟨k, l, u⟩).1 = 0 by have := hb24; first | exact this.1 | exact (Classical.not_not.1 this).1 | (simp at this; exact this.1)) hz1
    ·refine vc_exit ?_
     simp only [k_rules, Nat.reduceEqDiff, reduceIte, eq_self]
     refine h6 _ ?_; clear h6; try clear N6
     refine vc_seq_k fun N26 h26 => ?_
     refine u_reg ?_
     try refine lg_mk ?_
     refine u_bd ?_
     refine u_st ?_
     refine lg_nil ?_
     refine h26 _ ?_; clear h26; try clear N26
     refine vc_ret ?_
     try simp only [k_rules]
     have hr : stF S = (0, 0) := by unfold stF; rw [if_neg (by omega), firstF_none (fun j hj => i2 j (by omega))]
     rw [hr]
     refine fin2_ ?_
     exact cl_
 ·cases hg

def E_valid : Env Tryd.prog := E_digest.add 11 (Spec.pure valG) valid_meets (by kernel_rfl)
end Go.Proofs.YtcjipciiljjfhaaDoor
