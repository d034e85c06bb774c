/- Walks, printed by wip/gen/walk.py. -/
import Derived.Test.YtjdhadbnmghdgaaT20
import Derived.Test.YtjdhadbnmghdgaaV5
set_option linter.all false
set_option maxRecDepth 100000
set_option maxHeartbeats 4000000
namespace Go.Proofs.Ytjdhadbnmghdgaa
open Go Go.Vc Go.RowKit
def anyT (P : List Post) (g : Bs) (x : Int) : Bool := P.any fun p => decide (p.1 = g) && decide (x ∈ p.2)
theorem anyT_is {P : List Post} (hs : SortG P) (g : Bs) (x : Int) : anyT P g x = hasT P g x := by
  rw [Bool.eq_iff_iff, hasT_iff hs]
  unfold anyT inP
  rw [List.any_eq_true]
  constructor
  · rintro ⟨⟨a, t⟩, hp, h⟩
    simp only [Bool.and_eq_true, decide_eq_true_eq] at h
    exact ⟨t, h.1 ▸ hp, h.2⟩
  · rintro ⟨t, hp, hx⟩; exact ⟨(g, t), hp, by simp [hx]⟩
theorem anyT_snoc {P : List Post} {i : Nat} {g a : Bs} {t : List Int} {x : Int} (h : P[i]? = some (a, t)) : anyT (P.take (i + 1)) g x = (anyT (P.take i) g x || (decide (a = g) && decide (x ∈ t))) := by
  unfold anyT; rw [List.take_add_one, h, List.any_append]; simp
def allK (P : List Post) (s : Bs) (k : Nat) (x : Int) : Bool := (List.range k).all fun j => hasT P (gr s j) x
theorem allK_succ (P : List Post) (s : Bs) (k : Nat) (x : Int) : allK P s (k + 1) x = (allK P s k x && hasT P (gr s k) x) := by unfold allK; rw [List.range_succ, List.all_append]; simp
theorem cand_snoc {l : List Int} {P : List Post} {s : Bs} {k i : Nat} {x : Int} (h : l[i]? = some x) : candK (l.take (i + 1)) P s k = candK (l.take i) P s k ++ if allK P s k x = true then [x] else [] := by
  unfold candK
  rw [List.take_add_one, h, List.filter_append]
  congr 1
  show (Option.toList (some x)).filter (fun x => allK P s k x) = _
  cases hb : allK P s k x <;> simp [hb]

theorem cFor_meets : Meets Try.prog 20 (Spec.pure cForG) := by
 refine meets_fun (E_addR.at_ 75) Try.func20 rfl rfl rfl ?_
 intro args p r hg hp
 unfold cForG at hg
 split at hg
 ·rename_i xs ps u
  simp only [Option.some.injEq, Prod.mk.injEq] at hg
  obtain ⟨rfl, rfl⟩ := hg
  obtain ⟨he, he2, hv, hul⟩ := hp
  generalize dI xs = l at *
  generalize dP ps = P at *
  subst he he2
  have hlen20 := hv.tlen
  have hpl := hv.plen
  have hpm := hv.pmax
  have hT : (E_addR).X = T := rfl
  have hx0 := And.intro @rect_eP (And.intro @dI_rows (And.intro @eP_eq (And.intro @dec_t (And.intro @dec_f @Try.results20))))
  have hx := hx0
  refine ⟨by rfl, ?_⟩
  intro F W0 hnp hmk
  refine vc_seq_k fun N1 h1 => ?_
  refine u_reg ?_
  try refine lg_mk ?_
  refine u_bx ?_
  refine u_mv ?_
  refine lg_nil ?_
  refine h1 _ ?_; clear h1; try clear N1
  refine vc_seq_k fun N2 h2 => ?_
  refine u_reg ?_
  try refine lg_mk ?_
  refine u_mv ?_
  refine lg_nil ?_
  refine h2 _ ?_; clear h2; try clear N2
  refine vc_seq_k fun N3 h3 => ?_
  refine vc_seq_k fun N4 h4 => ?_
  refine u_reg ?_
  try refine lg_mk ?_
  refine u_mv ?_
  refine lg_nil ?_
  refine h4 _ ?_; clear h4; try clear N4
  refine vc_block ?_
  refine vc_loop_mk (σ := Nat) (fun s => (fun i => i ≤ l.length) s)
   (fun s => (fun i => [(1, .d (.str u)), (2, .ptr 0 0 0), (5, .sl 1 0 (candK (l.take i) P u (u.length - 2)).length), (6, .d (.int .i64 (i : Nat)))]) s)
   (fun s => (fun i => [some (.one 27 [.d (.sl (rows eI l)), .d (.sl (rows eP P))]), some (.vec 3 1 (rows eI (candK (l.take i) P u (u.length - 2))))]) s) (fun s => (fun i => l.length - i) s) hnp 0 ?_ [some 0, none] ?_ ?_
  ·dsimp only
   omega
  ·dsimp only
   refine ⟨by rfl, ?_, ?_⟩
   ·refine fin_ ?_
    exact cl_
   ·refine fin_ ?_
    exact cl_
  ·rintro i hinv N5 h5
   dsimp only at hinv ⊢
   have i1 := hinv
   refine vc_seq_k fun N6 h6 => ?_
   refine vc_seq_k fun N7 h7 => ?_
   refine u_reg ?_
   try refine lg_mk ?_
   refine u_mv ?_
   refine u_pt ?_
   refine u_ld ?_
   refine u_ln ?_
   refine u_bn ?_
   refine lg_nil ?_
   refine h7 _ ?_; clear h7; try clear N7
   refine u_cond (fun hb8 => ?_) (fun hb8 => ?_)
   ·obtain ⟨x, hxe⟩ := getE (l := l) (i := i) (by omega)
    have hsn := cand_snoc (P := P) (s := u) (k := u.length - 2) hxe
    have hcl := candK_len (l.take i) P u (u.length - 2)
    rw [List.length_take] at hcl
    refine vc_skip ?_
    try simp only [k_rules]
    refine h6 _ ?_; clear h6; try clear N6
    refine vc_seq_k fun N9 h9 => ?_
    refine vc_block ?_
    refine vc_seq_k fun N10 h10 => ?_
    refine u_reg ?_
    try refine lg_mk ?_
    refine u_mv ?_
    refine lg_nil ?_
    refine h10 _ ?_; clear h10; try clear N10
    refine vc_seq_k fun N11 h11 => ?_
    refine vc_seq_k fun N12 h12 => ?_
    refine u_reg ?_
    try refine lg_mk ?_
    refine u_mv ?_
    refine lg_nil ?_
    refine h12 _ ?_; clear h12; try clear N12
    refine vc_block ?_
    refine vc_loop_mk (σ := Nat) (fun s => (fun k => k ≤ u.length - 2) s)
     (fun s => (fun k => [(1, .d (.str u)), (2, .ptr 0 0 0), (5, .sl 1 0 (candK (l.take i) P u (u.length - 2)).length), (6, .d (.int .i64 (i : Nat))), (7, .d (.bool (allK P u k x))), (8, .d (.int .i64 (k : Nat)))]) s)
     (fun s => (fun k => [some (.one 27 [.d (.sl (rows eI l)), .d (.sl (rows eP P))]), some (.vec 3 1 (rows eI (candK (l.take i) P u (u.length - 2))))]) s) (fun s => (fun k => u.length - k) s) hnp 0 ?_ [some 0, some 1] ?_ ?_
    ·dsimp only
     omega
    ·dsimp only
     refine ⟨by rfl, ?_, ?_⟩
     ·refine fin_ ?_
      exact cl_
     ·refine fin_ ?_
      exact cl_
    ·rintro k hinv N13 h13
     dsimp only at hinv ⊢
     have k1 := hinv
     refine vc_seq_k fun N14 h14 => ?_
     refine vc_seq_k fun N15 h15 => ?_
     refine u_reg ?_
     try refine lg_mk ?_
     refine u_mv ?_
     refine u_bn ?_
     refine u_mv ?_
     refine u_ln ?_
     refine u_bn ?_
     refine lg_nil ?_
     refine h15 _ ?_; clear h15; try clear N15
     refine u_cond (fun hb16 => ?_) (fun hb16 => ?_)
     ·have hk3 : k + 3 ≤ u.length := by have := hb16; omega
      have hgr : List.take (((k : Int) + 3).toNat - k) (u.drop k) = gr u k := by unfold gr; congr 1; omega
      refine vc_skip ?_
      try simp only [k_rules]
      refine h14 _ ?_; clear h14; try clear N14
      refine vc_seq_k fun N17 h17 => ?_
      refine vc_block ?_
      refine vc_seq_k fun N18 h18 => ?_
      refine u_reg ?_
      try refine lg_mk ?_
      refine u_mv ?_
      refine lg_nil ?_
      refine h18 _ ?_; clear h18; try clear N18
      refine vc_seq_k fun N19 h19 => ?_
      refine vc_seq_k fun N20 h20 => ?_
      refine u_reg ?_
      try refine lg_mk ?_
      refine u_mv ?_
      refine lg_nil ?_
      refine h20 _ ?_; clear h20; try clear N20
      refine vc_block ?_
      refine vc_loop_mk (σ := Nat) (fun s => (fun j => j ≤ P.length) s)
       (fun s => (fun j => [(1, .d (.str u)), (2, .ptr 0 0 0), (5, .sl 1 0 (candK (l.take i) P u (u.length - 2)).length), (6, .d (.int .i64 (i : Nat))), (7, .d (.bool (allK P u k x))), (8, .d (.int .i64 (k : Nat))), (9, .d (.bool (anyT (P.take j) (gr u k) x))), (10, .d (.int .i64 (j : Nat)))]) s)
       (fun s => (fun j => [some (.one 27 [.d (.sl (rows eI l)), .d (.sl (rows eP P))]), some (.vec 3 1 (rows eI (candK (l.take i) P u (u.length - 2))))]) s) (fun s => (fun j => P.length - j) s) hnp 0 ?_ [some 0, some 1] ?_ ?_
      ·dsimp only
       omega
      ·dsimp only
       refine ⟨by rfl, ?_, ?_⟩
       ·refine fin_ ?_
        exact cl_
       ·refine fin_ ?_
        exact cl_
      ·rintro j hinv N21 h21
       dsimp only at hinv ⊢
       have j1 := hinv
       refine vc_seq_k fun N22 h22 => ?_
       refine vc_seq_k fun N23 h23 => ?_
       refine u_reg ?_
       try refine lg_mk ?_
       refine u_mv ?_
       refine u_pt ?_
       refine u_ld ?_
       refine u_ln ?_
       refine u_bn ?_
       refine lg_nil ?_
       refine h23 _ ?_; clear h23; try clear N23
       refine u_cond (fun hb24 => ?_) (fun hb24 => ?_)
       ·obtain ⟨⟨a, t⟩, hpe⟩ := getE (l := P) (i := j) (by omega)
        have htl : t.length ≤ 20 := hpm _ (mem_at hpe)
        have hany := anyT_snoc (g := gr u k) (x := x) hpe
        refine vc_skip ?_
        try simp only [k_rules]
        refine h22 _ ?_; clear h22; try clear N22
        refine vc_seq_k fun N25 h25 => ?_
        refine vc_block ?_
        rcases (show (anyT (P.take j) (gr u k) x) = true ∨ (anyT (P.take j) (gr u k) x) = false ∧ a = gr u k ∨ (anyT (P.take j) (gr u k) x) = false ∧ ¬ a = gr u k by cases (anyT (P.take j) (gr u k) x) <;> by_cases h : a = gr u k <;> simp [h]) with hc | hc | hc
        ·have ha0 := hc
         have hdg := hgr
         have hres : anyT (P.take (j + 1)) (gr u k) x = true := by rw [hany, hc]; rfl
         simp only [ha0]
         have hx := And.intro @hxe (And.intro @hpe (And.intro @hgr (And.intro @ha0 (And.intro @hdg (And.intro @eI.eq_1 hx0)))))
         refine u_reg ?_
         try refine lg_mk ?_
         refine u_mv ?_
         refine u_mv ?_
         refine g_pt ?_
         refine g_ld ?_
         refine g_mv ?_
         refine g_pt ?_
         refine g_pt ?_
         refine g_ld ?_
         refine g_mv ?_
         refine g_mv ?_
         refine g_mv ?_
         refine g_bn ?_
         refine g_sl ?_
         refine g_bn ?_
         refine g_mv ?_
         refine g_pt ?_
         refine g_ld ?_
         refine g_mv ?_
         refine g_pt ?_
         refine g_pt ?_
         refine g_ld ?_
         refine g_pt ?_
         refine g_ld ?_
         refine g_mv ?_
         refine g_pt ?_
         refine g_ld ?_
         have hc := call_rule (E := (E_addR.at_ 75)) (f := 22) (sp := Spec.pure hasG) rfl
         have hs := @hasG.eq_1
         refine g_cp ?_
         refine g_pk ?_
         refine u_pk ?_
         refine u_mv ?_
         refine lg_nil ?_
         have hx := hx0
         refine h25 _ ?_; clear h25; try clear N25
         refine u_reg ?_
         try refine lg_mk ?_
         refine u_mv ?_
         refine u_bn ?_
         refine u_mv ?_
         refine lg_nil ?_
         refine h21 _ ⟨j + 1, ?_, ?_, [some 0, some 1], ?_⟩
         ·dsimp only
          omega
         ·dsimp only
          omega
         ·dsimp only
          refine ⟨by rfl, ?_, ?_⟩
          ·refine fin_ ?_
           (repeat' apply And.intro) <;> (first | (first | rfl | trivial | (rw [hres]; done) | exact congrArg _ hres.symm | (simp [hres]; done)) | exact cl_)
          ·refine fin_ ?_
           (repeat' apply And.intro) <;> (first | (first | rfl | trivial | (rw [hres]; done) | exact congrArg _ hres.symm | (simp [hres]; done)) | exact cl_)
        ·have ha0 := hc.1
         have hdg : decide (a = gr u k) = true := decide_eq_true hc.2
         have hres : anyT (P.take (j + 1)) (gr u k) x = decide (x ∈ t) := by rw [hany, hc.1, hdg]; rfl
         simp only [ha0]
         have hx := And.intro @hxe (And.intro @hpe (And.intro @hgr (And.intro @ha0 (And.intro @hdg (And.intro @eI.eq_1 hx0)))))
         refine u_reg ?_
         try refine lg_mk ?_
         refine u_mv ?_
         refine u_mv ?_
         refine g_pt ?_
         refine g_ld ?_
         refine g_mv ?_
         refine g_pt ?_
         refine g_pt ?_
         refine g_ld ?_
         refine g_mv ?_
         refine g_mv ?_
         refine g_mv ?_
         refine g_bn ?_
         refine g_sl ?_
         refine g_bn ?_
         refine g_mv ?_
         refine g_pt ?_
         refine g_ld ?_
         refine g_mv ?_
         refine g_pt ?_
         refine g_pt ?_
         refine g_ld ?_
         refine g_pt ?_
         refine g_ld ?_
         refine g_mv ?_
         refine g_pt ?_
         refine g_ld ?_
         have hc := call_rule (E := (E_addR.at_ 75)) (f := 22) (sp := Spec.pure hasG) rfl
         have hs := @hasG.eq_1
         refine g_cp ?_
         refine g_pk ?_
         refine u_pk ?_
         refine u_mv ?_
         refine lg_nil ?_
         have hx := hx0
         refine h25 _ ?_; clear h25; try clear N25
         refine u_reg ?_
         try refine lg_mk ?_
         refine u_mv ?_
         refine u_bn ?_
         refine u_mv ?_
         refine lg_nil ?_
         refine h21 _ ⟨j + 1, ?_, ?_, [some 0, some 1], ?_⟩
         ·dsimp only
          omega
         ·dsimp only
          omega
         ·dsimp only
          refine ⟨by rfl, ?_, ?_⟩
          ·refine fin_ ?_
           (repeat' apply And.intro) <;> (first | (first | rfl | trivial | (rw [hres]; done) | exact congrArg _ hres.symm | (simp [hres]; done)) | exact cl_)
          ·refine fin_ ?_
           (repeat' apply And.intro) <;> (first | (first | rfl | trivial | (rw [hres]; done) | exact congrArg _ hres.symm | (simp [hres]; done)) | exact cl_)
        ·have ha0 := hc.1
         have hdg : decide (a = gr u k) = false := decide_eq_false hc.2
         have hres : anyT (P.take (j + 1)) (gr u k) x = false := by rw [hany, hc.1, hdg]; rfl
         simp only [ha0]
         have hx := And.intro @hxe (And.intro @hpe (And.intro @hgr (And.intro @ha0 (And.intro @hdg (And.intro @eI.eq_1 hx0)))))
         refine u_reg ?_
         try refine lg_mk ?_
         refine u_mv ?_
         refine u_mv ?_
         refine g_pt ?_
         refine g_ld ?_
         refine g_mv ?_
         refine g_pt ?_
         refine g_pt ?_
         refine g_ld ?_
         refine g_mv ?_
         refine g_mv ?_
         refine g_mv ?_
         refine g_bn ?_
         refine g_sl ?_
         refine g_bn ?_
         refine g_mv ?_
         refine g_pt ?_
         refine g_ld ?_
         refine g_mv ?_
         refine g_pt ?_
         refine g_pt ?_
         refine g_ld ?_
         refine g_pt ?_
         refine g_ld ?_
         refine g_mv ?_
         refine g_pt ?_
         refine g_ld ?_
         have hc := call_rule (E := (E_addR.at_ 75)) (f := 22) (sp := Spec.pure hasG) rfl
         have hs := @hasG.eq_1
         refine g_cp ?_
         refine g_pk ?_
         refine u_pk ?_
         refine u_mv ?_
         refine lg_nil ?_
         have hx := hx0
         refine h25 _ ?_; clear h25; try clear N25
         refine u_reg ?_
         try refine lg_mk ?_
         refine u_mv ?_
         refine u_bn ?_
         refine u_mv ?_
         refine lg_nil ?_
         refine h21 _ ⟨j + 1, ?_, ?_, [some 0, some 1], ?_⟩
         ·dsimp only
          omega
         ·dsimp only
          omega
         ·dsimp only
          refine ⟨by rfl, ?_, ?_⟩
          ·refine fin_ ?_
           (repeat' apply And.intro) <;> (first | (first | rfl | trivial | (rw [hres]; done) | exact congrArg _ hres.symm | (simp [hres]; done)) | exact cl_)
          ·refine fin_ ?_
           (repeat' apply And.intro) <;> (first | (first | rfl | trivial | (rw [hres]; done) | exact congrArg _ hres.symm | (simp [hres]; done)) | exact cl_)
       ·obtain rfl : j = P.length := by omega
        have hat := anyT_is hv.good.sort (gr u k) x
        have hak := allK_succ P u k x
        try simp only [List.take_length]
        refine vc_exit ?_
        simp only [k_rules, Nat.reduceEqDiff, reduceIte, eq_self]
        refine h19 _ ?_; clear h19; try clear N19
        cases hal : allK P u k x
        ·try simp only [hal]
         have hx := And.intro @hal (And.intro @hat hx0)
         refine u_reg ?_
         try refine lg_mk ?_
         refine u_mv ?_
         refine u_mv ?_
         refine g_mv ?_
         refine u_pk ?_
         refine u_mv ?_
         refine lg_nil ?_
         have hx := hx0
         refine h17 _ ?_; clear h17; try clear N17
         refine u_reg ?_
         try refine lg_mk ?_
         refine u_mv ?_
         refine u_bn ?_
         refine u_mv ?_
         refine lg_nil ?_
         refine h13 _ ⟨k + 1, ?_, ?_, [some 0, some 1], ?_⟩
         ·dsimp only
          omega
         ·dsimp only
          omega
         ·dsimp only
          refine ⟨by rfl, ?_, ?_⟩
          ·refine fin_ ?_
           (repeat' apply And.intro) <;> (first | (first | rfl | trivial | (rw [hak, hal]; simp; done) | (rw [hak, hal]; done) | (simp [hak, hal, hat]; done) | (trace_state; fail)) | exact cl_)
          ·refine fin_ ?_
           (repeat' apply And.intro) <;> (first | (first | rfl | trivial | (rw [hak, hal]; simp; done) | (rw [hak, hal]; done) | (simp [hak, hal, hat]; done) | (trace_state; fail)) | exact cl_)
        ·try simp only [hal]
         have hx := And.intro @hal (And.intro @hat hx0)
         refine u_reg ?_
         try refine lg_mk ?_
         refine u_mv ?_
         refine u_mv ?_
         refine g_mv ?_
         refine u_pk ?_
         refine u_mv ?_
         refine lg_nil ?_
         have hx := hx0
         refine h17 _ ?_; clear h17; try clear N17
         refine u_reg ?_
         try refine lg_mk ?_
         refine u_mv ?_
         refine u_bn ?_
         refine u_mv ?_
         refine lg_nil ?_
         refine h13 _ ⟨k + 1, ?_, ?_, [some 0, some 1], ?_⟩
         ·dsimp only
          omega
         ·dsimp only
          omega
         ·dsimp only
          refine ⟨by rfl, ?_, ?_⟩
          ·refine fin_ ?_
           (repeat' apply And.intro) <;> (first | (first | rfl | trivial | (rw [hak, hal]; simp; done) | (rw [hak, hal]; done) | (simp [hak, hal, hat]; done) | (trace_state; fail)) | exact cl_)
          ·refine fin_ ?_
           (repeat' apply And.intro) <;> (first | (first | rfl | trivial | (rw [hak, hal]; simp; done) | (rw [hak, hal]; done) | (simp [hak, hal, hat]; done) | (trace_state; fail)) | exact cl_)
     ·obtain rfl : k = u.length - 2 := by omega
      refine vc_exit ?_
      simp only [k_rules, Nat.reduceEqDiff, reduceIte, eq_self]
      refine h11 _ ?_; clear h11; try clear N11
      refine vc_seq_k fun N26 h26 => ?_
      refine u_reg ?_
      try refine lg_mk ?_
      refine u_mv ?_
      refine lg_nil ?_
      refine h26 _ ?_; clear h26; try clear N26
      refine u_cond (fun hb27 => ?_) (fun hb27 => ?_)
      ·have hx := And.intro @hxe (And.intro @eI.eq_1 hx0)
       refine u_reg ?_
       try refine lg_mk ?_
       refine u_mv ?_
       refine u_pt ?_
       refine u_ld ?_
       refine u_mv ?_
       refine u_pt ?_
       refine u_ld ?_
       refine u_bs ?_
       refine u_ap ?_
       refine u_mv ?_
       refine lg_nil ?_
       have hx := hx0
       refine h9 _ ?_; clear h9; try clear N9
       refine u_reg ?_
       try refine lg_mk ?_
       refine u_mv ?_
       refine u_bn ?_
       refine u_mv ?_
       refine lg_nil ?_
       have hb : allK P u (u.length - 2) x = true := hb27
       rw [hb, if_pos rfl] at hsn
       refine h5 _ ⟨i + 1, ?_, ?_, [some 0, some 3], ?_⟩
       ·dsimp only
        omega
       ·dsimp only
        omega
       ·dsimp only
        refine ⟨by rfl, ?_, ?_⟩
        ·refine fin_ ?_
         (repeat' apply And.intro) <;> (first | (first | rfl | trivial | (rw [hsn]; simp [rows, eI]; done) | (rw [hsn]; simp; done)) | exact cl_)
        ·refine fin_ ?_
         (repeat' apply And.intro) <;> (first | (first | rfl | trivial | (rw [hsn]; simp [rows, eI]; done) | (rw [hsn]; simp; done)) | exact cl_)
      ·refine vc_skip ?_
       try simp only [k_rules]
       refine h9 _ ?_; clear h9; try clear N9
       refine u_reg ?_
       try refine lg_mk ?_
       refine u_mv ?_
       refine u_bn ?_
       refine u_mv ?_
       refine lg_nil ?_
       have hb : allK P u (u.length - 2) x = false := hb27
       rw [hb, if_neg (by simp), List.append_nil] at hsn
       refine h5 _ ⟨i + 1, ?_, ?_, [some 0, some 1], ?_⟩
       ·dsimp only
        omega
       ·dsimp only
        omega
       ·dsimp only
        refine ⟨by rfl, ?_, ?_⟩
        ·refine fin_ ?_
         (repeat' apply And.intro) <;> (first | (first | rfl | trivial | (rw [hsn]; done)) | exact cl_)
        ·refine fin_ ?_
         (repeat' apply And.intro) <;> (first | (first | rfl | trivial | (rw [hsn]; done)) | exact cl_)
   ·refine vc_exit ?_
    simp only [k_rules, Nat.reduceEqDiff, reduceIte, eq_self]
    refine h3 _ ?_; clear h3; try clear N3
    refine vc_seq_k fun N28 h28 => ?_
    refine u_reg ?_
    try refine lg_mk ?_
    refine u_mv ?_
    refine u_mv ?_
    refine lg_nil ?_
    refine h28 _ ?_; clear h28; try clear N28
    refine vc_ret ?_
    try simp only [k_rules]
    obtain rfl : i = l.length := by omega
    refine fin2_ ?_
    (repeat' apply And.intro) <;> (first | (first | rfl | exact Or.inl rfl | trivial | (rw [List.take_length]; done) | (simp [List.take_length]; done)) | exact cl_)
 ·cases hg

def E_cFor : Env Try.prog := E_addR.add 20 (Spec.pure cForG) cFor_meets (by kernel_rfl)
end Go.Proofs.Ytjdhadbnmghdgaa
