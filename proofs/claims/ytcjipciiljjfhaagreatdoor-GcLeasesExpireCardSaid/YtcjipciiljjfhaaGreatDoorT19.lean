/- Walks, printed by wip/gen/walk.py. -/
import Derived.Test.YtcjipciiljjfhaaGreatDoorT18
import Derived.Test.YtcjipciiljjfhaaGreatDoorV5
set_option linter.all false
set_option maxRecDepth 100000
set_option maxHeartbeats 4000000
namespace Go.Proofs.YtcjipciiljjfhaaGreatDoor
open Go Go.Vc Go.RowKit
theorem mkV_len (S : List SO) (R : List Int) : (mkV S R).length = S.length := List.length_map ..
def cntF (b : List Bool) : Nat := (b.filter fun x => !x).length
theorem cntF_set {b : List Bool} {i : Nat} (h : b[i]? = some false) : cntF (b.set i true) + 1 = cntF b := by
  have hl := (List.getElem?_eq_some_iff.1 h).1
  have hd := List.take_append_drop i b
  rw [List.drop_eq_getElem_cons hl, (List.getElem?_eq_some_iff.1 h).2] at hd
  rw [List.set_eq_take_append_cons_drop, if_pos hl]
  unfold cntF
  conv => rhs; rw [← hd]
  rw [List.filter_append, List.filter_append, List.filter_cons_of_neg (by simp), List.filter_cons_of_pos (by simp)]
  simp only [List.length_append, List.length_cons]; omega
/-- What a pass finds at a place. -/
def lnk (S : List SO) (b : List Bool) (d : Int) (k : Nat) : Bool := (List.range k).any fun j => b.getD j false && decide (d ∈ (S.getD j default).ob.ln)
theorem lnk_succ (S : List SO) (b : List Bool) (d : Int) (k : Nat) : lnk S b d (k + 1) = (lnk S b d k || (b.getD k false && decide (d ∈ (S.getD k default).ob.ln))) := by
  unfold lnk; rw [List.range_succ, List.any_append]; simp
theorem lnk_iff {S : List SO} {b : List Bool} {d : Int} {k : Nat} : lnk S b d k = true ↔ ∃ j, j < k ∧ b.getD j false = true ∧ d ∈ (S.getD j default).ob.ln := by
  unfold lnk; rw [List.any_eq_true]
  constructor
  · rintro ⟨j, hj, h⟩
    rw [Bool.and_eq_true, decide_eq_true_eq] at h
    exact ⟨j, List.mem_range.1 hj, h⟩
  · rintro ⟨j, hj, h⟩; exact ⟨j, List.mem_range.2 hj, by rw [Bool.and_eq_true, decide_eq_true_eq]; exact h⟩
def hit (S : List SO) (R : List Int) (b : List Bool) (d : Int) : Bool := decide (d ∈ R) || lnk S b d S.length
structure SndM (S : List SO) (R : List Int) (b : List Bool) : Prop where
  len : b.length = S.length
  ok : ∀ (i : Nat) (x : SO), S[i]? = some x → b.getD i false = true → Rch S R x.dg
theorem SndM.zero (S : List SO) (R : List Int) : SndM S R (List.replicate S.length false) := ⟨by simp, fun i x _ h => by
  rw [List.getD_eq_getElem?_getD, List.getElem?_replicate] at h
  split at h <;> cases h⟩
theorem SndM.set {S : List SO} {R : List Int} {b : List Bool} {i : Nat} {x : SO} (h : SndM S R b) (hx : S[i]? = some x) (hh : hit S R b x.dg = true) : SndM S R (b.set i true) := by
  have hds : x.dg ∈ dgs S := List.mem_map.2 ⟨x, mem_at hx, rfl⟩
  refine ⟨by rw [List.length_set]; exact h.len, fun j y hy hb => ?_⟩
  rw [List.getD_eq_getElem?_getD, List.getElem?_set] at hb
  split at hb
  · rename_i hij; subst hij
    rw [hx] at hy; cases hy
    unfold hit at hh
    rw [Bool.or_eq_true, decide_eq_true_eq] at hh
    rcases hh with h1 | h1
    · exact .root h1 hds
    · obtain ⟨k, hk, h2, h3⟩ := lnk_iff.1 h1
      obtain ⟨z, hz⟩ : ∃ z, S[k]? = some z := ⟨_, List.getElem?_eq_getElem hk⟩
      rw [getD_at hz] at h3
      exact .step (mem_at hz) (h.ok k z hz h2) h3 hds
  · exact h.ok j y hy (by rw [List.getD_eq_getElem?_getD]; exact hb)
/-- A pass that changes nothing. -/
theorem mark_fin {S : List SO} {R : List Int} {b : List Bool} (hv : ValS S) (h : SndM S R b) (hc : ∀ (i : Nat) (x : SO), S[i]? = some x → hit S R b x.dg = true → b.getD i false = true) : b = mkV S R := by
  have hr : ∀ d, Rch S R d → ∀ (i : Nat) (x : SO), S[i]? = some x → x.dg = d → b.getD i false = true := fun d hd => by
    induction hd with
    | root h1 h2 => intro i x hx he; exact hc i x hx (by unfold hit; rw [he, decide_eq_true h1]; rfl)
    | step h1 _ h3 h4 ih =>
      intro i x hx he
      obtain ⟨k, hk⟩ := List.getElem?_of_mem h1
      have := ih k _ hk rfl
      refine hc i x hx ?_
      unfold hit
      rw [Bool.or_eq_true]; right
      exact lnk_iff.2 ⟨k, (List.getElem?_eq_some_iff.1 hk).1, this, by rw [getD_at hk, he]; exact h3⟩
  apply List.ext_getElem?
  intro i
  by_cases hi : i < S.length
  · obtain ⟨x, hx⟩ : ∃ x, S[i]? = some x := ⟨_, List.getElem?_eq_getElem hi⟩
    obtain ⟨c, hcc⟩ : ∃ c, b[i]? = some c := ⟨_, List.getElem?_eq_getElem (by rw [h.len]; exact hi)⟩
    unfold mkV
    rw [List.getElem?_map, hx, hcc]
    simp only [Option.map_some, Option.some.injEq]
    cases c with
    | true => exact (decide_eq_true (((reach_set R hv).2 _).2 (h.ok i x hx (getD_at hcc)))).symm
    | false =>
      refine (decide_eq_false fun hm => ?_).symm
      have := hr _ (((reach_set R hv).2 _).1 hm) i x hx rfl
      rw [getD_at hcc] at this; cases this
  · rw [List.getElem?_eq_none (by rw [h.len]; omega), List.getElem?_eq_none (by rw [mkV_len]; omega)]
/-- Within a pass that began with b0. -/
structure PasM (S : List SO) (R : List Int) (b0 b : List Bool) (c : Bool) (i : Nat) : Prop where
  snd : SndM S R b
  cnt : cntF b + (if c = true then 1 else 0) ≤ cntF b0
  eq : c = false → b = b0
  cl : c = false → ∀ (j : Nat) (x : SO), j < i → S[j]? = some x → hit S R b x.dg = true → b.getD j false = true
theorem PasM.stay {S : List SO} {R : List Int} {b0 b : List Bool} {c : Bool} {i : Nat} {x : SO} (h : PasM S R b0 b c i) (hx : S[i]? = some x) (hn : hit S R b x.dg = false ∨ b.getD i false = true) : PasM S R b0 b c (i + 1) :=
  ⟨h.snd, h.cnt, h.eq, fun hc j y hj hy hh => by
    rcases Nat.lt_or_ge j i with h1 | h1
    · exact h.cl hc j y h1 hy hh
    · obtain rfl : j = i := by omega
      rw [hx] at hy; cases hy
      rcases hn with h2 | h2
      · rw [h2] at hh; cases hh
      · exact h2⟩
theorem PasM.turn {S : List SO} {R : List Int} {b0 b : List Bool} {c : Bool} {i : Nat} {x : SO} (h : PasM S R b0 b c i) (hx : S[i]? = some x) (hh : hit S R b x.dg = true) (hb : b[i]? = some false) : PasM S R b0 (b.set i true) true (i + 1) :=
  ⟨h.snd.set hx hh, by have h1 := cntF_set hb; have h2 := h.cnt; rw [if_pos rfl]; split at h2 <;> omega, fun h => (by cases h), fun h => (by cases h)⟩

theorem markR_meets : Meets Tryz.prog 10 (Spec.pure markedG) := by
 refine meets_fun (E_chsR.at_ 69) Tryz.func10 rfl rfl rfl ?_
 intro args p r hg hp
 unfold markedG at hg
 split at hg
 ·rename_i xs rs
  simp only [Option.some.injEq, Prod.mk.injEq] at hg
  obtain ⟨rfl, rfl⟩ := hg
  obtain ⟨he, hv, he2, hrl⟩ := hp
  generalize dO xs = S at *
  generalize dI rs = R at *
  subst he he2
  have hlen := hv.len
  have hT : (E_chsR).X = T := rfl
  have hx0 := And.intro @rect_eO (And.intro @dI_rows (And.intro @dU_rows (And.intro @dB_rows (And.intro @takeS_len (And.intro @dec_t (And.intro @dec_f @Tryz.results10))))))
  have hx := hx0
  refine ⟨by rfl, ?_⟩
  intro F W0 hnp hmk
  refine vc_seq_k fun N1 h1 => ?_
  refine u_reg ?_
  try refine lg_mk ?_
  refine u_bx ?_
  refine u_mv ?_
  refine lg_nil ?_
  refine h1 _ ?_; clear h1; try clear N1
  refine vc_seq_k fun N2 h2 => ?_
  refine u_reg ?_
  try refine lg_mk ?_
  refine u_pt ?_
  refine u_ld ?_
  refine u_ln ?_
  refine u_ms ?_
  refine u_mv ?_
  refine lg_nil ?_
  refine h2 _ ?_; clear h2; try clear N2
  refine vc_seq_k fun N3 h3 => ?_
  refine vc_seq_k fun N4 h4 => ?_
  refine u_reg ?_
  try refine lg_mk ?_
  refine u_mv ?_
  refine lg_nil ?_
  refine h4 _ ?_; clear h4; try clear N4
  refine vc_block ?_
  refine vc_loop_mk (σ := List Bool × Bool) (fun s => (fun b c => SndM S R b ∧ (c = false → ∀ (i : Nat) (x : SO), S[i]? = some x → hit S R b x.dg = true → b.getD i false = true)) (s.1) (s.2))
   (fun s => (fun b c => [(1, .d (.sl (rows eI R))), (2, .ptr 0 0 0), (5, .sl 1 0 S.length), (6, .d (.bool c))]) (s.1) (s.2))
   (fun s => (fun b c => [some (.one 24 [.d (.sl (rows eO S))]), some (.vec 4 1 (rows eB b))]) (s.1) (s.2)) (fun s => (fun b c => 2 * cntF b + (if c = true then 1 else 0)) (s.1) (s.2)) hnp (List.replicate S.length false, true) ?_ [some 0, some 1] ?_ ?_
  ·dsimp only
   exact ⟨SndM.zero S R, fun h => by cases h⟩
  ·dsimp only
   refine ⟨by rfl, ?_, ?_⟩
   ·refine fin_ ?_
    (repeat' apply And.intro) <;> (first | (first | rfl | trivial | omega | (simp [rows, eB]; done)) | exact cl_)
   ·refine fin_ ?_
    (repeat' apply And.intro) <;> (first | (first | rfl | trivial | omega | (simp [rows, eB]; done)) | exact cl_)
  ·rintro ⟨b, c⟩ hinv N5 h5
   dsimp only at hinv ⊢
   obtain ⟨hsn, hcl⟩ := hinv
   refine vc_seq_k fun N6 h6 => ?_
   refine vc_seq_k fun N7 h7 => ?_
   refine u_reg ?_
   try refine lg_mk ?_
   refine u_mv ?_
   refine lg_nil ?_
   refine h7 _ ?_; clear h7; try clear N7
   refine u_cond (fun hb8 => ?_) (fun hb8 => ?_)
   ·obtain rfl : c = true := by have := hb8; simpa using this
    refine vc_skip ?_
    try simp only [k_rules]
    refine h6 _ ?_; clear h6; try clear N6
    refine vc_block ?_
    refine vc_seq_k fun N9 h9 => ?_
    refine u_reg ?_
    try refine lg_mk ?_
    refine u_mv ?_
    refine lg_nil ?_
    refine h9 _ ?_; clear h9; try clear N9
    refine vc_seq_k fun N10 h10 => ?_
    refine u_reg ?_
    try refine lg_mk ?_
    refine u_mv ?_
    refine lg_nil ?_
    refine h10 _ ?_; clear h10; try clear N10
    refine vc_block ?_
    refine vc_loop_mk (σ := Nat × List Bool × Bool) (fun s => (fun i b' c' => i ≤ S.length ∧ PasM S R b b' c' i) (s.1) (s.2.1) (s.2.2))
     (fun s => (fun i b' c' => [(1, .d (.sl (rows eI R))), (2, .ptr 0 0 0), (5, .sl 1 0 S.length), (6, .d (.bool c')), (7, .d (.int .i64 (i : Nat)))]) (s.1) (s.2.1) (s.2.2))
     (fun s => (fun i b' c' => [some (.one 24 [.d (.sl (rows eO S))]), some (.vec 4 1 (rows eB b'))]) (s.1) (s.2.1) (s.2.2)) (fun s => (fun i b' c' => S.length - i) (s.1) (s.2.1) (s.2.2)) hnp (0, b, false) ?_ [some 0, some 1] ?_ ?_
    ·dsimp only
     exact ⟨by omega, ⟨hsn, by rw [if_neg (by simp)]; exact Nat.le_refl _, fun _ => rfl, fun _ j x hj => by omega⟩⟩
    ·dsimp only
     refine ⟨by rfl, ?_, ?_⟩
     ·refine fin_ ?_
      exact cl_
     ·refine fin_ ?_
      exact cl_
    ·rintro ⟨i, b', c'⟩ hinv N11 h11
     dsimp only at hinv ⊢
     obtain ⟨i1, hps⟩ := hinv
     have hbl := hps.snd.len
     refine vc_seq_k fun N12 h12 => ?_
     refine vc_seq_k fun N13 h13 => ?_
     refine u_reg ?_
     try refine lg_mk ?_
     refine u_mv ?_
     refine u_pt ?_
     refine u_ld ?_
     refine u_ln ?_
     refine u_bn ?_
     refine lg_nil ?_
     refine h13 _ ?_; clear h13; try clear N13
     refine u_cond (fun hb14 => ?_) (fun hb14 => ?_)
     ·obtain ⟨x, hxe⟩ := getE (l := S) (i := i) (by omega)
      obtain ⟨c0, hce⟩ := getE (l := b') (i := i) (by have := hps.snd.len; omega)
      refine vc_skip ?_
      try simp only [k_rules]
      refine h12 _ ?_; clear h12; try clear N12
      refine vc_seq_k fun N15 h15 => ?_
      refine vc_block ?_
      refine vc_seq_k fun N16 h16 => ?_
      have hx := And.intro @hxe (And.intro @eO.eq_1 hx0)
      refine u_reg ?_
      try refine lg_mk ?_
      refine u_pt ?_
      refine u_ld ?_
      refine u_mv ?_
      refine u_pt ?_
      refine u_pt ?_
      refine u_ld ?_
      refine u_mv ?_
      refine lg_nil ?_
      have hx := hx0
      refine h16 _ ?_; clear h16; try clear N16
      refine vc_seq_k fun N17 h17 => ?_
      have hx := And.intro @hxe (And.intro @eO.eq_1 hx0)
      refine u_reg ?_
      try refine lg_mk ?_
      refine u_mv ?_
      refine u_mv ?_
      have hc := call_rule (E := (E_chsR.at_ 69)) (f := 16) (sp := Spec.pure hasG) rfl
      have hs := @hasG.eq_1
      refine u_cp ?_
      refine u_mv ?_
      refine lg_nil ?_
      have hx := hx0
      refine h17 _ ?_; clear h17; try clear N17
      refine vc_seq_k fun N18 h18 => ?_
      refine vc_seq_k fun N19 h19 => ?_
      refine u_reg ?_
      try refine lg_mk ?_
      refine u_mv ?_
      refine lg_nil ?_
      refine h19 _ ?_; clear h19; try clear N19
      refine vc_block ?_
      refine vc_loop_mk (σ := Nat × Bool) (fun s => (fun k e => k ≤ S.length ∧ e = (decide (x.dg ∈ R) || lnk S b' x.dg k)) (s.1) (s.2))
       (fun s => (fun k e => [(1, .d (.sl (rows eI R))), (2, .ptr 0 0 0), (5, .sl 1 0 S.length), (6, .d (.bool c')), (7, .d (.int .i64 (i : Nat))), (8, .d (.int .i64 x.dg)), (9, .d (.bool e)), (10, .d (.int .i64 (k : Nat)))]) (s.1) (s.2))
       (fun s => (fun k e => [some (.one 24 [.d (.sl (rows eO S))]), some (.vec 4 1 (rows eB b'))]) (s.1) (s.2)) (fun s => (fun k e => S.length - k) (s.1) (s.2)) hnp (0, decide (x.dg ∈ R)) ?_ [some 0, some 1] ?_ ?_
      ·dsimp only
       exact ⟨by omega, by simp [lnk]⟩
      ·dsimp only
       refine ⟨by rfl, ?_, ?_⟩
       ·refine fin_ ?_
        exact cl_
       ·refine fin_ ?_
        exact cl_
      ·rintro ⟨k, e⟩ hinv N20 h20
       dsimp only at hinv ⊢
       obtain ⟨k1, hk2⟩ := hinv
       refine vc_seq_k fun N21 h21 => ?_
       refine vc_seq_k fun N22 h22 => ?_
       refine u_reg ?_
       try refine lg_mk ?_
       refine u_mv ?_
       refine u_pt ?_
       refine u_ld ?_
       refine u_ln ?_
       refine u_bn ?_
       refine lg_nil ?_
       refine h22 _ ?_; clear h22; try clear N22
       refine u_cond (fun hb23 => ?_) (fun hb23 => ?_)
       ·obtain ⟨y, hye⟩ := getE (l := S) (i := k) (by omega)
        obtain ⟨c1, hke⟩ := getE (l := b') (i := k) (by have := hps.snd.len; omega)
        have hls := lnk_succ S b' x.dg k
        rw [getD_at hye, getD_at hke] at hls
        have hyl := (hv.ok y (mem_at hye)).ln
        refine vc_skip ?_
        try simp only [k_rules]
        refine h21 _ ?_; clear h21; try clear N21
        refine vc_seq_k fun N24 h24 => ?_
        refine vc_block ?_
        rcases (show e = true ∨ (e = false ∧ c1 = true) ∨ (e = false ∧ c1 = false) by cases e <;> cases c1 <;> simp) with rfl | ⟨rfl, rfl⟩ | ⟨rfl, rfl⟩
        ·have hx := And.intro @hye (And.intro @hke (And.intro @eO.eq_1 (And.intro @eB.eq_1 hx0)))
         refine u_reg ?_
         try refine lg_mk ?_
         refine u_mv ?_
         refine u_mv ?_
         refine g_mv ?_
         refine g_mv ?_
         refine g_pt ?_
         refine g_ld ?_
         refine g_mv ?_
         refine g_pt ?_
         refine g_ld ?_
         refine g_mv ?_
         refine g_pt ?_
         refine g_pt ?_
         refine g_pt ?_
         refine g_ld ?_
         refine g_mv ?_
         have hc := call_rule (E := (E_chsR.at_ 69)) (f := 16) (sp := Spec.pure hasG) rfl
         have hs := @hasG.eq_1
         refine g_cp ?_
         refine g_pk ?_
         refine u_pk ?_
         refine u_mv ?_
         refine lg_nil ?_
         have hx := hx0
         refine h24 _ ?_; clear h24; try clear N24
         refine u_reg ?_
         try refine lg_mk ?_
         refine u_mv ?_
         refine u_bn ?_
         refine u_mv ?_
         refine lg_nil ?_
         refine h20 _ ⟨(k + 1, true), ?_, ?_, [some 0, some 1], ?_⟩
         ·dsimp only
          exact ⟨by omega, by rw [hls, ← Bool.or_assoc, ← hk2]; rfl⟩
         ·dsimp only
          omega
         ·dsimp only
          refine ⟨by rfl, ?_, ?_⟩
          ·refine fin_ ?_
           exact cl_
          ·refine fin_ ?_
           exact cl_
        ·have hx := And.intro @hye (And.intro @hke (And.intro @eO.eq_1 (And.intro @eB.eq_1 hx0)))
         refine u_reg ?_
         try refine lg_mk ?_
         refine u_mv ?_
         refine u_mv ?_
         refine g_mv ?_
         refine g_mv ?_
         refine g_pt ?_
         refine g_ld ?_
         refine g_mv ?_
         refine g_pt ?_
         refine g_ld ?_
         refine g_mv ?_
         refine g_pt ?_
         refine g_pt ?_
         refine g_pt ?_
         refine g_ld ?_
         refine g_mv ?_
         have hc := call_rule (E := (E_chsR.at_ 69)) (f := 16) (sp := Spec.pure hasG) rfl
         have hs := @hasG.eq_1
         refine g_cp ?_
         refine g_pk ?_
         refine u_pk ?_
         refine u_mv ?_
         refine lg_nil ?_
         have hx := hx0
         refine h24 _ ?_; clear h24; try clear N24
         refine u_reg ?_
         try refine lg_mk ?_
         refine u_mv ?_
         refine u_bn ?_
         refine u_mv ?_
         refine lg_nil ?_
         refine h20 _ ⟨(k + 1, decide (x.dg ∈ y.ob.ln)), ?_, ?_, [some 0, some 1], ?_⟩
         ·dsimp only
          exact ⟨by omega, by rw [hls, ← Bool.or_assoc, ← hk2]; rfl⟩
         ·dsimp only
          omega
         ·dsimp only
          refine ⟨by rfl, ?_, ?_⟩
          ·refine fin_ ?_
           exact cl_
          ·refine fin_ ?_
           exact cl_
        ·have hx := And.intro @hye (And.intro @hke (And.intro @eO.eq_1 (And.intro @eB.eq_1 hx0)))
         refine u_reg ?_
         try refine lg_mk ?_
         refine u_mv ?_
         refine u_mv ?_
         refine g_mv ?_
         refine g_mv ?_
         refine g_pt ?_
         refine g_ld ?_
         refine g_mv ?_
         refine g_pt ?_
         refine g_ld ?_
         refine g_mv ?_
         refine g_pt ?_
         refine g_pt ?_
         refine g_pt ?_
         refine g_ld ?_
         refine g_mv ?_
         have hc := call_rule (E := (E_chsR.at_ 69)) (f := 16) (sp := Spec.pure hasG) rfl
         have hs := @hasG.eq_1
         refine g_cp ?_
         refine g_pk ?_
         refine u_pk ?_
         refine u_mv ?_
         refine lg_nil ?_
         have hx := hx0
         refine h24 _ ?_; clear h24; try clear N24
         refine u_reg ?_
         try refine lg_mk ?_
         refine u_mv ?_
         refine u_bn ?_
         refine u_mv ?_
         refine lg_nil ?_
         refine h20 _ ⟨(k + 1, false), ?_, ?_, [some 0, some 1], ?_⟩
         ·dsimp only
          exact ⟨by omega, by rw [hls, ← Bool.or_assoc, ← hk2]; rfl⟩
         ·dsimp only
          omega
         ·dsimp only
          refine ⟨by rfl, ?_, ?_⟩
          ·refine fin_ ?_
           exact cl_
          ·refine fin_ ?_
           exact cl_
       ·obtain rfl : k = S.length := by omega
        have hht : e = hit S R b' x.dg := hk2
        refine vc_exit ?_
        simp only [k_rules, Nat.reduceEqDiff, reduceIte, eq_self]
        refine h18 _ ?_; clear h18; try clear N18
        refine vc_seq_k fun N25 h25 => ?_
        rcases (show e = false ∨ (e = true ∧ c0 = true) ∨ (e = true ∧ c0 = false) by cases e <;> cases c0 <;> simp) with rfl | ⟨rfl, rfl⟩ | ⟨rfl, rfl⟩
        ·have hh := hht.symm
         clear hht hk2
         have hx := And.intro @hce (And.intro @eB.eq_1 hx0)
         refine u_reg ?_
         try refine lg_mk ?_
         refine u_mv ?_
         refine u_mv ?_
         refine g_mv ?_
         refine g_mv ?_
         refine g_pt ?_
         refine g_ld ?_
         refine g_un ?_
         refine u_pk ?_
         refine lg_nil ?_
         have hx := hx0
         refine h25 _ ?_; clear h25; try clear N25
         refine u_cond (fun hb26 => ?_) (fun hb26 => ?_)
         ·cases hb26
         ·refine vc_skip ?_
          try simp only [k_rules]
          refine h15 _ ?_; clear h15; try clear N15
          refine u_reg ?_
          try refine lg_mk ?_
          refine u_mv ?_
          refine u_bn ?_
          refine u_mv ?_
          refine lg_nil ?_
          refine h11 _ ⟨(i + 1, b', c'), ?_, ?_, [some 0, some 1], ?_⟩
          ·dsimp only
           exact ⟨by omega, hps.stay hxe (.inl hh)⟩
          ·dsimp only
           omega
          ·dsimp only
           refine ⟨by rfl, ?_, ?_⟩
           ·refine fin_ ?_
            exact cl_
           ·refine fin_ ?_
            exact cl_
        ·have hh := hht.symm
         clear hht hk2
         have hx := And.intro @hce (And.intro @eB.eq_1 hx0)
         refine u_reg ?_
         try refine lg_mk ?_
         refine u_mv ?_
         refine u_mv ?_
         refine g_mv ?_
         refine g_mv ?_
         refine g_pt ?_
         refine g_ld ?_
         refine g_un ?_
         refine u_pk ?_
         refine lg_nil ?_
         have hx := hx0
         refine h25 _ ?_; clear h25; try clear N25
         refine u_cond (fun hb27 => ?_) (fun hb27 => ?_)
         ·cases hb27
         ·refine vc_skip ?_
          try simp only [k_rules]
          refine h15 _ ?_; clear h15; try clear N15
          refine u_reg ?_
          try refine lg_mk ?_
          refine u_mv ?_
          refine u_bn ?_
          refine u_mv ?_
          refine lg_nil ?_
          refine h11 _ ⟨(i + 1, b', c'), ?_, ?_, [some 0, some 1], ?_⟩
          ·dsimp only
           exact ⟨by omega, hps.stay hxe (.inr (getD_at hce))⟩
          ·dsimp only
           omega
          ·dsimp only
           refine ⟨by rfl, ?_, ?_⟩
           ·refine fin_ ?_
            exact cl_
           ·refine fin_ ?_
            exact cl_
        ·have hh := hht.symm
         clear hht hk2
         have hx := And.intro @hce (And.intro @eB.eq_1 hx0)
         refine u_reg ?_
         try refine lg_mk ?_
         refine u_mv ?_
         refine u_mv ?_
         refine g_mv ?_
         refine g_mv ?_
         refine g_pt ?_
         refine g_ld ?_
         refine g_un ?_
         refine u_pk ?_
         refine lg_nil ?_
         have hx := hx0
         refine h25 _ ?_; clear h25; try clear N25
         refine u_cond (fun hb28 => ?_) (fun hb28 => ?_)
         ·refine vc_seq_k fun N29 h29 => ?_
          have hx := And.intro @hce (And.intro @eB.eq_1 hx0)
          refine u_reg ?_
          try refine lg_mk ?_
          refine u_mv ?_
          refine u_mv ?_
          refine u_pt ?_
          refine u_st ?_
          refine lg_nil ?_
          have hx := hx0
          refine h29 _ ?_; clear h29; try clear N29
          refine u_reg ?_
          try refine lg_mk ?_
          refine u_mv ?_
          refine lg_nil ?_
          refine h15 _ ?_; clear h15; try clear N15
          refine u_reg ?_
          try refine lg_mk ?_
          refine u_mv ?_
          refine u_bn ?_
          refine u_mv ?_
          refine lg_nil ?_
          refine h11 _ ⟨(i + 1, b'.set i true, true), ?_, ?_, [some 0, some 1], ?_⟩
          ·dsimp only
           exact ⟨by omega, hps.turn hxe hh hce⟩
          ·dsimp only
           omega
          ·dsimp only
           refine ⟨by rfl, ?_, ?_⟩
           ·refine fin_ ?_
            (repeat' apply And.intro) <;> (first | (first | rfl | trivial | omega | (simp [rows, eB, List.map_set]; done)) | exact cl_)
           ·refine fin_ ?_
            (repeat' apply And.intro) <;> (first | (first | rfl | trivial | omega | (simp [rows, eB, List.map_set]; done)) | exact cl_)
         ·cases hb28
     ·refine vc_exit ?_
      simp only [k_rules, Nat.reduceEqDiff, reduceIte, eq_self]
      obtain rfl : i = S.length := by omega
      refine h5 _ ⟨(b', c'), ?_, ?_, [some 0, some 1], ?_⟩
      ·dsimp only
       exact ⟨hps.snd, fun h => fun i x hi hh => hps.cl h i x (List.getElem?_eq_some_iff.1 hi).1 hi hh⟩
      ·dsimp only
       have h9 := hps.cnt; cases c' <;> simp at h9 ⊢ <;> omega
      ·dsimp only
       refine ⟨by rfl, ?_, ?_⟩
       ·refine fin_ ?_
        exact cl_
       ·refine fin_ ?_
        exact cl_
   ·obtain rfl : c = false := by have := hb8; simpa using this
    have hfin := mark_fin hv hsn (hcl rfl)
    refine vc_exit ?_
    simp only [k_rules, Nat.reduceEqDiff, reduceIte, eq_self]
    refine h3 _ ?_; clear h3; try clear N3
    refine vc_seq_k fun N30 h30 => ?_
    refine u_reg ?_
    try refine lg_mk ?_
    refine u_mv ?_
    refine u_mv ?_
    refine lg_nil ?_
    refine h30 _ ?_; clear h30; try clear N30
    refine vc_ret ?_
    try simp only [k_rules]
    rw [← hfin]
    refine fin2_ ?_
    (repeat' apply And.intro) <;> (first | (first | rfl | trivial | omega | (rw [hsn.len]; omega) | (rw [List.take_of_length_le (Nat.le_of_eq hsn.len)]; done)) | exact cl_)
 ·cases hg

def E_markR : Env Tryz.prog := E_chsR.add 10 (Spec.pure markedG) markR_meets (by kernel_rfl)
end Go.Proofs.YtcjipciiljjfhaaGreatDoor
