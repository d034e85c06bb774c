/- Walks, printed by wip/gen/walk.py. -/
import Derived.Test.YtgnahopdiljikaaT21
import Derived.Test.YtgnahopdiljikaaV5
set_option linter.all false
set_option maxRecDepth 100000
set_option maxHeartbeats 4000000
namespace Go.Proofs.Ytgnahopdiljikaa
open Go Go.Vc Go.RowKit
theorem fetF_is {S : List SO} {P : List Int} {Rm : List SO} {W : List Int} (h1 : ValP S P) (h2 : ValS Rm) (h3 : W.length ≤ 40) : fetF S P Rm W = fetW S P Rm W := by
  unfold fetF; rw [proF_of h1, stF_of h2, if_neg (by simp), if_neg (by simp), if_neg (by omega)]
theorem fL_all (P W : List Int) : fL P W W.length = P.filter fun p => !decide (p ∈ W) := by unfold fL; rw [List.take_length]
def dgsG : List AV → Option (Prop × AV)
  | [.agg [.d (.sl xs)]] => some (xs = rows eO (dO xs) ∧ (dO xs).length ≤ 1000000000, .d (.sl (rows eI (dgs (dO xs)))))
  | _ => none
def chs (S : List SO) (b : List Bool) (w : Bool) : List SO := ((S.zip b).filter fun p => decide (p.2 = w)).map (·.1)
def chsG : List AV → Option (Prop × AV)
  | [.agg [.d (.sl xs)], .d (.sl bs), .d (.bool w)] => some (xs = rows eO (dO xs) ∧ bs = rows eB (dB bs) ∧ (dB bs).length = (dO xs).length ∧ (dO xs).length ≤ 1000000000, .agg [.d (.sl (rows eO (chs (dO xs) (dB bs) w)))])
  | _ => none
theorem chs_snoc {S : List SO} {b : List Bool} {w c : Bool} {i : Nat} {x : SO} (h1 : S[i]? = some x) (h2 : b[i]? = some c) : chs (S.take (i + 1)) (b.take (i + 1)) w = chs (S.take i) (b.take i) w ++ if c = w then [x] else [] := by
  unfold chs
  have e : ∀ j, (S.take j).zip (b.take j) = (S.zip b).take j := fun j => (List.take_zipWith (f := Prod.mk)).symm
  rw [e, e, List.take_add_one, (show (S.zip b)[i]? = some (x, c) from List.getElem?_zip_eq_some.2 ⟨h1, h2⟩), List.filter_append, List.map_append]
  by_cases h : c = w <;> simp [h]
theorem chs_len (S : List SO) (b : List Bool) (w : Bool) (i : Nat) : (chs (S.take i) (b.take i) w).length ≤ i := by
  unfold chs; rw [List.length_map]
  exact Nat.le_trans (List.length_filter_le ..) (by rw [List.length_zip, List.length_take]; omega)
def mkV (S : List SO) (R : List Int) : List Bool := S.map fun x => decide (x.dg ∈ keysM (reachM S R))
def markedG : List AV → Option (Prop × AV)
  | [.agg [.d (.sl xs)], .d (.sl rs)] => some (xs = rows eO (dO xs) ∧ ValS (dO xs) ∧ rs = rows eI (dI rs) ∧ (dI rs).length ≤ 1000000000, .d (.sl (rows eB (mkV (dO xs) (dI rs)))))
  | _ => none
theorem takeS_z (S : List SO) : S.take 0 = [] := rfl

theorem fetchR_meets : Meets Try.prog 22 (Spec.pure fetRG) := by
 refine meets_fun (E_fetch.at_ 97) Try.func22 rfl rfl rfl ?_
 intro args p r hg hp
 unfold fetRG at hg
 split at hg
 ·rename_i xs ps ys ws
  simp only [Option.some.injEq, Prod.mk.injEq] at hg
  obtain ⟨rfl, rfl⟩ := hg
  obtain ⟨he, he2, he3, he4, hvp, hvr, hwl⟩ := hp
  generalize dO xs = S at *
  generalize dI ps = P at *
  generalize dO ys = Rm at *
  generalize dI ws = W at *
  subst he he2 he3 he4
  have hv := hvp.st
  have hlen := hv.len
  have hpn := hvp.len
  have hlr := hvr.len
  have hff := fetF_is hvp hvr hwl
  have hT : (E_fetch).X = T := rfl
  have hx0 := And.intro @rect_eO (And.intro @dI_rows (And.intro @dU_rows (And.intro @dO_rows (And.intro @dec_t (And.intro @dec_f (And.intro @takeI_len (And.intro @takeS_len (And.intro @eI_snoc @Try.results22))))))))
  have hx := hx0
  refine ⟨by rfl, ?_⟩
  intro F W0 hnp hmk
  refine vc_seq_k fun N1 h1 => ?_
  refine vc_regG [41] hmix (by kernel_rfl) ?_
  try refine lg_mk ?_
  refine u_bx ?_
  refine u_bx ?_
  refine u_al ?_
  refine u_mv ?_
  refine u_al ?_
  refine lg_nil ?_
  refine h1 _ ?_; clear h1; try clear N1
  refine vc_seq_k fun N2 h2 => ?_
  refine vc_seq_k fun N3 h3 => ?_
  refine vc_regG [41] hmix (by kernel_rfl) ?_
  try refine lg_mk ?_
  refine u_mv ?_
  refine lg_nil ?_
  refine h3 _ ?_; clear h3; try clear N3
  refine vc_block ?_
  refine vc_loop_mk (σ := Nat) (fun s => (fun i => (i ≤ W.length ∧ ∀ j, j < i → fC S P Rm W j = 0) ∧ InvF S P Rm W i) s)
   (fun s => (fun i => [(1, .d (.sl (rows eI P))), (3, .d (.sl (rows eI W))), (4, .ptr 0 0 0), (6, .ptr 1 0 0), (8, .ptr 2 0 0), (10, .ptr 3 0 0), (11, .d (.int .i64 (i : Nat)))]) s)
   (fun s => (fun i => [some (.one 24 [.d (.sl (rows eO (fS S Rm W i)))]), some (.one 24 [.d (.sl (rows eO Rm))]), some (.one 24 [.d .nils]), some (.one 28 [.d (.int .i64 0), .d (.int .i64 0)])]) s) (fun s => (fun i => W.length - i) s) hnp 0 ?_ [some 0, some 1, some 2, some 3] ?_ ?_
  ·dsimp only
   exact ⟨⟨by omega, fun j hj => by omega⟩, InvF.zero hv Rm W⟩
  ·dsimp only
   refine ⟨by rfl, ?_, ?_⟩
   ·refine fin_ ?_
    exact cl_
   ·refine fin_ ?_
    exact cl_
  ·rintro i hinv N4 h4
   dsimp only at hinv ⊢
   obtain ⟨⟨i1, i2⟩, hI⟩ := hinv
   refine vc_seq_k fun N5 h5 => ?_
   refine vc_seq_k fun N6 h6 => ?_
   refine vc_regG [41] hmix (by kernel_rfl) ?_
   try refine lg_mk ?_
   refine u_mv ?_
   refine u_mv ?_
   refine u_ln ?_
   refine u_bn ?_
   refine lg_nil ?_
   refine h6 _ ?_; clear h6; try clear N6
   refine u_cond (fun hb7 => ?_) (fun hb7 => ?_)
   ·obtain ⟨x, hxe⟩ := getE (l := W) (i := i) (by omega)
    have hxd : W.getD i 0 = x := getD_at hxe
    have hfz := fC_zero (S := S) (P := P) (Rm := Rm) hxe
    refine vc_skip ?_
    try simp only [k_rules]
    refine h5 _ ?_; clear h5; try clear N5
    refine vc_seq_k fun N8 h8 => ?_
    refine vc_block ?_
    refine vc_seq_k fun N9 h9 => ?_
    refine vc_seq_k fun N10 h10 => ?_
    rcases (show x ∉ P ∨ (x ∈ P ∧ x ∈ W.take i) ∨ (x ∈ P ∧ x ∉ W.take i) by by_cases h1 : x ∈ P <;> by_cases h2 : x ∈ W.take i <;> simp [h1, h2]) with hxP | ⟨hxP, hxW⟩ | ⟨hxP, hxW⟩
    ·have hq1 : decide (x ∈ P) = false := decide_eq_false hxP
     have hq2 := hq1
     have hx := And.intro @hxe (And.intro @eI.eq_1 (And.intro @hq1 (And.intro @hq2 hx0)))
     refine vc_regG [41] hmix (by kernel_rfl) ?_
     try refine lg_mk ?_
     refine u_mv ?_
     refine u_mv ?_
     refine u_mv ?_
     refine u_pt ?_
     refine u_ld ?_
     have hc := call_rule (E := (E_fetch.at_ 97)) (f := 24) (sp := Spec.pure hasG) rfl
     have hs := @hasG.eq_1
     refine u_cp ?_
     refine u_un ?_
     refine u_mv ?_
     refine g_mv ?_
     refine g_mv ?_
     refine g_sl ?_
     refine g_mv ?_
     refine g_mv ?_
     refine g_pt ?_
     refine g_ld ?_
     have hc := call_rule (E := (E_fetch.at_ 97)) (f := 24) (sp := Spec.pure hasG) rfl
     have hs := @hasG.eq_1
     refine g_cp ?_
     refine u_pk ?_
     refine lg_nil ?_
     have hx := hx0
     refine h10 _ ?_; clear h10; try clear N10
     refine u_cond (fun hb11 => ?_) (fun hb11 => ?_)
     ·refine vc_seq_k fun N12 h12 => ?_
      refine vc_regG [41] hmix (by kernel_rfl) ?_
      try refine lg_mk ?_
      refine u_bd ?_
      refine u_mv ?_
      have hc := call_rule (E := (E_fetch.at_ 97)) (f := 13) (sp := Spec.pure faultG) rfl
      have hs := @faultG.eq_1
      refine u_cp ?_
      refine u_st ?_
      refine u_mv ?_
      refine u_st ?_
      refine lg_nil ?_
      refine h12 _ ?_; clear h12; try clear N12
      refine vc_ret ?_
      try simp only [k_rules]
      have hf : fC S P Rm W i = 6 := by unfold fC; rw [hxd]; first | (rw [if_pos (fun h => hxP h.1)]; done) | (rw [if_pos (fun h => h.2 hxW)]; done)
      have hr : fetW S P Rm W = (6, (i : Int)) := by unfold fetW; rw [firstF_at (i := i) (by rw [hf]; decide) i2 (by omega), hf]; rfl
      have hr2 : fetS S P Rm W = [] := by unfold fetS; rw [hff, hr]; exact if_pos (by simp)
      have hr3 : fetL S P Rm W = [] := by unfold fetL; rw [hff, hr]; exact if_pos (by simp)
      rw [hr, hr2, hr3]
      refine fin2_ ?_
      exact cl_
     ·cases hb11
    ·have hq1 : decide (x ∈ P) = true := decide_eq_true hxP
     have hq2 : decide (x ∈ W.take i) = true := decide_eq_true hxW
     have hx := And.intro @hxe (And.intro @eI.eq_1 (And.intro @hq1 (And.intro @hq2 hx0)))
     refine vc_regG [41] hmix (by kernel_rfl) ?_
     try refine lg_mk ?_
     refine u_mv ?_
     refine u_mv ?_
     refine u_mv ?_
     refine u_pt ?_
     refine u_ld ?_
     have hc := call_rule (E := (E_fetch.at_ 97)) (f := 24) (sp := Spec.pure hasG) rfl
     have hs := @hasG.eq_1
     refine u_cp ?_
     refine u_un ?_
     refine u_mv ?_
     refine g_mv ?_
     refine g_mv ?_
     refine g_sl ?_
     refine g_mv ?_
     refine g_mv ?_
     refine g_pt ?_
     refine g_ld ?_
     have hc := call_rule (E := (E_fetch.at_ 97)) (f := 24) (sp := Spec.pure hasG) rfl
     have hs := @hasG.eq_1
     refine g_cp ?_
     refine u_pk ?_
     refine lg_nil ?_
     have hx := hx0
     refine h10 _ ?_; clear h10; try clear N10
     refine u_cond (fun hb13 => ?_) (fun hb13 => ?_)
     ·refine vc_seq_k fun N14 h14 => ?_
      refine vc_regG [41] hmix (by kernel_rfl) ?_
      try refine lg_mk ?_
      refine u_bd ?_
      refine u_mv ?_
      have hc := call_rule (E := (E_fetch.at_ 97)) (f := 13) (sp := Spec.pure faultG) rfl
      have hs := @faultG.eq_1
      refine u_cp ?_
      refine u_st ?_
      refine u_mv ?_
      refine u_st ?_
      refine lg_nil ?_
      refine h14 _ ?_; clear h14; try clear N14
      refine vc_ret ?_
      try simp only [k_rules]
      have hf : fC S P Rm W i = 6 := by unfold fC; rw [hxd]; first | (rw [if_pos (fun h => hxP h.1)]; done) | (rw [if_pos (fun h => h.2 hxW)]; done)
      have hr : fetW S P Rm W = (6, (i : Int)) := by unfold fetW; rw [firstF_at (i := i) (by rw [hf]; decide) i2 (by omega), hf]; rfl
      have hr2 : fetS S P Rm W = [] := by unfold fetS; rw [hff, hr]; exact if_pos (by simp)
      have hr3 : fetL S P Rm W = [] := by unfold fetL; rw [hff, hr]; exact if_pos (by simp)
      rw [hr, hr2, hr3]
      refine fin2_ ?_
      exact cl_
     ·exact absurd hxW (by simpa using hb13)
    ·have hq1 : decide (x ∈ P) = true := decide_eq_true hxP
     have hq2 : decide (x ∈ W.take i) = false := decide_eq_false hxW
     have hx := And.intro @hxe (And.intro @eI.eq_1 (And.intro @hq1 (And.intro @hq2 hx0)))
     refine vc_regG [41] hmix (by kernel_rfl) ?_
     try refine lg_mk ?_
     refine u_mv ?_
     refine u_mv ?_
     refine u_mv ?_
     refine u_pt ?_
     refine u_ld ?_
     have hc := call_rule (E := (E_fetch.at_ 97)) (f := 24) (sp := Spec.pure hasG) rfl
     have hs := @hasG.eq_1
     refine u_cp ?_
     refine u_un ?_
     refine u_mv ?_
     refine g_mv ?_
     refine g_mv ?_
     refine g_sl ?_
     refine g_mv ?_
     refine g_mv ?_
     refine g_pt ?_
     refine g_ld ?_
     have hc := call_rule (E := (E_fetch.at_ 97)) (f := 24) (sp := Spec.pure hasG) rfl
     have hs := @hasG.eq_1
     refine g_cp ?_
     refine u_pk ?_
     refine lg_nil ?_
     have hx := hx0
     refine h10 _ ?_; clear h10; try clear N10
     refine u_cond (fun hb15 => ?_) (fun hb15 => ?_)
     ·exact absurd (by simpa using hb15) hxW
     ·refine vc_skip ?_
      try simp only [k_rules]
      refine h9 _ ?_; clear h9; try clear N9
      refine vc_seq_k fun N16 h16 => ?_
      rcases fet_cases hvp hvr hI hxe hxP hxW with hir | ⟨hir, y, hye, hyk, hfl, g1, g2⟩ | ⟨hir, y, hye, hyk, hfl, g1, g2, hgo⟩
      ·have hat : atS Rm x = -1 := by unfold atS; rw [hir]; rfl
       have hx := And.intro @hxe (And.intro @eI.eq_1 (And.intro @hat hx0))
       refine vc_regG [41] hmix (by kernel_rfl) ?_
       try refine lg_mk ?_
       refine u_ld ?_
       refine u_mv ?_
       refine u_mv ?_
       refine u_pt ?_
       refine u_ld ?_
       have hc := call_rule (E := (E_fetch.at_ 97)) (f := 36) (sp := Spec.pure atG) rfl
       have hs := @atG.eq_1
       refine u_cp (hq := by (first | (exact ⟨hvr.sort, by omega⟩) | exact sd_)) ?_
       refine u_mv ?_
       refine lg_nil ?_
       have hx := hx0
       refine h16 _ ?_; clear h16; try clear N16
       refine vc_seq_k fun N17 h17 => ?_
       refine vc_seq_k fun N18 h18 => ?_
       refine vc_regG [41] hmix (by kernel_rfl) ?_
       try refine lg_mk ?_
       refine u_mv ?_
       refine u_bn ?_
       refine lg_nil ?_
       refine h18 _ ?_; clear h18; try clear N18
       refine u_cond (fun hb19 => ?_) (fun hb19 => ?_)
       ·refine vc_seq_k fun N20 h20 => ?_
        refine vc_regG [41] hmix (by kernel_rfl) ?_
        try refine lg_mk ?_
        refine u_bd ?_
        refine u_mv ?_
        have hc := call_rule (E := (E_fetch.at_ 97)) (f := 13) (sp := Spec.pure faultG) rfl
        have hs := @faultG.eq_1
        refine u_cp ?_
        refine u_st ?_
        refine u_mv ?_
        refine u_st ?_
        refine lg_nil ?_
        refine h20 _ ?_; clear h20; try clear N20
        refine vc_ret ?_
        try simp only [k_rules]
        have hf : fC S P Rm W i = 17 := by unfold fC; rw [hxd]; rw [if_neg (fun h => h ⟨hxP, hxW⟩), if_pos hir]
        have hr : fetW S P Rm W = (17, (i : Int)) := by unfold fetW; rw [firstF_at (i := i) (by rw [hf]; decide) i2 (by omega), hf]; rfl
        have hr2 : fetS S P Rm W = [] := by unfold fetS; rw [hff, hr]; exact if_pos (by simp)
        have hr3 : fetL S P Rm W = [] := by unfold fetL; rw [hff, hr]; exact if_pos (by simp)
        rw [hr, hr2, hr3]
        refine fin2_ ?_
        exact cl_
       ·first | omega | exact absurd trivial hb19 | contradiction | (simp_all; done)
      ·have hyl := hyk.ln
       have hklt := (List.getElem?_eq_some_iff.1 hye).1
       have hvi := hI.val
       have hli := hI.len
       obtain ⟨hyb1, hyb2⟩ : obOk y.ob := small_of hvr y (mem_at hye)
       have hsv := small_of hvi
       have hat : atS Rm x = ((lbS Rm x : Nat) : Int) := by unfold atS; rw [hir]; rfl
       have hx := And.intro @hxe (And.intro @eI.eq_1 (And.intro @hat hx0))
       refine vc_regG [41] hmix (by kernel_rfl) ?_
       try refine lg_mk ?_
       refine u_ld ?_
       refine u_mv ?_
       refine u_mv ?_
       refine u_pt ?_
       refine u_ld ?_
       have hc := call_rule (E := (E_fetch.at_ 97)) (f := 36) (sp := Spec.pure atG) rfl
       have hs := @atG.eq_1
       refine u_cp (hq := by (first | (exact ⟨hvr.sort, by omega⟩) | exact sd_)) ?_
       refine u_mv ?_
       refine lg_nil ?_
       have hx := hx0
       refine h16 _ ?_; clear h16; try clear N16
       refine vc_seq_k fun N21 h21 => ?_
       refine vc_seq_k fun N22 h22 => ?_
       refine vc_regG [41] hmix (by kernel_rfl) ?_
       try refine lg_mk ?_
       refine u_mv ?_
       refine u_bn ?_
       refine lg_nil ?_
       refine h22 _ ?_; clear h22; try clear N22
       refine u_cond (fun hb23 => ?_) (fun hb23 => ?_)
       ·first | omega | exact absurd trivial hb23 | contradiction | (simp_all; done)
       ·refine vc_skip ?_
        try simp only [k_rules]
        refine h21 _ ?_; clear h21; try clear N21
        refine vc_seq_k fun N24 h24 => ?_
        have hx := And.intro @hye (And.intro @eO.eq_1 (And.intro @g1 (And.intro @g2 hx0)))
        refine vc_regT [41] (.seq [0, 1, 2, 3, 4, 5, 6] (.alt 7 (.seq [8, 9, 10, 11, 12, 13, 14, 15] .nil) (.alt 12 (.seq [7, 8, 9, 10, 11, 13, 14, 15] .nil) .nil))) hmix (by kernel_rfl) ?_
        refine at_seq ?_
        simp only [pick_rules, list_rules]
        try refine lg_mk ?_
        refine u_ld ?_
        refine u_pt ?_
        refine u_ld ?_
        refine u_mv ?_
        refine u_pt ?_
        refine u_pt ?_
        refine u_ld ?_
        refine lg_nil ?_
        refine at_alt ?_ ?_
        ·simp only [pick_rules, list_rules]
         try refine lg_mk ?_
         have hc := call_rule (E := (E_fetch.at_ 97)) (f := 41) (sp := Spec.pure putRG) rfl
         have hs := @putRG.eq_1
         refine u_hp (hq := by (first | (exact ⟨hvi, hyk⟩) | exact sd_)) ?_
         refine lg_nil ?_
         refine at_seq ?_
         simp only [pick_rules, list_rules]
         try refine lg_mk ?_
         refine u_mv ?_
         refine u_ex ?_
         refine u_ex ?_
         refine u_ex ?_
         refine u_al ?_
         refine u_st ?_
         refine u_mv ?_
         refine u_mv ?_
         refine lg_nil ?_
         refine at_nil ?_
         have hx := hx0
         refine h24 _ ?_; clear h24; try clear N24
         refine vc_seq_k fun N25 h25 => ?_
         refine vc_seq_k fun N26 h26 => ?_
         refine vc_regG [41] hmix (by kernel_rfl) ?_
         try refine lg_mk ?_
         refine u_mv ?_
         refine u_bn ?_
         refine lg_nil ?_
         refine h26 _ ?_; clear h26; try clear N26
         refine u_cond (fun hb27 => ?_) (fun hb27 => ?_)
         ·refine vc_seq_k fun N28 h28 => ?_
          refine vc_regG [41] hmix (by kernel_rfl) ?_
          try refine lg_mk ?_
          refine u_bd ?_
          refine u_mv ?_
          refine u_mv ?_
          have hc := call_rule (E := (E_fetch.at_ 97)) (f := 13) (sp := Spec.pure faultG) rfl
          have hs := @faultG.eq_1
          refine u_cp ?_
          refine u_st ?_
          refine u_mv ?_
          refine u_st ?_
          refine lg_nil ?_
          refine h28 _ ?_; clear h28; try clear N28
          refine vc_ret ?_
          try simp only [k_rules]
          have hf : fC S P Rm W i = 14 := by unfold fC; rw [hxd]; rw [if_neg (fun h => h ⟨hxP, hxW⟩), if_neg (by rw [hir]; simp), if_pos (by omega)]
          have hr : fetW S P Rm W = (14, (i : Int)) := by unfold fetW; rw [firstF_at (i := i) (by rw [hf]; decide) i2 (by omega), hf]; rfl
          have hr2 : fetS S P Rm W = [] := by unfold fetS; rw [hff, hr]; exact if_pos (by simp)
          have hr3 : fetL S P Rm W = [] := by unfold fetL; rw [hff, hr]; exact if_pos (by simp)
          rw [hr, hr2, hr3]
          refine fin2_ ?_
          exact cl_
         ·first | (simp at hb27; done) | omega
        refine at_alt ?_ ?_
        ·simp only [pick_rules, list_rules]
         try refine lg_mk ?_
         refine u_al ?_
         refine lg_nil ?_
         refine at_seq ?_
         simp only [pick_rules, list_rules]
         try refine lg_mk ?_
         have hc := call_rule (E := (E_fetch.at_ 97)) (f := 41) (sp := Spec.pure putRG) rfl
         have hs := @putRG.eq_1
         refine u_hp (hq := by (first | (exact ⟨hvi, hyk⟩) | exact sd_)) ?_
         refine u_mv ?_
         refine u_ex ?_
         refine u_ex ?_
         refine u_ex ?_
         refine u_st ?_
         refine u_mv ?_
         refine u_mv ?_
         refine lg_nil ?_
         refine at_nil ?_
         have hx := hx0
         refine h24 _ ?_; clear h24; try clear N24
         refine vc_seq_k fun N29 h29 => ?_
         refine vc_seq_k fun N30 h30 => ?_
         refine vc_regG [41] hmix (by kernel_rfl) ?_
         try refine lg_mk ?_
         refine u_mv ?_
         refine u_bn ?_
         refine lg_nil ?_
         refine h30 _ ?_; clear h30; try clear N30
         refine u_cond (fun hb31 => ?_) (fun hb31 => ?_)
         ·refine vc_seq_k fun N32 h32 => ?_
          refine vc_regG [41] hmix (by kernel_rfl) ?_
          try refine lg_mk ?_
          refine u_bd ?_
          refine u_mv ?_
          refine u_mv ?_
          have hc := call_rule (E := (E_fetch.at_ 97)) (f := 13) (sp := Spec.pure faultG) rfl
          have hs := @faultG.eq_1
          refine u_cp ?_
          refine u_st ?_
          refine u_mv ?_
          refine u_st ?_
          refine lg_nil ?_
          refine h32 _ ?_; clear h32; try clear N32
          refine vc_ret ?_
          try simp only [k_rules]
          have hf : fC S P Rm W i = 14 := by unfold fC; rw [hxd]; rw [if_neg (fun h => h ⟨hxP, hxW⟩), if_neg (by rw [hir]; simp), if_pos (by omega)]
          have hr : fetW S P Rm W = (14, (i : Int)) := by unfold fetW; rw [firstF_at (i := i) (by rw [hf]; decide) i2 (by omega), hf]; rfl
          have hr2 : fetS S P Rm W = [] := by unfold fetS; rw [hff, hr]; exact if_pos (by simp)
          have hr3 : fetL S P Rm W = [] := by unfold fetL; rw [hff, hr]; exact if_pos (by simp)
          rw [hr, hr2, hr3]
          refine fin2_ ?_
          exact cl_
         ·first | (simp at hb31; done) | omega
        exact at_end
      ·have hyl := hyk.ln
       have hklt := (List.getElem?_eq_some_iff.1 hye).1
       have hvi := hI.val
       have hli := hI.len
       obtain ⟨hyb1, hyb2⟩ : obOk y.ob := small_of hvr y (mem_at hye)
       have hsv := small_of hvi
       have hat : atS Rm x = ((lbS Rm x : Nat) : Int) := by unfold atS; rw [hir]; rfl
       have hx := And.intro @hxe (And.intro @eI.eq_1 (And.intro @hat hx0))
       refine vc_regG [41] hmix (by kernel_rfl) ?_
       try refine lg_mk ?_
       refine u_ld ?_
       refine u_mv ?_
       refine u_mv ?_
       refine u_pt ?_
       refine u_ld ?_
       have hc := call_rule (E := (E_fetch.at_ 97)) (f := 36) (sp := Spec.pure atG) rfl
       have hs := @atG.eq_1
       refine u_cp (hq := by (first | (exact ⟨hvr.sort, by omega⟩) | exact sd_)) ?_
       refine u_mv ?_
       refine lg_nil ?_
       have hx := hx0
       refine h16 _ ?_; clear h16; try clear N16
       refine vc_seq_k fun N33 h33 => ?_
       refine vc_seq_k fun N34 h34 => ?_
       refine vc_regG [41] hmix (by kernel_rfl) ?_
       try refine lg_mk ?_
       refine u_mv ?_
       refine u_bn ?_
       refine lg_nil ?_
       refine h34 _ ?_; clear h34; try clear N34
       refine u_cond (fun hb35 => ?_) (fun hb35 => ?_)
       ·first | omega | exact absurd trivial hb35 | contradiction | (simp_all; done)
       ·refine vc_skip ?_
        try simp only [k_rules]
        refine h33 _ ?_; clear h33; try clear N33
        refine vc_seq_k fun N36 h36 => ?_
        have hx := And.intro @hye (And.intro @eO.eq_1 (And.intro @g1 (And.intro @g2 hx0)))
        refine vc_regT [41] (.seq [0, 1, 2, 3, 4, 5, 6] (.alt 7 (.seq [8, 9, 10, 11, 12, 13, 14, 15] .nil) (.alt 12 (.seq [7, 8, 9, 10, 11, 13, 14, 15] .nil) .nil))) hmix (by kernel_rfl) ?_
        refine at_seq ?_
        simp only [pick_rules, list_rules]
        try refine lg_mk ?_
        refine u_ld ?_
        refine u_pt ?_
        refine u_ld ?_
        refine u_mv ?_
        refine u_pt ?_
        refine u_pt ?_
        refine u_ld ?_
        refine lg_nil ?_
        refine at_alt ?_ ?_
        ·simp only [pick_rules, list_rules]
         try refine lg_mk ?_
         have hc := call_rule (E := (E_fetch.at_ 97)) (f := 41) (sp := Spec.pure putRG) rfl
         have hs := @putRG.eq_1
         refine u_hp (hq := by (first | (exact ⟨hvi, hyk⟩) | exact sd_)) ?_
         refine lg_nil ?_
         refine at_seq ?_
         simp only [pick_rules, list_rules]
         try refine lg_mk ?_
         refine u_mv ?_
         refine u_ex ?_
         refine u_ex ?_
         refine u_ex ?_
         refine u_al ?_
         refine u_st ?_
         refine u_mv ?_
         refine u_mv ?_
         refine lg_nil ?_
         refine at_nil ?_
         have hx := hx0
         refine h36 _ ?_; clear h36; try clear N36
         refine vc_seq_k fun N37 h37 => ?_
         refine vc_seq_k fun N38 h38 => ?_
         refine vc_regG [41] hmix (by kernel_rfl) ?_
         try refine lg_mk ?_
         refine u_mv ?_
         refine u_bn ?_
         refine lg_nil ?_
         refine h38 _ ?_; clear h38; try clear N38
         refine u_cond (fun hb39 => ?_) (fun hb39 => ?_)
         ·first | (simp at hb39; done) | omega
         ·refine vc_skip ?_
          try simp only [k_rules]
          refine h37 _ ?_; clear h37; try clear N37
          refine vc_regG [41] hmix (by kernel_rfl) ?_
          try refine lg_mk ?_
          refine u_ld ?_
          refine u_st ?_
          refine lg_nil ?_
          refine h8 _ ?_; clear h8; try clear N8
          refine vc_regG [41] hmix (by kernel_rfl) ?_
          try refine lg_mk ?_
          refine u_mv ?_
          refine u_bn ?_
          refine u_mv ?_
          refine lg_nil ?_
          refine h4 _ ⟨i + 1, ?_, ?_, [some 0, some 1, some 2, some 3], ?_⟩
          ·dsimp only
           exact ⟨⟨by omega, lt_succF i2 (hfz.2 ⟨⟨hxP, hxW⟩, hir, by omega⟩)⟩, hgo⟩
          ·dsimp only
           omega
          ·dsimp only
           refine ⟨by rfl, ?_, ?_⟩
           ·refine fin_ ?_
            exact cl_
           ·refine fin_ ?_
            exact cl_
        refine at_alt ?_ ?_
        ·simp only [pick_rules, list_rules]
         try refine lg_mk ?_
         refine u_al ?_
         refine lg_nil ?_
         refine at_seq ?_
         simp only [pick_rules, list_rules]
         try refine lg_mk ?_
         have hc := call_rule (E := (E_fetch.at_ 97)) (f := 41) (sp := Spec.pure putRG) rfl
         have hs := @putRG.eq_1
         refine u_hp (hq := by (first | (exact ⟨hvi, hyk⟩) | exact sd_)) ?_
         refine u_mv ?_
         refine u_ex ?_
         refine u_ex ?_
         refine u_ex ?_
         refine u_st ?_
         refine u_mv ?_
         refine u_mv ?_
         refine lg_nil ?_
         refine at_nil ?_
         have hx := hx0
         refine h36 _ ?_; clear h36; try clear N36
         refine vc_seq_k fun N40 h40 => ?_
         refine vc_seq_k fun N41 h41 => ?_
         refine vc_regG [41] hmix (by kernel_rfl) ?_
         try refine lg_mk ?_
         refine u_mv ?_
         refine u_bn ?_
         refine lg_nil ?_
         refine h41 _ ?_; clear h41; try clear N41
         refine u_cond (fun hb42 => ?_) (fun hb42 => ?_)
         ·first | (simp at hb42; done) | omega
         ·refine vc_skip ?_
          try simp only [k_rules]
          refine h40 _ ?_; clear h40; try clear N40
          refine vc_regG [41] hmix (by kernel_rfl) ?_
          try refine lg_mk ?_
          refine u_ld ?_
          refine u_st ?_
          refine lg_nil ?_
          refine h8 _ ?_; clear h8; try clear N8
          refine vc_regG [41] hmix (by kernel_rfl) ?_
          try refine lg_mk ?_
          refine u_mv ?_
          refine u_bn ?_
          refine u_mv ?_
          refine lg_nil ?_
          refine h4 _ ⟨i + 1, ?_, ?_, [some 0, some 1, some 2, some 3], ?_⟩
          ·dsimp only
           exact ⟨⟨by omega, lt_succF i2 (hfz.2 ⟨⟨hxP, hxW⟩, hir, by omega⟩)⟩, hgo⟩
          ·dsimp only
           omega
          ·dsimp only
           refine ⟨by rfl, ?_, ?_⟩
           ·refine fin_ ?_
            exact cl_
           ·refine fin_ ?_
            exact cl_
        exact at_end
   ·refine vc_exit ?_
    simp only [k_rules, Nat.reduceEqDiff, reduceIte, eq_self]
    refine h2 _ ?_; clear h2; try clear N2
    refine vc_seq_k fun N43 h43 => ?_
    refine vc_regG [41] hmix (by kernel_rfl) ?_
    try refine lg_mk ?_
    refine u_mv ?_
    refine lg_nil ?_
    refine h43 _ ?_; clear h43; try clear N43
    refine vc_seq_k fun N44 h44 => ?_
    refine vc_seq_k fun N45 h45 => ?_
    refine vc_regG [41] hmix (by kernel_rfl) ?_
    try refine lg_mk ?_
    refine u_mv ?_
    refine lg_nil ?_
    refine h45 _ ?_; clear h45; try clear N45
    refine vc_block ?_
    refine vc_loop_mk (σ := Nat) (fun s => (fun k => k ≤ P.length) s)
     (fun s => (fun k => [(1, .d (.sl (rows eI P))), (3, .d (.sl (rows eI W))), (4, .ptr 0 0 0), (6, .ptr 1 0 0), (8, .ptr 2 0 0), (10, .ptr 3 0 0), (16, .sl 4 0 ((P.take k).filter fun p => !decide (p ∈ W)).length), (17, .d (.int .i64 (k : Nat)))]) s)
     (fun s => (fun k => [some (.one 24 [.d (.sl (rows eO (fS S Rm W i)))]), some (.one 24 [.d (.sl (rows eO Rm))]), some (.one 24 [.d .nils]), some (.one 28 [.d (.int .i64 0), .d (.int .i64 0)]), some (.vec 3 1 (rows eI ((P.take k).filter fun p => !decide (p ∈ W))))]) s) (fun s => (fun k => P.length - k) s) hnp 0 ?_ [some 0, some 1, some 2, some 3, none] ?_ ?_
    ·dsimp only
     omega
    ·dsimp only
     refine ⟨by rfl, ?_, ?_⟩
     ·refine fin_ ?_
      exact cl_
     ·refine fin_ ?_
      exact cl_
    ·rintro k hinv N46 h46
     dsimp only at hinv ⊢
     have k1 := hinv
     refine vc_seq_k fun N47 h47 => ?_
     refine vc_seq_k fun N48 h48 => ?_
     refine vc_regG [41] hmix (by kernel_rfl) ?_
     try refine lg_mk ?_
     refine u_mv ?_
     refine u_mv ?_
     refine u_ln ?_
     refine u_bn ?_
     refine lg_nil ?_
     refine h48 _ ?_; clear h48; try clear N48
     refine u_cond (fun hb49 => ?_) (fun hb49 => ?_)
     ·obtain ⟨z, hze⟩ := getE (l := P) (i := k) (by omega)
      have hqs := filter_snoc hze (fun p => !decide (p ∈ W))
      have hql : ((P.take k).filter fun p => !decide (p ∈ W)).length ≤ k := Nat.le_trans (List.length_filter_le ..) (by rw [List.length_take]; omega)
      refine vc_skip ?_
      try simp only [k_rules]
      refine h47 _ ?_; clear h47; try clear N47
      refine vc_seq_k fun N50 h50 => ?_
      refine vc_block ?_
      refine vc_seq_k fun N51 h51 => ?_
      have hx := And.intro @hze (And.intro @eI.eq_1 hx0)
      refine vc_regG [41] hmix (by kernel_rfl) ?_
      try refine lg_mk ?_
      refine u_mv ?_
      refine u_mv ?_
      refine u_mv ?_
      refine u_pt ?_
      refine u_ld ?_
      have hc := call_rule (E := (E_fetch.at_ 97)) (f := 24) (sp := Spec.pure hasG) rfl
      have hs := @hasG.eq_1
      refine u_cp ?_
      refine u_un ?_
      refine lg_nil ?_
      have hx := hx0
      refine h51 _ ?_; clear h51; try clear N51
      refine u_cond (fun hb52 => ?_) (fun hb52 => ?_)
      ·have hx := And.intro @hze (And.intro @eI.eq_1 hx0)
       refine vc_regG [41] hmix (by kernel_rfl) ?_
       try refine lg_mk ?_
       refine u_mv ?_
       refine u_mv ?_
       refine u_mv ?_
       refine u_pt ?_
       refine u_ld ?_
       refine u_bs ?_
       refine u_ap ?_
       refine u_mv ?_
       refine lg_nil ?_
       have hx := hx0
       refine h50 _ ?_; clear h50; try clear N50
       refine vc_regG [41] hmix (by kernel_rfl) ?_
       try refine lg_mk ?_
       refine u_mv ?_
       refine u_bn ?_
       refine u_mv ?_
       refine lg_nil ?_
       have hzw : decide (z ∈ W) = false := by have := hb52; simpa using this
       rw [hzw] at hqs
       rw [if_pos (by rfl)] at hqs
       refine h46 _ ⟨k + 1, ?_, ?_, [some 0, some 1, some 2, some 3, some 6], ?_⟩
       ·dsimp only
        omega
       ·dsimp only
        omega
       ·dsimp only
        refine ⟨by rfl, ?_, ?_⟩
        ·refine fin_ ?_
         (repeat' apply And.intro) <;> (first | (first | rfl | trivial | omega | (rw [hqs]; done) | (rw [hqs]; simp; done)) | exact cl_)
        ·refine fin_ ?_
         (repeat' apply And.intro) <;> (first | (first | rfl | trivial | omega | (rw [hqs]; done) | (rw [hqs]; simp; done)) | exact cl_)
      ·refine vc_skip ?_
       try simp only [k_rules]
       refine h50 _ ?_; clear h50; try clear N50
       refine vc_regG [41] hmix (by kernel_rfl) ?_
       try refine lg_mk ?_
       refine u_mv ?_
       refine u_bn ?_
       refine u_mv ?_
       refine lg_nil ?_
       have hzw : decide (z ∈ W) = true := by have := hb52; simpa using this
       rw [hzw] at hqs
       rw [if_neg (by simp), List.append_nil] at hqs
       refine h46 _ ⟨k + 1, ?_, ?_, [some 0, some 1, some 2, some 3, some 4], ?_⟩
       ·dsimp only
        omega
       ·dsimp only
        omega
       ·dsimp only
        refine ⟨by rfl, ?_, ?_⟩
        ·refine fin_ ?_
         (repeat' apply And.intro) <;> (first | (first | rfl | trivial | omega | (rw [hqs]; done)) | exact cl_)
        ·refine fin_ ?_
         (repeat' apply And.intro) <;> (first | (first | rfl | trivial | omega | (rw [hqs]; done)) | exact cl_)
     ·refine vc_exit ?_
      simp only [k_rules, Nat.reduceEqDiff, reduceIte, eq_self]
      refine h44 _ ?_; clear h44; try clear N44
      refine vc_seq_k fun N53 h53 => ?_
      refine vc_regG [41] hmix (by kernel_rfl) ?_
      try refine lg_mk ?_
      refine u_ld ?_
      refine u_mv ?_
      refine u_bd ?_
      refine u_st ?_
      refine u_mv ?_
      refine u_st ?_
      refine lg_nil ?_
      refine h53 _ ?_; clear h53; try clear N53
      refine vc_ret ?_
      try simp only [k_rules]
      obtain rfl : i = W.length := by omega
      obtain rfl : k = P.length := by omega
      have hr : fetW S P Rm W = (0, 0) := by unfold fetW; rw [firstF_none (fun j hj => i2 j (by omega))]
      have hr2 : fetS S P Rm W = fS S Rm W W.length := by unfold fetS; rw [hff, hr]; rfl
      have hr3 : fetL S P Rm W = P.filter fun p => !decide (p ∈ W) := by unfold fetL; rw [hff, hr]; exact fL_all P W
      rw [hr, hr2, hr3]
      refine fin2_ ?_
      (repeat' apply And.intro) <;> (first | (first | rfl | trivial | omega | exact Or.inl rfl | (rw [takeI_len, List.take_length]; done) | (left; rw [takeI_len, List.take_length]; done) | (simp; done)) | exact cl_)
 ·cases hg

def E_fetchR : Env Try.prog := E_fetch.add 22 (Spec.pure fetRG) fetchR_meets (by kernel_rfl)
end Go.Proofs.Ytgnahopdiljikaa
