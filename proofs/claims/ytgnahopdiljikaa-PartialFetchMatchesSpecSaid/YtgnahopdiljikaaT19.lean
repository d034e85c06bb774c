/- Walks, printed by wip/gen/walk.py. -/
import Derived.Test.YtgnahopdiljikaaT18
import Derived.Test.YtgnahopdiljikaaV5
set_option linter.all false
set_option maxRecDepth 100000
set_option maxHeartbeats 4000000
namespace Go.Proofs.Ytgnahopdiljikaa
open Go Go.Vc Go.RowKit
theorem eI_snoc (l : List Int) (d : Int) : rows eI l ++ [[.int .i64 d]] = rows eI (l ++ [d]) := by simp [rows, eI]
theorem takeDg_len (S : List SO) : (dgs S).take S.length = dgs S := List.take_of_length_le (by rw [dgs_len]; exact Nat.le_refl _)
theorem takeI_ap (S : List Int) (x : Int) : (S ++ [x]).take (S.length + 1) = S ++ [x] := List.take_of_length_le (by simp)
theorem takeDg_ap (S : List SO) (x : Int) : (dgs S ++ [x]).take (S.length + 1) = dgs S ++ [x] := List.take_of_length_le (by simp [dgs])

theorem filt_meets : Meets Try.prog 10 (Spec.pure filG) := by
 refine meets_fun (E_parFR.at_ 62) Try.func10 rfl rfl rfl ?_
 intro args p r hg hp
 unfold filG at hg
 split at hg
 ·rename_i xs n
  simp only [Option.some.injEq, Prod.mk.injEq] at hg
  obtain ⟨rfl, rfl⟩ := hg
  obtain ⟨he, hl, hsm⟩ := hp
  generalize dO xs = S at *
  subst he
  have hT : (E_parFR).X = T := rfl
  have hx0 := And.intro @rect_eO (And.intro @dI_rows (And.intro @dU_rows (And.intro @dO_rows (And.intro @dec_t (And.intro @dec_f (And.intro @eO_snoc (And.intro @takeS_len (And.intro @takeI_len (And.intro @dgs_len (And.intro @takeDg_len (And.intro @eI_snoc @Try.results10)))))))))))
  have hx := hx0
  refine ⟨by rfl, ?_⟩
  intro F W0 hnp hmk
  refine vc_seq_k fun N1 h1 => ?_
  refine u_reg ?_
  try refine lg_mk ?_
  refine u_bx ?_
  refine u_al ?_
  refine u_mv ?_
  refine u_al ?_
  refine lg_nil ?_
  refine h1 _ ?_; clear h1; try clear N1
  refine vc_seq_k fun N2 h2 => ?_
  refine vc_seq_k fun N3 h3 => ?_
  refine u_reg ?_
  try refine lg_mk ?_
  refine u_ld ?_
  have hc := call_rule (E := (E_parFR.at_ 62)) (f := 26) (sp := Spec.pure valG) rfl
  have hs := @valG.eq_1
  refine u_cp (hq := by (first | (exact ⟨hl, hsm⟩) | exact sd_)) ?_
  refine u_al ?_
  refine u_st ?_
  refine lg_nil ?_
  refine h3 _ ?_; clear h3; try clear N3
  refine vc_seq_k fun N4 h4 => ?_
  rcases stF_or S with ⟨hvx, hv⟩ | hvx
  ·have hz1 : (stF S).1 = 0 := by rw [hvx]
   have hz2 : (stF S).2 = 0 := by rw [hvx]
   have hlen := hv.len
   refine u_reg ?_
   try refine lg_mk ?_
   refine u_ld ?_
   refine u_bd ?_
   refine u_bn ?_
   refine lg_nil ?_
   refine h4 _ ?_; clear h4; try clear N4
   refine u_cond (fun hb5 => ?_) (fun hb5 => ?_)
   ·exact absurd (And.intro hz1 hz2) (by have := hb5; simpa using this)
   ·refine vc_skip ?_
    try simp only [k_rules]
    refine h2 _ ?_; clear h2; try clear N2
    refine vc_seq_k fun N6 h6 => ?_
    refine vc_seq_k fun N7 h7 => ?_
    refine u_reg ?_
    try refine lg_mk ?_
    refine u_mv ?_
    refine u_bn ?_
    refine u_mv ?_
    refine g_mv ?_
    refine g_bn ?_
    refine u_pk ?_
    refine lg_nil ?_
    refine h7 _ ?_; clear h7; try clear N7
    refine u_cond (fun hb8 => ?_) (fun hb8 => ?_)
    ·refine vc_seq_k fun N9 h9 => ?_
     refine u_reg ?_
     try refine lg_mk ?_
     refine u_bd ?_
     refine u_bd ?_
     refine u_st ?_
     refine u_mv ?_
     refine u_st ?_
     refine lg_nil ?_
     refine h9 _ ?_; clear h9; try clear N9
     refine vc_ret ?_
     try simp only [k_rules]
     have hr : filF S n = (3, -1) := by unfold filF; rw [if_neg (by rw [hz1]; simp), if_pos (by have := hb8; (try simp at this); omega)]
     have hr2 : filS S n = [] := by unfold filS; rw [hr]; exact if_pos (by decide)
     have hr3 : filP S n = [] := by unfold filP; rw [hr]; exact if_pos (by decide)
     rw [hr, hr2, hr3]
     refine fin2_ ?_
     exact cl_
    ·refine vc_skip ?_
     try simp only [k_rules]
     refine h6 _ ?_; clear h6; try clear N6
     refine vc_seq_k fun N10 h10 => ?_
     refine u_reg ?_
     try refine lg_mk ?_
     refine u_al ?_
     refine lg_nil ?_
     refine h10 _ ?_; clear h10; try clear N10
     refine vc_seq_k fun N11 h11 => ?_
     refine u_reg ?_
     try refine lg_mk ?_
     refine u_mv ?_
     refine lg_nil ?_
     refine h11 _ ?_; clear h11; try clear N11
     refine vc_seq_k fun N12 h12 => ?_
     refine vc_seq_k fun N13 h13 => ?_
     refine u_reg ?_
     try refine lg_mk ?_
     refine u_ld ?_
     have hc := call_rule (E := (E_parFR.at_ 62)) (f := 27) (sp := Spec.fresh copyG) rfl
     have hs := @copyG.eq_1
     refine u_hg (hq := by (first | (exact hv) | exact sd_)) ?_
     refine u_pt ?_
     refine u_ln ?_
     refine u_mv ?_
     refine lg_nil ?_
     refine h13 _ ?_; clear h13; try clear N13
     refine vc_block ?_
     refine vc_nil1 4 0 _ 4 (vec_nil 39 4) rfl rfl rfl ?_
     simp only [updL, List.set, List.cons_append, List.nil_append]
     refine vc_loop_mk (σ := Nat) (fun s => (fun i => i ≤ S.length) s)
      (fun s => (fun i => [(1, .d (.int .i64 n)), (2, .ptr 0 0 0), (4, .ptr 1 0 0), (6, .ptr 2 0 0), (8, .ptr 4 0 0), (9, .sl 7 0 ((S.take i).filter (big n)).length), (29, .sl 5 0 S.length), (30, .d (.int .i64 (S.length : Nat))), (31, .d (.int .i64 (i : Nat)))]) s)
      (fun s => (fun i => [some (.one 24 [.d (.sl (rows eO S))]), some (.one 24 [.d .nils]), some (.one 28 [.d (.int .i64 0), .d (.int .i64 0)]), some (.one 28 [.d (.int .i64 0), .d (.int .i64 0)]), some (.one 24 [.sl 6 0 ((S.take i).filter fun x => !big n x).length]), some (.vec 39 4 (rows eO S)), some (.vec 39 4 (rows eO ((S.take i).filter fun x => !big n x))), some (.vec 3 1 (rows eI (dgs ((S.take i).filter (big n)))))]) s) (fun s => (fun i => S.length - i) s) hnp 0 ?_ [some 0, some 1, some 2, some 3, some 4, some 5, some 6, none] ?_ ?_
     ·dsimp only
      omega
     ·dsimp only
      refine ⟨by rfl, ?_, ?_⟩
      ·refine fin_ ?_
       exact cl_
      ·refine fin_ ?_
       exact cl_
     ·rintro i hinv N14 h14
      dsimp only at hinv ⊢
      have i1 := hinv
      refine vc_seq_k fun N15 h15 => ?_
      refine u_reg ?_
      try refine lg_mk ?_
      refine u_bn ?_
      refine lg_nil ?_
      refine h15 _ ?_; clear h15; try clear N15
      refine vc_seq_k fun N16 h16 => ?_
      refine u_cond (fun hb17 => ?_) (fun hb17 => ?_)
      ·obtain ⟨x, hxe⟩ := getE (l := S) (i := i) (by omega)
       have hxo := hv.ok x (mem_at hxe)
       have hsk := filter_snoc hxe (fun x => !big n x)
       have hsg := filter_snoc hxe (big n)
       have hda := hxo.da
       have hkl : ((S.take i).filter fun x => !big n x).length ≤ i := Nat.le_trans (List.length_filter_le ..) (by rw [List.length_take]; omega)
       have hgl : ((S.take i).filter (big n)).length ≤ i := Nat.le_trans (List.length_filter_le ..) (by rw [List.length_take]; omega)
       obtain ⟨d, o⟩ := x
       obtain ⟨k, l, u⟩ := o
       refine vc_skip ?_
       try simp only [k_rules]
       refine h16 _ ?_; clear h16; try clear N16
       refine vc_seq_k fun N18 h18 => ?_
       refine vc_block ?_
       refine vc_seq_k fun N19 h19 => ?_
       have hx := And.intro @hxe (And.intro @eO.eq_1 hx0)
       refine u_reg ?_
       try refine lg_mk ?_
       refine u_pt ?_
       refine u_ld ?_
       refine u_al ?_
       refine u_st ?_
       refine lg_nil ?_
       have hx := hx0
       refine h19 _ ?_; clear h19; try clear N19
       refine vc_seq_k fun N20 h20 => ?_
       by_cases hk : k = 1
       ·have hq1 : decide (k = 1) = true := decide_eq_true hk
        have hx := And.intro @hq1 hx0
        refine u_reg ?_
        try refine lg_mk ?_
        refine u_pt ?_
        refine u_pt ?_
        refine u_ld ?_
        refine u_bn ?_
        refine u_mv ?_
        refine g_pt ?_
        refine g_pt ?_
        refine g_ld ?_
        refine g_ln ?_
        refine g_mv ?_
        refine g_bn ?_
        refine u_pk ?_
        refine lg_nil ?_
        have hx := hx0
        refine h20 _ ?_; clear h20; try clear N20
        refine u_cond (fun hb21 => ?_) (fun hb21 => ?_)
        ·refine u_reg ?_
         try refine lg_mk ?_
         refine u_mv ?_
         refine u_pt ?_
         refine u_ld ?_
         refine u_bs ?_
         refine u_ap ?_
         refine u_mv ?_
         refine lg_nil ?_
         refine h18 _ ?_; clear h18; try clear N18
         refine u_reg ?_
         try refine lg_mk ?_
         refine u_bn ?_
         refine u_mv ?_
         refine lg_nil ?_
         have hbg : big n ⟨d, ⟨k, l, u⟩⟩ = true := by unfold big; rw [hq1]; have := hb21; simpa using this
         rw [hbg] at hsk hsg
         rw [if_neg (by simp), List.append_nil] at hsk
         rw [if_pos rfl] at hsg
         refine h14 _ ⟨i + 1, ?_, ?_, [some 0, some 1, some 2, some 3, some 4, some 5, some 6, some 10], ?_⟩
         ·dsimp only
          omega
         ·dsimp only
          omega
         ·dsimp only
          refine ⟨by rfl, ?_, ?_⟩
          ·refine fin_ ?_
           (repeat' apply And.intro) <;> (first | (first | rfl | trivial | omega | (rw [hsk]; done) | (rw [hsg]; done) | (rw [hsk]; simp; done) | (rw [hsg]; simp; done) | (rw [hsg]; simp [dgs]; done)) | exact cl_)
          ·refine fin_ ?_
           (repeat' apply And.intro) <;> (first | (first | rfl | trivial | omega | (rw [hsk]; done) | (rw [hsg]; done) | (rw [hsk]; simp; done) | (rw [hsg]; simp; done) | (rw [hsg]; simp [dgs]; done)) | exact cl_)
        ·refine u_reg ?_
         try refine lg_mk ?_
         refine u_pt ?_
         refine u_ld ?_
         refine u_ld ?_
         refine u_bs ?_
         refine u_ap ?_
         refine u_pt ?_
         refine u_st ?_
         refine lg_nil ?_
         refine h18 _ ?_; clear h18; try clear N18
         refine u_reg ?_
         try refine lg_mk ?_
         refine u_bn ?_
         refine u_mv ?_
         refine lg_nil ?_
         have hbg : big n ⟨d, ⟨k, l, u⟩⟩ = false := by unfold big; rw [hq1]; first | rfl | (have := hb21; simpa using this)
         rw [hbg] at hsk hsg
         rw [if_pos (by rfl)] at hsk
         rw [if_neg (by simp), List.append_nil] at hsg
         refine h14 _ ⟨i + 1, ?_, ?_, [some 0, some 1, some 2, some 3, some 4, some 5, some 10, some 7], ?_⟩
         ·dsimp only
          omega
         ·dsimp only
          omega
         ·dsimp only
          refine ⟨by rfl, ?_, ?_⟩
          ·refine fin_ ?_
           (repeat' apply And.intro) <;> (first | (first | rfl | trivial | omega | (rw [hsk]; done) | (rw [hsg]; done) | (rw [hsk]; simp; done) | (rw [hsg]; simp; done) | (rw [hsg]; simp [dgs]; done)) | exact cl_)
          ·refine fin_ ?_
           (repeat' apply And.intro) <;> (first | (first | rfl | trivial | omega | (rw [hsk]; done) | (rw [hsg]; done) | (rw [hsk]; simp; done) | (rw [hsg]; simp; done) | (rw [hsg]; simp [dgs]; done)) | exact cl_)
       ·have hq1 : decide (k = 1) = false := decide_eq_false hk
        have hx := And.intro @hq1 hx0
        refine u_reg ?_
        try refine lg_mk ?_
        refine u_pt ?_
        refine u_pt ?_
        refine u_ld ?_
        refine u_bn ?_
        refine u_mv ?_
        refine g_pt ?_
        refine g_pt ?_
        refine g_ld ?_
        refine g_ln ?_
        refine g_mv ?_
        refine g_bn ?_
        refine u_pk ?_
        refine lg_nil ?_
        have hx := hx0
        refine h20 _ ?_; clear h20; try clear N20
        refine u_cond (fun hb22 => ?_) (fun hb22 => ?_)
        ·cases hb22
        ·refine u_reg ?_
         try refine lg_mk ?_
         refine u_pt ?_
         refine u_ld ?_
         refine u_ld ?_
         refine u_bs ?_
         refine u_ap ?_
         refine u_pt ?_
         refine u_st ?_
         refine lg_nil ?_
         refine h18 _ ?_; clear h18; try clear N18
         refine u_reg ?_
         try refine lg_mk ?_
         refine u_bn ?_
         refine u_mv ?_
         refine lg_nil ?_
         have hbg : big n ⟨d, ⟨k, l, u⟩⟩ = false := by unfold big; rw [hq1]; first | rfl | (have := hb22; simpa using this)
         rw [hbg] at hsk hsg
         rw [if_pos (by rfl)] at hsk
         rw [if_neg (by simp), List.append_nil] at hsg
         refine h14 _ ⟨i + 1, ?_, ?_, [some 0, some 1, some 2, some 3, some 4, some 5, some 10, some 7], ?_⟩
         ·dsimp only
          omega
         ·dsimp only
          omega
         ·dsimp only
          refine ⟨by rfl, ?_, ?_⟩
          ·refine fin_ ?_
           (repeat' apply And.intro) <;> (first | (first | rfl | trivial | omega | (rw [hsk]; done) | (rw [hsg]; done) | (rw [hsk]; simp; done) | (rw [hsg]; simp; done) | (rw [hsg]; simp [dgs]; done)) | exact cl_)
          ·refine fin_ ?_
           (repeat' apply And.intro) <;> (first | (first | rfl | trivial | omega | (rw [hsk]; done) | (rw [hsg]; done) | (rw [hsk]; simp; done) | (rw [hsg]; simp; done) | (rw [hsg]; simp [dgs]; done)) | exact cl_)
      ·refine vc_exit ?_
       simp only [k_rules, Nat.reduceEqDiff, reduceIte, eq_self]
       refine h12 _ ?_; clear h12; try clear N12
       refine vc_seq_k fun N23 h23 => ?_
       refine u_reg ?_
       try refine lg_mk ?_
       refine u_ld ?_
       refine u_mv ?_
       refine u_bd ?_
       refine u_st ?_
       refine u_mv ?_
       refine u_st ?_
       refine lg_nil ?_
       refine h23 _ ?_; clear h23; try clear N23
       refine vc_ret ?_
       try simp only [k_rules]
       obtain rfl : i = S.length := by omega
       rw [takeS_len]
       have hr : filF S n = (0, 0) := by unfold filF; rw [if_neg (by rw [hz1]; simp), if_neg (by have := hb8; (try simp at this); omega)]
       have hr2 : filS S n = S.filter fun x => !big n x := by unfold filS; rw [hr]; rfl
       have hr3 : filP S n = dgs (S.filter (big n)) := by unfold filP; rw [hr]; rfl
       rw [hr, hr2, hr3]
       refine fin2_ ?_
       (repeat' apply And.intro) <;> (first | (first | rfl | trivial | omega | exact Or.inl rfl | (rw [takeS_len]; done) | (rw [takeDg_len]; done) | (rw [dgs_len]; omega)) | exact cl_)
  ·have hz1 := hvx
   refine u_reg ?_
   try refine lg_mk ?_
   refine u_ld ?_
   refine u_bd ?_
   refine u_bn ?_
   refine lg_nil ?_
   refine h4 _ ?_; clear h4; try clear N4
   refine u_cond (fun hb24 => ?_) (fun hb24 => ?_)
   ·refine vc_seq_k fun N25 h25 => ?_
    refine vc_regT [] (.seq [0] (.alt 1 (.seq [2, 3, 4] .nil) (.alt 2 (.seq [1, 3, 4] .nil) .nil))) hmix (by kernel_rfl) ?_
    refine at_seq ?_
    simp only [pick_rules, list_rules]
    try refine lg_mk ?_
    refine u_bd ?_
    refine lg_nil ?_
    refine at_alt ?_ ?_
    ·simp only [pick_rules, list_rules]
     try refine lg_mk ?_
     refine u_ld ?_
     refine lg_nil ?_
     refine at_seq ?_
     simp only [pick_rules, list_rules]
     try refine lg_mk ?_
     refine u_st ?_
     refine u_mv ?_
     refine u_st ?_
     refine lg_nil ?_
     refine at_nil ?_
     refine h25 _ ?_; clear h25; try clear N25
     refine vc_ret ?_
     try simp only [k_rules]
     have hr : filF S n = stF S := by unfold filF; rw [if_pos hz1]
     have hr2 : filS S n = [] := by unfold filS; rw [hr]; exact if_pos hz1
     have hr3 : filP S n = [] := by unfold filP; rw [hr]; exact if_pos hz1
     rw [hr, hr2, hr3]
     refine fin2_ ?_
     exact cl_
    refine at_alt ?_ ?_
    ·simp only [pick_rules, list_rules]
     try refine lg_mk ?_
     refine u_st ?_
     refine lg_nil ?_
     refine at_seq ?_
     simp only [pick_rules, list_rules]
     try refine lg_mk ?_
     refine u_ld ?_
     refine u_mv ?_
     refine u_st ?_
     refine lg_nil ?_
     refine at_nil ?_
     refine h25 _ ?_; clear h25; try clear N25
     refine vc_ret ?_
     try simp only [k_rules]
     have hr : filF S n = stF S := by unfold filF; rw [if_pos hz1]
     have hr2 : filS S n = [] := by unfold filS; rw [hr]; exact if_pos hz1
     have hr3 : filP S n = [] := by unfold filP; rw [hr]; exact if_pos hz1
     rw [hr, hr2, hr3]
     refine fin2_ ?_
     exact cl_
    exact at_end
   ·exact absurd (show (stF S).1 = 0 by have := hb24; first | exact this.1 | exact (Classical.not_not.1 this).1 | (simp at this; exact this.1)) hz1
 ·cases hg

def E_filt : Env Try.prog := E_parFR.add 10 (Spec.pure filG) filt_meets (by kernel_rfl)
end Go.Proofs.Ytgnahopdiljikaa
