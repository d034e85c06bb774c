/- Walks, printed by wip/gen/walk.py. -/
import Derived.Test.YtcjipciiljjfhaaDoorT62
import Derived.Test.YtcjipciiljjfhaaDoorV5
set_option linter.all false
set_option maxRecDepth 100000
set_option maxHeartbeats 4000000
namespace Go.Proofs.YtcjipciiljjfhaaDoor
open Go Go.Vc Go.RowKit
def smS (S : List SO) (n : Int) : List SO := S.filter fun x => !big n x
def bgS (S : List SO) (n : Int) : List SO := S.filter (big n)
theorem fil_two (S : List SO) (n : Int) : ((filF S n).1 ≠ 0 ∧ filS S n = [] ∧ filP S n = []) ∨ (filF S n = (0, 0) ∧ (0 ≤ n ∧ n ≤ 1000) ∧ ValS S ∧ filS S n = smS S n ∧ filP S n = dgs (bgS S n)) := by
  by_cases h : (filF S n).1 ≠ 0
  · exact .inl ⟨h, by unfold filS; rw [if_pos h], by unfold filP; rw [if_pos h]⟩
  · have hS : filS S n = smS S n := by unfold filS smS; rw [if_neg h]
    have hP : filP S n = dgs (bgS S n) := by unfold filP bgS; rw [if_neg h]
    have h0 : (filF S n).1 = 0 := by omega
    refine .inr ?_
    unfold filF at h0 ⊢
    rcases stF_or S with ⟨hs, hv⟩ | hs
    · rw [if_neg (by rw [hs]; simp)] at h0 ⊢
      by_cases hn : n < 0 ∨ 1000 < n
      · rw [if_pos hn] at h0; cases h0
      · rw [if_neg hn]; exact ⟨rfl, by omega, hv, hS, hP⟩
    · rw [if_pos hs] at h0; exact absurd h0 hs
theorem fil_of {S : List SO} {n : Int} (hv : ValS S) (hn : 0 ≤ n ∧ n ≤ 1000) : filF S n = (0, 0) ∧ filS S n = smS S n ∧ filP S n = dgs (bgS S n) := by
  have hf : filF S n = (0, 0) := by unfold filF; rw [stF_of hv, if_neg (by simp), if_neg (by omega)]
  exact ⟨hf, by unfold filS; rw [hf]; rfl, by unfold filP; rw [hf]; rfl⟩
theorem fl_val {S : List SO} (hv : ValS S) (f : SO → Bool) : ValS (S.filter f) := by
  have hs : List.Sublist (S.filter f) S := List.filter_sublist
  exact ⟨Nat.le_trans hs.length_le hv.len, fun x hx => hv.ok x (hs.subset hx), fun x hx => hv.dg x (hs.subset hx), List.Pairwise.sublist (List.Sublist.map _ hs) hv.sort⟩
theorem sm_val {S : List SO} (hv : ValS S) (n : Int) : ValS (smS S n) := fl_val hv _
theorem sm_dgs {S : List SO} {n : Int} {d : Int} (h : d ∈ dgs (smS S n)) : d ∈ dgs S := by
  obtain ⟨x, hx, rfl⟩ := List.mem_map.1 h
  exact List.mem_map.2 ⟨x, (List.mem_filter.1 hx).1, rfl⟩
theorem sm_rch {S : List SO} {n : Int} {R : List Int} {d : Int} (h : Rch (smS S n) R d) : Rch S R d := by
  induction h with
  | root h1 h2 => exact .root h1 (sm_dgs h2)
  | step h1 h2 h3 h4 ih => exact .step (List.mem_filter.1 h1).1 ih h3 (sm_dgs h4)
theorem big_no {S : List SO} (hv : ValS S) {n : Int} {x : SO} (hx : x ∈ S) {e : Int} (he : e ∈ x.ob.ln) : x ∈ smS S n := by
  refine List.mem_filter.2 ⟨hx, ?_⟩
  have hk : x.ob.kd ≠ 1 := fun h => by rw [(hv.ok x hx).blob h] at he; cases he
  unfold big; rw [decide_eq_false hk]; rfl
theorem rch_sm {S : List SO} (hv : ValS S) {n : Int} {R : List Int} {d : Int} (h : Rch S R d) : d ∈ dgs (smS S n) → Rch (smS S n) R d := by
  induction h with
  | root h1 h2 => exact fun hd => .root h1 hd
  | step h1 h2 h3 h4 ih => exact fun hd => .step (big_no hv h1 h3) (ih (List.mem_map.2 ⟨_, big_no hv h1 h3, rfl⟩)) h3 hd
theorem ke_sm {S : List SO} (hv : ValS S) (n : Int) (R : List Int) : keS (smS S n) R = smS (keS S R) n := by
  rw [(ke_is (smS S n) R).1, (ke_is S R).1]
  unfold smS
  rw [List.filter_filter, List.filter_filter]
  refine List.filter_congr fun x hx => ?_
  have key : big n x = false → decide (x.dg ∈ keysM (reachM (smS S n) R)) = decide (x.dg ∈ keysM (reachM S R)) := by
    intro hb
    have hxs : x ∈ smS S n := List.mem_filter.2 ⟨hx, by rw [hb]; rfl⟩
    rw [decide_eq_decide, (reach_set R (sm_val hv n)).2, (reach_set R hv).2]
    exact ⟨sm_rch, fun h => rch_sm hv h (List.mem_map.2 ⟨x, hxs, rfl⟩)⟩
  cases hb : big n x with
  | true => simp
  | false =>
    have hk := key hb
    unfold smS at hk
    rw [hk]; simp
theorem bg_sub {S : List SO} {n : Int} {R : List Int} : ∀ d ∈ dgs (bgS (keS S R) n), d ∈ dgs (bgS S n) := by
  intro d hd
  obtain ⟨x, hx, rfl⟩ := List.mem_map.1 hd
  obtain ⟨h1, h2⟩ := List.mem_filter.1 hx
  rw [(ke_is S R).1] at h1
  exact List.mem_map.2 ⟨x, List.mem_filter.2 ⟨(List.mem_filter.1 h1).1, h2⟩, rfl⟩
theorem col_of {S Z : List SO} {l : List Rf} {L : List Le} {t : Int} (h : colF S l L t = (0, 0)) (hv : ValS S) (hz : ValS Z) : colF Z l L t = (0, 0) ∧ colS Z l L t = keS Z (held l L t) ∧ colD Z l L t = dgs (goS Z (held l L t)) := by
  have hf : colF Z l L t = (0, 0) := by
    unfold colF at h ⊢
    rw [stF_of hv] at h
    rw [stF_of hz]; exact h
  refine ⟨hf, ?_, ?_⟩
  · unfold colS; rw [hf, if_neg (by simp)]; rfl
  · unfold colD; rw [hf, if_neg (by simp)]; rfl
theorem top_all {S : List SO} {l : List Rf} {L : List Le} {t n : Int} (h : colF S l L t = (0, 0)) (hv : ValS S) (hn : 0 ≤ n ∧ n ≤ 1000) :
    colF (smS S n) l L t = (0, 0) ∧ colS (smS S n) l L t = smS (keS S (held l L t)) n ∧ filF (keS S (held l L t)) n = (0, 0) ∧ filS (keS S (held l L t)) n = smS (keS S (held l L t)) n ∧ filP (keS S (held l L t)) n = dgs (bgS (keS S (held l L t)) n) := by
  obtain ⟨a1, a2, _⟩ := col_of h hv (sm_val hv n)
  obtain ⟨b1, b2, b3⟩ := fil_of (ke_val hv (held l L t)) hn
  exact ⟨a1, by rw [a2, ke_sm hv], b1, b2, b3⟩

theorem lawTC_meets : Meets Tryd.prog 3 (Spec.pure lawTCG) := by
 refine meets_fun (E_ml.at_ 110) Tryd.func3 rfl rfl rfl ?_
 intro args p r hg hp
 unfold lawTCG at hg
 split at hg
 ·rename_i xs zs ys t n
  simp only [Option.some.injEq, Prod.mk.injEq] at hg
  obtain ⟨rfl, rfl⟩ := hg
  obtain ⟨he, hl, hsm, he2, hl2, hsm2, he3, hl3⟩ := hp
  generalize dO xs = S at *
  generalize dR zs = l at *
  generalize dW ys = L at *
  subst he he2 he3
  have hT : (E_ml).X = T := rfl
  have hx0 := And.intro @rect_eO (And.intro @dI_rows (And.intro @dU_rows (And.intro @dO_rows (And.intro @dB_rows (And.intro @dec_t (And.intro @dec_f (And.intro @rect_eR (And.intro @rect_eW (And.intro @dR_rows (And.intro @dW_rows @Tryd.results3))))))))))
  have hx := hx0
  refine ⟨by rfl, ?_⟩
  intro F W0 hnp hmk
  refine vc_seq_k fun N1 h1 => ?_
  refine u_reg ?_
  try refine lg_mk ?_
  refine u_bx ?_
  refine u_bx ?_
  refine u_mv ?_
  refine lg_nil ?_
  refine h1 _ ?_; clear h1; try clear N1
  refine vc_seq_k fun N2 h2 => ?_
  refine u_reg ?_
  try refine lg_mk ?_
  have hc := call_rule (E := (E_ml.at_ 110)) (f := 4) (sp := Spec.pure mlG) rfl
  have hs := @mlG.eq_1
  refine u_hp ?_
  refine u_mv ?_
  refine u_ex ?_
  refine u_ex ?_
  refine u_ex ?_
  refine u_al ?_
  refine u_st ?_
  refine u_mv ?_
  refine u_mv ?_
  refine lg_nil ?_
  refine h2 _ ?_; clear h2; try clear N2
  refine vc_seq_k fun N3 h3 => ?_
  refine vc_seq_k fun N4 h4 => ?_
  refine u_reg ?_
  try refine lg_mk ?_
  refine u_mv ?_
  refine u_un ?_
  refine lg_nil ?_
  refine h4 _ ?_; clear h4; try clear N4
  refine u_cond (fun hb5 => ?_) (fun hb5 => ?_)
  ·first | omega | exact absurd trivial hb5 | contradiction | (simp_all; done)
  ·refine vc_skip ?_
   try simp only [k_rules]
   refine h3 _ ?_; clear h3; try clear N3
   refine vc_seq_k fun N6 h6 => ?_
   rcases col_or S l L t with ⟨p1, p2, p3⟩ | ⟨p1, hv, hl30, hL20, p2, p3⟩ <;> rcases fil_two S n with ⟨u1, u2, u3⟩ | ⟨u1, hn, hv', u2, u3⟩
   ·have p5 : ((colF S l L t).1 = 0) = False := eq_false p1
    have u5 : ((filF S n).1 = 0) = False := eq_false u1
    have hx0 := And.intro @p2 (And.intro @p3 (And.intro @p5 (And.intro @u2 (And.intro @u3 (And.intro @u5 (hx0))))))
    have hx := hx0
    refine u_reg ?_
    try refine lg_mk ?_
    refine u_ld ?_
    refine u_ld ?_
    refine u_mv ?_
    refine u_mv ?_
    have hc := call_rule (E := (E_ml.at_ 110)) (f := 5) (sp := Spec.pure colG) rfl
    have hs := @colG.eq_1
    refine u_hp (hq := by (first | ((repeat' apply And.intro) <;> first | rfl | trivial | omega | exact hsm | exact hsm2 | exact hks | exact hss) | exact sd_)) ?_
    refine u_mv ?_
    refine u_ex ?_
    refine u_ex ?_
    refine u_ex ?_
    refine u_al ?_
    refine u_al ?_
    refine u_st ?_
    refine u_mv ?_
    refine u_st ?_
    refine lg_nil ?_
    refine h6 _ ?_; clear h6; try clear N6
    refine vc_seq_k fun N7 h7 => ?_
    refine u_reg ?_
    try refine lg_mk ?_
    refine u_ld ?_
    refine u_mv ?_
    have hc := call_rule (E := (E_ml.at_ 110)) (f := 6) (sp := Spec.pure filG) rfl
    have hs := @filG.eq_1
    refine u_hp (hq := by (first | ((repeat' apply And.intro) <;> first | rfl | trivial | omega | exact hsm | exact hsm2 | exact hks | exact hss) | exact sd_)) ?_
    refine u_mv ?_
    refine u_ex ?_
    refine u_ex ?_
    refine u_ex ?_
    refine u_al ?_
    refine u_al ?_
    refine u_st ?_
    refine u_mv ?_
    refine u_st ?_
    refine lg_nil ?_
    refine h7 _ ?_; clear h7; try clear N7
    refine vc_seq_k fun N8 h8 => ?_
    refine vc_seq_k fun N9 h9 => ?_
    refine u_reg ?_
    try refine lg_mk ?_
    refine u_pt ?_
    refine u_ld ?_
    refine u_bn ?_
    refine u_mv ?_
    refine g_pt ?_
    refine g_ld ?_
    refine g_bn ?_
    refine u_pk ?_
    refine lg_nil ?_
    refine h9 _ ?_; clear h9; try clear N9
    refine u_cond (fun hb10 => ?_) (fun hb10 => ?_)
    ·refine vc_seq_k fun N11 h11 => ?_
     refine u_reg ?_
     try refine lg_mk ?_
     refine u_pt ?_
     refine u_ld ?_
     refine u_bn ?_
     refine u_mv ?_
     refine g_pt ?_
     refine g_ld ?_
     refine g_ln ?_
     refine g_bn ?_
     refine u_pk ?_
     refine u_mv ?_
     refine lg_nil ?_
     refine h11 _ ?_; clear h11; try clear N11
     refine vc_ret ?_
     try simp only [k_rules]
     refine fin2_ ?_
     (repeat' apply And.intro) <;> (first | (first | rfl | (simp; done) | (simp [*]; done) | (left; rfl)) | exact cl_)
    ·first | omega | exact absurd trivial hb10 | contradiction | (simp_all; done)
   ·have p5 : ((colF S l L t).1 = 0) = False := eq_false p1
    have hx0 := And.intro @p2 (And.intro @p3 (And.intro @p5 (And.intro @u1 (And.intro @u2 (And.intro @u3 (hx0))))))
    have hx := hx0
    refine u_reg ?_
    try refine lg_mk ?_
    refine u_ld ?_
    refine u_ld ?_
    refine u_mv ?_
    refine u_mv ?_
    have hc := call_rule (E := (E_ml.at_ 110)) (f := 5) (sp := Spec.pure colG) rfl
    have hs := @colG.eq_1
    refine u_hp (hq := by (first | ((repeat' apply And.intro) <;> first | rfl | trivial | omega | exact hsm | exact hsm2 | exact hks | exact hss) | exact sd_)) ?_
    refine u_mv ?_
    refine u_ex ?_
    refine u_ex ?_
    refine u_ex ?_
    refine u_al ?_
    refine u_al ?_
    refine u_st ?_
    refine u_mv ?_
    refine u_st ?_
    refine lg_nil ?_
    refine h6 _ ?_; clear h6; try clear N6
    refine vc_seq_k fun N12 h12 => ?_
    refine u_reg ?_
    try refine lg_mk ?_
    refine u_ld ?_
    refine u_mv ?_
    have hc := call_rule (E := (E_ml.at_ 110)) (f := 6) (sp := Spec.pure filG) rfl
    have hs := @filG.eq_1
    refine u_hp (hq := by (first | ((repeat' apply And.intro) <;> first | rfl | trivial | omega | exact hsm | exact hsm2 | exact hks | exact hss) | exact sd_)) ?_
    refine u_mv ?_
    refine u_ex ?_
    refine u_ex ?_
    refine u_ex ?_
    refine u_al ?_
    refine u_al ?_
    refine u_st ?_
    refine u_mv ?_
    refine u_st ?_
    refine lg_nil ?_
    refine h12 _ ?_; clear h12; try clear N12
    refine vc_seq_k fun N13 h13 => ?_
    refine vc_seq_k fun N14 h14 => ?_
    refine u_reg ?_
    try refine lg_mk ?_
    refine u_pt ?_
    refine u_ld ?_
    refine u_bn ?_
    refine u_mv ?_
    refine g_pt ?_
    refine g_ld ?_
    refine g_bn ?_
    refine u_pk ?_
    refine lg_nil ?_
    refine h14 _ ?_; clear h14; try clear N14
    refine u_cond (fun hb15 => ?_) (fun hb15 => ?_)
    ·refine vc_seq_k fun N16 h16 => ?_
     refine u_reg ?_
     try refine lg_mk ?_
     refine u_pt ?_
     refine u_ld ?_
     refine u_bn ?_
     refine u_mv ?_
     refine g_pt ?_
     refine g_ld ?_
     refine g_ln ?_
     refine g_bn ?_
     refine u_pk ?_
     refine u_mv ?_
     refine lg_nil ?_
     refine h16 _ ?_; clear h16; try clear N16
     refine vc_ret ?_
     try simp only [k_rules]
     refine fin2_ ?_
     (repeat' apply And.intro) <;> (first | (first | rfl | (simp; done) | (simp [*]; done) | (left; rfl)) | exact cl_)
    ·first | omega | exact absurd trivial hb15 | contradiction | (simp_all; done)
   ·have u5 : ((filF S n).1 = 0) = False := eq_false u1
    have hx0 := And.intro @p1 (And.intro @p2 (And.intro @p3 (And.intro @u2 (And.intro @u3 (And.intro @u5 (hx0))))))
    have hx := hx0
    refine u_reg ?_
    try refine lg_mk ?_
    refine u_ld ?_
    refine u_ld ?_
    refine u_mv ?_
    refine u_mv ?_
    have hc := call_rule (E := (E_ml.at_ 110)) (f := 5) (sp := Spec.pure colG) rfl
    have hs := @colG.eq_1
    refine u_hp (hq := by (first | ((repeat' apply And.intro) <;> first | rfl | trivial | omega | exact hsm | exact hsm2 | exact hks | exact hss) | exact sd_)) ?_
    refine u_mv ?_
    refine u_ex ?_
    refine u_ex ?_
    refine u_ex ?_
    refine u_al ?_
    refine u_al ?_
    refine u_st ?_
    refine u_mv ?_
    refine u_st ?_
    refine lg_nil ?_
    refine h6 _ ?_; clear h6; try clear N6
    refine vc_seq_k fun N17 h17 => ?_
    refine u_reg ?_
    try refine lg_mk ?_
    refine u_ld ?_
    refine u_mv ?_
    have hc := call_rule (E := (E_ml.at_ 110)) (f := 6) (sp := Spec.pure filG) rfl
    have hs := @filG.eq_1
    refine u_hp (hq := by (first | ((repeat' apply And.intro) <;> first | rfl | trivial | omega | exact hsm | exact hsm2 | exact hks | exact hss) | exact sd_)) ?_
    refine u_mv ?_
    refine u_ex ?_
    refine u_ex ?_
    refine u_ex ?_
    refine u_al ?_
    refine u_al ?_
    refine u_st ?_
    refine u_mv ?_
    refine u_st ?_
    refine lg_nil ?_
    refine h17 _ ?_; clear h17; try clear N17
    refine vc_seq_k fun N18 h18 => ?_
    refine vc_seq_k fun N19 h19 => ?_
    refine u_reg ?_
    try refine lg_mk ?_
    refine u_pt ?_
    refine u_ld ?_
    refine u_bn ?_
    refine u_mv ?_
    refine g_pt ?_
    refine g_ld ?_
    refine g_bn ?_
    refine u_pk ?_
    refine lg_nil ?_
    refine h19 _ ?_; clear h19; try clear N19
    refine u_cond (fun hb20 => ?_) (fun hb20 => ?_)
    ·refine vc_seq_k fun N21 h21 => ?_
     refine u_reg ?_
     try refine lg_mk ?_
     refine u_pt ?_
     refine u_ld ?_
     refine u_bn ?_
     refine u_mv ?_
     refine g_pt ?_
     refine g_ld ?_
     refine g_ln ?_
     refine g_bn ?_
     refine u_pk ?_
     refine u_mv ?_
     refine lg_nil ?_
     refine h21 _ ?_; clear h21; try clear N21
     refine vc_ret ?_
     try simp only [k_rules]
     refine fin2_ ?_
     (repeat' apply And.intro) <;> (first | (first | rfl | (simp; done) | (simp [*]; done) | (left; rfl)) | exact cl_)
    ·first | omega | exact absurd trivial hb20 | contradiction | (simp_all; done)
   ·obtain ⟨a1, a2, b1, b2, b3⟩ := top_all p1 hv hn
    have hlen := hv.len
    have hkl := ke_len S (held l L t)
    have hsl : (smS S n).length ≤ S.length := List.length_filter_le ..
    have hml : (smS (keS S (held l L t)) n).length ≤ (keS S (held l L t)).length := List.length_filter_le ..
    have hbl : (bgS (keS S (held l L t)) n).length ≤ (keS S (held l L t)).length := List.length_filter_le ..
    have hdl := dgs_len (bgS (keS S (held l L t)) n)
    have hbl2 : (bgS S n).length ≤ S.length := List.length_filter_le ..
    have hdl2 := dgs_len (bgS S n)
    have hkv := ke_val hv (held l L t)
    have hks := small_of hkv
    have hss := small_of (sm_val hv n)
    have hms := small_of (sm_val hkv n)
    have hbs := @bg_sub S n (held l L t)
    have hx0 := And.intro @p1 (And.intro @p2 (And.intro @p3 (And.intro @u1 (And.intro @u2 (And.intro @u3 (And.intro @a1 (And.intro @a2 (And.intro @b1 (And.intro @b2 (And.intro @b3 (hx0)))))))))))
    have hx := hx0
    refine u_reg ?_
    try refine lg_mk ?_
    refine u_ld ?_
    refine u_ld ?_
    refine u_mv ?_
    refine u_mv ?_
    have hc := call_rule (E := (E_ml.at_ 110)) (f := 5) (sp := Spec.pure colG) rfl
    have hs := @colG.eq_1
    refine u_hp (hq := by (first | ((repeat' apply And.intro) <;> first | rfl | trivial | omega | exact hsm | exact hsm2 | exact hks | exact hss) | exact sd_)) ?_
    refine u_mv ?_
    refine u_ex ?_
    refine u_ex ?_
    refine u_ex ?_
    refine u_al ?_
    refine u_al ?_
    refine u_st ?_
    refine u_mv ?_
    refine u_st ?_
    refine lg_nil ?_
    refine h6 _ ?_; clear h6; try clear N6
    refine vc_seq_k fun N22 h22 => ?_
    refine u_reg ?_
    try refine lg_mk ?_
    refine u_ld ?_
    refine u_mv ?_
    have hc := call_rule (E := (E_ml.at_ 110)) (f := 6) (sp := Spec.pure filG) rfl
    have hs := @filG.eq_1
    refine u_hp (hq := by (first | ((repeat' apply And.intro) <;> first | rfl | trivial | omega | exact hsm | exact hsm2 | exact hks | exact hss) | exact sd_)) ?_
    refine u_mv ?_
    refine u_ex ?_
    refine u_ex ?_
    refine u_ex ?_
    refine u_al ?_
    refine u_al ?_
    refine u_st ?_
    refine u_mv ?_
    refine u_st ?_
    refine lg_nil ?_
    refine h22 _ ?_; clear h22; try clear N22
    refine vc_seq_k fun N23 h23 => ?_
    refine vc_seq_k fun N24 h24 => ?_
    refine u_reg ?_
    try refine lg_mk ?_
    refine u_pt ?_
    refine u_ld ?_
    refine u_bn ?_
    refine u_mv ?_
    refine g_pt ?_
    refine g_ld ?_
    refine g_bn ?_
    refine u_pk ?_
    refine lg_nil ?_
    refine h24 _ ?_; clear h24; try clear N24
    refine u_cond (fun hb25 => ?_) (fun hb25 => ?_)
    ·first | omega | exact absurd trivial hb25 | contradiction | (simp_all; done)
    ·refine vc_skip ?_
     try simp only [k_rules]
     refine h23 _ ?_; clear h23; try clear N23
     refine vc_seq_k fun N26 h26 => ?_
     refine u_reg ?_
     try refine lg_mk ?_
     refine u_ld ?_
     refine u_mv ?_
     have hc := call_rule (E := (E_ml.at_ 110)) (f := 6) (sp := Spec.pure filG) rfl
     have hs := @filG.eq_1
     refine u_hp (hq := by (first | ((repeat' apply And.intro) <;> first | rfl | trivial | omega | exact hsm | exact hsm2 | exact hks | exact hss) | exact sd_)) ?_
     refine u_mv ?_
     refine u_ex ?_
     refine u_ex ?_
     refine u_ex ?_
     refine u_al ?_
     refine u_al ?_
     refine u_st ?_
     refine u_mv ?_
     refine u_st ?_
     refine lg_nil ?_
     refine h26 _ ?_; clear h26; try clear N26
     refine vc_seq_k fun N27 h27 => ?_
     refine u_reg ?_
     try refine lg_mk ?_
     refine u_ld ?_
     refine u_ld ?_
     refine u_mv ?_
     refine u_mv ?_
     have hc := call_rule (E := (E_ml.at_ 110)) (f := 5) (sp := Spec.pure colG) rfl
     have hs := @colG.eq_1
     refine u_hp (hq := by (first | ((repeat' apply And.intro) <;> first | rfl | trivial | omega | exact hsm | exact hsm2 | exact hks | exact hss) | exact sd_)) ?_
     refine u_mv ?_
     refine u_ex ?_
     refine u_ex ?_
     refine u_ex ?_
     refine u_al ?_
     refine u_al ?_
     refine u_st ?_
     refine u_mv ?_
     refine u_st ?_
     refine lg_nil ?_
     refine h27 _ ?_; clear h27; try clear N27
     refine vc_seq_k fun N28 h28 => ?_
     refine vc_seq_k fun N29 h29 => ?_
     refine u_reg ?_
     try refine lg_mk ?_
     refine u_pt ?_
     refine u_ld ?_
     refine u_bn ?_
     refine u_mv ?_
     refine g_pt ?_
     refine g_ld ?_
     refine g_bn ?_
     refine u_pk ?_
     refine u_mv ?_
     refine g_ld ?_
     refine g_ld ?_
     have hc := call_rule (E := (E_ml.at_ 110)) (f := 7) (sp := Spec.pure storesG) rfl
     have hs := @storesG.eq_1
     refine s_cp (hq := by (intro hg; (try simp only [b_rules, bif_and, bif_or] at hg); (first | ((repeat' apply And.intro) <;> first | rfl | omega | exact hms) | exact sd_))) ?_
     refine g_un ?_
     refine u_pk ?_
     refine lg_nil ?_
     refine h29 _ ?_; clear h29; try clear N29
     refine u_cond (fun hb30 => ?_) (fun hb30 => ?_)
     ·first | omega | exact absurd trivial hb30 | contradiction | (simp_all; done)
     ·refine vc_skip ?_
      try simp only [k_rules]
      refine h28 _ ?_; clear h28; try clear N28
      refine vc_seq_k fun N31 h31 => ?_
      refine vc_seq_k fun N32 h32 => ?_
      refine u_reg ?_
      try refine lg_mk ?_
      refine u_mv ?_
      refine lg_nil ?_
      refine h32 _ ?_; clear h32; try clear N32
      refine vc_block ?_
      refine vc_loop_mk (σ := Nat) (fun s => (fun i => i ≤ (dgs (bgS (keS S (held l L t)) n)).length) s)
       (fun s => (fun i => [(2, .d (.sl (rows eW L))), (3, .d (.int .i64 t)), (4, .d (.int .i64 n)), (18, .d (.sl (rows eI (dgs (bgS S n))))), (21, .d (.sl (rows eI (dgs (bgS (keS S (held l L t)) n))))), (26, .d (.int .i64 (i : Nat)))]) s)
       (fun s => (fun i => []) s) (fun s => (fun i => (dgs (bgS (keS S (held l L t)) n)).length - i) s) hnp 0 ?_ [] ?_ ?_
      ·dsimp only
       omega
      ·dsimp only
       refine ⟨by rfl, ?_, ?_⟩
       ·refine fin_ ?_
        exact cl_
       ·refine fin_ ?_
        exact cl_
      ·rintro i hinv N33 h33
       dsimp only at hinv ⊢
       have i1 := hinv
       refine vc_seq_k fun N34 h34 => ?_
       refine vc_seq_k fun N35 h35 => ?_
       refine u_reg ?_
       try refine lg_mk ?_
       refine u_mv ?_
       refine u_mv ?_
       refine u_ln ?_
       refine u_bn ?_
       refine lg_nil ?_
       refine h35 _ ?_; clear h35; try clear N35
       refine u_cond (fun hb36 => ?_) (fun hb36 => ?_)
       ·obtain ⟨d, hde⟩ := getE (l := dgs (bgS (keS S (held l L t)) n)) (i := i) (by omega)
        have hda : decide (d ∈ dgs (bgS S n)) = true := decide_eq_true (hbs d (mem_at hde))
        refine vc_skip ?_
        try simp only [k_rules]
        refine h34 _ ?_; clear h34; try clear N34
        refine vc_seq_k fun N37 h37 => ?_
        refine vc_block ?_
        refine vc_seq_k fun N38 h38 => ?_
        have hx := And.intro @hde (And.intro @eI.eq_1 (And.intro @hda hx0))
        refine u_reg ?_
        try refine lg_mk ?_
        refine u_mv ?_
        refine u_mv ?_
        refine u_mv ?_
        refine u_pt ?_
        refine u_ld ?_
        have hc := call_rule (E := (E_ml.at_ 110)) (f := 8) (sp := Spec.pure hasG) rfl
        have hs := @hasG.eq_1
        refine u_cp (hq := by (first | (omega) | exact sd_)) ?_
        refine u_un ?_
        refine lg_nil ?_
        have hx := hx0
        refine h38 _ ?_; clear h38; try clear N38
        refine u_cond (fun hb39 => ?_) (fun hb39 => ?_)
        ·first | omega | exact absurd trivial hb39 | contradiction | (simp_all; done)
        ·refine vc_skip ?_
         try simp only [k_rules]
         refine h37 _ ?_; clear h37; try clear N37
         refine u_reg ?_
         try refine lg_mk ?_
         refine u_mv ?_
         refine u_bn ?_
         refine u_mv ?_
         refine lg_nil ?_
         refine h33 _ ⟨i + 1, ?_, ?_, [], ?_⟩
         ·dsimp only
          omega
         ·dsimp only
          omega
         ·dsimp only
          refine ⟨by rfl, ?_, ?_⟩
          ·refine fin_ ?_
           exact cl_
          ·refine fin_ ?_
           exact cl_
       ·refine vc_exit ?_
        simp only [k_rules, Nat.reduceEqDiff, reduceIte, eq_self]
        refine h31 _ ?_; clear h31; try clear N31
        refine vc_seq_k fun N40 h40 => ?_
        refine u_reg ?_
        try refine lg_mk ?_
        refine u_mv ?_
        refine lg_nil ?_
        refine h40 _ ?_; clear h40; try clear N40
        refine vc_ret ?_
        try simp only [k_rules]
        refine fin2_ ?_
        (repeat' apply And.intro) <;> (first | (first | rfl | (simp; done) | (simp [*]; done) | (left; rfl)) | exact cl_)
 ·cases hg
end Go.Proofs.YtcjipciiljjfhaaDoor
