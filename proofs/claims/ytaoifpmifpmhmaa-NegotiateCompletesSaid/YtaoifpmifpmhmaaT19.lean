/- Walks, printed by wip/gen/walk.py. -/
import Derived.Test.YtaoifpmifpmhmaaT18
import Derived.Test.YtaoifpmifpmhmaaV4
set_option linter.all false
set_option maxRecDepth 100000
set_option maxHeartbeats 4000000
namespace Go.Proofs.Ytaoifpmifpmhmaa
open Go Go.Vc Go.RowKit
theorem bnd_len {l : List Cm} {ns : List Int} : (bndR l ns).length ≤ ns.length := List.length_filter_le _ _
theorem exR_len (l : List Cm) (ns : List Int) : (exR l ns).length = ns.length := by simp [exR]
theorem exR_get {l : List Cm} {ns : List Int} {i : Nat} (h : i < ns.length) : (exR l ns)[i]? = some (exC l ns i) := by simp [exR, List.getElem?_range h]
theorem small_ex {l : List Cm} {ns : List Int} (h : Sel l ns) : smallC (exR l ns) := by
  intro c hc
  obtain ⟨i, hi, rfl⟩ := List.mem_map.1 hc
  have hi := List.mem_range.1 hi
  obtain ⟨x, hx⟩ := getE hi
  have hr := h.inr.at hx
  obtain ⟨c, hce⟩ := getE (l := l) (i := x.toNat) (by omega)
  rw [exC_at hx hce]
  have := lst_len i (fun k => decide (ns.getD k 0 ∈ c.par))
  have h60 := h.val.len; have hn := h.len
  have := (h.val.nums hce).2.2.2
  exact ⟨by simp only; omega, by simp only; omega⟩
def lawSelG : List AV → Option (Prop × AV)
  | [.d (.sl xs), .d (.sl ns), .d (.int .i64 b)] => some (xs = rows eC (dC xs) ∧ ns = rows eI (dI ns) ∧ (dC xs).length ≤ 9223372036854775807 ∧ smallC (dC xs) ∧ (dI ns).length ≤ 9223372036854775807 ∧ inI64 b, .d (.bool true))
  | _ => none

theorem lawSel_meets : Meets Try.prog 8 (Spec.pure lawSelG) := by
 refine meets_fun (E_commits.at_ 111) Try.func8 rfl rfl rfl ?_
 intro args p r hg hp
 unfold lawSelG at hg
 split at hg
 ·rename_i xs ys b
  simp only [Option.some.injEq, Prod.mk.injEq] at hg
  obtain ⟨rfl, rfl⟩ := hg
  obtain ⟨he, hf, hl, hsm, hn, hb⟩ := hp
  generalize dC xs = l at *
  generalize dI ys = ns at *
  subst he hf
  have hT : (E_commits).X = T := rfl
  have hx0 := And.intro @rect_eC (And.intro @dC_rows (And.intro @dI_rows (And.intro @dec_t (And.intro @dec_f @Try.results8))))
  have hx := hx0
  refine ⟨by rfl, ?_⟩
  intro F W0 hnp hmk
  refine vc_seq_k fun N1 h1 => ?_
  refine u_reg ?_
  try refine lg_mk ?_
  refine u_mv ?_
  refine lg_nil ?_
  refine h1 _ ?_; clear h1; try clear N1
  refine vc_seq_k fun N2 h2 => ?_
  refine vc_seq_k fun N3 h3 => ?_
  refine u_reg ?_
  try refine lg_mk ?_
  have hc := call_rule (E := (E_commits.at_ 111)) (f := 22) (sp := Spec.pure exampleG) rfl
  have hs := @exampleG.eq_1
  refine u_cp ?_
  refine u_un ?_
  refine lg_nil ?_
  refine h3 _ ?_; clear h3; try clear N3
  refine u_cond (fun hb4 => ?_) (fun hb4 => ?_)
  ·first | omega | exact absurd trivial hb4 | contradiction | (simp_all; done)
  ·refine vc_skip ?_
   try simp only [k_rules]
   refine h2 _ ?_; clear h2; try clear N2
   refine vc_seq_k fun N5 h5 => ?_
   by_cases h0 : (selF l ns).1 = 0
   ·have hz := selF_zero h0
    have hsel := sel_of h0
    have hl60 := hsel.val.len
    have hnl := hsel.len
    have hbl := bnd_len (l := l) (ns := ns)
    have hxl := exR_len l ns
    have hxs := small_ex hsel
    have hd1 := True.intro
    have hd2 := True.intro
    have hq4 : (exR l ns).length ≤ 9223372036854775807 ∧ (exR l ns).length ≤ 9223372036854775807 ∧ smallC (exR l ns) ∧ smallC (exR l ns) := ⟨by omega, by omega, hxs, hxs⟩
    have hx := And.intro @hz (And.intro @h0 hx0)
    refine u_reg ?_
    try refine lg_mk ?_
    refine u_mv ?_
    refine u_mv ?_
    have hc := call_rule (E := (E_commits.at_ 111)) (f := 27) (sp := Spec.pure bndG) rfl
    have hs := @bndG.eq_1
    refine u_hp (hq := by (first | (exact ⟨hl, ‹smallC l›, by omega⟩) | (first | trivial | omega | assumption | (unfold inI64; omega) | ((repeat' apply And.intro) <;> first | rfl | trivial | omega | assumption | (unfold inI64; omega)) | (simp; done) | (simp; omega)))) ?_
    refine u_mv ?_
    refine u_ex ?_
    refine u_ex ?_
    refine u_al ?_
    refine u_mv ?_
    refine u_st ?_
    refine lg_nil ?_
    have hx := hx0
    refine h5 _ ?_; clear h5; try clear N5
    refine vc_seq_k fun N6 h6 => ?_
    have hx := And.intro @hd1 (And.intro @hd2 hx0)
    refine u_reg ?_
    try refine lg_mk ?_
    refine u_mv ?_
    refine u_mv ?_
    refine u_mv ?_
    have hc := call_rule (E := (E_commits.at_ 111)) (f := 28) (sp := Spec.pure delG) rfl
    have hs := @delG.eq_1
    refine u_hp (hq := by (first | (exact ⟨hl, ‹smallC l›, by omega, by assumption⟩) | (first | trivial | omega | assumption | (unfold inI64; omega) | ((repeat' apply And.intro) <;> first | rfl | trivial | omega | assumption | (unfold inI64; omega)) | (simp; done) | (simp; omega)))) ?_
    refine u_mv ?_
    refine u_ex ?_
    refine u_ex ?_
    refine u_al ?_
    refine u_mv ?_
    refine u_st ?_
    refine lg_nil ?_
    have hx := hx0
    refine h6 _ ?_; clear h6; try clear N6
    refine vc_seq_k fun N7 h7 => ?_
    have hx := And.intro @hz (And.intro @h0 hx0)
    refine u_reg ?_
    try refine lg_mk ?_
    refine u_mv ?_
    refine u_mv ?_
    have hc := call_rule (E := (E_commits.at_ 111)) (f := 29) (sp := Spec.pure exG) rfl
    have hs := @exG.eq_1
    refine u_hp (hq := by (first | (exact ⟨hl, ‹smallC l›, by omega⟩) | (first | trivial | omega | assumption | (unfold inI64; omega) | ((repeat' apply And.intro) <;> first | rfl | trivial | omega | assumption | (unfold inI64; omega)) | (simp; done) | (simp; omega)))) ?_
    refine u_mv ?_
    refine u_ex ?_
    refine u_ex ?_
    refine u_al ?_
    refine u_mv ?_
    refine u_st ?_
    refine lg_nil ?_
    have hx := hx0
    refine h7 _ ?_; clear h7; try clear N7
    refine vc_seq_k fun N8 h8 => ?_
    have hx := And.intro @hz (And.intro @h0 hx0)
    refine u_reg ?_
    try refine lg_mk ?_
    refine u_mv ?_
    refine u_mv ?_
    have hc := call_rule (E := (E_commits.at_ 111)) (f := 30) (sp := Spec.pure selG) rfl
    have hs := @selG.eq_1
    refine u_cp (hq := by (first | (exact ⟨hl, ‹smallC l›, by omega⟩) | (first | trivial | omega | assumption | (unfold inI64; omega) | ((repeat' apply And.intro) <;> first | rfl | trivial | omega | assumption | (unfold inI64; omega)) | (simp; done) | (simp; omega)))) ?_
    refine u_al ?_
    refine u_st ?_
    refine lg_nil ?_
    have hx := hx0
    refine h8 _ ?_; clear h8; try clear N8
    refine vc_seq_k fun N9 h9 => ?_
    refine vc_seq_k fun N10 h10 => ?_
    refine u_reg ?_
    try refine lg_mk ?_
    refine u_pt ?_
    refine u_ld ?_
    refine u_bn ?_
    refine lg_nil ?_
    refine h10 _ ?_; clear h10; try clear N10
    refine u_cond (fun hb11 => ?_) (fun hb11 => ?_)
    ·first | omega | exact absurd trivial hb11 | contradiction | (simp_all; done)
    ·refine vc_skip ?_
     try simp only [k_rules]
     refine h9 _ ?_; clear h9; try clear N9
     refine vc_seq_k fun N12 h12 => ?_
     refine vc_seq_k fun N13 h13 => ?_
     refine u_reg ?_
     try refine lg_mk ?_
     refine u_pt ?_
     refine u_ld ?_
     refine u_bn ?_
     refine u_mv ?_
     refine g_pt ?_
     refine g_ld ?_
     refine g_bn ?_
     refine u_pk ?_
     refine u_mv ?_
     refine g_mv ?_
     refine g_mv ?_
     refine g_mv ?_
     have hc := call_rule (E := (E_commits.at_ 111)) (f := 31) (sp := Spec.pure bndOfG) rfl
     have hs := @bndOfG.eq_1
     refine t_hp (hq := by (first | (exact ⟨hsel, by omega⟩) | (first | trivial | omega | assumption | (unfold inI64; omega) | ((repeat' apply And.intro) <;> first | rfl | trivial | omega | assumption | (unfold inI64; omega)) | (simp; done) | (simp; omega)))) ?_
     have hc := call_rule (E := (E_commits.at_ 111)) (f := 17) (sp := Spec.pure intsG) rfl
     have hs := @intsG.eq_1
     refine g_cp ?_
     refine g_un ?_
     refine u_pk ?_
     refine u_mv ?_
     refine g_mv ?_
     refine g_mv ?_
     refine g_mv ?_
     have hc := call_rule (E := (E_commits.at_ 111)) (f := 33) (sp := Spec.pure exOfG) rfl
     have hs := @exOfG.eq_1
     refine t_hp (hq := by (first | (exact hsel) | (first | trivial | omega | assumption | (unfold inI64; omega) | ((repeat' apply And.intro) <;> first | rfl | trivial | omega | assumption | (unfold inI64; omega)) | (simp; done) | (simp; omega)))) ?_
     have hc := call_rule (E := (E_commits.at_ 111)) (f := 32) (sp := Spec.pure commitsG) rfl
     have hs := @commitsG.eq_1
     refine g_cp ?_
     refine g_un ?_
     refine u_pk ?_
     refine lg_nil ?_
     refine h13 _ ?_; clear h13; try clear N13
     refine u_cond (fun hb14 => ?_) (fun hb14 => ?_)
     ·first | omega | exact absurd trivial hb14 | contradiction | (simp_all; done)
     ·refine vc_skip ?_
      try simp only [k_rules]
      refine h12 _ ?_; clear h12; try clear N12
      refine vc_seq_k fun N15 h15 => ?_
      refine vc_seq_k fun N16 h16 => ?_
      refine u_reg ?_
      try refine lg_mk ?_
      refine u_mv ?_
      have hc := call_rule (E := (E_commits.at_ 111)) (f := 19) (sp := Spec.pure inG) rfl
      have hs := @inG.eq_1
      refine u_cp ?_
      refine u_un ?_
      refine lg_nil ?_
      refine h16 _ ?_; clear h16; try clear N16
      refine u_cond (fun hb17 => ?_) (fun hb17 => ?_)
      ·have hd := del_bad (d := b) h0 (by have := hb17; (try simp at this); omega)
       have hd1 := hd.1
       have hd2 := hd.2
       refine vc_seq_k fun N18 h18 => ?_
       have hx := And.intro @hd1 (And.intro @hd2 hx0)
       refine vc_regT [] (.alt 0 (.seq [1, 2, 3, 4, 5, 6, 7, 8] .nil) (.alt 1 (.seq [0, 2, 3, 4, 5, 6, 7, 8] .nil) .nil)) hmix (by kernel_rfl) ?_
       refine at_alt ?_ ?_
       ·simp only [pick_rules, list_rules]
        try refine lg_mk ?_
        refine u_ld ?_
        refine lg_nil ?_
        refine at_seq ?_
        simp only [pick_rules, list_rules]
        try refine lg_mk ?_
        have hc := call_rule (E := (E_commits.at_ 111)) (f := 25) (sp := Spec.pure faultG) rfl
        have hs := @faultG.eq_1
        refine u_cp ?_
        refine u_bn ?_
        refine u_mv ?_
        refine g_mv ?_
        refine g_ln ?_
        refine g_bn ?_
        refine u_pk ?_
        refine u_mv ?_
        refine lg_nil ?_
        refine at_nil ?_
        have hx := hx0
        refine h18 _ ?_; clear h18; try clear N18
        refine vc_ret ?_
        try simp only [k_rules]
        refine fin2_ ?_
        (repeat' apply And.intro) <;> (first | (first | rfl | (simp [*]; done) | (simp_all; done)) | (first | rfl | exact Or.inr rfl | exact Or.inl rfl | trivial | omega | assumption | (simp; done) | (simp; omega)))
       refine at_alt ?_ ?_
       ·simp only [pick_rules, list_rules]
        try refine lg_mk ?_
        have hc := call_rule (E := (E_commits.at_ 111)) (f := 25) (sp := Spec.pure faultG) rfl
        have hs := @faultG.eq_1
        refine u_cp ?_
        refine lg_nil ?_
        refine at_seq ?_
        simp only [pick_rules, list_rules]
        try refine lg_mk ?_
        refine u_ld ?_
        refine u_bn ?_
        refine u_mv ?_
        refine g_mv ?_
        refine g_ln ?_
        refine g_bn ?_
        refine u_pk ?_
        refine u_mv ?_
        refine lg_nil ?_
        refine at_nil ?_
        have hx := hx0
        refine h18 _ ?_; clear h18; try clear N18
        refine vc_ret ?_
        try simp only [k_rules]
        refine fin2_ ?_
        (repeat' apply And.intro) <;> (first | (first | rfl | (simp [*]; done) | (simp_all; done)) | (first | rfl | exact Or.inr rfl | exact Or.inl rfl | trivial | omega | assumption | (simp; done) | (simp; omega)))
       exact at_end
      ·have hb6 : 0 ≤ b ∧ b ≤ 60 := by have := hb17; (try simp at this); omega
       have hd := del_ok (d := b) h0 hb6
       have hd1 := hd.1
       have hd2 := hd.2
       have hb0 : ¬b < 0 := by omega
       have hL := lst_len l.length (stepN l b.toNat (mark ns))
       refine vc_skip ?_
       try simp only [k_rules]
       refine h15 _ ?_; clear h15; try clear N15
       refine vc_seq_k fun N19 h19 => ?_
       have hx := And.intro @hd1 (And.intro @hd2 (And.intro @hb0 hx0))
       refine u_reg ?_
       try refine lg_mk ?_
       refine u_pt ?_
       refine u_ld ?_
       refine u_bn ?_
       refine u_mv ?_
       refine g_mv ?_
       refine g_mv ?_
       refine g_mv ?_
       refine g_mv ?_
       have hc := call_rule (E := (E_commits.at_ 111)) (f := 26) (sp := Spec.pure stepsG) rfl
       have hs := @stepsG.eq_1
       refine t_hp (hq := by (first | (exact ⟨hsel.val, hsel.inr, by omega, by omega, by omega⟩) | (first | trivial | omega | assumption | (unfold inI64; omega) | ((repeat' apply And.intro) <;> first | rfl | trivial | omega | assumption | (unfold inI64; omega)) | (simp; done) | (simp; omega)))) ?_
       have hc := call_rule (E := (E_commits.at_ 111)) (f := 17) (sp := Spec.pure intsG) rfl
       have hs := @intsG.eq_1
       refine g_cp ?_
       refine u_pk ?_
       refine u_mv ?_
       refine lg_nil ?_
       have hx := hx0
       refine h19 _ ?_; clear h19; try clear N19
       refine vc_ret ?_
       try simp only [k_rules]
       refine fin2_ ?_
       (repeat' apply And.intro) <;> (first | (first | rfl | (simp [*]; done) | (simp_all; done)) | (first | rfl | exact Or.inr rfl | exact Or.inl rfl | trivial | omega | assumption | (simp; done) | (simp; omega)))
   ·have hz : True := trivial
    have hd := del_sel (d := b) h0
    have hd1 := hd.1
    have hd2 := hd.2
    have hx := And.intro @hz (And.intro @h0 hx0)
    refine u_reg ?_
    try refine lg_mk ?_
    refine u_mv ?_
    refine u_mv ?_
    have hc := call_rule (E := (E_commits.at_ 111)) (f := 27) (sp := Spec.pure bndG) rfl
    have hs := @bndG.eq_1
    refine u_hp (hq := by (first | (exact ⟨hl, ‹smallC l›, by omega⟩) | (first | trivial | omega | assumption | (unfold inI64; omega) | ((repeat' apply And.intro) <;> first | rfl | trivial | omega | assumption | (unfold inI64; omega)) | (simp; done) | (simp; omega)))) ?_
    refine u_mv ?_
    refine u_ex ?_
    refine u_ex ?_
    refine u_al ?_
    refine u_mv ?_
    refine u_st ?_
    refine lg_nil ?_
    have hx := hx0
    refine h5 _ ?_; clear h5; try clear N5
    refine vc_seq_k fun N20 h20 => ?_
    have hx := And.intro @hd1 (And.intro @hd2 hx0)
    refine u_reg ?_
    try refine lg_mk ?_
    refine u_mv ?_
    refine u_mv ?_
    refine u_mv ?_
    have hc := call_rule (E := (E_commits.at_ 111)) (f := 28) (sp := Spec.pure delG) rfl
    have hs := @delG.eq_1
    refine u_hp (hq := by (first | (exact ⟨hl, ‹smallC l›, by omega, by assumption⟩) | (first | trivial | omega | assumption | (unfold inI64; omega) | ((repeat' apply And.intro) <;> first | rfl | trivial | omega | assumption | (unfold inI64; omega)) | (simp; done) | (simp; omega)))) ?_
    refine u_mv ?_
    refine u_ex ?_
    refine u_ex ?_
    refine u_al ?_
    refine u_mv ?_
    refine u_st ?_
    refine lg_nil ?_
    have hx := hx0
    refine h20 _ ?_; clear h20; try clear N20
    refine vc_seq_k fun N21 h21 => ?_
    have hx := And.intro @hz (And.intro @h0 hx0)
    refine u_reg ?_
    try refine lg_mk ?_
    refine u_mv ?_
    refine u_mv ?_
    have hc := call_rule (E := (E_commits.at_ 111)) (f := 29) (sp := Spec.pure exG) rfl
    have hs := @exG.eq_1
    refine u_hp (hq := by (first | (exact ⟨hl, ‹smallC l›, by omega⟩) | (first | trivial | omega | assumption | (unfold inI64; omega) | ((repeat' apply And.intro) <;> first | rfl | trivial | omega | assumption | (unfold inI64; omega)) | (simp; done) | (simp; omega)))) ?_
    refine u_mv ?_
    refine u_ex ?_
    refine u_ex ?_
    refine u_al ?_
    refine u_mv ?_
    refine u_st ?_
    refine lg_nil ?_
    have hx := hx0
    refine h21 _ ?_; clear h21; try clear N21
    refine vc_seq_k fun N22 h22 => ?_
    have hx := And.intro @hz (And.intro @h0 hx0)
    refine u_reg ?_
    try refine lg_mk ?_
    refine u_mv ?_
    refine u_mv ?_
    have hc := call_rule (E := (E_commits.at_ 111)) (f := 30) (sp := Spec.pure selG) rfl
    have hs := @selG.eq_1
    refine u_cp (hq := by (first | (exact ⟨hl, ‹smallC l›, by omega⟩) | (first | trivial | omega | assumption | (unfold inI64; omega) | ((repeat' apply And.intro) <;> first | rfl | trivial | omega | assumption | (unfold inI64; omega)) | (simp; done) | (simp; omega)))) ?_
    refine u_al ?_
    refine u_st ?_
    refine lg_nil ?_
    have hx := hx0
    refine h22 _ ?_; clear h22; try clear N22
    refine vc_seq_k fun N23 h23 => ?_
    refine vc_seq_k fun N24 h24 => ?_
    refine u_reg ?_
    try refine lg_mk ?_
    refine u_pt ?_
    refine u_ld ?_
    refine u_bn ?_
    refine lg_nil ?_
    refine h24 _ ?_; clear h24; try clear N24
    refine u_cond (fun hb25 => ?_) (fun hb25 => ?_)
    ·refine vc_seq_k fun N26 h26 => ?_
     refine u_reg ?_
     try refine lg_mk ?_
     refine u_ld ?_
     refine u_ld ?_
     refine u_bn ?_
     refine u_mv ?_
     refine g_ld ?_
     refine g_ld ?_
     refine g_bn ?_
     refine u_pk ?_
     refine u_mv ?_
     refine g_ld ?_
     refine g_ld ?_
     refine g_bn ?_
     refine u_pk ?_
     refine u_mv ?_
     refine g_mv ?_
     refine g_ln ?_
     refine g_mv ?_
     refine g_ln ?_
     refine g_bn ?_
     refine g_mv ?_
     refine g_ln ?_
     refine g_bn ?_
     refine g_bn ?_
     refine u_pk ?_
     refine u_mv ?_
     refine lg_nil ?_
     refine h26 _ ?_; clear h26; try clear N26
     refine vc_ret ?_
     try simp only [k_rules]
     refine fin2_ ?_
     (repeat' apply And.intro) <;> (first | (first | rfl | (simp [*]; done) | (simp_all; done)) | (first | rfl | exact Or.inr rfl | exact Or.inl rfl | trivial | omega | assumption | (simp; done) | (simp; omega)))
    ·first | omega | exact absurd trivial hb25 | contradiction | (simp_all; done)
 ·cases hg

def E_lawSel : Env Try.prog := E_commits.add 8 (Spec.pure lawSelG) lawSel_meets (by kernel_rfl)
end Go.Proofs.Ytaoifpmifpmhmaa
