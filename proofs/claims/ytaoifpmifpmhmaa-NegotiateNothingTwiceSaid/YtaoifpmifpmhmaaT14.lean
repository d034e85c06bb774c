/- Walks, printed by wip/gen/walk.py. -/
import Derived.Test.YtaoifpmifpmhmaaT13
import Derived.Test.YtaoifpmifpmhmaaV4
set_option linter.all false
set_option maxRecDepth 100000
set_option maxHeartbeats 4000000
namespace Go.Proofs.Ytaoifpmifpmhmaa
open Go Go.Vc Go.RowKit
theorem Sel.eq {l : List Cm} {ns : List Int} (h : Sel l ns) : lst l.length (mark ns) = ns := (sorted_ext h.inc (lst_sorted _ _) fun x => by
  rw [lst_mem]
  constructor
  · intro hx
    have := h.inr x hx
    exact ⟨x.toNat, by omega, by simp only [mark]; exact decide_eq_true (by rwa [show ((x.toNat : Nat) : Int) = x by omega]), by omega⟩
  · rintro ⟨k, _, h2, rfl⟩
    simpa [mark] using h2).symm
theorem bnd_iff {l : List Cm} {ns : List Int} (h : Sel l ns) : ((bndR l ns).length = 0) ↔ lst l.length (stepN l 1 (mark ns)) = ns := by
  have hstep : ∀ k, step1 l (mark ns) k = true ↔ (mark ns k = true ∨ ∃ j, j < l.length ∧ mark ns j = true ∧ (k : Int) ∈ (l.getD j default).par) := fun k => by
    simp only [step1, part, Bool.or_eq_true, List.any_eq_true, List.mem_range, Bool.and_eq_true, decide_eq_true_eq]
  constructor
  · intro hb
    have hb' : bndR l ns = [] := List.length_eq_zero_iff.1 hb
    conv => rhs; rw [← h.eq]
    refine lst_ext fun k hk => ?_
    show step1 l (mark ns) k = mark ns k
    rw [Bool.eq_iff_iff, hstep]
    refine ⟨fun hh => ?_, .inl⟩
    rcases hh with hh | ⟨j, hj, hm, hp⟩
    · exact hh
    · have hjn : (j : Int) ∈ ns := by simpa [mark] using hm
      have := List.filter_eq_nil_iff.1 hb' j hjn
      simp only [Int.toNat_natCast, List.any_eq_true, not_exists, not_and, outB, Bool.not_eq_true', decide_eq_false_iff_not, Decidable.not_not] at this
      simpa [mark] using this k hp
  · intro he
    rw [List.length_eq_zero_iff]
    refine List.filter_eq_nil_iff.2 fun n hn => ?_
    have hr := h.inr n hn
    simp only [List.any_eq_true, not_exists, not_and, outB, Bool.not_eq_true', decide_eq_false_iff_not, Decidable.not_not]
    intro p hp
    obtain ⟨c, hc⟩ := getE (l := l) (i := n.toNat) (by omega)
    obtain ⟨kk, hkk, ek⟩ := List.getElem_of_mem hp
    have hc' : l.getD n.toNat default = c := getD_of hc
    rw [hc'] at hp
    obtain ⟨kk, hkk, ek⟩ := List.getElem_of_mem hp
    have hpr := h.val.parR hc (k := kk) (p := p) (by rw [List.getElem?_eq_getElem hkk, ek])
    have : p ∈ lst l.length (stepN l 1 (mark ns)) := lst_mem.2 ⟨p.toNat, by omega, (hstep _).2 (.inr ⟨n.toNat, by omega, by simp only [mark]; exact decide_eq_true (by rwa [show ((n.toNat : Nat) : Int) = n by omega]), by rw [hc', show ((p.toNat : Nat) : Int) = p by omega]; exact hp⟩), by omega⟩
    rwa [he] at this
def lawSG : List AV → Option (Prop × AV)
  | [.d (.sl xs), .d (.sl ns)] => some (xs = rows eC (dC xs) ∧ ns = rows eI (dI ns) ∧ (dC xs).length ≤ 9223372036854775807 ∧ smallC (dC xs) ∧ (dI ns).length ≤ 9223372036854775807, .d (.bool true))
  | _ => none

theorem lawBd_meets : Meets Try.prog 10 (Spec.pure lawSG) := by
 refine meets_fun (E_example.at_ 49) Try.func10 rfl rfl rfl ?_
 intro args p r hg hp
 unfold lawSG at hg
 split at hg
 ·rename_i xs ys
  simp only [Option.some.injEq, Prod.mk.injEq] at hg
  obtain ⟨rfl, rfl⟩ := hg
  obtain ⟨he, hf, hl, hsm, hn⟩ := hp
  generalize dC xs = l at *
  generalize dI ys = ns at *
  subst he hf
  have hT : (E_example).X = T := rfl
  have hx0 := And.intro @rect_eC (And.intro @dC_rows (And.intro @dI_rows (And.intro @dec_t (And.intro @dec_f @Try.results10))))
  have hx := hx0
  refine ⟨by rfl, ?_⟩
  intro F W0 hnp hmk
  refine vc_seq_k fun N1 h1 => ?_
  refine u_reg ?_
  try refine lg_mk ?_
  refine u_mv ?_
  refine lg_nil ?_
  refine h1 _ ?_; clear h1; try clear N1
  refine vc_seq_k fun N2 h2 => ?_
  refine vc_seq_k fun N3 h3 => ?_
  refine u_reg ?_
  try refine lg_mk ?_
  have hc := call_rule (E := (E_example.at_ 49)) (f := 22) (sp := Spec.pure exampleG) rfl
  have hs := @exampleG.eq_1
  refine u_cp ?_
  refine u_un ?_
  refine lg_nil ?_
  refine h3 _ ?_; clear h3; try clear N3
  refine u_cond (fun hb4 => ?_) (fun hb4 => ?_)
  ·first | omega | exact absurd trivial hb4 | contradiction | (simp_all; done)
  ·refine vc_skip ?_
   try simp only [k_rules]
   refine h2 _ ?_; clear h2; try clear N2
   refine vc_seq_k fun N5 h5 => ?_
   by_cases h0 : (selF l ns).1 = 0
   ·have hz := selF_zero h0
    have hsel := sel_of h0
    have hl60 := hsel.val.len
    have hnl := hsel.len
    have hd := del_ok (d := 1) h0 (by omega)
    have hd1 := hd.1
    have hd2 := hd.2
    have hbi := bnd_iff hsel
    have hx := And.intro @hz (And.intro @h0 hx0)
    refine u_reg ?_
    try refine lg_mk ?_
    refine u_mv ?_
    refine u_mv ?_
    have hc := call_rule (E := (E_example.at_ 49)) (f := 27) (sp := Spec.pure bndG) rfl
    have hs := @bndG.eq_1
    refine u_hp (hq := by (first | (exact ⟨hl, ‹smallC l›, by omega⟩) | (first | trivial | omega | assumption | (unfold inI64; omega) | ((repeat' apply And.intro) <;> first | rfl | trivial | omega | assumption | (unfold inI64; omega)) | (simp; done) | (simp; omega)))) ?_
    refine u_mv ?_
    refine u_ex ?_
    refine u_ex ?_
    refine u_al ?_
    refine u_mv ?_
    refine u_st ?_
    refine lg_nil ?_
    have hx := hx0
    refine h5 _ ?_; clear h5; try clear N5
    refine vc_seq_k fun N6 h6 => ?_
    have hx := And.intro @hd1 (And.intro @hd2 (And.intro @hz hx0))
    refine u_reg ?_
    try refine lg_mk ?_
    refine u_mv ?_
    refine u_mv ?_
    have hc := call_rule (E := (E_example.at_ 49)) (f := 28) (sp := Spec.pure delG) rfl
    have hs := @delG.eq_1
    refine u_hp (hq := by (first | (exact ⟨hl, ‹smallC l›, by omega, by unfold inI64; omega⟩) | (first | trivial | omega | assumption | (unfold inI64; omega) | ((repeat' apply And.intro) <;> first | rfl | trivial | omega | assumption | (unfold inI64; omega)) | (simp; done) | (simp; omega)))) ?_
    refine u_mv ?_
    refine u_ex ?_
    refine u_ex ?_
    refine u_al ?_
    refine u_mv ?_
    refine u_st ?_
    refine lg_nil ?_
    have hx := hx0
    refine h6 _ ?_; clear h6; try clear N6
    refine vc_seq_k fun N7 h7 => ?_
    refine vc_seq_k fun N8 h8 => ?_
    refine u_reg ?_
    try refine lg_mk ?_
    refine u_pt ?_
    refine u_ld ?_
    refine u_bn ?_
    refine u_mv ?_
    refine g_pt ?_
    refine g_ld ?_
    refine g_bn ?_
    refine u_pk ?_
    refine lg_nil ?_
    refine h8 _ ?_; clear h8; try clear N8
    refine u_cond (fun hb9 => ?_) (fun hb9 => ?_)
    ·first | omega | exact absurd trivial hb9 | contradiction | (simp_all; done)
    ·refine vc_skip ?_
     try simp only [k_rules]
     refine h7 _ ?_; clear h7; try clear N7
     refine vc_seq_k fun N10 h10 => ?_
     refine u_reg ?_
     try refine lg_mk ?_
     refine u_mv ?_
     refine u_ln ?_
     refine u_bn ?_
     refine u_mv ?_
     refine u_mv ?_
     have hc := call_rule (E := (E_example.at_ 49)) (f := 17) (sp := Spec.pure intsG) rfl
     have hs := @intsG.eq_1
     refine u_cp (hq := by (first | (have := lst_len l.length (stepN l 1 (mark ns)); omega) | (first | trivial | omega | assumption | (unfold inI64; omega) | ((repeat' apply And.intro) <;> first | rfl | trivial | omega | assumption | (unfold inI64; omega)) | (simp; done) | (simp; omega)))) ?_
     refine u_bn ?_
     refine u_mv ?_
     refine lg_nil ?_
     refine h10 _ ?_; clear h10; try clear N10
     refine vc_ret ?_
     try simp only [k_rules]
     have hbd : decide ((bndR l ns).length = 0) = decide (lst l.length (stepN l 1 (mark ns)) = ns) := decide_eq_decide.2 hbi
     refine fin2_ ?_
     (repeat' apply And.intro) <;> (first | (first | rfl | (simp_all; done) | (simp [hbd]; done)) | (first | rfl | exact Or.inr rfl | exact Or.inl rfl | trivial | omega | assumption | (simp; done) | (simp; omega)))
   ·have hz : True := trivial
    have hd := del_sel (d := 1) h0
    have hd1 := hd.1
    have hd2 := hd.2
    have hx := And.intro @hz (And.intro @h0 hx0)
    refine u_reg ?_
    try refine lg_mk ?_
    refine u_mv ?_
    refine u_mv ?_
    have hc := call_rule (E := (E_example.at_ 49)) (f := 27) (sp := Spec.pure bndG) rfl
    have hs := @bndG.eq_1
    refine u_hp (hq := by (first | (exact ⟨hl, ‹smallC l›, by omega⟩) | (first | trivial | omega | assumption | (unfold inI64; omega) | ((repeat' apply And.intro) <;> first | rfl | trivial | omega | assumption | (unfold inI64; omega)) | (simp; done) | (simp; omega)))) ?_
    refine u_mv ?_
    refine u_ex ?_
    refine u_ex ?_
    refine u_al ?_
    refine u_mv ?_
    refine u_st ?_
    refine lg_nil ?_
    have hx := hx0
    refine h5 _ ?_; clear h5; try clear N5
    refine vc_seq_k fun N11 h11 => ?_
    have hx := And.intro @hd1 (And.intro @hd2 (And.intro @hz hx0))
    refine u_reg ?_
    try refine lg_mk ?_
    refine u_mv ?_
    refine u_mv ?_
    have hc := call_rule (E := (E_example.at_ 49)) (f := 28) (sp := Spec.pure delG) rfl
    have hs := @delG.eq_1
    refine u_hp (hq := by (first | (exact ⟨hl, ‹smallC l›, by omega, by unfold inI64; omega⟩) | (first | trivial | omega | assumption | (unfold inI64; omega) | ((repeat' apply And.intro) <;> first | rfl | trivial | omega | assumption | (unfold inI64; omega)) | (simp; done) | (simp; omega)))) ?_
    refine u_mv ?_
    refine u_ex ?_
    refine u_ex ?_
    refine u_al ?_
    refine u_mv ?_
    refine u_st ?_
    refine lg_nil ?_
    have hx := hx0
    refine h11 _ ?_; clear h11; try clear N11
    refine vc_seq_k fun N12 h12 => ?_
    refine vc_seq_k fun N13 h13 => ?_
    refine u_reg ?_
    try refine lg_mk ?_
    refine u_pt ?_
    refine u_ld ?_
    refine u_bn ?_
    refine u_mv ?_
    refine g_pt ?_
    refine g_ld ?_
    refine g_bn ?_
    refine u_pk ?_
    refine lg_nil ?_
    refine h13 _ ?_; clear h13; try clear N13
    refine u_cond (fun hb14 => ?_) (fun hb14 => ?_)
    ·refine vc_seq_k fun N15 h15 => ?_
     refine u_reg ?_
     try refine lg_mk ?_
     refine u_ld ?_
     refine u_ld ?_
     refine u_bn ?_
     refine u_mv ?_
     refine g_mv ?_
     refine g_ln ?_
     refine g_mv ?_
     refine g_ln ?_
     refine g_bn ?_
     refine g_bn ?_
     refine u_pk ?_
     refine u_mv ?_
     refine lg_nil ?_
     refine h15 _ ?_; clear h15; try clear N15
     refine vc_ret ?_
     try simp only [k_rules]
     refine fin2_ ?_
     exact cl_
    ·first | omega | exact absurd trivial hb14 | contradiction | (simp_all; done)
 ·cases hg

def E_lawBd : Env Try.prog := E_example.add 10 (Spec.pure lawSG) lawBd_meets (by kernel_rfl)
end Go.Proofs.Ytaoifpmifpmhmaa
