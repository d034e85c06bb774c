/- Walks, printed by wip/gen/walk.py. -/
import Derived.Test.YtcjipciiljjfhaaGreatDoorT40
import Derived.Test.YtcjipciiljjfhaaGreatDoorV5
set_option linter.all false
set_option maxRecDepth 100000
set_option maxHeartbeats 4000000
namespace Go.Proofs.YtcjipciiljjfhaaGreatDoor
open Go Go.Vc Go.RowKit
theorem filter_two {α : Type} (l : List α) (p : α → Bool) : (l.filter p).length + (l.filter fun x => !p x).length = l.length := by
  induction l with
  | nil => rfl
  | cons a l ih => cases h : p a <;> simp [List.filter_cons, h] <;> omega
/-- What is kept, what goes. -/
def keS (S : List SO) (R : List Int) : List SO := chs S (mkV S R) true
def goS (S : List SO) (R : List Int) : List SO := chs S (mkV S R) false
theorem ke_is (S : List SO) (R : List Int) : keS S R = S.filter (fun x => decide (x.dg ∈ keysM (reachM S R))) ∧ goS S R = S.filter (fun x => !decide (x.dg ∈ keysM (reachM S R))) := by
  unfold keS goS mkV; rw [chs_map, chs_map]
  exact ⟨List.filter_congr fun x _ => by simp, List.filter_congr fun x _ => by simp⟩
theorem ke_len (S : List SO) (R : List Int) : (keS S R).length + (goS S R).length = S.length := by
  obtain ⟨h1, h2⟩ := ke_is S R
  rw [h1, h2]; exact filter_two S _
theorem ke_mem {S : List SO} (hv : ValS S) (R : List Int) (x : SO) : x ∈ keS S R ↔ x ∈ S ∧ Rch S R x.dg := by
  rw [(ke_is S R).1, List.mem_filter, decide_eq_true_eq, (reach_set R hv).2]
theorem go_mem {S : List SO} (hv : ValS S) (R : List Int) (x : SO) : x ∈ goS S R ↔ x ∈ S ∧ ¬ Rch S R x.dg := by
  rw [(ke_is S R).2, List.mem_filter]
  simp only [Bool.not_eq_true', decide_eq_false_iff_not, (reach_set R hv).2]
theorem ke_val {S : List SO} (hv : ValS S) (R : List Int) : ValS (keS S R) := by
  have hs : List.Sublist (keS S R) S := by rw [(ke_is S R).1]; exact List.filter_sublist
  exact ⟨Nat.le_trans hs.length_le hv.len, fun x hx => hv.ok x (hs.subset hx), fun x hx => hv.dg x (hs.subset hx), List.Pairwise.sublist (List.Sublist.map _ hs) hv.sort⟩
theorem ke_dgs {S : List SO} (hv : ValS S) (R : List Int) (d : Int) : d ∈ dgs (keS S R) ↔ Rch S R d := by
  constructor
  · intro h
    obtain ⟨x, hx, rfl⟩ := List.mem_map.1 h
    exact ((ke_mem hv R x).1 hx).2
  · intro h
    obtain ⟨x, hx, rfl⟩ := List.mem_map.1 h.mem
    exact List.mem_map.2 ⟨x, (ke_mem hv R x).2 ⟨hx, h⟩, rfl⟩
theorem ke_rch {S : List SO} (hv : ValS S) {R : List Int} {d : Int} (h : Rch S R d) : Rch (keS S R) R d := by
  induction h with
  | root h1 h2 => exact .root h1 ((ke_dgs hv R _).2 (.root h1 h2))
  | step h1 h2 h3 h4 ih => exact .step ((ke_mem hv R _).2 ⟨h1, h2⟩) ih h3 ((ke_dgs hv R _).2 (.step h1 h2 h3 h4))
theorem ke_again {S : List SO} (hv : ValS S) (R : List Int) : keS (keS S R) R = keS S R ∧ goS (keS S R) R = [] := by
  have hw := ke_val hv R
  have hall : ∀ x ∈ keS S R, Rch (keS S R) R x.dg := fun x hx => ke_rch hv ((ke_mem hv R x).1 hx).2
  have key : ∀ x ∈ keS S R, decide (x.dg ∈ keysM (reachM (keS S R) R)) = true := fun x hx => decide_eq_true (((reach_set R hw).2 x.dg).2 (hall x hx))
  obtain ⟨h1, h2⟩ := ke_is (keS S R) R
  rw [h1, h2]
  exact ⟨List.filter_eq_self.2 key, List.filter_eq_nil_iff.2 fun x hx => by rw [key x hx]; simp⟩
theorem ke_links {S : List SO} (hv : ValS S) (R : List Int) : ∀ d ∈ insA (misA (keS S R)), atS S d = -1 := by
  intro d hd
  have hm := ((insA_ok _).2 d).1 hd
  unfold misA at hm
  rw [List.mem_filter, List.mem_flatMap] at hm
  obtain ⟨⟨y, hy, hyd⟩, hn⟩ := hm
  have hn : d ∉ dgs (keS S R) := by
    intro h
    have : inS (keS S R) d = true := decide_eq_true h
    rw [this] at hn; simp at hn
  obtain ⟨h1, h2⟩ := (ke_mem hv R y).1 hy
  have hs : d ∉ dgs S := fun h => hn ((ke_dgs hv R d).2 (.step h1 h2 hyd h))
  unfold atS
  rw [if_neg]
  unfold inS
  rw [decide_eq_false hs]; simp
theorem rch_mono {S : List SO} {R R' : List Int} (h : ∀ x ∈ R', x ∈ R) {d : Int} (hr : Rch S R' d) : Rch S R d := by
  induction hr with
  | root h1 h2 => exact .root (h _ h1) h2
  | step h1 _ h3 h4 ih => exact .step h1 ih h3 h4
theorem held_mono {l : List Rf} {L : List Le} {t t' : Int} (h : t ≤ t') : ∀ x ∈ held l L t', x ∈ held l L t := by
  intro x hx
  unfold held heldK at *
  rw [List.take_length] at *
  rcases List.mem_append.1 hx with hx | hx
  · exact List.mem_append.2 (.inl hx)
  · obtain ⟨y, hy, rfl⟩ := List.mem_map.1 hx
    obtain ⟨h1, h2⟩ := List.mem_filter.1 hy
    refine List.mem_append.2 (.inr (List.mem_map.2 ⟨y, List.mem_filter.2 ⟨h1, ?_⟩, rfl⟩))
    have := of_decide_eq_true h2
    exact decide_eq_true (by omega)
theorem go_mono {S : List SO} (hv : ValS S) {R R' : List Int} (h : ∀ x ∈ R', x ∈ R) : ∀ d ∈ dgs (goS S R), d ∈ dgs (goS S R') := by
  intro d hd
  obtain ⟨x, hx, rfl⟩ := List.mem_map.1 hd
  obtain ⟨h1, h2⟩ := (go_mem hv R x).1 hx
  exact List.mem_map.2 ⟨x, (go_mem hv R' x).2 ⟨h1, fun hr => h2 (rch_mono h hr)⟩, rfl⟩
theorem ke_mono {S : List SO} (hv : ValS S) {R R' : List Int} (h : ∀ x ∈ R', x ∈ R) : ∀ x ∈ keS S R', inS (keS S R) x.dg = true := by
  intro x hx
  exact decide_eq_true ((ke_dgs hv R _).2 (rch_mono h ((ke_mem hv R' x).1 hx).2))
theorem held50 {l : List Rf} {L : List Le} {t : Int} (h1 : l.length ≤ 30) (h2 : L.length ≤ 20) : (held l L t).length ≤ 50 := by
  have := held_len l L t L.length
  unfold held; omega
theorem col_or (S : List SO) (l : List Rf) (L : List Le) (t : Int) : ((colF S l L t).1 ≠ 0 ∧ colS S l L t = [] ∧ colD S l L t = []) ∨
    (colF S l L t = (0, 0) ∧ ValS S ∧ l.length ≤ 30 ∧ L.length ≤ 20 ∧ colS S l L t = keS S (held l L t) ∧ colD S l L t = dgs (goS S (held l L t))) := by
  by_cases h : (colF S l L t).1 ≠ 0
  · exact .inl ⟨h, by unfold colS; rw [if_pos h], by unfold colD; rw [if_pos h]⟩
  · have h0 : (colF S l L t).1 = 0 := by omega
    refine .inr ?_
    have hS : colS S l L t = keS S (held l L t) := by unfold colS keS; rw [if_neg h]
    have hD : colD S l L t = dgs (goS S (held l L t)) := by unfold colD goS; rw [if_neg h]
    unfold colF at h0 ⊢
    rcases stF_or S with ⟨hs, hv⟩ | hs
    · rw [if_neg (by rw [hs]; simp)] at h0 ⊢
      rcases rfF_or l with ⟨r1, r2, r3⟩ | hr
      · rw [if_neg (by rw [r1]; simp)] at h0 ⊢
        rcases leF_or L t with ⟨l1, l2, l3⟩ | hl
        · exact ⟨Prod.ext l1 l2, hv, r3, l3, hS, hD⟩
        · exact absurd h0 hl
      · rw [if_pos hr] at h0; exact absurd h0 hr
    · rw [if_pos hs] at h0; exact absurd h0 hs
theorem col_again {S : List SO} {l : List Rf} {L : List Le} {t : Int} (h : colF S l L t = (0, 0)) (hv : ValS S) : colF (keS S (held l L t)) l L t = (0, 0) ∧ colS (keS S (held l L t)) l L t = keS S (held l L t) ∧ colD (keS S (held l L t)) l L t = [] := by
  have hw := ke_val hv (held l L t)
  have hf : colF (keS S (held l L t)) l L t = (0, 0) := by
    unfold colF at h ⊢
    rw [stF_of hv] at h
    rw [stF_of hw]; exact h
  obtain ⟨g1, g2⟩ := ke_again hv (held l L t)
  refine ⟨hf, ?_, ?_⟩
  · unfold colS; rw [hf, if_neg (by simp)]; exact g1
  · unfold colD; rw [hf, if_neg (by simp)]
    show dgs (goS (keS S (held l L t)) (held l L t)) = []
    rw [g2]; rfl
theorem gcx_1 : colF exS (dR []) (dW []) 0 = (0, 0) ∧ colS exS (dR []) (dW []) 0 = [] ∧ colD exS (dR []) (dW []) 0 = [17106956, 1662115313083863167] := by decide +kernel
theorem gcx_2 : dR [] = [] ∧ dW [] = [] := ⟨rfl, rfl⟩
theorem gcx_3 : colF exS [] [] 0 = (0, 0) ∧ colS exS [] [] 0 = [] ∧ colD exS [] [] 0 = [17106956, 1662115313083863167] := gcx_1
theorem ex_r : smallR [] := fun r h => by cases h

theorem small_meets : Meets Tryz.prog 19 (Spec.pure smallG) := by
 refine meets_fun (E_collect.at_ 48) Tryz.func19 rfl rfl rfl ?_
 intro args p r hg hp
 unfold smallG at hg
 split at hg
 ·skip
  simp only [Option.some.injEq, Prod.mk.injEq] at hg
  obtain ⟨rfl, rfl⟩ := hg
  have hT : (E_collect).X = T := rfl
  have hx0 := And.intro @ex_0 (And.intro @ex_1 (And.intro @ex_2 (And.intro @rect_eO (And.intro @dI_rows (And.intro @dU_rows (And.intro @dO_rows (And.intro @dec_t (And.intro @dec_f @Tryz.results19))))))))
  have hx := hx0
  refine ⟨by rfl, ?_⟩
  intro F W0 hnp hmk
  refine vc_seq_k fun N1 h1 => ?_
  refine u_reg ?_
  try refine lg_mk ?_
  refine u_al ?_
  refine u_mv ?_
  refine u_mv ?_
  refine u_mv ?_
  refine lg_nil ?_
  refine h1 _ ?_; clear h1; try clear N1
  refine vc_seq_k fun N2 h2 => ?_
  refine u_reg ?_
  try refine lg_mk ?_
  refine u_bd ?_
  refine u_bs ?_
  refine u_bd ?_
  have hc := call_rule (E := (E_collect.at_ 48)) (f := 33) (sp := Spec.pure putG) rfl
  have hs := @putG.eq_1
  refine u_hp (hq := by (first | ((repeat' apply And.intro) <;> first | rfl | exact ⟨by decide, by decide⟩ | exact ex_s.1 | exact ex_s.2.1 | exact ex_s.2.2.1 | exact ex_s.2.2.2 | decide | omega | (simp; done)) | exact sd_)) ?_
  refine u_mv ?_
  refine u_ex ?_
  refine u_ex ?_
  refine u_ex ?_
  refine u_al ?_
  refine u_al ?_
  refine u_st ?_
  refine u_mv ?_
  refine u_st ?_
  refine lg_nil ?_
  refine h2 _ ?_; clear h2; try clear N2
  refine vc_seq_k fun N3 h3 => ?_
  refine u_reg ?_
  try refine lg_mk ?_
  refine u_ld ?_
  refine u_mv ?_
  refine u_bs ?_
  refine u_bd ?_
  have hc := call_rule (E := (E_collect.at_ 48)) (f := 33) (sp := Spec.pure putG) rfl
  have hs := @putG.eq_1
  refine u_hp (hq := by (first | ((repeat' apply And.intro) <;> first | rfl | exact ⟨by decide, by decide⟩ | exact ex_s.1 | exact ex_s.2.1 | exact ex_s.2.2.1 | exact ex_s.2.2.2 | decide | omega | (simp; done)) | exact sd_)) ?_
  refine u_mv ?_
  refine u_ex ?_
  refine u_ex ?_
  refine u_ex ?_
  refine u_al ?_
  refine u_st ?_
  refine u_mv ?_
  refine u_st ?_
  refine lg_nil ?_
  refine h3 _ ?_; clear h3; try clear N3
  refine vc_seq_k fun N4 h4 => ?_
  refine vc_regT [] (.seq [0, 1, 2, 3, 4, 5, 6, 7, 8, 9, 10, 11, 12, 13, 14, 15, 16] (.alt 17 (.alt 18 (.alt 19 (.seq [20, 21, 22, 23, 24, 25] .nil) (.alt 22 (.seq [19, 20, 21, 23, 24, 25] .nil) .nil)) (.alt 22 (.seq [18, 19, 20, 21, 23, 24, 25] .nil) .nil)) (.alt 22 (.seq [17, 18, 19, 20, 21, 23, 24, 25] .nil) .nil))) hmix (by kernel_rfl) ?_
  refine at_seq ?_
  simp only [pick_rules, list_rules]
  try refine lg_mk ?_
  refine u_ld ?_
  refine u_mv ?_
  refine u_mv ?_
  refine u_pt ?_
  refine u_ld ?_
  refine u_bn ?_
  refine u_mv ?_
  refine g_pt ?_
  refine g_ld ?_
  refine g_bn ?_
  refine u_pk ?_
  refine u_mv ?_
  refine g_mv ?_
  refine g_mv ?_
  refine g_bn ?_
  refine u_pk ?_
  refine u_mv ?_
  refine lg_nil ?_
  refine at_alt ?_ ?_
  ·simp only [pick_rules, list_rules]
   try refine lg_mk ?_
   refine g_pt ?_
   refine lg_nil ?_
   refine at_alt ?_ ?_
   ·simp only [pick_rules, list_rules]
    try refine lg_mk ?_
    refine g_ld ?_
    refine lg_nil ?_
    refine at_alt ?_ ?_
    ·simp only [pick_rules, list_rules]
     try refine lg_mk ?_
     refine g_ln ?_
     refine lg_nil ?_
     refine at_seq ?_
     simp only [pick_rules, list_rules]
     try refine lg_mk ?_
     refine g_bn ?_
     refine u_pk ?_
     refine u_st ?_
     refine u_mv ?_
     refine u_mv ?_
     refine u_mv ?_
     refine lg_nil ?_
     refine at_nil ?_
     refine h4 _ ?_; clear h4; try clear N4
     refine vc_ret ?_
     try simp only [k_rules]
     refine fin2_ ?_
     (repeat' apply And.intro) <;> (first | (first | rfl | trivial | (simp; done) | (left; rfl)) | exact cl_)
    refine at_alt ?_ ?_
    ·simp only [pick_rules, list_rules]
     try refine lg_mk ?_
     refine u_st ?_
     refine lg_nil ?_
     refine at_seq ?_
     simp only [pick_rules, list_rules]
     try refine lg_mk ?_
     refine g_ln ?_
     refine g_bn ?_
     refine u_pk ?_
     refine u_mv ?_
     refine u_mv ?_
     refine u_mv ?_
     refine lg_nil ?_
     refine at_nil ?_
     refine h4 _ ?_; clear h4; try clear N4
     refine vc_ret ?_
     try simp only [k_rules]
     refine fin2_ ?_
     (repeat' apply And.intro) <;> (first | (first | rfl | trivial | (simp; done) | (left; rfl)) | exact cl_)
    exact at_end
   refine at_alt ?_ ?_
   ·simp only [pick_rules, list_rules]
    try refine lg_mk ?_
    refine u_st ?_
    refine lg_nil ?_
    refine at_seq ?_
    simp only [pick_rules, list_rules]
    try refine lg_mk ?_
    refine g_ld ?_
    refine g_ln ?_
    refine g_bn ?_
    refine u_pk ?_
    refine u_mv ?_
    refine u_mv ?_
    refine u_mv ?_
    refine lg_nil ?_
    refine at_nil ?_
    refine h4 _ ?_; clear h4; try clear N4
    refine vc_ret ?_
    try simp only [k_rules]
    refine fin2_ ?_
    (repeat' apply And.intro) <;> (first | (first | rfl | trivial | (simp; done) | (left; rfl)) | exact cl_)
   exact at_end
  refine at_alt ?_ ?_
  ·simp only [pick_rules, list_rules]
   try refine lg_mk ?_
   refine u_st ?_
   refine lg_nil ?_
   refine at_seq ?_
   simp only [pick_rules, list_rules]
   try refine lg_mk ?_
   refine g_pt ?_
   refine g_ld ?_
   refine g_ln ?_
   refine g_bn ?_
   refine u_pk ?_
   refine u_mv ?_
   refine u_mv ?_
   refine u_mv ?_
   refine lg_nil ?_
   refine at_nil ?_
   refine h4 _ ?_; clear h4; try clear N4
   refine vc_ret ?_
   try simp only [k_rules]
   refine fin2_ ?_
   (repeat' apply And.intro) <;> (first | (first | rfl | trivial | (simp; done) | (left; rfl)) | exact cl_)
  exact at_end
 ·cases hg

def E_small : Env Tryz.prog := E_collect.add 19 (Spec.pure smallG) small_meets (by kernel_rfl)

theorem exG_meets : Meets Tryz.prog 7 (Spec.pure exG) := by
 refine meets_fun (E_small.at_ 77) Tryz.func7 rfl rfl rfl ?_
 intro args p r hg hp
 unfold exG at hg
 split at hg
 ·skip
  simp only [Option.some.injEq, Prod.mk.injEq] at hg
  obtain ⟨rfl, rfl⟩ := hg
  have hT : (E_small).X = T := rfl
  have hx0 := And.intro @ex_6 (And.intro @ex_7 (And.intro @ex_0 (And.intro @gex_1 (And.intro @gex_2 (And.intro @gex_3 (And.intro @gcx_2 (And.intro @gcx_3 (And.intro @rect_eO (And.intro @dI_rows (And.intro @dU_rows (And.intro @dO_rows (And.intro @dec_t (And.intro @dec_f @Tryz.results7)))))))))))))
  have hx := hx0
  refine ⟨by rfl, ?_⟩
  intro F W0 hnp hmk
  refine vc_seq_k fun N1 h1 => ?_
  refine u_reg ?_
  try refine lg_mk ?_
  refine u_mv ?_
  refine lg_nil ?_
  refine h1 _ ?_; clear h1; try clear N1
  refine vc_seq_k fun N2 h2 => ?_
  refine u_reg ?_
  try refine lg_mk ?_
  have hc := call_rule (E := (E_small.at_ 77)) (f := 19) (sp := Spec.pure smallG) rfl
  have hs := @smallG.eq_1
  refine u_hp ?_
  refine u_mv ?_
  refine u_ex ?_
  refine u_ex ?_
  refine u_ex ?_
  refine u_ex ?_
  refine u_al ?_
  refine u_st ?_
  refine u_mv ?_
  refine u_mv ?_
  refine u_mv ?_
  refine lg_nil ?_
  refine h2 _ ?_; clear h2; try clear N2
  refine vc_seq_k fun N3 h3 => ?_
  refine u_reg ?_
  try refine lg_mk ?_
  refine u_ld ?_
  refine u_mv ?_
  refine u_bs ?_
  have hc := call_rule (E := (E_small.at_ 77)) (f := 20) (sp := Spec.pure markG) rfl
  have hs := @markG.eq_1
  refine u_hp (hq := by (first | ((repeat' apply And.intro) <;> first | rfl | exact ⟨by decide, by decide⟩ | exact ex_s.1 | exact ex_s.2.1 | exact ex_s.2.2.1 | exact ex_s.2.2.2 | exact ex_v | exact ex_r | decide | omega | (simp; done)) | exact sd_)) ?_
  refine u_mv ?_
  refine u_ex ?_
  refine u_ex ?_
  refine u_al ?_
  refine u_mv ?_
  refine u_st ?_
  refine lg_nil ?_
  refine h3 _ ?_; clear h3; try clear N3
  refine vc_seq_k fun N4 h4 => ?_
  refine u_reg ?_
  try refine lg_mk ?_
  refine u_ld ?_
  refine u_mv ?_
  refine u_bs ?_
  have hc := call_rule (E := (E_small.at_ 77)) (f := 20) (sp := Spec.pure markG) rfl
  have hs := @markG.eq_1
  refine u_hp (hq := by (first | ((repeat' apply And.intro) <;> first | rfl | exact ⟨by decide, by decide⟩ | exact ex_s.1 | exact ex_s.2.1 | exact ex_s.2.2.1 | exact ex_s.2.2.2 | exact ex_v | exact ex_r | decide | omega | (simp; done)) | exact sd_)) ?_
  refine u_mv ?_
  refine u_ex ?_
  refine u_ex ?_
  refine u_al ?_
  refine u_mv ?_
  refine u_st ?_
  refine lg_nil ?_
  refine h4 _ ?_; clear h4; try clear N4
  refine vc_seq_k fun N5 h5 => ?_
  refine u_reg ?_
  try refine lg_mk ?_
  refine u_ld ?_
  refine u_bd ?_
  have hc := call_rule (E := (E_small.at_ 77)) (f := 8) (sp := Spec.pure colG) rfl
  have hs := @colG.eq_1
  refine u_hp (hq := by (first | ((repeat' apply And.intro) <;> first | rfl | exact ⟨by decide, by decide⟩ | exact ex_s.1 | exact ex_s.2.1 | exact ex_s.2.2.1 | exact ex_s.2.2.2 | exact ex_v | exact ex_r | decide | omega | (simp; done)) | exact sd_)) ?_
  refine u_mv ?_
  refine u_ex ?_
  refine u_ex ?_
  refine u_ex ?_
  refine u_al ?_
  refine u_al ?_
  refine u_st ?_
  refine u_mv ?_
  refine u_st ?_
  refine lg_nil ?_
  refine h5 _ ?_; clear h5; try clear N5
  refine vc_seq_k fun N6 h6 => ?_
  refine u_reg ?_
  try refine lg_mk ?_
  refine u_mv (hq := by (first | ((repeat' apply And.intro) <;> first | rfl | exact ⟨by decide, by decide⟩ | exact ex_s.1 | exact ex_s.2.1 | exact ex_s.2.2.1 | exact ex_s.2.2.2 | exact ex_v | exact ex_r | decide | omega | (simp; done)) | exact sd_)) ?_
  refine u_mv (hq := by (first | ((repeat' apply And.intro) <;> first | rfl | exact ⟨by decide, by decide⟩ | exact ex_s.1 | exact ex_s.2.1 | exact ex_s.2.2.1 | exact ex_s.2.2.2 | exact ex_v | exact ex_r | decide | omega | (simp; done)) | exact sd_)) ?_
  refine s_pt (hq := by (intro hg; (try simp only [b_rules, bif_and, bif_or] at hg); (first | ((repeat' apply And.intro) <;> first | rfl | exact ⟨by decide, by decide⟩ | exact ex_s.1 | exact ex_s.2.1 | exact ex_s.2.2.1 | exact ex_s.2.2.2 | exact ex_v | exact ex_r | decide | omega | (simp; done)) | exact sd_))) ?_
  refine s_ld (hq := by (intro hg; (try simp only [b_rules, bif_and, bif_or] at hg); (first | ((repeat' apply And.intro) <;> first | rfl | exact ⟨by decide, by decide⟩ | exact ex_s.1 | exact ex_s.2.1 | exact ex_s.2.2.1 | exact ex_s.2.2.2 | exact ex_v | exact ex_r | decide | omega | (simp; done)) | exact sd_))) ?_
  refine s_bn (hq := by (intro hg; (try simp only [b_rules, bif_and, bif_or] at hg); (first | ((repeat' apply And.intro) <;> first | rfl | exact ⟨by decide, by decide⟩ | exact ex_s.1 | exact ex_s.2.1 | exact ex_s.2.2.1 | exact ex_s.2.2.2 | exact ex_v | exact ex_r | decide | omega | (simp; done)) | exact sd_))) ?_
  refine u_pk (hq := by (first | ((repeat' apply And.intro) <;> first | rfl | exact ⟨by decide, by decide⟩ | exact ex_s.1 | exact ex_s.2.1 | exact ex_s.2.2.1 | exact ex_s.2.2.2 | exact ex_v | exact ex_r | decide | omega | (simp; done)) | exact sd_)) ?_
  refine u_mv (hq := by (first | ((repeat' apply And.intro) <;> first | rfl | exact ⟨by decide, by decide⟩ | exact ex_s.1 | exact ex_s.2.1 | exact ex_s.2.2.1 | exact ex_s.2.2.2 | exact ex_v | exact ex_r | decide | omega | (simp; done)) | exact sd_)) ?_
  refine s_pt (hq := by (intro hg; (try simp only [b_rules, bif_and, bif_or] at hg); (first | ((repeat' apply And.intro) <;> first | rfl | exact ⟨by decide, by decide⟩ | exact ex_s.1 | exact ex_s.2.1 | exact ex_s.2.2.1 | exact ex_s.2.2.2 | exact ex_v | exact ex_r | decide | omega | (simp; done)) | exact sd_))) ?_
  refine s_ld (hq := by (intro hg; (try simp only [b_rules, bif_and, bif_or] at hg); (first | ((repeat' apply And.intro) <;> first | rfl | exact ⟨by decide, by decide⟩ | exact ex_s.1 | exact ex_s.2.1 | exact ex_s.2.2.1 | exact ex_s.2.2.2 | exact ex_v | exact ex_r | decide | omega | (simp; done)) | exact sd_))) ?_
  refine s_bn (hq := by (intro hg; (try simp only [b_rules, bif_and, bif_or] at hg); (first | ((repeat' apply And.intro) <;> first | rfl | exact ⟨by decide, by decide⟩ | exact ex_s.1 | exact ex_s.2.1 | exact ex_s.2.2.1 | exact ex_s.2.2.2 | exact ex_v | exact ex_r | decide | omega | (simp; done)) | exact sd_))) ?_
  refine u_pk (hq := by (first | ((repeat' apply And.intro) <;> first | rfl | exact ⟨by decide, by decide⟩ | exact ex_s.1 | exact ex_s.2.1 | exact ex_s.2.2.1 | exact ex_s.2.2.2 | exact ex_v | exact ex_r | decide | omega | (simp; done)) | exact sd_)) ?_
  refine u_mv (hq := by (first | ((repeat' apply And.intro) <;> first | rfl | exact ⟨by decide, by decide⟩ | exact ex_s.1 | exact ex_s.2.1 | exact ex_s.2.2.1 | exact ex_s.2.2.2 | exact ex_v | exact ex_r | decide | omega | (simp; done)) | exact sd_)) ?_
  refine s_pt (hq := by (intro hg; (try simp only [b_rules, bif_and, bif_or] at hg); (first | ((repeat' apply And.intro) <;> first | rfl | exact ⟨by decide, by decide⟩ | exact ex_s.1 | exact ex_s.2.1 | exact ex_s.2.2.1 | exact ex_s.2.2.2 | exact ex_v | exact ex_r | decide | omega | (simp; done)) | exact sd_))) ?_
  refine s_ld (hq := by (intro hg; (try simp only [b_rules, bif_and, bif_or] at hg); (first | ((repeat' apply And.intro) <;> first | rfl | exact ⟨by decide, by decide⟩ | exact ex_s.1 | exact ex_s.2.1 | exact ex_s.2.2.1 | exact ex_s.2.2.2 | exact ex_v | exact ex_r | decide | omega | (simp; done)) | exact sd_))) ?_
  refine s_bn (hq := by (intro hg; (try simp only [b_rules, bif_and, bif_or] at hg); (first | ((repeat' apply And.intro) <;> first | rfl | exact ⟨by decide, by decide⟩ | exact ex_s.1 | exact ex_s.2.1 | exact ex_s.2.2.1 | exact ex_s.2.2.2 | exact ex_v | exact ex_r | decide | omega | (simp; done)) | exact sd_))) ?_
  refine u_pk (hq := by (first | ((repeat' apply And.intro) <;> first | rfl | exact ⟨by decide, by decide⟩ | exact ex_s.1 | exact ex_s.2.1 | exact ex_s.2.2.1 | exact ex_s.2.2.2 | exact ex_v | exact ex_r | decide | omega | (simp; done)) | exact sd_)) ?_
  refine u_mv (hq := by (first | ((repeat' apply And.intro) <;> first | rfl | exact ⟨by decide, by decide⟩ | exact ex_s.1 | exact ex_s.2.1 | exact ex_s.2.2.1 | exact ex_s.2.2.2 | exact ex_v | exact ex_r | decide | omega | (simp; done)) | exact sd_)) ?_
  refine s_mv (hq := by (intro hg; (try simp only [b_rules, bif_and, bif_or] at hg); (first | ((repeat' apply And.intro) <;> first | rfl | exact ⟨by decide, by decide⟩ | exact ex_s.1 | exact ex_s.2.1 | exact ex_s.2.2.1 | exact ex_s.2.2.2 | exact ex_v | exact ex_r | decide | omega | (simp; done)) | exact sd_))) ?_
  refine s_ln (hq := by (intro hg; (try simp only [b_rules, bif_and, bif_or] at hg); (first | ((repeat' apply And.intro) <;> first | rfl | exact ⟨by decide, by decide⟩ | exact ex_s.1 | exact ex_s.2.1 | exact ex_s.2.2.1 | exact ex_s.2.2.2 | exact ex_v | exact ex_r | decide | omega | (simp; done)) | exact sd_))) ?_
  refine s_bn (hq := by (intro hg; (try simp only [b_rules, bif_and, bif_or] at hg); (first | ((repeat' apply And.intro) <;> first | rfl | exact ⟨by decide, by decide⟩ | exact ex_s.1 | exact ex_s.2.1 | exact ex_s.2.2.1 | exact ex_s.2.2.2 | exact ex_v | exact ex_r | decide | omega | (simp; done)) | exact sd_))) ?_
  refine u_pk (hq := by (first | ((repeat' apply And.intro) <;> first | rfl | exact ⟨by decide, by decide⟩ | exact ex_s.1 | exact ex_s.2.1 | exact ex_s.2.2.1 | exact ex_s.2.2.2 | exact ex_v | exact ex_r | decide | omega | (simp; done)) | exact sd_)) ?_
  refine u_mv (hq := by (first | ((repeat' apply And.intro) <;> first | rfl | exact ⟨by decide, by decide⟩ | exact ex_s.1 | exact ex_s.2.1 | exact ex_s.2.2.1 | exact ex_s.2.2.2 | exact ex_v | exact ex_r | decide | omega | (simp; done)) | exact sd_)) ?_
  refine s_mv (hq := by (intro hg; (try simp only [b_rules, bif_and, bif_or] at hg); (first | ((repeat' apply And.intro) <;> first | rfl | exact ⟨by decide, by decide⟩ | exact ex_s.1 | exact ex_s.2.1 | exact ex_s.2.2.1 | exact ex_s.2.2.2 | exact ex_v | exact ex_r | decide | omega | (simp; done)) | exact sd_))) ?_
  refine s_mv (hq := by (intro hg; (try simp only [b_rules, bif_and, bif_or] at hg); (first | ((repeat' apply And.intro) <;> first | rfl | exact ⟨by decide, by decide⟩ | exact ex_s.1 | exact ex_s.2.1 | exact ex_s.2.2.1 | exact ex_s.2.2.2 | exact ex_v | exact ex_r | decide | omega | (simp; done)) | exact sd_))) ?_
  refine t_bs (hq := by (first | ((repeat' apply And.intro) <;> first | rfl | exact ⟨by decide, by decide⟩ | exact ex_s.1 | exact ex_s.2.1 | exact ex_s.2.2.1 | exact ex_s.2.2.2 | exact ex_v | exact ex_r | decide | omega | (simp; done)) | exact sd_)) ?_
  have hc := call_rule (E := (E_small.at_ 77)) (f := 14) (sp := Spec.pure intsG) rfl
  have hs := @intsG.eq_1
  refine s_cp (hq := by (intro hg; (try simp only [b_rules, bif_and, bif_or] at hg); (first | ((repeat' apply And.intro) <;> first | rfl | exact ⟨by decide, by decide⟩ | exact ex_s.1 | exact ex_s.2.1 | exact ex_s.2.2.1 | exact ex_s.2.2.2 | exact ex_v | exact ex_r | decide | omega | (simp; done)) | exact sd_))) ?_
  refine u_pk (hq := by (first | ((repeat' apply And.intro) <;> first | rfl | exact ⟨by decide, by decide⟩ | exact ex_s.1 | exact ex_s.2.1 | exact ex_s.2.2.1 | exact ex_s.2.2.2 | exact ex_v | exact ex_r | decide | omega | (simp; done)) | exact sd_)) ?_
  refine u_mv (hq := by (first | ((repeat' apply And.intro) <;> first | rfl | exact ⟨by decide, by decide⟩ | exact ex_s.1 | exact ex_s.2.1 | exact ex_s.2.2.1 | exact ex_s.2.2.2 | exact ex_v | exact ex_r | decide | omega | (simp; done)) | exact sd_)) ?_
  refine s_pt (hq := by (intro hg; (try simp only [b_rules, bif_and, bif_or] at hg); (first | ((repeat' apply And.intro) <;> first | rfl | exact ⟨by decide, by decide⟩ | exact ex_s.1 | exact ex_s.2.1 | exact ex_s.2.2.1 | exact ex_s.2.2.2 | exact ex_v | exact ex_r | decide | omega | (simp; done)) | exact sd_))) ?_
  refine s_ld (hq := by (intro hg; (try simp only [b_rules, bif_and, bif_or] at hg); (first | ((repeat' apply And.intro) <;> first | rfl | exact ⟨by decide, by decide⟩ | exact ex_s.1 | exact ex_s.2.1 | exact ex_s.2.2.1 | exact ex_s.2.2.2 | exact ex_v | exact ex_r | decide | omega | (simp; done)) | exact sd_))) ?_
  refine s_ln (hq := by (intro hg; (try simp only [b_rules, bif_and, bif_or] at hg); (first | ((repeat' apply And.intro) <;> first | rfl | exact ⟨by decide, by decide⟩ | exact ex_s.1 | exact ex_s.2.1 | exact ex_s.2.2.1 | exact ex_s.2.2.2 | exact ex_v | exact ex_r | decide | omega | (simp; done)) | exact sd_))) ?_
  refine s_bn (hq := by (intro hg; (try simp only [b_rules, bif_and, bif_or] at hg); (first | ((repeat' apply And.intro) <;> first | rfl | exact ⟨by decide, by decide⟩ | exact ex_s.1 | exact ex_s.2.1 | exact ex_s.2.2.1 | exact ex_s.2.2.2 | exact ex_v | exact ex_r | decide | omega | (simp; done)) | exact sd_))) ?_
  refine u_pk (hq := by (first | ((repeat' apply And.intro) <;> first | rfl | exact ⟨by decide, by decide⟩ | exact ex_s.1 | exact ex_s.2.1 | exact ex_s.2.2.1 | exact ex_s.2.2.2 | exact ex_v | exact ex_r | decide | omega | (simp; done)) | exact sd_)) ?_
  refine u_mv (hq := by (first | ((repeat' apply And.intro) <;> first | rfl | exact ⟨by decide, by decide⟩ | exact ex_s.1 | exact ex_s.2.1 | exact ex_s.2.2.1 | exact ex_s.2.2.2 | exact ex_v | exact ex_r | decide | omega | (simp; done)) | exact sd_)) ?_
  refine s_mv (hq := by (intro hg; (try simp only [b_rules, bif_and, bif_or] at hg); (first | ((repeat' apply And.intro) <;> first | rfl | exact ⟨by decide, by decide⟩ | exact ex_s.1 | exact ex_s.2.1 | exact ex_s.2.2.1 | exact ex_s.2.2.2 | exact ex_v | exact ex_r | decide | omega | (simp; done)) | exact sd_))) ?_
  refine s_ln (hq := by (intro hg; (try simp only [b_rules, bif_and, bif_or] at hg); (first | ((repeat' apply And.intro) <;> first | rfl | exact ⟨by decide, by decide⟩ | exact ex_s.1 | exact ex_s.2.1 | exact ex_s.2.2.1 | exact ex_s.2.2.2 | exact ex_v | exact ex_r | decide | omega | (simp; done)) | exact sd_))) ?_
  refine s_bn (hq := by (intro hg; (try simp only [b_rules, bif_and, bif_or] at hg); (first | ((repeat' apply And.intro) <;> first | rfl | exact ⟨by decide, by decide⟩ | exact ex_s.1 | exact ex_s.2.1 | exact ex_s.2.2.1 | exact ex_s.2.2.2 | exact ex_v | exact ex_r | decide | omega | (simp; done)) | exact sd_))) ?_
  refine u_pk (hq := by (first | ((repeat' apply And.intro) <;> first | rfl | exact ⟨by decide, by decide⟩ | exact ex_s.1 | exact ex_s.2.1 | exact ex_s.2.2.1 | exact ex_s.2.2.2 | exact ex_v | exact ex_r | decide | omega | (simp; done)) | exact sd_)) ?_
  refine u_mv (hq := by (first | ((repeat' apply And.intro) <;> first | rfl | exact ⟨by decide, by decide⟩ | exact ex_s.1 | exact ex_s.2.1 | exact ex_s.2.2.1 | exact ex_s.2.2.2 | exact ex_v | exact ex_r | decide | omega | (simp; done)) | exact sd_)) ?_
  refine lg_nil ?_
  refine h6 _ ?_; clear h6; try clear N6
  refine vc_ret ?_
  try simp only [k_rules]
  refine fin2_ ?_
  (repeat' apply And.intro) <;> (first | (first | rfl | trivial | (simp; done) | (left; rfl)) | exact cl_)
 ·cases hg

def E_exG : Env Tryz.prog := E_small.add 7 (Spec.pure exG) exG_meets (by kernel_rfl)

def lawCG : List AV → Option (Prop × AV)
  | [.agg [.d (.sl xs)], .agg [.d (.sl zs)], .d (.sl ys), .d (.int .i64 t)] => some (xs = rows eO (dO xs) ∧ (dO xs).length ≤ 9223372036854775807 ∧ smallS (dO xs) ∧ zs = rows eR (dR zs) ∧ (dR zs).length ≤ 9223372036854775807 ∧ smallR (dR zs) ∧ ys = rows eW (dW ys) ∧ (dW ys).length ≤ 9223372036854775807, .d (.bool true))
  | _ => none
def lawCLG : List AV → Option (Prop × AV)
  | [.agg [.d (.sl xs)], .agg [.d (.sl zs)], .d (.sl ys), .d (.int .i64 t), .d (.int .i64 t')] => some (xs = rows eO (dO xs) ∧ (dO xs).length ≤ 9223372036854775807 ∧ smallS (dO xs) ∧ zs = rows eR (dR zs) ∧ (dR zs).length ≤ 9223372036854775807 ∧ smallR (dR zs) ∧ ys = rows eW (dW ys) ∧ (dW ys).length ≤ 9223372036854775807, .d (.bool true))
  | _ => none
theorem dgs_nil : dgs [] = [] := rfl
end Go.Proofs.YtcjipciiljjfhaaGreatDoor
