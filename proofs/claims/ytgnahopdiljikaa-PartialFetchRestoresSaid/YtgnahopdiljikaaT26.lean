/- Walks, printed by wip/gen/walk.py. -/
import Derived.Test.YtgnahopdiljikaaT25
import Derived.Test.YtgnahopdiljikaaV5
set_option linter.all false
set_option maxRecDepth 100000
set_option maxHeartbeats 4000000
namespace Go.Proofs.Ytgnahopdiljikaa
open Go Go.Vc Go.RowKit
def exA : SO := ⟨17106956, ⟨1, [], [7]⟩⟩
def exB : SO := ⟨1662115313083863167, ⟨2, [17106956], []⟩⟩
def exS : List SO := [exA, exB]
theorem ex_1 : putF [] ⟨1, [], [7]⟩ = (0, 0) ∧ putS [] ⟨1, [], [7]⟩ = [exA] ∧ putD [] ⟨1, [], [7]⟩ = 17106956 := by decide +kernel
theorem ex_2 : putF [exA] ⟨2, [17106956], []⟩ = (0, 0) ∧ putS [exA] ⟨2, [17106956], []⟩ = exS ∧ putD [exA] ⟨2, [17106956], []⟩ = 1662115313083863167 := by decide +kernel
theorem ex_3 : filF exS 0 = (0, 0) ∧ filS exS 0 = [exB] ∧ filP exS 0 = [17106956] := by decide +kernel
theorem ex_4 : needF [exB] [17106956] [1662115313083863167] = (0, 0) ∧ needR [exB] [17106956] [1662115313083863167] = [17106956] := by decide +kernel
theorem ex_5 : fetF [exB] [17106956] exS [17106956] = (0, 0) ∧ fetS [exB] [17106956] exS [17106956] = exS ∧ fetL [exB] [17106956] exS [17106956] = [] := by decide +kernel
theorem ex_0 : dO [] = [] ∧ dI [] = [] ∧ dU [] = [] ∧ dU [[.int .u8 7]] = [7] ∧ dI [[.int .i64 17106956]] = [17106956] ∧ dI [[.int .i64 1662115313083863167]] = [1662115313083863167] ∧ exS.length = 2 ∧ [exA].length = 1 ∧ [exB].length = 1 := ⟨rfl, rfl, rfl, rfl, rfl, rfl, rfl, rfl, rfl⟩
theorem ex_s : smallS exS ∧ smallS [exA] ∧ smallS [exB] ∧ smallS [] := by
  refine ⟨fun x hx => ?_, fun x hx => ?_, fun x hx => ?_, fun x hx => by cases hx⟩
  · have : x = exA ∨ x = exB := by simpa [exS] using hx
    rcases this with rfl | rfl <;> exact ⟨by decide, by decide⟩
  · obtain rfl : x = exA := by simpa using hx
    exact ⟨by decide, by decide⟩
  · obtain rfl : x = exB := by simpa using hx
    exact ⟨by decide, by decide⟩
theorem ex_6 : ((1 : Nat) : Int) = 1 := rfl
def smallG : List AV → Option (Prop × AV)
  | [] => some (True, .tup [.agg [.d (.sl (rows eO exS))], .d (.int .i64 17106956), .d (.int .i64 1662115313083863167), .d (.bool true)])
  | _ => none
def exG : List AV → Option (Prop × AV)
  | [] => some (True, .d (.bool true))
  | _ => none

theorem small_meets : Meets Try.prog 25 (Spec.pure smallG) := by
 refine meets_fun (E_nedR.at_ 48) Try.func25 rfl rfl rfl ?_
 intro args p r hg hp
 unfold smallG at hg
 split at hg
 ·skip
  simp only [Option.some.injEq, Prod.mk.injEq] at hg
  obtain ⟨rfl, rfl⟩ := hg
  have hT : (E_nedR).X = T := rfl
  have hx0 := And.intro @ex_0 (And.intro @ex_1 (And.intro @ex_2 (And.intro @rect_eO (And.intro @dI_rows (And.intro @dU_rows (And.intro @dO_rows (And.intro @dec_t (And.intro @dec_f @Try.results25))))))))
  have hx := hx0
  refine ⟨by rfl, ?_⟩
  intro F W0 hnp hmk
  refine vc_seq_k fun N1 h1 => ?_
  refine u_reg ?_
  try refine lg_mk ?_
  refine u_al ?_
  refine u_mv ?_
  refine u_mv ?_
  refine u_mv ?_
  refine lg_nil ?_
  refine h1 _ ?_; clear h1; try clear N1
  refine vc_seq_k fun N2 h2 => ?_
  refine u_reg ?_
  try refine lg_mk ?_
  refine u_bd ?_
  refine u_bs ?_
  refine u_bd ?_
  have hc := call_rule (E := (E_nedR.at_ 48)) (f := 39) (sp := Spec.pure putG) rfl
  have hs := @putG.eq_1
  refine u_hp (hq := by (first | ((repeat' apply And.intro) <;> first | rfl | exact ⟨by decide, by decide⟩ | exact ex_s.1 | exact ex_s.2.1 | exact ex_s.2.2.1 | exact ex_s.2.2.2 | decide | omega | (simp; done)) | exact sd_)) ?_
  refine u_mv ?_
  refine u_ex ?_
  refine u_ex ?_
  refine u_ex ?_
  refine u_al ?_
  refine u_al ?_
  refine u_st ?_
  refine u_mv ?_
  refine u_st ?_
  refine lg_nil ?_
  refine h2 _ ?_; clear h2; try clear N2
  refine vc_seq_k fun N3 h3 => ?_
  refine u_reg ?_
  try refine lg_mk ?_
  refine u_ld ?_
  refine u_mv ?_
  refine u_bs ?_
  refine u_bd ?_
  have hc := call_rule (E := (E_nedR.at_ 48)) (f := 39) (sp := Spec.pure putG) rfl
  have hs := @putG.eq_1
  refine u_hp (hq := by (first | ((repeat' apply And.intro) <;> first | rfl | exact ⟨by decide, by decide⟩ | exact ex_s.1 | exact ex_s.2.1 | exact ex_s.2.2.1 | exact ex_s.2.2.2 | decide | omega | (simp; done)) | exact sd_)) ?_
  refine u_mv ?_
  refine u_ex ?_
  refine u_ex ?_
  refine u_ex ?_
  refine u_al ?_
  refine u_st ?_
  refine u_mv ?_
  refine u_st ?_
  refine lg_nil ?_
  refine h3 _ ?_; clear h3; try clear N3
  refine vc_seq_k fun N4 h4 => ?_
  refine vc_regT [] (.seq [0, 1, 2, 3, 4, 5, 6, 7, 8, 9, 10, 11, 12, 13, 14, 15, 16] (.alt 17 (.alt 18 (.alt 19 (.seq [20, 21, 22, 23, 24, 25] .nil) (.alt 22 (.seq [19, 20, 21, 23, 24, 25] .nil) .nil)) (.alt 22 (.seq [18, 19, 20, 21, 23, 24, 25] .nil) .nil)) (.alt 22 (.seq [17, 18, 19, 20, 21, 23, 24, 25] .nil) .nil))) hmix (by kernel_rfl) ?_
  refine at_seq ?_
  simp only [pick_rules, list_rules]
  try refine lg_mk ?_
  refine u_ld ?_
  refine u_mv ?_
  refine u_mv ?_
  refine u_pt ?_
  refine u_ld ?_
  refine u_bn ?_
  refine u_mv ?_
  refine g_pt ?_
  refine g_ld ?_
  refine g_bn ?_
  refine u_pk ?_
  refine u_mv ?_
  refine g_mv ?_
  refine g_mv ?_
  refine g_bn ?_
  refine u_pk ?_
  refine u_mv ?_
  refine lg_nil ?_
  refine at_alt ?_ ?_
  ·simp only [pick_rules, list_rules]
   try refine lg_mk ?_
   refine g_pt ?_
   refine lg_nil ?_
   refine at_alt ?_ ?_
   ·simp only [pick_rules, list_rules]
    try refine lg_mk ?_
    refine g_ld ?_
    refine lg_nil ?_
    refine at_alt ?_ ?_
    ·simp only [pick_rules, list_rules]
     try refine lg_mk ?_
     refine g_ln ?_
     refine lg_nil ?_
     refine at_seq ?_
     simp only [pick_rules, list_rules]
     try refine lg_mk ?_
     refine g_bn ?_
     refine u_pk ?_
     refine u_st ?_
     refine u_mv ?_
     refine u_mv ?_
     refine u_mv ?_
     refine lg_nil ?_
     refine at_nil ?_
     refine h4 _ ?_; clear h4; try clear N4
     refine vc_ret ?_
     try simp only [k_rules]
     refine fin2_ ?_
     (repeat' apply And.intro) <;> (first | (first | rfl | trivial | (simp; done) | (left; rfl)) | exact cl_)
    refine at_alt ?_ ?_
    ·simp only [pick_rules, list_rules]
     try refine lg_mk ?_
     refine u_st ?_
     refine lg_nil ?_
     refine at_seq ?_
     simp only [pick_rules, list_rules]
     try refine lg_mk ?_
     refine g_ln ?_
     refine g_bn ?_
     refine u_pk ?_
     refine u_mv ?_
     refine u_mv ?_
     refine u_mv ?_
     refine lg_nil ?_
     refine at_nil ?_
     refine h4 _ ?_; clear h4; try clear N4
     refine vc_ret ?_
     try simp only [k_rules]
     refine fin2_ ?_
     (repeat' apply And.intro) <;> (first | (first | rfl | trivial | (simp; done) | (left; rfl)) | exact cl_)
    exact at_end
   refine at_alt ?_ ?_
   ·simp only [pick_rules, list_rules]
    try refine lg_mk ?_
    refine u_st ?_
    refine lg_nil ?_
    refine at_seq ?_
    simp only [pick_rules, list_rules]
    try refine lg_mk ?_
    refine g_ld ?_
    refine g_ln ?_
    refine g_bn ?_
    refine u_pk ?_
    refine u_mv ?_
    refine u_mv ?_
    refine u_mv ?_
    refine lg_nil ?_
    refine at_nil ?_
    refine h4 _ ?_; clear h4; try clear N4
    refine vc_ret ?_
    try simp only [k_rules]
    refine fin2_ ?_
    (repeat' apply And.intro) <;> (first | (first | rfl | trivial | (simp; done) | (left; rfl)) | exact cl_)
   exact at_end
  refine at_alt ?_ ?_
  ·simp only [pick_rules, list_rules]
   try refine lg_mk ?_
   refine u_st ?_
   refine lg_nil ?_
   refine at_seq ?_
   simp only [pick_rules, list_rules]
   try refine lg_mk ?_
   refine g_pt ?_
   refine g_ld ?_
   refine g_ln ?_
   refine g_bn ?_
   refine u_pk ?_
   refine u_mv ?_
   refine u_mv ?_
   refine u_mv ?_
   refine lg_nil ?_
   refine at_nil ?_
   refine h4 _ ?_; clear h4; try clear N4
   refine vc_ret ?_
   try simp only [k_rules]
   refine fin2_ ?_
   (repeat' apply And.intro) <;> (first | (first | rfl | trivial | (simp; done) | (left; rfl)) | exact cl_)
  exact at_end
 ·cases hg

def E_small : Env Try.prog := E_nedR.add 25 (Spec.pure smallG) small_meets (by kernel_rfl)

theorem exP_meets : Meets Try.prog 9 (Spec.pure exG) := by
 refine meets_fun (E_small.at_ 87) Try.func9 rfl rfl rfl ?_
 intro args p r hg hp
 unfold exG at hg
 split at hg
 ·skip
  simp only [Option.some.injEq, Prod.mk.injEq] at hg
  obtain ⟨rfl, rfl⟩ := hg
  have hT : (E_small).X = T := rfl
  have hx0 := And.intro @ex_6 (And.intro @ex_0 (And.intro @ex_3 (And.intro @ex_4 (And.intro @ex_5 (And.intro @rect_eO (And.intro @dI_rows (And.intro @dU_rows (And.intro @dO_rows (And.intro @dec_t (And.intro @dec_f @Try.results9))))))))))
  have hx := hx0
  refine ⟨by rfl, ?_⟩
  intro F W0 hnp hmk
  refine vc_seq_k fun N1 h1 => ?_
  refine u_reg ?_
  try refine lg_mk ?_
  refine u_mv ?_
  refine lg_nil ?_
  refine h1 _ ?_; clear h1; try clear N1
  refine vc_seq_k fun N2 h2 => ?_
  refine u_reg ?_
  try refine lg_mk ?_
  have hc := call_rule (E := (E_small.at_ 87)) (f := 25) (sp := Spec.pure smallG) rfl
  have hs := @smallG.eq_1
  refine u_hp ?_
  refine u_mv ?_
  refine u_ex ?_
  refine u_ex ?_
  refine u_ex ?_
  refine u_ex ?_
  refine u_al ?_
  refine u_st ?_
  refine u_mv ?_
  refine u_mv ?_
  refine u_mv ?_
  refine lg_nil ?_
  refine h2 _ ?_; clear h2; try clear N2
  refine vc_seq_k fun N3 h3 => ?_
  refine u_reg ?_
  try refine lg_mk ?_
  refine u_ld ?_
  have hc := call_rule (E := (E_small.at_ 87)) (f := 10) (sp := Spec.pure filG) rfl
  have hs := @filG.eq_1
  refine u_hp (hq := by (first | ((repeat' apply And.intro) <;> first | rfl | exact ⟨by decide, by decide⟩ | exact ex_s.1 | exact ex_s.2.1 | exact ex_s.2.2.1 | exact ex_s.2.2.2 | decide | omega | (simp; done)) | exact sd_)) ?_
  refine u_mv ?_
  refine u_ex ?_
  refine u_ex ?_
  refine u_ex ?_
  refine u_al ?_
  refine u_al ?_
  refine u_st ?_
  refine u_mv ?_
  refine u_st ?_
  refine lg_nil ?_
  refine h3 _ ?_; clear h3; try clear N3
  refine vc_seq_k fun N4 h4 => ?_
  refine u_reg ?_
  try refine lg_mk ?_
  refine u_ld ?_
  refine u_mv ?_
  refine u_mv ?_
  refine u_bs ?_
  have hc := call_rule (E := (E_small.at_ 87)) (f := 18) (sp := Spec.pure needG) rfl
  have hs := @needG.eq_1
  refine u_hp (hq := by (first | ((repeat' apply And.intro) <;> first | rfl | exact ⟨by decide, by decide⟩ | exact ex_s.1 | exact ex_s.2.1 | exact ex_s.2.2.1 | exact ex_s.2.2.2 | decide | omega | (simp; done)) | exact sd_)) ?_
  refine u_mv ?_
  refine u_ex ?_
  refine u_ex ?_
  refine u_al ?_
  refine u_mv ?_
  refine u_st ?_
  refine lg_nil ?_
  refine h4 _ ?_; clear h4; try clear N4
  refine vc_seq_k fun N5 h5 => ?_
  refine u_reg ?_
  try refine lg_mk ?_
  refine u_ld ?_
  refine u_mv ?_
  refine u_ld ?_
  refine u_mv ?_
  refine u_bs ?_
  have hc := call_rule (E := (E_small.at_ 87)) (f := 21) (sp := Spec.pure fetG) rfl
  have hs := @fetG.eq_1
  refine u_hp (hq := by (first | ((repeat' apply And.intro) <;> first | rfl | exact ⟨by decide, by decide⟩ | exact ex_s.1 | exact ex_s.2.1 | exact ex_s.2.2.1 | exact ex_s.2.2.2 | decide | omega | (simp; done)) | exact sd_)) ?_
  refine u_mv ?_
  refine u_ex ?_
  refine u_ex ?_
  refine u_ex ?_
  refine u_al ?_
  refine u_al ?_
  refine u_st ?_
  refine u_mv ?_
  refine u_st ?_
  refine lg_nil ?_
  refine h5 _ ?_; clear h5; try clear N5
  refine vc_seq_k fun N6 h6 => ?_
  refine u_reg ?_
  try refine lg_mk ?_
  refine u_mv (hq := by (first | ((repeat' apply And.intro) <;> first | rfl | exact ⟨by decide, by decide⟩ | exact ex_s.1 | exact ex_s.2.1 | exact ex_s.2.2.1 | exact ex_s.2.2.2 | decide | omega | (simp; done)) | exact sd_)) ?_
  refine u_mv (hq := by (first | ((repeat' apply And.intro) <;> first | rfl | exact ⟨by decide, by decide⟩ | exact ex_s.1 | exact ex_s.2.1 | exact ex_s.2.2.1 | exact ex_s.2.2.2 | decide | omega | (simp; done)) | exact sd_)) ?_
  refine s_pt (hq := by (intro hg; (try simp only [b_rules, bif_and, bif_or] at hg); (first | ((repeat' apply And.intro) <;> first | rfl | exact ⟨by decide, by decide⟩ | exact ex_s.1 | exact ex_s.2.1 | exact ex_s.2.2.1 | exact ex_s.2.2.2 | decide | omega | (simp; done)) | exact sd_))) ?_
  refine s_ld (hq := by (intro hg; (try simp only [b_rules, bif_and, bif_or] at hg); (first | ((repeat' apply And.intro) <;> first | rfl | exact ⟨by decide, by decide⟩ | exact ex_s.1 | exact ex_s.2.1 | exact ex_s.2.2.1 | exact ex_s.2.2.2 | decide | omega | (simp; done)) | exact sd_))) ?_
  refine s_bn (hq := by (intro hg; (try simp only [b_rules, bif_and, bif_or] at hg); (first | ((repeat' apply And.intro) <;> first | rfl | exact ⟨by decide, by decide⟩ | exact ex_s.1 | exact ex_s.2.1 | exact ex_s.2.2.1 | exact ex_s.2.2.2 | decide | omega | (simp; done)) | exact sd_))) ?_
  refine u_pk (hq := by (first | ((repeat' apply And.intro) <;> first | rfl | exact ⟨by decide, by decide⟩ | exact ex_s.1 | exact ex_s.2.1 | exact ex_s.2.2.1 | exact ex_s.2.2.2 | decide | omega | (simp; done)) | exact sd_)) ?_
  refine u_mv (hq := by (first | ((repeat' apply And.intro) <;> first | rfl | exact ⟨by decide, by decide⟩ | exact ex_s.1 | exact ex_s.2.1 | exact ex_s.2.2.1 | exact ex_s.2.2.2 | decide | omega | (simp; done)) | exact sd_)) ?_
  refine s_pt (hq := by (intro hg; (try simp only [b_rules, bif_and, bif_or] at hg); (first | ((repeat' apply And.intro) <;> first | rfl | exact ⟨by decide, by decide⟩ | exact ex_s.1 | exact ex_s.2.1 | exact ex_s.2.2.1 | exact ex_s.2.2.2 | decide | omega | (simp; done)) | exact sd_))) ?_
  refine s_ld (hq := by (intro hg; (try simp only [b_rules, bif_and, bif_or] at hg); (first | ((repeat' apply And.intro) <;> first | rfl | exact ⟨by decide, by decide⟩ | exact ex_s.1 | exact ex_s.2.1 | exact ex_s.2.2.1 | exact ex_s.2.2.2 | decide | omega | (simp; done)) | exact sd_))) ?_
  refine s_bn (hq := by (intro hg; (try simp only [b_rules, bif_and, bif_or] at hg); (first | ((repeat' apply And.intro) <;> first | rfl | exact ⟨by decide, by decide⟩ | exact ex_s.1 | exact ex_s.2.1 | exact ex_s.2.2.1 | exact ex_s.2.2.2 | decide | omega | (simp; done)) | exact sd_))) ?_
  refine u_pk (hq := by (first | ((repeat' apply And.intro) <;> first | rfl | exact ⟨by decide, by decide⟩ | exact ex_s.1 | exact ex_s.2.1 | exact ex_s.2.2.1 | exact ex_s.2.2.2 | decide | omega | (simp; done)) | exact sd_)) ?_
  refine u_mv (hq := by (first | ((repeat' apply And.intro) <;> first | rfl | exact ⟨by decide, by decide⟩ | exact ex_s.1 | exact ex_s.2.1 | exact ex_s.2.2.1 | exact ex_s.2.2.2 | decide | omega | (simp; done)) | exact sd_)) ?_
  refine s_pt (hq := by (intro hg; (try simp only [b_rules, bif_and, bif_or] at hg); (first | ((repeat' apply And.intro) <;> first | rfl | exact ⟨by decide, by decide⟩ | exact ex_s.1 | exact ex_s.2.1 | exact ex_s.2.2.1 | exact ex_s.2.2.2 | decide | omega | (simp; done)) | exact sd_))) ?_
  refine s_ld (hq := by (intro hg; (try simp only [b_rules, bif_and, bif_or] at hg); (first | ((repeat' apply And.intro) <;> first | rfl | exact ⟨by decide, by decide⟩ | exact ex_s.1 | exact ex_s.2.1 | exact ex_s.2.2.1 | exact ex_s.2.2.2 | decide | omega | (simp; done)) | exact sd_))) ?_
  refine s_bn (hq := by (intro hg; (try simp only [b_rules, bif_and, bif_or] at hg); (first | ((repeat' apply And.intro) <;> first | rfl | exact ⟨by decide, by decide⟩ | exact ex_s.1 | exact ex_s.2.1 | exact ex_s.2.2.1 | exact ex_s.2.2.2 | decide | omega | (simp; done)) | exact sd_))) ?_
  refine u_pk (hq := by (first | ((repeat' apply And.intro) <;> first | rfl | exact ⟨by decide, by decide⟩ | exact ex_s.1 | exact ex_s.2.1 | exact ex_s.2.2.1 | exact ex_s.2.2.2 | decide | omega | (simp; done)) | exact sd_)) ?_
  refine u_mv (hq := by (first | ((repeat' apply And.intro) <;> first | rfl | exact ⟨by decide, by decide⟩ | exact ex_s.1 | exact ex_s.2.1 | exact ex_s.2.2.1 | exact ex_s.2.2.2 | decide | omega | (simp; done)) | exact sd_)) ?_
  refine s_pt (hq := by (intro hg; (try simp only [b_rules, bif_and, bif_or] at hg); (first | ((repeat' apply And.intro) <;> first | rfl | exact ⟨by decide, by decide⟩ | exact ex_s.1 | exact ex_s.2.1 | exact ex_s.2.2.1 | exact ex_s.2.2.2 | decide | omega | (simp; done)) | exact sd_))) ?_
  refine s_ld (hq := by (intro hg; (try simp only [b_rules, bif_and, bif_or] at hg); (first | ((repeat' apply And.intro) <;> first | rfl | exact ⟨by decide, by decide⟩ | exact ex_s.1 | exact ex_s.2.1 | exact ex_s.2.2.1 | exact ex_s.2.2.2 | decide | omega | (simp; done)) | exact sd_))) ?_
  refine s_ln (hq := by (intro hg; (try simp only [b_rules, bif_and, bif_or] at hg); (first | ((repeat' apply And.intro) <;> first | rfl | exact ⟨by decide, by decide⟩ | exact ex_s.1 | exact ex_s.2.1 | exact ex_s.2.2.1 | exact ex_s.2.2.2 | decide | omega | (simp; done)) | exact sd_))) ?_
  refine s_bn (hq := by (intro hg; (try simp only [b_rules, bif_and, bif_or] at hg); (first | ((repeat' apply And.intro) <;> first | rfl | exact ⟨by decide, by decide⟩ | exact ex_s.1 | exact ex_s.2.1 | exact ex_s.2.2.1 | exact ex_s.2.2.2 | decide | omega | (simp; done)) | exact sd_))) ?_
  refine u_pk (hq := by (first | ((repeat' apply And.intro) <;> first | rfl | exact ⟨by decide, by decide⟩ | exact ex_s.1 | exact ex_s.2.1 | exact ex_s.2.2.1 | exact ex_s.2.2.2 | decide | omega | (simp; done)) | exact sd_)) ?_
  refine u_mv (hq := by (first | ((repeat' apply And.intro) <;> first | rfl | exact ⟨by decide, by decide⟩ | exact ex_s.1 | exact ex_s.2.1 | exact ex_s.2.2.1 | exact ex_s.2.2.2 | decide | omega | (simp; done)) | exact sd_)) ?_
  refine s_mv (hq := by (intro hg; (try simp only [b_rules, bif_and, bif_or] at hg); (first | ((repeat' apply And.intro) <;> first | rfl | exact ⟨by decide, by decide⟩ | exact ex_s.1 | exact ex_s.2.1 | exact ex_s.2.2.1 | exact ex_s.2.2.2 | decide | omega | (simp; done)) | exact sd_))) ?_
  refine s_mv (hq := by (intro hg; (try simp only [b_rules, bif_and, bif_or] at hg); (first | ((repeat' apply And.intro) <;> first | rfl | exact ⟨by decide, by decide⟩ | exact ex_s.1 | exact ex_s.2.1 | exact ex_s.2.2.1 | exact ex_s.2.2.2 | decide | omega | (simp; done)) | exact sd_))) ?_
  refine t_bs (hq := by (first | ((repeat' apply And.intro) <;> first | rfl | exact ⟨by decide, by decide⟩ | exact ex_s.1 | exact ex_s.2.1 | exact ex_s.2.2.1 | exact ex_s.2.2.2 | decide | omega | (simp; done)) | exact sd_)) ?_
  have hc := call_rule (E := (E_small.at_ 87)) (f := 16) (sp := Spec.pure intsG) rfl
  have hs := @intsG.eq_1
  refine s_cp (hq := by (intro hg; (try simp only [b_rules, bif_and, bif_or] at hg); (first | ((repeat' apply And.intro) <;> first | rfl | exact ⟨by decide, by decide⟩ | exact ex_s.1 | exact ex_s.2.1 | exact ex_s.2.2.1 | exact ex_s.2.2.2 | decide | omega | (simp; done)) | exact sd_))) ?_
  refine u_pk (hq := by (first | ((repeat' apply And.intro) <;> first | rfl | exact ⟨by decide, by decide⟩ | exact ex_s.1 | exact ex_s.2.1 | exact ex_s.2.2.1 | exact ex_s.2.2.2 | decide | omega | (simp; done)) | exact sd_)) ?_
  refine u_mv (hq := by (first | ((repeat' apply And.intro) <;> first | rfl | exact ⟨by decide, by decide⟩ | exact ex_s.1 | exact ex_s.2.1 | exact ex_s.2.2.1 | exact ex_s.2.2.2 | decide | omega | (simp; done)) | exact sd_)) ?_
  refine s_mv (hq := by (intro hg; (try simp only [b_rules, bif_and, bif_or] at hg); (first | ((repeat' apply And.intro) <;> first | rfl | exact ⟨by decide, by decide⟩ | exact ex_s.1 | exact ex_s.2.1 | exact ex_s.2.2.1 | exact ex_s.2.2.2 | decide | omega | (simp; done)) | exact sd_))) ?_
  refine s_mv (hq := by (intro hg; (try simp only [b_rules, bif_and, bif_or] at hg); (first | ((repeat' apply And.intro) <;> first | rfl | exact ⟨by decide, by decide⟩ | exact ex_s.1 | exact ex_s.2.1 | exact ex_s.2.2.1 | exact ex_s.2.2.2 | decide | omega | (simp; done)) | exact sd_))) ?_
  refine t_bs (hq := by (first | ((repeat' apply And.intro) <;> first | rfl | exact ⟨by decide, by decide⟩ | exact ex_s.1 | exact ex_s.2.1 | exact ex_s.2.2.1 | exact ex_s.2.2.2 | decide | omega | (simp; done)) | exact sd_)) ?_
  have hc := call_rule (E := (E_small.at_ 87)) (f := 16) (sp := Spec.pure intsG) rfl
  have hs := @intsG.eq_1
  refine s_cp (hq := by (intro hg; (try simp only [b_rules, bif_and, bif_or] at hg); (first | ((repeat' apply And.intro) <;> first | rfl | exact ⟨by decide, by decide⟩ | exact ex_s.1 | exact ex_s.2.1 | exact ex_s.2.2.1 | exact ex_s.2.2.2 | decide | omega | (simp; done)) | exact sd_))) ?_
  refine u_pk (hq := by (first | ((repeat' apply And.intro) <;> first | rfl | exact ⟨by decide, by decide⟩ | exact ex_s.1 | exact ex_s.2.1 | exact ex_s.2.2.1 | exact ex_s.2.2.2 | decide | omega | (simp; done)) | exact sd_)) ?_
  refine u_mv (hq := by (first | ((repeat' apply And.intro) <;> first | rfl | exact ⟨by decide, by decide⟩ | exact ex_s.1 | exact ex_s.2.1 | exact ex_s.2.2.1 | exact ex_s.2.2.2 | decide | omega | (simp; done)) | exact sd_)) ?_
  refine s_mv (hq := by (intro hg; (try simp only [b_rules, bif_and, bif_or] at hg); (first | ((repeat' apply And.intro) <;> first | rfl | exact ⟨by decide, by decide⟩ | exact ex_s.1 | exact ex_s.2.1 | exact ex_s.2.2.1 | exact ex_s.2.2.2 | decide | omega | (simp; done)) | exact sd_))) ?_
  refine s_ln (hq := by (intro hg; (try simp only [b_rules, bif_and, bif_or] at hg); (first | ((repeat' apply And.intro) <;> first | rfl | exact ⟨by decide, by decide⟩ | exact ex_s.1 | exact ex_s.2.1 | exact ex_s.2.2.1 | exact ex_s.2.2.2 | decide | omega | (simp; done)) | exact sd_))) ?_
  refine s_bn (hq := by (intro hg; (try simp only [b_rules, bif_and, bif_or] at hg); (first | ((repeat' apply And.intro) <;> first | rfl | exact ⟨by decide, by decide⟩ | exact ex_s.1 | exact ex_s.2.1 | exact ex_s.2.2.1 | exact ex_s.2.2.2 | decide | omega | (simp; done)) | exact sd_))) ?_
  refine u_pk (hq := by (first | ((repeat' apply And.intro) <;> first | rfl | exact ⟨by decide, by decide⟩ | exact ex_s.1 | exact ex_s.2.1 | exact ex_s.2.2.1 | exact ex_s.2.2.2 | decide | omega | (simp; done)) | exact sd_)) ?_
  refine u_mv (hq := by (first | ((repeat' apply And.intro) <;> first | rfl | exact ⟨by decide, by decide⟩ | exact ex_s.1 | exact ex_s.2.1 | exact ex_s.2.2.1 | exact ex_s.2.2.2 | decide | omega | (simp; done)) | exact sd_)) ?_
  refine s_ld (hq := by (intro hg; (try simp only [b_rules, bif_and, bif_or] at hg); (first | ((repeat' apply And.intro) <;> first | rfl | exact ⟨by decide, by decide⟩ | exact ex_s.1 | exact ex_s.2.1 | exact ex_s.2.2.1 | exact ex_s.2.2.2 | decide | omega | (simp; done)) | exact sd_))) ?_
  refine s_ld (hq := by (intro hg; (try simp only [b_rules, bif_and, bif_or] at hg); (first | ((repeat' apply And.intro) <;> first | rfl | exact ⟨by decide, by decide⟩ | exact ex_s.1 | exact ex_s.2.1 | exact ex_s.2.2.1 | exact ex_s.2.2.2 | decide | omega | (simp; done)) | exact sd_))) ?_
  have hc := call_rule (E := (E_small.at_ 87)) (f := 14) (sp := Spec.pure storesG) rfl
  have hs := @storesG.eq_1
  refine s_cp (hq := by (intro hg; (try simp only [b_rules, bif_and, bif_or] at hg); (first | ((repeat' apply And.intro) <;> first | rfl | exact ⟨by decide, by decide⟩ | exact ex_s.1 | exact ex_s.2.1 | exact ex_s.2.2.1 | exact ex_s.2.2.2 | decide | omega | (simp; done)) | exact sd_))) ?_
  refine u_pk (hq := by (first | ((repeat' apply And.intro) <;> first | rfl | exact ⟨by decide, by decide⟩ | exact ex_s.1 | exact ex_s.2.1 | exact ex_s.2.2.1 | exact ex_s.2.2.2 | decide | omega | (simp; done)) | exact sd_)) ?_
  refine u_mv (hq := by (first | ((repeat' apply And.intro) <;> first | rfl | exact ⟨by decide, by decide⟩ | exact ex_s.1 | exact ex_s.2.1 | exact ex_s.2.2.1 | exact ex_s.2.2.2 | decide | omega | (simp; done)) | exact sd_)) ?_
  refine lg_nil ?_
  refine h6 _ ?_; clear h6; try clear N6
  refine vc_ret ?_
  try simp only [k_rules]
  refine fin2_ ?_
  (repeat' apply And.intro) <;> (first | (first | rfl | trivial | (simp; done) | (left; rfl)) | exact cl_)
 ·cases hg

def E_exP : Env Try.prog := E_small.add 9 (Spec.pure exG) exP_meets (by kernel_rfl)
end Go.Proofs.Ytgnahopdiljikaa
