/- Walks, printed by wip/gen/walk.py. -/
import Derived.Test.YtjdhadbnmghdgaaT37
import Derived.Test.YtjdhadbnmghdgaaV5
set_option linter.all false
set_option maxRecDepth 100000
set_option maxHeartbeats 4000000
namespace Go.Proofs.Ytjdhadbnmghdgaa
open Go Go.Vc Go.RowKit
def exG : List AV → Option (Prop × AV)
  | [] => some (True, .d (.bool true))
  | _ => none
def lawTG : List AV → Option (Prop × AV)
  | [.d (.sl xs)] => some (xs = rows eT (dT xs) ∧ (dT xs).length ≤ 9223372036854775807 ∧ ∀ s ∈ dT xs, s.length ≤ 9223372036854775807, .d (.bool true))
  | _ => none
def lawXSG : List AV → Option (Prop × AV)
  | [.agg [.d (.sl xs), .d (.sl ps)], .d (.str s)] => some (xs = rows eI (dI xs) ∧ (dI xs).length ≤ 9223372036854775807 ∧ ps = rows eP (dP ps) ∧ (dP ps).length ≤ 9223372036854775807 ∧ smallP (dP ps) ∧ s.length ≤ 9223372036854775807, .d (.bool true))
  | _ => none
def lawTSG : List AV → Option (Prop × AV)
  | [.d (.sl xs), .d (.str s)] => some (xs = rows eT (dT xs) ∧ (dT xs).length ≤ 9223372036854775807 ∧ (∀ s ∈ dT xs, s.length ≤ 9223372036854775807) ∧ s.length ≤ 9223372036854775807, .d (.bool true))
  | _ => none
def lawTNG : List AV → Option (Prop × AV)
  | [.d (.sl xs), .d (.int .i64 n)] => some (xs = rows eT (dT xs) ∧ (dT xs).length ≤ 9223372036854775807 ∧ (∀ s ∈ dT xs, s.length ≤ 9223372036854775807) ∧ inI64 n, .d (.bool true))
  | _ => none
def lawXNSG : List AV → Option (Prop × AV)
  | [.agg [.d (.sl xs), .d (.sl ps)], .d (.int .i64 n), .d (.str s)] => some (xs = rows eI (dI xs) ∧ (dI xs).length ≤ 9223372036854775807 ∧ ps = rows eP (dP ps) ∧ (dP ps).length ≤ 9223372036854775807 ∧ smallP (dP ps) ∧ s.length ≤ 9223372036854775807 ∧ inI64 n, .d (.bool true))
  | _ => none

theorem exT_meets : Meets Try.prog 9 (Spec.pure exG) := by
 refine meets_fun (E_ixFault.at_ 59) Try.func9 rfl rfl rfl ?_
 intro args p r hg hp
 unfold exG at hg
 split at hg
 ·skip
  simp only [Option.some.injEq, Prod.mk.injEq] at hg
  obtain ⟨rfl, rfl⟩ := hg
  have hT : (E_ixFault).X = T := rfl
  have hx0 := And.intro @exI_D (And.intro @exI_1 (And.intro @exI_2 (And.intro @exI_3 (And.intro @rect_eT (And.intro @rect_eP (And.intro @dI_rows (And.intro @dP_rows (And.intro @dT_rows (And.intro @eP_eq (And.intro @dec_t (And.intro @dec_f @Try.results9)))))))))))
  have hx := hx0
  refine ⟨by rfl, ?_⟩
  intro F W0 hnp hmk
  refine vc_seq_k fun N1 h1 => ?_
  refine u_reg ?_
  try refine lg_mk ?_
  refine u_mv ?_
  refine lg_nil ?_
  refine h1 _ ?_; clear h1; try clear N1
  refine vc_seq_k fun N2 h2 => ?_
  refine u_reg ?_
  try refine lg_mk ?_
  refine u_bs ?_
  have hc := call_rule (E := (E_ixFault.at_ 59)) (f := 10) (sp := Spec.pure indexTG) rfl
  have hs := @indexTG.eq_1
  refine u_hp (hq := by (first | (exact ⟨rfl, fun s h => by rcases h with rfl | rfl <;> decide⟩) | exact sd_)) ?_
  refine u_mv ?_
  refine u_ex ?_
  refine u_ex ?_
  refine u_al ?_
  refine u_al ?_
  refine u_st ?_
  refine u_st ?_
  refine lg_nil ?_
  refine h2 _ ?_; clear h2; try clear N2
  refine vc_seq_k fun N3 h3 => ?_
  refine u_reg ?_
  try refine lg_mk ?_
  refine u_ld ?_
  have hc := call_rule (E := (E_ixFault.at_ 59)) (f := 16) (sp := Spec.pure candTG) rfl
  have hs := @candTG.eq_1
  refine u_hp (hq := by (first | (exact exI_s) | exact sd_)) ?_
  refine u_mv ?_
  refine u_ex ?_
  refine u_ex ?_
  refine u_al ?_
  refine u_mv ?_
  refine u_st ?_
  refine lg_nil ?_
  refine h3 _ ?_; clear h3; try clear N3
  refine vc_seq_k fun N4 h4 => ?_
  refine u_reg ?_
  try refine lg_mk ?_
  refine u_ld ?_
  have hc := call_rule (E := (E_ixFault.at_ 59)) (f := 16) (sp := Spec.pure candTG) rfl
  have hs := @candTG.eq_1
  refine u_hp (hq := by (first | (exact exI_s) | exact sd_)) ?_
  refine u_mv ?_
  refine u_ex ?_
  refine u_ex ?_
  refine u_al ?_
  refine u_mv ?_
  refine u_st ?_
  refine lg_nil ?_
  refine h4 _ ?_; clear h4; try clear N4
  refine vc_seq_k fun N5 h5 => ?_
  refine u_reg ?_
  try refine lg_mk ?_
  refine u_pt ?_
  refine u_ld ?_
  refine u_bn ?_
  refine u_mv ?_
  refine g_pt ?_
  refine g_ld ?_
  refine g_bn ?_
  refine u_pk ?_
  refine u_mv ?_
  refine g_pt ?_
  refine g_ld ?_
  refine g_bn ?_
  refine u_pk ?_
  refine u_mv ?_
  refine g_pt ?_
  refine g_ld ?_
  refine g_ln ?_
  refine g_bn ?_
  refine u_pk ?_
  refine u_mv ?_
  refine g_pt ?_
  refine g_ld ?_
  refine g_pt ?_
  refine g_pt ?_
  refine g_ld ?_
  refine g_bn ?_
  refine u_pk ?_
  refine u_mv ?_
  refine g_mv ?_
  refine t_bs ?_
  have hc := call_rule (E := (E_ixFault.at_ 59)) (f := 19) (sp := Spec.pure intsG) rfl
  have hs := @intsG.eq_1
  refine g_cp ?_
  refine u_pk ?_
  refine u_mv ?_
  refine g_mv ?_
  refine t_bs ?_
  have hc := call_rule (E := (E_ixFault.at_ 59)) (f := 19) (sp := Spec.pure intsG) rfl
  have hs := @intsG.eq_1
  refine g_cp ?_
  refine u_pk ?_
  refine u_mv ?_
  refine lg_nil ?_
  refine h5 _ ?_; clear h5; try clear N5
  refine vc_ret ?_
  try simp only [k_rules]
  refine fin2_ ?_
  (repeat' apply And.intro) <;> (first | (first | rfl | (simp; done) | (left; rfl)) | exact cl_)
 ·cases hg

def E_exT : Env Try.prog := E_ixFault.add 9 (Spec.pure exG) exT_meets (by kernel_rfl)
end Go.Proofs.Ytjdhadbnmghdgaa
