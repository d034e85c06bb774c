/- Walks, printed by wip/gen/walk.py. -/
import Derived.Test.YtlbjffdaooadoaaDoorT70
import Derived.Test.YtlbjffdaooadoaaDoorV5
set_option linter.all false
set_option maxRecDepth 100000
set_option maxHeartbeats 4000000
namespace Go.Proofs.YtlbjffdaooadoaaDoor
open Go Go.Vc Go.RowKit
def seldG : List AV → Option (Prop × AV)
  | [.d (.sl xs), .agg [.d (.sl ys)]] => some (xs = rows eC (dC xs) ∧ (dC xs).length ≤ 9223372036854775807 ∧ smallC (dC xs) ∧ ys = rows eN (dN ys) ∧ (dN ys).length ≤ 9223372036854775807, .tup [.d (.sl (rows eB (evV (dC xs) (dN ys)).2.2)), .d (.bool (decide ((evV (dC xs) (dN ys)).1 = 0) && decide (((evV (dC xs) (dN ys)).2.2.length : Int) = (dC xs).length)))])
  | _ => none

theorem ev_len {l : List Cm} {q : List Nd} (h : l.length ≤ 9223372036854775807) : (evV l q).2.2.length ≤ 9223372036854775807 := by
  unfold evV
  split
  · exact Nat.zero_le _
  · split
    · exact Nat.zero_le _
    · rename_i hv
      have := rtV_len (l := l) (q := q) (Decidable.byContradiction hv)
      unfold rtV at this
      show ((setsQ l q q.length).getD (q.length - 1) []).length ≤ _
      omega

theorem seld_meets : Meets Tryd.prog 33 (Spec.pure seldG) := by
 refine meets_fun (E_oex.at_ 25) Tryd.func33 rfl rfl rfl ?_
 intro args p r hg hp
 unfold seldG at hg
 split at hg
 rename_i xs ys
 simp only [Option.some.injEq, Prod.mk.injEq] at hg
 obtain ⟨rfl, rfl⟩ := hg
 obtain ⟨he, hl, hsm, he2, hl2⟩ := hp
 generalize dC xs = l at *
 generalize dN ys = q at *
 subst he he2
 have hel := ev_len (q := q) hl
 have hT : (E_oex).X = T := rfl
 have hx0 := And.intro @rect_eC (And.intro @rect_eN (And.intro @dC_rows (And.intro @dN_rows (And.intro @dB_rows (And.intro @dec_t (And.intro @dec_f @Tryd.results33))))))
 have hx := hx0
 refine ⟨by rfl, ?_⟩
 intro F W0 hnp hmk
 refine vc_seq_k fun N1 h1 => ?_
 refine u_reg ?_
 try refine lg_mk ?_
 refine u_bx ?_
 iterate 2 refine u_mv ?_
 refine lg_nil ?_
 refine h1 _ ?_; clear h1; try clear N1
 refine vc_seq_k fun N2 h2 => ?_
 refine u_reg ?_
 try refine lg_mk ?_
 refine u_mv ?_
 refine u_ld ?_
 have hc := call_rule (E := (E_oex.at_ 25)) (f := 23) (sp := Spec.pure evG) rfl
 have hs := @evG.eq_1
 refine u_hp ?_
 refine u_mv ?_
 iterate 2 refine u_ex ?_
 refine u_al ?_
 refine u_mv ?_
 refine u_st ?_
 refine lg_nil ?_
 generalize evV l q = V at *
 refine h2 _ ?_; clear h2; try clear N2
 refine vc_seq_k fun N3 h3 => ?_
 refine u_reg ?_
 try refine lg_mk ?_
 refine u_mv ?_
 refine u_pt ?_
 refine u_ld ?_
 refine u_bn ?_
 refine u_mv ?_
 refine g_mv ?_
 refine g_ln ?_
 refine g_mv ?_
 refine g_ln ?_
 refine g_bn ?_
 refine u_pk ?_
 iterate 2 refine u_mv ?_
 refine lg_nil ?_
 refine h3 _ ?_; clear h3; try clear N3
 refine vc_ret ?_
 try simp only [k_rules]
 refine fin2_ ?_
 exact cl_
 cases hg

def E_seld : Env Tryd.prog := E_oex.add 33 (Spec.pure seldG) seld_meets (by kernel_rfl)

def lawSG : List AV → Option (Prop × AV)
  | [.d (.sl xs), .agg [.d (.sl ys)]] => some (xs = rows eC (dC xs) ∧ (dC xs).length ≤ 9223372036854775807 ∧ smallC (dC xs) ∧ ys = rows eN (dN ys) ∧ (dN ys).length ≤ 9223372036854775807, .d (.bool true))
  | _ => none

theorem lawS_meets : Meets Tryd.prog 13 (Spec.pure lawSG) := by
 refine meets_fun (E_seld.at_ 57) Tryd.func13 rfl rfl rfl ?_
 intro args p r hg hp
 unfold lawSG at hg
 split at hg
 rename_i xs ys
 simp only [Option.some.injEq, Prod.mk.injEq] at hg
 obtain ⟨rfl, rfl⟩ := hg
 obtain ⟨he, hl, hsm, he2, hl2⟩ := hp
 generalize dC xs = l at *
 generalize dN ys = q at *
 subst he he2
 have hT : (E_seld).X = T := rfl
 have hx0 := And.intro @rect_eC (And.intro @rect_eN (And.intro @dC_rows (And.intro @dN_rows (And.intro @dB_rows (And.intro @dec_t (And.intro @dec_f @Tryd.results13))))))
 have hx := hx0
 refine ⟨by rfl, ?_⟩
 intro F W0 hnp hmk
 refine vc_seq_k fun N1 h1 => ?_
 refine u_reg ?_
 try refine lg_mk ?_
 refine u_bx ?_
 refine u_mv ?_
 refine lg_nil ?_
 refine h1 _ ?_; clear h1; try clear N1
 refine vc_seq_k fun N2 h2 => ?_
 refine vc_seq_k fun N3 h3 => ?_
 refine u_reg ?_
 try refine lg_mk ?_
 have hc := call_rule (E := (E_seld.at_ 57)) (f := 14) (sp := Spec.pure oexG) rfl
 have hs := @oexG.eq_1
 refine u_cp ?_
 refine u_un ?_
 refine lg_nil ?_
 refine h3 _ ?_; clear h3; try clear N3
 refine u_cond (fun hb4 => ?_) (fun hb4 => ?_)
 ·first | omega | exact absurd trivial hb4 | contradiction | (simp_all; done)
 refine vc_skip ?_
 try simp only [k_rules]
 refine h2 _ ?_; clear h2; try clear N2
 refine vc_seq_k fun N5 h5 => ?_
 rcases sr_cases l q with ⟨c, i, hc0, hev⟩ | ⟨S, hev, hh, u1⟩ | ⟨S, X, hev, hh, u2, u3, u4, u1⟩
 have c1 : (c = 0) = False := eq_false hc0
 have c2 := True.intro
 have u2 := True.intro
 have u3 := True.intro
 have hx := And.intro @hev hx0
 refine u_reg ?_
 try refine lg_mk ?_
 refine u_ld ?_
 have hc := call_rule (E := (E_seld.at_ 57)) (f := 15) (sp := Spec.pure optG) rfl
 have hs := @optG.eq_1
 refine u_hp ?_
 refine u_mv ?_
 iterate 2 refine u_ex ?_
 iterate 2 refine u_al ?_
 iterate 2 refine u_st ?_
 refine lg_nil ?_
 have hx := hx0
 refine h5 _ ?_; clear h5; try clear N5
 refine vc_seq_k fun N6 h6 => ?_
 refine vc_seq_k fun N7 h7 => ?_
 have hx := And.intro @c1 (And.intro @c2 hx0)
 refine u_reg ?_
 try refine lg_mk ?_
 refine u_pt (hq := by (first | ((repeat' apply And.intro) <;> first | rfl | omega | exact hsm) | exact sd_)) ?_
 refine u_ld (hq := by (first | ((repeat' apply And.intro) <;> first | rfl | omega | exact hsm) | exact sd_)) ?_
 refine u_bn (hq := by (first | ((repeat' apply And.intro) <;> first | rfl | omega | exact hsm) | exact sd_)) ?_
 refine u_mv (hq := by (first | ((repeat' apply And.intro) <;> first | rfl | omega | exact hsm) | exact sd_)) ?_
 refine s_mv (hq := by (intro hg; (try simp only [b_rules, bif_and, bif_or] at hg); (first | ((repeat' apply And.intro) <;> first | rfl | omega | exact hsm) | exact sd_))) ?_
 have hc := call_rule (E := (E_seld.at_ 57)) (f := 25) (sp := Spec.pure histG) rfl
 have hs := @histG.eq_1
 refine s_cp (hq := by (intro hg; (try simp only [b_rules, bif_and, bif_or] at hg); (first | ((repeat' apply And.intro) <;> first | rfl | omega | exact hsm) | exact sd_))) ?_
 refine s_pt (hq := by (intro hg; (try simp only [b_rules, bif_and, bif_or] at hg); (first | ((repeat' apply And.intro) <;> first | rfl | omega | exact hsm) | exact sd_))) ?_
 refine s_bn (hq := by (intro hg; (try simp only [b_rules, bif_and, bif_or] at hg); (first | ((repeat' apply And.intro) <;> first | rfl | omega | exact hsm) | exact sd_))) ?_
 refine u_pk (hq := by (first | ((repeat' apply And.intro) <;> first | rfl | omega | exact hsm) | exact sd_)) ?_
 refine lg_nil ?_
 have hx := hx0
 refine h7 _ ?_; clear h7; try clear N7
 refine u_cond (fun hb8 => ?_) (fun hb8 => ?_)
 refine vc_seq_k fun N9 h9 => ?_
 have hx := And.intro @c1 hx0
 refine u_reg ?_
 try refine lg_mk ?_
 refine u_pt ?_
 refine u_ld ?_
 refine u_bn ?_
 refine u_mv ?_
 refine g_pt ?_
 refine g_ld ?_
 refine g_ln ?_
 refine g_bn ?_
 refine u_pk ?_
 refine u_mv ?_
 refine lg_nil ?_
 have hx := hx0
 refine h9 _ ?_; clear h9; try clear N9
 refine vc_ret ?_
 try simp only [k_rules]
 refine fin2_ ?_
 ·(repeat' apply And.intro) <;> (first | (first | rfl | trivial | (simp; done)) | exact cl_)
 ·first | omega | exact absurd trivial hb8 | contradiction | (simp_all; done)
 have c1 := True.intro
 have c2 : ((histF l).1 = 0) = False := eq_false hh
 have u2 := True.intro
 have u3 := True.intro
 have hx := And.intro @hev hx0
 refine u_reg ?_
 try refine lg_mk ?_
 refine u_ld ?_
 have hc := call_rule (E := (E_seld.at_ 57)) (f := 15) (sp := Spec.pure optG) rfl
 have hs := @optG.eq_1
 refine u_hp ?_
 refine u_mv ?_
 iterate 2 refine u_ex ?_
 iterate 2 refine u_al ?_
 iterate 2 refine u_st ?_
 refine lg_nil ?_
 have hx := hx0
 refine h5 _ ?_; clear h5; try clear N5
 refine vc_seq_k fun N10 h10 => ?_
 refine vc_seq_k fun N11 h11 => ?_
 have hx := And.intro @c1 (And.intro @c2 hx0)
 refine u_reg ?_
 try refine lg_mk ?_
 refine u_pt (hq := by (first | ((repeat' apply And.intro) <;> first | rfl | omega | exact hsm) | exact sd_)) ?_
 refine u_ld (hq := by (first | ((repeat' apply And.intro) <;> first | rfl | omega | exact hsm) | exact sd_)) ?_
 refine u_bn (hq := by (first | ((repeat' apply And.intro) <;> first | rfl | omega | exact hsm) | exact sd_)) ?_
 refine u_mv (hq := by (first | ((repeat' apply And.intro) <;> first | rfl | omega | exact hsm) | exact sd_)) ?_
 refine s_mv (hq := by (intro hg; (try simp only [b_rules, bif_and, bif_or] at hg); (first | ((repeat' apply And.intro) <;> first | rfl | omega | exact hsm) | exact sd_))) ?_
 have hc := call_rule (E := (E_seld.at_ 57)) (f := 25) (sp := Spec.pure histG) rfl
 have hs := @histG.eq_1
 refine s_cp (hq := by (intro hg; (try simp only [b_rules, bif_and, bif_or] at hg); (first | ((repeat' apply And.intro) <;> first | rfl | omega | exact hsm) | exact sd_))) ?_
 refine s_pt (hq := by (intro hg; (try simp only [b_rules, bif_and, bif_or] at hg); (first | ((repeat' apply And.intro) <;> first | rfl | omega | exact hsm) | exact sd_))) ?_
 refine s_bn (hq := by (intro hg; (try simp only [b_rules, bif_and, bif_or] at hg); (first | ((repeat' apply And.intro) <;> first | rfl | omega | exact hsm) | exact sd_))) ?_
 refine u_pk (hq := by (first | ((repeat' apply And.intro) <;> first | rfl | omega | exact hsm) | exact sd_)) ?_
 refine lg_nil ?_
 have hx := hx0
 refine h11 _ ?_; clear h11; try clear N11
 refine u_cond (fun hb12 => ?_) (fun hb12 => ?_)
 refine vc_seq_k fun N13 h13 => ?_
 have hx := And.intro @c1 hx0
 refine u_reg ?_
 try refine lg_mk ?_
 refine u_pt ?_
 refine u_ld ?_
 refine u_bn ?_
 refine u_mv ?_
 refine g_pt ?_
 refine g_ld ?_
 refine g_ln ?_
 refine g_bn ?_
 refine u_pk ?_
 refine u_mv ?_
 refine lg_nil ?_
 have hx := hx0
 refine h13 _ ?_; clear h13; try clear N13
 refine vc_ret ?_
 try simp only [k_rules]
 refine fin2_ ?_
 ·(repeat' apply And.intro) <;> (first | (first | rfl | trivial | (simp; done)) | exact cl_)
 ·first | omega | exact absurd trivial hb12 | contradiction | (simp_all; done)
 have c1 := True.intro
 have c2 := hh
 have u5 : (X.length = l.length) = True := eq_true u4
 have hx := And.intro @hev hx0
 refine u_reg ?_
 try refine lg_mk ?_
 refine u_ld ?_
 have hc := call_rule (E := (E_seld.at_ 57)) (f := 15) (sp := Spec.pure optG) rfl
 have hs := @optG.eq_1
 refine u_hp ?_
 refine u_mv ?_
 iterate 2 refine u_ex ?_
 iterate 2 refine u_al ?_
 iterate 2 refine u_st ?_
 refine lg_nil ?_
 have hx := hx0
 refine h5 _ ?_; clear h5; try clear N5
 refine vc_seq_k fun N14 h14 => ?_
 refine vc_seq_k fun N15 h15 => ?_
 have hx := And.intro @c1 (And.intro @c2 hx0)
 refine u_reg ?_
 try refine lg_mk ?_
 refine u_pt (hq := by (first | ((repeat' apply And.intro) <;> first | rfl | omega | exact hsm) | exact sd_)) ?_
 refine u_ld (hq := by (first | ((repeat' apply And.intro) <;> first | rfl | omega | exact hsm) | exact sd_)) ?_
 refine u_bn (hq := by (first | ((repeat' apply And.intro) <;> first | rfl | omega | exact hsm) | exact sd_)) ?_
 refine u_mv (hq := by (first | ((repeat' apply And.intro) <;> first | rfl | omega | exact hsm) | exact sd_)) ?_
 refine s_mv (hq := by (intro hg; (try simp only [b_rules, bif_and, bif_or] at hg); (first | ((repeat' apply And.intro) <;> first | rfl | omega | exact hsm) | exact sd_))) ?_
 have hc := call_rule (E := (E_seld.at_ 57)) (f := 25) (sp := Spec.pure histG) rfl
 have hs := @histG.eq_1
 refine s_cp (hq := by (intro hg; (try simp only [b_rules, bif_and, bif_or] at hg); (first | ((repeat' apply And.intro) <;> first | rfl | omega | exact hsm) | exact sd_))) ?_
 refine s_pt (hq := by (intro hg; (try simp only [b_rules, bif_and, bif_or] at hg); (first | ((repeat' apply And.intro) <;> first | rfl | omega | exact hsm) | exact sd_))) ?_
 refine s_bn (hq := by (intro hg; (try simp only [b_rules, bif_and, bif_or] at hg); (first | ((repeat' apply And.intro) <;> first | rfl | omega | exact hsm) | exact sd_))) ?_
 refine u_pk (hq := by (first | ((repeat' apply And.intro) <;> first | rfl | omega | exact hsm) | exact sd_)) ?_
 refine lg_nil ?_
 have hx := hx0
 refine h15 _ ?_; clear h15; try clear N15
 refine u_cond (fun hb16 => ?_) (fun hb16 => ?_)
 ·first | omega | exact absurd trivial hb16 | contradiction | (simp_all; done)
 refine vc_skip ?_
 try simp only [k_rules]
 refine h14 _ ?_; clear h14; try clear N14
 refine vc_seq_k fun N17 h17 => ?_
 have hx := And.intro @u2 (And.intro @u4 hx0)
 refine u_reg ?_
 try refine lg_mk ?_
 refine u_mv (hq := by (first | ((repeat' apply And.intro) <;> first | rfl | omega | exact hsm) | exact sd_)) ?_
 refine u_ld (hq := by (first | ((repeat' apply And.intro) <;> first | rfl | omega | exact hsm) | exact sd_)) ?_
 have hc := call_rule (E := (E_seld.at_ 57)) (f := 33) (sp := Spec.pure seldG) rfl
 have hs := @seldG.eq_1
 refine u_hp (hq := by (first | ((repeat' apply And.intro) <;> first | rfl | omega | exact hsm) | exact sd_)) ?_
 refine u_mv (hq := by (first | ((repeat' apply And.intro) <;> first | rfl | omega | exact hsm) | exact sd_)) ?_
 refine u_ex (hq := by (first | ((repeat' apply And.intro) <;> first | rfl | omega | exact hsm) | exact sd_)) ?_
 refine u_ex (hq := by (first | ((repeat' apply And.intro) <;> first | rfl | omega | exact hsm) | exact sd_)) ?_
 refine u_mv (hq := by (first | ((repeat' apply And.intro) <;> first | rfl | omega | exact hsm) | exact sd_)) ?_
 refine u_mv (hq := by (first | ((repeat' apply And.intro) <;> first | rfl | omega | exact hsm) | exact sd_)) ?_
 refine lg_nil ?_
 have hx := hx0
 refine h17 _ ?_; clear h17; try clear N17
 refine vc_seq_k fun N18 h18 => ?_
 have hx := And.intro @u3 (And.intro @u4 hx0)
 refine u_reg ?_
 try refine lg_mk ?_
 refine u_mv (hq := by (first | ((repeat' apply And.intro) <;> first | rfl | omega | exact hsm) | exact sd_)) ?_
 refine u_ld (hq := by (first | ((repeat' apply And.intro) <;> first | rfl | omega | exact hsm) | exact sd_)) ?_
 have hc := call_rule (E := (E_seld.at_ 57)) (f := 33) (sp := Spec.pure seldG) rfl
 have hs := @seldG.eq_1
 refine u_hp (hq := by (first | ((repeat' apply And.intro) <;> first | rfl | omega | exact hsm) | exact sd_)) ?_
 refine u_mv (hq := by (first | ((repeat' apply And.intro) <;> first | rfl | omega | exact hsm) | exact sd_)) ?_
 refine u_ex (hq := by (first | ((repeat' apply And.intro) <;> first | rfl | omega | exact hsm) | exact sd_)) ?_
 refine u_ex (hq := by (first | ((repeat' apply And.intro) <;> first | rfl | omega | exact hsm) | exact sd_)) ?_
 refine u_mv (hq := by (first | ((repeat' apply And.intro) <;> first | rfl | omega | exact hsm) | exact sd_)) ?_
 refine u_mv (hq := by (first | ((repeat' apply And.intro) <;> first | rfl | omega | exact hsm) | exact sd_)) ?_
 refine lg_nil ?_
 have hx := hx0
 refine h18 _ ?_; clear h18; try clear N18
 refine vc_seq_k fun N19 h19 => ?_
 refine u_reg ?_
 try refine lg_mk ?_
 refine u_mv (hq := by (first | ((repeat' apply And.intro) <;> first | rfl | omega | exact hsm) | exact sd_)) ?_
 refine u_mv (hq := by (first | ((repeat' apply And.intro) <;> first | rfl | omega | exact hsm) | exact sd_)) ?_
 refine s_mv (hq := by (intro hg; (try simp only [b_rules, bif_and, bif_or] at hg); (first | ((repeat' apply And.intro) <;> first | rfl | omega | exact hsm) | exact sd_))) ?_
 refine u_pk (hq := by (first | ((repeat' apply And.intro) <;> first | rfl | omega | exact hsm) | exact sd_)) ?_
 refine u_mv (hq := by (first | ((repeat' apply And.intro) <;> first | rfl | omega | exact hsm) | exact sd_)) ?_
 refine s_mv (hq := by (intro hg; (try simp only [b_rules, bif_and, bif_or] at hg); (first | ((repeat' apply And.intro) <;> first | rfl | omega | exact hsm) | exact sd_))) ?_
 refine s_mv (hq := by (intro hg; (try simp only [b_rules, bif_and, bif_or] at hg); (first | ((repeat' apply And.intro) <;> first | rfl | omega | exact hsm) | exact sd_))) ?_
 have hc := call_rule (E := (E_seld.at_ 57)) (f := 27) (sp := Spec.pure boolsG) rfl
 have hs := @boolsG.eq_1
 refine s_cp (hq := by (intro hg; (try simp only [b_rules, bif_and, bif_or] at hg); (first | ((repeat' apply And.intro) <;> first | rfl | omega | exact hsm) | exact sd_))) ?_
 refine u_pk (hq := by (first | ((repeat' apply And.intro) <;> first | rfl | omega | exact hsm) | exact sd_)) ?_
 refine u_mv (hq := by (first | ((repeat' apply And.intro) <;> first | rfl | omega | exact hsm) | exact sd_)) ?_
 refine lg_nil ?_
 refine h19 _ ?_; clear h19; try clear N19
 refine vc_ret ?_
 try simp only [k_rules]
 refine fin2_ ?_
 ·(repeat' apply And.intro) <;> (first | (first | rfl | trivial | (simp; done)) | exact cl_)
 cases hg
end Go.Proofs.YtlbjffdaooadoaaDoor
