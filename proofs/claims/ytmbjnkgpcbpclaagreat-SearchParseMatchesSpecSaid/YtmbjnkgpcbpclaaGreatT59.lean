/- Walks, printed by wip/gen/walk.py. -/
import Derived.Test.YtmbjnkgpcbpclaaGreatT58
import Derived.Test.YtmbjnkgpcbpclaaGreatV5
set_option linter.all false
set_option maxRecDepth 100000
set_option maxHeartbeats 4000000
namespace Go.Proofs.YtmbjnkgpcbpclaaGreat
open Go Go.Vc Go.RowKit
def fdF (ts : List Bs) (q : List Sn) : Int × Int := if (textsF ts).1 ≠ 0 then textsF ts else if (valS q).1 ≠ 0 then ((valS q).1, -2) else (0, 0)
def fdG : List AV → Option (Prop × AV)
  | [.d (.sl xs), .agg [.d (.sl ys)]] => some (xs = rows eT (dT xs) ∧ (dT xs).length ≤ 9223372036854775807 ∧ (∀ s ∈ dT xs, s.length ≤ 9223372036854775807) ∧ ys = rows eSn (dSn ys) ∧ (dSn ys).length ≤ 9223372036854775807 ∧ bigS (dSn ys), .agg [.d (.int .i64 (fdF (dT xs) (dSn ys)).1), .d (.int .i64 (fdF (dT xs) (dSn ys)).2)])
  | _ => none
theorem txF_zero {ts : List Bs} (h : (textsF ts).1 = 0) : textsF ts = (0, 0) ∧ ts.length ≤ 20 ∧ ∀ s ∈ ts, s.length ≤ 400 := by
  unfold textsF at h ⊢
  split at h
  · cases h
  · rename_i h1
    rw [if_neg h1]
    split at h
    · cases h
    · rename_i h2
      rw [if_neg h2]
      refine ⟨rfl, by omega, fun s hs => ?_⟩
      have : badT s = false := by
        cases hb : badT s with
        | false => rfl
        | true => exact absurd (List.any_eq_true.2 ⟨s, hs, hb⟩) h2
      have := of_decide_eq_false this
      omega
theorem fd_cases (ts : List Bs) (q : List Sn) : (∃ c i : Int, textsF ts = (c, i) ∧ c ≠ 0 ∧ fdF ts q = (c, i)) ∨ (textsF ts = (0, 0) ∧ ∃ c i : Int, valS q = (c, i) ∧ c ≠ 0 ∧ fdF ts q = (c, -2)) ∨ (textsF ts = (0, 0) ∧ valS q = (0, 0) ∧ fdF ts q = (0, 0)) := by
  unfold fdF
  by_cases h : (textsF ts).1 = 0
  · rw [if_neg (by simpa using h)]
    by_cases h2 : valS q = (0, 0)
    · exact .inr (.inr ⟨(txF_zero h).1, h2, if_neg (by simp [h2])⟩)
    · exact .inr (.inl ⟨(txF_zero h).1, _, _, rfl, valS_code h2, if_pos (valS_code h2)⟩)
  · exact .inl ⟨_, _, rfl, h, if_pos h⟩

theorem ckf_meets : Meets Tryz.prog 31 (Spec.pure fdG) := by
 refine meets_fun (E_mtP.at_ 26) Tryz.func31 rfl rfl rfl ?_
 intro args p r hg hp
 unfold fdG at hg
 split at hg
 rename_i xs ys
 simp only [Option.some.injEq, Prod.mk.injEq] at hg
 obtain ⟨rfl, rfl⟩ := hg
 obtain ⟨he, hl, hsm, he2, hl2, hbg⟩ := hp
 generalize dT xs = ts at *
 generalize dSn ys = q at *
 subst he he2
 have hT : (E_mtP).X = T := rfl
 have hx0 := And.intro @rect_eT (And.intro @rect_eSn (And.intro @dT_rows (And.intro @dSn_rows (And.intro @dec_t (And.intro @dec_f @Tryz.results31)))))
 have hx := hx0
 refine ⟨by rfl, ?_⟩
 intro F W0 hnp hmk
 refine vc_seq_k fun N1 h1 => ?_
 refine u_reg ?_
 try refine lg_mk ?_
 refine u_bx ?_
 refine u_al ?_
 refine lg_nil ?_
 refine h1 _ ?_; clear h1; try clear N1
 refine vc_seq_k fun N2 h2 => ?_
 refine vc_seq_k fun N3 h3 => ?_
 rcases fd_cases ts q with ⟨c, i, e1, e2, e3⟩ | ⟨e1, c, i, e2, e3, e4⟩ | ⟨e1, e2, e3⟩
 have c1 : (c = 0) = False := eq_false e2
 have hr := e3
 have hv2 := True.intro
 have hx := And.intro @e1 hx0
 refine u_reg ?_
 try refine lg_mk ?_
 refine u_mv ?_
 have hc := call_rule (E := (E_mtP.at_ 26)) (f := 25) (sp := Spec.pure indexTG) rfl
 have hs := @indexTG.eq_1
 refine u_hp ?_
 refine u_mv ?_
 iterate 2 refine u_ex ?_
 iterate 2 refine u_al ?_
 iterate 2 refine u_st ?_
 refine lg_nil ?_
 have hx := hx0
 refine h3 _ ?_; clear h3; try clear N3
 refine vc_seq_k fun N4 h4 => ?_
 have hx := And.intro @c1 hx0
 refine u_reg ?_
 try refine lg_mk ?_
 refine u_ld ?_
 refine u_bd ?_
 refine u_bn ?_
 refine lg_nil ?_
 have hx := hx0
 refine h4 _ ?_; clear h4; try clear N4
 refine u_cond (fun hb5 => ?_) (fun hb5 => ?_)
 refine vc_seq_k fun N6 h6 => ?_
 refine u_reg ?_
 try refine lg_mk ?_
 refine u_ld ?_
 refine u_st ?_
 refine lg_nil ?_
 refine h6 _ ?_; clear h6; try clear N6
 refine vc_ret ?_
 try simp only [k_rules]
 rw [hr]
 refine fin2_ ?_
 exact cl_
 ·first | omega | exact absurd trivial hb5 | contradiction | (simp_all; done)
 have c1 : (c = 0) = False := eq_false e3
 have hr := e4
 have hv2 := e2
 have hx := And.intro @e1 hx0
 refine u_reg ?_
 try refine lg_mk ?_
 refine u_mv ?_
 have hc := call_rule (E := (E_mtP.at_ 26)) (f := 25) (sp := Spec.pure indexTG) rfl
 have hs := @indexTG.eq_1
 refine u_hp ?_
 refine u_mv ?_
 iterate 2 refine u_ex ?_
 iterate 2 refine u_al ?_
 iterate 2 refine u_st ?_
 refine lg_nil ?_
 have hx := hx0
 refine h3 _ ?_; clear h3; try clear N3
 refine vc_seq_k fun N7 h7 => ?_
 have hx := And.intro @c1 hx0
 refine u_reg ?_
 try refine lg_mk ?_
 refine u_ld ?_
 refine u_bd ?_
 refine u_bn ?_
 refine lg_nil ?_
 have hx := hx0
 refine h7 _ ?_; clear h7; try clear N7
 refine u_cond (fun hb8 => ?_) (fun hb8 => ?_)
 ·first | omega | exact absurd trivial hb8 | contradiction | (simp_all; done)
 refine vc_skip ?_
 try simp only [k_rules]
 refine h2 _ ?_; clear h2; try clear N2
 refine vc_seq_k fun N9 h9 => ?_
 refine vc_seq_k fun N10 h10 => ?_
 have hx := And.intro @hv2 hx0
 refine u_reg ?_
 try refine lg_mk ?_
 refine u_ld ?_
 have hc := call_rule (E := (E_mtP.at_ 26)) (f := 11) (sp := Spec.pure valG) rfl
 have hs := @valG.eq_1
 refine u_cp (hq := by (first | (exact ⟨trivial, hl2, hbg⟩) | exact sd_)) ?_
 refine u_al ?_
 refine u_st ?_
 refine lg_nil ?_
 have hx := hx0
 refine h10 _ ?_; clear h10; try clear N10
 refine vc_seq_k fun N11 h11 => ?_
 have hx := And.intro @c1 hx0
 refine u_reg ?_
 try refine lg_mk ?_
 refine u_ld ?_
 refine u_bd ?_
 refine u_bn ?_
 refine lg_nil ?_
 have hx := hx0
 refine h11 _ ?_; clear h11; try clear N11
 refine u_cond (fun hb12 => ?_) (fun hb12 => ?_)
 refine vc_seq_k fun N13 h13 => ?_
 refine u_reg ?_
 try refine lg_mk ?_
 refine u_pt ?_
 refine u_ld ?_
 refine u_bd ?_
 refine u_st ?_
 refine lg_nil ?_
 refine h13 _ ?_; clear h13; try clear N13
 refine vc_ret ?_
 try simp only [k_rules]
 rw [hr]
 refine fin2_ ?_
 exact cl_
 ·first | omega | exact absurd trivial hb12 | contradiction | (simp_all; done)
 have c1 := True.intro
 have hr := e3
 have hv2 := e2
 have hx := And.intro @e1 hx0
 refine u_reg ?_
 try refine lg_mk ?_
 refine u_mv ?_
 have hc := call_rule (E := (E_mtP.at_ 26)) (f := 25) (sp := Spec.pure indexTG) rfl
 have hs := @indexTG.eq_1
 refine u_hp ?_
 refine u_mv ?_
 iterate 2 refine u_ex ?_
 iterate 2 refine u_al ?_
 iterate 2 refine u_st ?_
 refine lg_nil ?_
 have hx := hx0
 refine h3 _ ?_; clear h3; try clear N3
 refine vc_seq_k fun N14 h14 => ?_
 have hx := And.intro @c1 hx0
 refine u_reg ?_
 try refine lg_mk ?_
 refine u_ld ?_
 refine u_bd ?_
 refine u_bn ?_
 refine lg_nil ?_
 have hx := hx0
 refine h14 _ ?_; clear h14; try clear N14
 refine u_cond (fun hb15 => ?_) (fun hb15 => ?_)
 ·first | omega | exact absurd trivial hb15 | contradiction | (simp_all; done)
 refine vc_skip ?_
 try simp only [k_rules]
 refine h2 _ ?_; clear h2; try clear N2
 refine vc_seq_k fun N16 h16 => ?_
 refine vc_seq_k fun N17 h17 => ?_
 have hx := And.intro @hv2 hx0
 refine u_reg ?_
 try refine lg_mk ?_
 refine u_ld ?_
 have hc := call_rule (E := (E_mtP.at_ 26)) (f := 11) (sp := Spec.pure valG) rfl
 have hs := @valG.eq_1
 refine u_cp (hq := by (first | (exact ⟨trivial, hl2, hbg⟩) | exact sd_)) ?_
 refine u_al ?_
 refine u_st ?_
 refine lg_nil ?_
 have hx := hx0
 refine h17 _ ?_; clear h17; try clear N17
 refine vc_seq_k fun N18 h18 => ?_
 have hx := And.intro @c1 hx0
 refine u_reg ?_
 try refine lg_mk ?_
 refine u_ld ?_
 refine u_bd ?_
 refine u_bn ?_
 refine lg_nil ?_
 have hx := hx0
 refine h18 _ ?_; clear h18; try clear N18
 refine u_cond (fun hb19 => ?_) (fun hb19 => ?_)
 ·first | omega | exact absurd trivial hb19 | contradiction | (simp_all; done)
 refine vc_skip ?_
 try simp only [k_rules]
 refine h16 _ ?_; clear h16; try clear N16
 refine vc_seq_k fun N20 h20 => ?_
 refine u_reg ?_
 try refine lg_mk ?_
 refine u_bd ?_
 refine u_st ?_
 refine lg_nil ?_
 refine h20 _ ?_; clear h20; try clear N20
 refine vc_ret ?_
 try simp only [k_rules]
 rw [hr]
 refine fin2_ ?_
 exact cl_
 cases hg

def E_ckf : Env Tryz.prog := E_mtP.add 31 (Spec.pure fdG) ckf_meets (by kernel_rfl)
end Go.Proofs.YtmbjnkgpcbpclaaGreat
