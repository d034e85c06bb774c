/- Walks, printed by wip/gen/walk.py. -/
import Derived.Test.YtmbjnkgpcbpclaaGreatT69
import Derived.Test.YtmbjnkgpcbpclaaGreatV5
set_option linter.all false
set_option maxRecDepth 100000
set_option maxHeartbeats 4000000
namespace Go.Proofs.YtmbjnkgpcbpclaaGreat
open Go Go.Vc Go.RowKit
theorem all_steps : ∀ n, Meets Tryz.prog 42 (Spec.gen (qryG n)) ∧ Meets Tryz.prog 63 (Spec.gen (unaG n))
  | 0 => by
    refine ⟨meets_void fun a b p r bf h hp => ?_, meets_void fun a b p r bf h hp => ?_⟩
    · unfold qryG at h
      split at h
      · simp only [Option.some.injEq, Prod.mk.injEq] at h
        obtain ⟨rfl, _⟩ := h
        exact absurd hp.2.2.2 (by simp [rdP])
      · cases h
    · unfold unaG at h
      split at h
      · simp only [Option.some.injEq, Prod.mk.injEq] at h
        obtain ⟨rfl, _⟩ := h
        exact absurd hp.2 (by simp [rdP])
      · cases h
  | n + 1 => by
    obtain ⟨h1, h2⟩ := all_steps n
    exact ⟨qry_step n h1 h2, una_step n h1 h2⟩
def parS (t : Bs) : Option (List Sn) := match rdP t 2000 0 0 [] with
  | some (a, ns, _) => if skS t a = t.length ∧ ns.length ≤ 40 then some ns else none
  | none => none
theorem parS_at {t : Bs} {q : List Sn} (h : parS t = some q) : ∃ a x, rdP t 2000 0 0 [] = some (a, q, x) ∧ skS t a = t.length ∧ q.length ≤ 40 := by
  unfold parS at h
  split at h
  · rename_i a ns x hr
    split at h
    · rename_i hc; cases h; exact ⟨a, x, hr, hc⟩
    · cases h
  · cases h
noncomputable def parB : Code := match Tryz.f16.body with
  | some (.seq _ (.seq _ (.seq _ b))) => b
  | _ => .skip
theorem dSn_nil : dSn [] = [] := rfl

def E_qryA : Env Tryz.prog := E_quo.add 42 (Spec.gen (qryG 2000)) (all_steps 2000).1 (by kernel_rfl)

theorem par_vc (t : Bs) (q : List Sn) (h3 : t.length ≤ 300) (hq : parS t = some q) : ∀ [F : Far] (W0 : World), Far.np = 0 → VC (E_qryA.at_ 32) W0 (fun _ => False) parB (mkSt [(0, .d (.str t)), (2, .ptr 0 0 0), (3, .ptr 1 0 0)] [some (.one 25 [.d .nils]), some (.one 29 [.d (.int .i64 0), .d (.int .i64 0)])]) (retP (E_qryA.at_ 32) Tryz.f16.results.toList (.tup [.agg [.d (.sl (rows eSn q))], .agg [.d (.int .i64 0), .d (.int .i64 0)]])) := by
  obtain ⟨a, x, hR, hk, hq4⟩ := parS_at hq
  obtain ⟨⟨f1, f2, f3⟩, f4⟩ := rd_fit t 2000 0 0 [] (Nat.zero_le _) a q x hR
  have f5 : q.length ≤ a := by simp at f3; omega
  have hps := preS_ok (t := t) (m := a) (q := q) f5 f2 (by omega)
  have hT : (E_qryA).X = T := rfl
  have hx0 := And.intro @dec_t (And.intro @dec_f (And.intro @Int.toNat_natCast (And.intro @rdS.eq_1 (And.intro @dSn_rows (And.intro @rect_eSn (And.intro @rX_s (And.intro @rBx_s (And.intro @dSn_nil (And.intro @Int.toNat_zero @Tryz.results16)))))))))
  have hx := hx0
  intro F W0 hnp
  refine vc_seq_k fun N1 h1 => ?_
  refine u_reg ?_
  try refine lg_mk ?_
  refine u_mv ?_
  refine u_bd ?_
  refine u_al ?_
  refine u_st ?_
  refine lg_nil ?_
  refine h1 _ ?_; clear h1; try clear N1
  refine vc_seq_k fun N2 h2 => ?_
  refine vc_nil1 2 2 (.vec 55 4 []) 4 (vec_nil 55 4) rfl rfl rfl ?_
  simp only [updL, List.set, List.cons_append, List.nil_append]
  have hx := And.intro @hR hx0
  refine u_reg ?_
  try refine lg_mk ?_
  have hc := call_rule (E := (E_qryA.at_ 32)) (f := 42) (sp := Spec.gen (qryG 2000)) rfl
  have hs := @qryG.eq_1
  refine u_hg (hq := by (first | (refine ⟨by decide, by decide, preS_ok (m := 0) (q := []) (Nat.zero_le _) (by omega) (by omega), ?_⟩; first | rfl | (rw [hR]; rfl) | (simp only [dSn_nil, Int.toNat_zero, Int.toNat_natCast, hR]; rfl)) | exact sd_)) ?_
  refine lg_nil ?_
  have hx := hx0
  refine h2 _ ?_; clear h2; try clear N2
  refine vc_seq_k fun N3 h3 => ?_
  refine vc_seq_k fun N4 h4 => ?_
  have hx := And.intro @hk hx0
  refine u_reg ?_
  try refine lg_mk ?_
  have hc := call_rule (E := (E_qryA.at_ 32)) (f := 43) (sp := Spec.gen blkG) rfl
  have hs := @blkG.eq_1
  refine u_hg (hq := by (first | (exact hps) | exact sd_)) ?_
  refine lg_nil ?_
  have hx := hx0
  refine h4 _ ?_; clear h4; try clear N4
  refine vc_seq_k fun N5 h5 => ?_
  refine u_reg ?_
  try refine lg_mk ?_
  refine u_pt ?_
  refine u_ld ?_
  refine u_mv ?_
  refine u_ln ?_
  refine u_bn ?_
  refine lg_nil ?_
  refine h5 _ ?_; clear h5; try clear N5
  refine u_cond (fun hb6 => ?_) (fun hb6 => ?_)
  ·first | omega | exact absurd trivial hb6 | contradiction | (simp_all; done)
  refine vc_skip ?_
  try simp only [k_rules]
  refine h3 _ ?_; clear h3; try clear N3
  refine vc_seq_k fun N7 h7 => ?_
  refine vc_seq_k fun N8 h8 => ?_
  refine u_reg ?_
  try refine lg_mk ?_
  refine u_pt ?_
  refine u_ld ?_
  refine u_ln ?_
  refine u_bn ?_
  refine lg_nil ?_
  refine h8 _ ?_; clear h8; try clear N8
  refine u_cond (fun hb9 => ?_) (fun hb9 => ?_)
  ·first | omega | exact absurd trivial hb9 | contradiction | (simp_all; done)
  refine vc_skip ?_
  try simp only [k_rules]
  refine h7 _ ?_; clear h7; try clear N7
  refine vc_seq_k fun N10 h10 => ?_
  refine u_reg ?_
  try refine lg_mk ?_
  refine u_pt ?_
  refine u_ld ?_
  iterate 2 refine u_bd ?_
  iterate 2 refine u_st ?_
  refine lg_nil ?_
  refine h10 _ ?_; clear h10; try clear N10
  refine vc_ret ?_
  try simp only [k_rules]
  refine fin2_ ?_
  exact cl_
end Go.Proofs.YtmbjnkgpcbpclaaGreat
