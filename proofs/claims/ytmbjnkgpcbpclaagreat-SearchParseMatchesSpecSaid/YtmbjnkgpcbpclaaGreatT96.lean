/- Walks, printed by wip/gen/walk.py. -/
import Derived.Test.YtmbjnkgpcbpclaaGreatT94
import Derived.Test.YtmbjnkgpcbpclaaGreatT70
import Derived.Test.YtmbjnkgpcbpclaaGreatV5
set_option linter.all false
set_option maxRecDepth 100000
set_option maxHeartbeats 4000000
namespace Go.Proofs.YtmbjnkgpcbpclaaGreat
open Go Go.Vc Go.RowKit
theorem panics_void {P : Program} {f : FuncId} {g : GFun} {t : TypeId} (h : ∀ a b p r bf, g a b = some (p, r, bf) → ¬p) : Panics P f (Spec.gen g) t := by
  intro args H n p c k o hrun hp
  exfalso
  change genRun g (reach args H) args H n = _ at hrun
  unfold genRun at hrun
  split at hrun
  · split at hrun
    · rename_i hg
      split at hrun
      · simp only [Option.some.injEq, Prod.mk.injEq] at hrun
        obtain ⟨rfl, _⟩ := hrun
        exact h _ _ _ _ _ hg hp
      · cases hrun
    · cases hrun
  · cases hrun
theorem all_pan : ∀ n, Panics Tryz.prog 42 (Spec.gen (qryX n)) 29 ∧ Panics Tryz.prog 63 (Spec.gen (unaX n)) 29
  | 0 => by
    refine ⟨panics_void fun a b p r bf h hp => ?_, panics_void fun a b p r bf h hp => ?_⟩
    · unfold qryX at h
      split at h
      · simp only [Option.some.injEq, Prod.mk.injEq] at h
        obtain ⟨rfl, _⟩ := h
        exact absurd rfl hp.2.2.2
      · cases h
    · unfold unaX at h
      split at h
      · simp only [Option.some.injEq, Prod.mk.injEq] at h
        obtain ⟨rfl, _⟩ := h
        exact absurd rfl hp.2
      · cases h
  | n + 1 => by
    obtain ⟨h1, h2⟩ := all_steps n
    obtain ⟨h3, h4⟩ := all_pan n
    exact ⟨qrx_step n h1 h2 h3 h4 qux_pan, unx_step n h1 h2 h3 h4 qux_pan⟩
def parX (t : Bs) : Except (Int × Int) (List Sn) :=
  if 300 < t.length then .error (2, -1) else match rdX t 2000 0 0 [] with
  | .error e => .error e
  | .ok (a, ns, _) => if skS t a < t.length then .error (1, ((skS t a : Nat) : Int)) else if 40 < ns.length then .error (10, -1) else .ok ns
def parK (c k : Int) : Exit → St → Prop := fun e st => e = .panic (faultE 29 c k) ∧ st.H 0 = some (.one 25 [.d .nils]) ∧ st.H 1 = some (.one 29 [.d (.int .i64 0), .d (.int .i64 0)]) ∧ st.fr 2 = .ptr 0 0 0 ∧ st.fr 3 = .ptr 1 0 0
theorem parX_cases {t : Bs} {c k : Int} (h3 : t.length ≤ 300) (h : parX t = .error (c, k)) : rdX t 2000 0 0 [] = .error (c, k) ∨ ∃ a ns x, rdX t 2000 0 0 [] = .ok (a, ns, x) ∧ ((skS t a < t.length ∧ c = 1 ∧ k = ((skS t a : Nat) : Int)) ∨ (¬ skS t a < t.length ∧ 40 < ns.length ∧ c = 10 ∧ k = -1)) := by
  unfold parX at h
  rw [if_neg (by omega)] at h
  split at h
  · rename_i e he; cases h; exact .inl he
  · rename_i a ns x he
    refine .inr ⟨a, ns, x, he, ?_⟩
    split at h
    · rename_i h1; cases h; exact .inl ⟨h1, rfl, rfl⟩
    · rename_i h1
      split at h
      · rename_i h2; cases h; exact .inr ⟨h1, h2, rfl, rfl⟩
      · cases h

def E_qryB : Env Tryz.prog := E_quo.add 42 (Spec.gen (qryG 2000)) (all_steps 2000).1 (by kernel_rfl)

theorem parX_vc (t : Bs) (c0 k0 : Int) (h3 : t.length ≤ 300) (hq : parX t = .error (c0, k0)) (hc0 : c0 ≠ 0) : ∀ [F : Far] (W0 : World), Far.np = 2 → VC (E_qryB.at_ 32) W0 (fun _ => False) parB (mkSt [(0, .d (.str t)), (2, .ptr 0 0 0), (3, .ptr 1 0 0)] [some (.one 25 [.d .nils]), some (.one 29 [.d (.int .i64 0), .d (.int .i64 0)])]) (parK c0 k0) := by
  have hT : (E_qryB).X = T := rfl
  have hx0 := And.intro @dec_t (And.intro @dec_f (And.intro @Int.toNat_natCast (And.intro @rdS.eq_1 (And.intro @dSn_rows (And.intro @rect_eSn (And.intro @rX_s (And.intro @rBx_s (And.intro @eC_e (And.intro @eK_e (And.intro @dSn_nil (And.intro @Int.toNat_zero @Tryz.results16)))))))))))
  have hx := hx0
  intro F W0 hnp
  refine vc_seq_k fun N1 h1 => ?_
  refine u_reg ?_
  try refine lg_mk ?_
  refine u_mv ?_
  refine u_bd ?_
  refine u_al ?_
  refine u_st ?_
  refine lg_nil ?_
  refine h1 _ ?_; clear h1; try clear N1
  refine vc_seq_k fun N2 h2 => ?_
  refine vc_nil1 2 2 (.vec 55 4 []) 4 (vec_nil 55 4) rfl rfl rfl ?_
  simp only [updL, List.set, List.cons_append, List.nil_append]
  rcases parX_cases h3 hq with hP | ⟨a, q, x, hR, hE⟩
  skip
  have hx := And.intro @hP hx0
  refine vc_pan [] 0 (by rfl) (by rfl) ?_
  simp only [List.take_succ_cons, List.take_zero]
  try refine lg_mk ?_
  refine lg_nil ?_
  show PanO _ _ _ _
  have hs := @qryX.eq_1
  refine ⟨_, 42, _, _, _, _, _, Spec.gen (qryX 2000), 29, _, _, _, _, _, [2, 3], rfl, (all_pan 2000).1, by kernel_rfl, (by first | trivial | simp only [wB, eq_self, Nat.reduceEqDiff, reduceIte, and_true]), (by simp only [map_rules, wB, eq_self, Nat.reduceEqDiff, reduceIte, callS, rd_rules, pureL, cleanD, pure_rules, hs, sc_rules, heap_rules, wL, Int.toNat_natCast, Int.reduceToNat, Nat.reduceAdd, Nat.reduceMul, Nat.reduceSub, Nat.reduceLeDiff, List.mem_cons, List.not_mem_nil, dI_rows, dB_rows, dU_rows, hx, wG, Nat.reduceAdd, Nat.reduceSub, Nat.reduceLT, Nat.reduceLeDiff, if_true, if_false, ite_self, List.mem_append, true_implies, Option.bind_some, List.set_cons_zero, List.set_cons_succ, or_false, false_or]; rfl), (by refine ⟨by decide, by decide, preS_ok (m := 0) (q := []) (Nat.zero_le _) (by omega) (by omega), ?_⟩; first | exact hc0 | (rw [hP]; exact hc0) | (simp only [dSn_nil, Int.toNat_zero, Int.toNat_natCast, hP, eC_e]; exact hc0)), ?_⟩
  (refine ⟨?_, rfl, rfl, rfl, rfl⟩; rfl)
  have hP := rdX_ok hR
  obtain ⟨⟨f1, f2, f3⟩, f4⟩ := rd_fit t 2000 0 0 [] (Nat.zero_le _) a q x hP
  have f5 : q.length ≤ a := by simp at f3; omega
  have hps := preS_ok (t := t) (m := a) (q := q) f5 f2 (by omega)
  obtain ⟨k1, k2⟩ := skS_le f2
  generalize hB : skS t a = B at *
  have hx := And.intro @hP hx0
  refine u_reg ?_
  try refine lg_mk ?_
  have hc := call_rule (E := (E_qryB.at_ 32)) (f := 42) (sp := Spec.gen (qryG 2000)) rfl
  have hs := @qryG.eq_1
  refine u_hg (hq := by (first | (refine ⟨by decide, by decide, preS_ok (m := 0) (q := []) (Nat.zero_le _) (by omega) (by omega), ?_⟩; first | rfl | (rw [hP]; rfl) | (simp only [dSn_nil, Int.toNat_zero, Int.toNat_natCast, hP]; rfl)) | exact sd_)) ?_
  refine lg_nil ?_
  have hx := hx0
  refine h2 _ ?_; clear h2; try clear N2
  refine vc_seq_k fun N3 h3 => ?_
  refine vc_seq_k fun N4 h4 => ?_
  have hx := And.intro @hB hx0
  refine u_reg ?_
  try refine lg_mk ?_
  have hc := call_rule (E := (E_qryB.at_ 32)) (f := 43) (sp := Spec.gen blkG) rfl
  have hs := @blkG.eq_1
  refine u_hg (hq := by (first | (exact hps) | exact sd_)) ?_
  refine lg_nil ?_
  have hx := hx0
  refine h4 _ ?_; clear h4; try clear N4
  refine vc_seq_k fun N5 h5 => ?_
  refine u_reg ?_
  try refine lg_mk ?_
  refine u_pt ?_
  refine u_ld ?_
  refine u_mv ?_
  refine u_ln ?_
  refine u_bn ?_
  refine lg_nil ?_
  refine h5 _ ?_; clear h5; try clear N5
  refine u_cond (fun hb6 => ?_) (fun hb6 => ?_)
  have hlt : B < t.length := by have := hb6; (try simp at this); omega
  obtain ⟨rfl, rfl⟩ : c0 = 1 ∧ k0 = ((B : Nat) : Int) := by
    rcases hE with ⟨_, e1, e2⟩ | ⟨e1, _⟩
    · exact ⟨e1, e2⟩
    · exact absurd hlt e1
  refine vc_pan [] 2 (by rfl) (by rfl) ?_
  simp only [List.take_succ_cons, List.take_zero]
  try refine lg_mk ?_
  refine u_pt ?_
  refine u_ld ?_
  refine lg_nil ?_
  show PanO _ _ _ _
  have hs := @failG.eq_1
  refine ⟨_, 44, _, _, _, _, _, Spec.gen failG, 29, _, _, _, _, _, [2, 4], rfl, fail_pan, by kernel_rfl, (by first | trivial | simp only [wB, eq_self, Nat.reduceEqDiff, reduceIte, and_true]), (by simp only [map_rules, wB, eq_self, Nat.reduceEqDiff, reduceIte, callS, rd_rules, pureL, cleanD, pure_rules, hs, sc_rules, heap_rules, wL, Int.toNat_natCast, Int.reduceToNat, Nat.reduceAdd, Nat.reduceMul, Nat.reduceSub, Nat.reduceLeDiff, List.mem_cons, List.not_mem_nil, dI_rows, dB_rows, dU_rows, hx, wG, Nat.reduceAdd, Nat.reduceSub, Nat.reduceLT, Nat.reduceLeDiff, if_true, if_false, ite_self, List.mem_append, true_implies, Option.bind_some, List.set_cons_zero, List.set_cons_succ, or_false, false_or]; rfl), (by trivial), ?_⟩
  (refine ⟨?_, rfl, rfl, rfl, rfl⟩; rfl)
  have hlt : ¬ B < t.length := by have := hb6; (try simp at this); omega
  obtain ⟨_, h40, rfl, rfl⟩ := hE.resolve_left fun h => hlt h.1
  refine vc_skip ?_
  try simp only [k_rules]
  refine h3 _ ?_; clear h3; try clear N3
  refine vc_seq_k fun N7 h7 => ?_
  refine vc_seq_k fun N8 h8 => ?_
  refine u_reg ?_
  try refine lg_mk ?_
  refine u_pt ?_
  refine u_ld ?_
  refine u_ln ?_
  refine u_bn ?_
  refine lg_nil ?_
  refine h8 _ ?_; clear h8; try clear N8
  refine u_cond (fun hb9 => ?_) (fun hb9 => ?_)
  refine vc_pan [] 0 (by rfl) (by rfl) ?_
  simp only [List.take_succ_cons, List.take_zero]
  try refine lg_mk ?_
  refine lg_nil ?_
  show PanO _ _ _ _
  have hs := @failG.eq_1
  refine ⟨_, 44, _, _, _, _, _, Spec.gen failG, 29, _, _, _, _, _, [2, 4], rfl, fail_pan, by kernel_rfl, (by first | trivial | simp only [wB, eq_self, Nat.reduceEqDiff, reduceIte, and_true]), (by simp only [map_rules, wB, eq_self, Nat.reduceEqDiff, reduceIte, callS, rd_rules, pureL, cleanD, pure_rules, hs, sc_rules, heap_rules, wL, Int.toNat_natCast, Int.reduceToNat, Nat.reduceAdd, Nat.reduceMul, Nat.reduceSub, Nat.reduceLeDiff, List.mem_cons, List.not_mem_nil, dI_rows, dB_rows, dU_rows, hx, wG, Nat.reduceAdd, Nat.reduceSub, Nat.reduceLT, Nat.reduceLeDiff, if_true, if_false, ite_self, List.mem_append, true_implies, Option.bind_some, List.set_cons_zero, List.set_cons_succ, or_false, false_or]; rfl), (by trivial), ?_⟩
  (refine ⟨?_, rfl, rfl, rfl, rfl⟩; rfl)
  ·first | omega | exact absurd trivial hb9 | contradiction | (simp_all; done)
end Go.Proofs.YtmbjnkgpcbpclaaGreat
