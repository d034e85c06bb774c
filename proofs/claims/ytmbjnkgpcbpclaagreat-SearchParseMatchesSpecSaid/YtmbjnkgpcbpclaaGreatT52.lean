/- Walks, printed by wip/gen/walk.py. -/
import Derived.Test.YtmbjnkgpcbpclaaGreatT51
import Derived.Test.YtmbjnkgpcbpclaaGreatV5
set_option linter.all false
set_option maxRecDepth 100000
set_option maxHeartbeats 4000000
namespace Go.Proofs.YtmbjnkgpcbpclaaGreat
open Go Go.Vc Go.RowKit
theorem chk_meets : Meets Tryz.prog 33 (Spec.gen chkSG) := by
 refine meets_handed (E_ist.at_ 61) Tryz.func33 rfl rfl rfl ?_
 intro args bl p r bf hg hp
 unfold chkSG at hg
 split at hg
 rename_i a b c e i t s xs
 simp only [Option.some.injEq, Prod.mk.injEq] at hg
 obtain ⟨rfl, rfl, rfl⟩ := hg
 obtain ⟨he, rfl, rfl, rfl, hl, hbl⟩ := hp
 generalize dI xs = l at *
 subst he
 have hsa := sar_le a
 have hT : (E_ist).X = T := rfl
 have hx0 := And.intro @dI_rows (And.intro @dec_t (And.intro @dec_f @Tryz.results33))
 have hx := hx0
 refine ⟨Nat.le_of_ble_eq_true rfl, ?_⟩
 intro F W0 M0 hnp hmk
 have hnp : Far.np = 1 := hnp
 refine vc_seq_k fun N1 h1 => ?_
 refine u_reg ?_
 try refine lg_mk ?_
 refine u_bx (hq := by exact so_) ?_
 refine u_mv (hq := by exact so_) ?_
 refine lg_nil ?_
 refine h1 _ ?_; clear h1; try clear N1
 refine vc_seq_k fun N2 h2 => ?_
 refine vc_seq_k fun N3 h3 => ?_
 refine u_reg ?_
 try refine lg_mk ?_
 refine u_pt (hq := by exact so_) ?_
 refine u_ld (hq := by exact so_) ?_
 refine u_bn (hq := by exact so_) ?_
 refine u_mv (hq := by exact so_) ?_
 refine s_pt (hq := by exact si_) ?_
 refine s_ld (hq := by exact si_) ?_
 refine s_bn (hq := by exact si_) ?_
 refine u_pk (hq := by exact so_) ?_
 refine lg_nil ?_
 refine h3 _ ?_; clear h3; try clear N3
 refine u_cond (fun hb4 => ?_) (fun hb4 => ?_)
 have g1 : a < 1 ∨ 4 < a := by have := hb4; simpa using this
 refine vc_seq_k fun N5 h5 => ?_
 refine u_reg ?_
 try refine lg_mk ?_
 refine u_mv (hq := by exact so_) ?_
 refine lg_nil ?_
 refine h5 _ ?_; clear h5; try clear N5
 refine vc_ret ?_
 try simp only [k_rules]
 have hr : snC ⟨a, b, c, e⟩ l = 4 := by
  unfold snC snF; dsimp only; rw [if_pos g1]
 rw [hr]
 refine fin_ ?_
 refine ⟨[some 0], by rfl, ?_, ?_⟩
 refine fin_ ?_
 exact cl_
 refine fin_ ?_
 exact cl_
 have g1 : ¬(a < 1 ∨ 4 < a) := by have := hb4; simpa using this
 refine vc_skip ?_
 try simp only [k_rules]
 refine h2 _ ?_; clear h2; try clear N2
 refine vc_seq_k fun N6 h6 => ?_
 refine vc_seq_k fun N7 h7 => ?_
 rcases (show a = 1 ∨ ¬a = 1 by omega) with rfl | ga
 have f1 := True.intro
 have hx := And.intro @f1 hx0
 refine vc_regG [62] hmix (by kernel_rfl) ?_
 try refine lg_mk ?_
 refine u_pt (hq := by exact so_) ?_
 refine u_ld (hq := by exact so_) ?_
 refine u_bn (hq := by exact so_) ?_
 refine u_mv (hq := by exact so_) ?_
 refine v_pt (hq := by exact so_) ?_
 refine v_ld (hq := by exact so_) ?_
 have hc := call_rule (E := (E_ist.at_ 61)) (f := 62) (sp := Spec.pure isTG) rfl
 have hs := @isTG.eq_1
 refine v_cp (hq := by exact so_) ?_
 refine v_un (hq := by exact so_) ?_
 refine u_pk (hq := by exact so_) ?_
 refine lg_nil ?_
 have hx := hx0
 refine h7 _ ?_; clear h7; try clear N7
 refine u_cond (fun hb8 => ?_) (fun hb8 => ?_)
 have g2 : okT b = false := by have := hb8; simpa using this
 refine vc_seq_k fun N9 h9 => ?_
 refine u_reg ?_
 try refine lg_mk ?_
 refine u_mv (hq := by exact so_) ?_
 refine lg_nil ?_
 refine h9 _ ?_; clear h9; try clear N9
 refine vc_ret ?_
 try simp only [k_rules]
 have hr : snC ⟨1, b, c, e⟩ l = 3 := by
  unfold snC snF; dsimp only; rw [if_neg g1, if_pos ⟨rfl, g2⟩]
 rw [hr]
 refine fin_ ?_
 refine ⟨[some 0], by rfl, ?_, ?_⟩
 refine fin_ ?_
 exact cl_
 refine fin_ ?_
 exact cl_
 have g2 : okT b = true := by have := hb8; simpa using this
 have c2 : ¬((1 : Int) = 1 ∧ okT b = false) := fun h => by rw [g2] at h; cases h.2
 have c3 : ¬((1 : Int) ≠ 1 ∧ b ≠ []) := fun h => h.1 rfl
 refine vc_skip ?_
 try simp only [k_rules]
 refine h6 _ ?_; clear h6; try clear N6
 refine vc_seq_k fun N10 h10 => ?_
 refine u_reg ?_
 try refine lg_mk ?_
 refine u_pt (hq := by exact so_) ?_
 refine u_ld (hq := by exact so_) ?_
 have hc := call_rule (E := (E_ist.at_ 61)) (f := 34) (sp := Spec.pure sarG) rfl
 have hs := @sarG.eq_1
 refine u_cp (hq := by exact so_) ?_
 refine u_mv (hq := by exact so_) ?_
 refine lg_nil ?_
 refine h10 _ ?_; clear h10; try clear N10
 refine vc_seq_k fun N11 h11 => ?_
 refine vc_seq_k fun N12 h12 => ?_
 refine u_reg ?_
 try refine lg_mk ?_
 refine u_pt (hq := by exact so_) ?_
 refine u_ld (hq := by exact so_) ?_
 refine u_bn (hq := by exact so_) ?_
 refine u_mv (hq := by exact so_) ?_
 refine lg_g0 ?_ ?_
 focus (exact gt_)
 refine lg_g0 ?_ ?_
 focus (exact gt_)
 refine lg_g0 ?_ ?_
 focus (exact gt_)
 refine u_pk (hq := by exact so_) ?_
 refine u_mv (hq := by exact so_) ?_
 refine v_mv (hq := by exact so_) ?_
 refine v_ln (hq := by exact so_) ?_
 refine v_mv (hq := by exact so_) ?_
 refine v_bn (hq := by exact so_) ?_
 refine u_pk (hq := by exact so_) ?_
 refine lg_nil ?_
 refine h12 _ ?_; clear h12; try clear N12
 refine u_cond (fun hb13 => ?_) (fun hb13 => ?_)
 refine vc_seq_k fun N14 h14 => ?_
 refine u_reg ?_
 try refine lg_mk ?_
 refine u_mv (hq := by exact so_) ?_
 refine lg_nil ?_
 refine h14 _ ?_; clear h14; try clear N14
 refine vc_ret ?_
 try simp only [k_rules]
 have hr : snC ⟨1, b, c, e⟩ l = 5 := by
  unfold snC snF; dsimp only; rw [if_neg g1, if_neg c2, if_neg c3, if_pos (by have := hb13; (try simp at this); omega)]
 rw [hr]
 refine fin_ ?_
 refine ⟨[some 0], by rfl, ?_, ?_⟩
 refine fin_ ?_
 exact cl_
 refine fin_ ?_
 exact cl_
 have hkl : sar 1 ≤ l.length := by have := hb13; (try simp at this); omega
 have hwt := want_is l hkl (sar_le _)
 have hsu : ((l.length : Int) - (sar 1 : Int)).toNat = l.length - sar 1 := by omega
 have hss : l.length - (l.length - sar 1) = sar 1 := by omega
 refine vc_skip ?_
 try simp only [k_rules]
 refine h11 _ ?_; clear h11; try clear N11
 refine vc_seq_k fun N15 h15 => ?_
 refine u_reg ?_
 try refine lg_mk ?_
 refine lg_sem (by rfl) (sem_allocFull (by first | (simp only [wB, eq_self, Nat.reduceEqDiff, reduceIte, env_rules, tys, hT, tiAgg]; done) | (simp only [wB, eq_self, Nat.reduceEqDiff, reduceIte, env_rules, tys, hT, tiAgg]; rfl)) (by simp only [List.map]; rfl) (by simp) (by decide) (by decide) ?_)
 try simp only [wB, eq_self, Nat.reduceEqDiff, reduceIte, wL, Int.toNat_natCast, Int.reduceToNat, Nat.reduceAdd, Nat.reduceMul, Nat.reduceSub, Nat.reduceLeDiff, hx]
 refine lg_nil ?_
 refine h15 _ ?_; clear h15; try clear N15
 refine vc_seq_k fun N16 h16 => ?_
 have hx := And.intro @hsu (And.intro @hss hx0)
 refine u_reg ?_
 try refine lg_mk ?_
 refine lg_semV (by rfl) (semv_arr (by first | (simp only [wB, eq_self, Nat.reduceEqDiff, reduceIte]; done) | (simp only [wB, eq_self, Nat.reduceEqDiff, reduceIte]; rfl)) (by first | trivial | simp only [wB, eq_self, Nat.reduceEqDiff, reduceIte]) (by simp only [wB, eq_self, Nat.reduceEqDiff, reduceIte]; rfl) (by first | (simp only [wB, eq_self, Nat.reduceEqDiff, reduceIte, env_rules, tys, hT, tiAgg]; done) | (simp only [wB, eq_self, Nat.reduceEqDiff, reduceIte, env_rules, tys, hT, tiAgg]; rfl)) (by first | (simp only [wB, eq_self, Nat.reduceEqDiff, reduceIte, env_rules, tys, hT, tiAgg]; done) | (simp only [wB, eq_self, Nat.reduceEqDiff, reduceIte, env_rules, tys, hT, tiAgg]; rfl)) rfl (by decide)) ?_
 try simp only [wB, eq_self, Nat.reduceEqDiff, reduceIte, wL, Int.toNat_natCast, Int.reduceToNat, Nat.reduceAdd, Nat.reduceMul, Nat.reduceSub, Nat.reduceLeDiff, hx]
 iterate 2 refine u_mv (hq := by exact so_) ?_
 refine u_ln (hq := by exact so_) ?_
 refine u_mv (hq := by exact so_) ?_
 refine u_bn (hq := by exact so_) ?_
 refine u_sl (hq := by exact so_) ?_
 refine lg_sem (by rfl) (sem_unfull (id := 2) (by simp only [wB, eq_self, Nat.reduceEqDiff, reduceIte]; rfl) (sem_copy (by first | (simp only [wB, eq_self, Nat.reduceEqDiff, reduceIte]; done) | (simp only [wB, eq_self, Nat.reduceEqDiff, reduceIte]; rfl)) (by first | trivial | simp only [wB, eq_self, Nat.reduceEqDiff, reduceIte]) (by simp only [heap_rules, wB, eq_self, Nat.reduceEqDiff, reduceIte]; rfl) (by first | (simp only [wB, eq_self, Nat.reduceEqDiff, reduceIte, env_rules, tys, hT, tiAgg]; done) | (simp only [wB, eq_self, Nat.reduceEqDiff, reduceIte, env_rules, tys, hT, tiAgg]; rfl)) (by first | (simp only [wB, eq_self, Nat.reduceEqDiff, reduceIte, env_rules, tys, hT, tiAgg]; done) | (simp only [wB, eq_self, Nat.reduceEqDiff, reduceIte, env_rules, tys, hT, tiAgg]; rfl)) rfl (by first | (simp only [wB, eq_self, Nat.reduceEqDiff, reduceIte]; done) | (simp only [wB, eq_self, Nat.reduceEqDiff, reduceIte]; rfl)) (by first | trivial | simp only [wB, eq_self, Nat.reduceEqDiff, reduceIte]) (by simp only [rowsSrc, heap_rules, wB, eq_self, Nat.reduceEqDiff, reduceIte, wL, Int.toNat_natCast, Int.reduceToNat, Nat.reduceAdd, Nat.reduceMul, Nat.reduceSub, Nat.reduceLeDiff, hx]; rfl) (by (first | (first | omega | decide | exact rows_rect (f := eI) (fun _ => rfl) _) | exact sd_)) (by (first | (first | omega | decide | exact rows_rect (f := eI) (fun _ => rfl) _) | exact sd_)) (by (first | (first | omega | decide | exact rows_rect (f := eI) (fun _ => rfl) _) | exact sd_)) ?_))
 try simp only [heap_rules, wB, eq_self, Nat.reduceEqDiff, reduceIte, wL, Int.toNat_natCast, Int.reduceToNat, Nat.reduceAdd, Nat.reduceMul, Nat.reduceSub, Nat.reduceLeDiff, hx]
 refine lg_nil ?_
 have hx := hx0
 refine h16 _ ?_; clear h16; try clear N16
 refine vc_seq_k fun N17 h17 => ?_
 refine vc_seq_k fun N18 h18 => ?_
 rcases (show (c = wnt l (sar 1) 0 ∧ e = wnt l (sar 1) 1) ∨ (c = wnt l (sar 1) 0 ∧ e ≠ wnt l (sar 1) 1) ∨ c ≠ wnt l (sar 1) 0 by by_cases h : c = wnt l (sar 1) 0 <;> by_cases h' : e = wnt l (sar 1) 1 <;> simp [h, h']) with ⟨e1, e2⟩ | ⟨e1, e2⟩ | e1
 have f1 : (c = wnt l (sar 1) 0) = True := eq_true e1
 have f2 : (e = wnt l (sar 1) 1) = True := eq_true e2
 have hx := And.intro @f1 (And.intro @f2 (And.intro @hwt hx0))
 refine u_reg ?_
 try refine lg_mk ?_
 refine u_pt (hq := by exact so_) ?_
 refine u_ld (hq := by exact so_) ?_
 refine u_pt (hq := by exact so_) ?_
 refine u_ld (hq := by exact so_) ?_
 refine u_bn (hq := by exact so_) ?_
 refine u_mv (hq := by exact so_) ?_
 refine s_pt (hq := by exact si_) ?_
 refine s_ld (hq := by exact si_) ?_
 refine s_pt (hq := by exact si_) ?_
 refine s_ld (hq := by exact si_) ?_
 refine s_bn (hq := by exact si_) ?_
 refine u_pk (hq := by exact so_) ?_
 refine lg_nil ?_
 have hx := hx0
 refine h18 _ ?_; clear h18; try clear N18
 refine u_cond (fun hb19 => ?_) (fun hb19 => ?_)
 ·first | omega | exact absurd trivial hb19 | contradiction | (simp_all; done)
 refine vc_skip ?_
 try simp only [k_rules]
 refine h17 _ ?_; clear h17; try clear N17
 refine vc_seq_k fun N20 h20 => ?_
 refine u_reg ?_
 try refine lg_mk ?_
 refine u_mv (hq := by exact so_) ?_
 refine lg_nil ?_
 refine h20 _ ?_; clear h20; try clear N20
 refine vc_ret ?_
 try simp only [k_rules]
 have hr : snC ⟨1, b, c, e⟩ l = 0 := by
  unfold snC snF; dsimp only; rw [if_neg g1, if_neg c2, if_neg c3, if_neg (by omega), if_pos ⟨e1, e2⟩]
 rw [hr]
 refine fin_ ?_
 refine ⟨[some 0], by rfl, ?_, ?_⟩
 refine fin_ ?_
 exact cl_
 refine fin_ ?_
 exact cl_
 have f1 : (c = wnt l (sar 1) 0) = True := eq_true e1
 have f2 : (e = wnt l (sar 1) 1) = False := eq_false e2
 have hx := And.intro @f1 (And.intro @f2 (And.intro @hwt hx0))
 refine u_reg ?_
 try refine lg_mk ?_
 refine u_pt (hq := by exact so_) ?_
 refine u_ld (hq := by exact so_) ?_
 refine u_pt (hq := by exact so_) ?_
 refine u_ld (hq := by exact so_) ?_
 refine u_bn (hq := by exact so_) ?_
 refine u_mv (hq := by exact so_) ?_
 refine s_pt (hq := by exact si_) ?_
 refine s_ld (hq := by exact si_) ?_
 refine s_pt (hq := by exact si_) ?_
 refine s_ld (hq := by exact si_) ?_
 refine s_bn (hq := by exact si_) ?_
 refine u_pk (hq := by exact so_) ?_
 refine lg_nil ?_
 have hx := hx0
 refine h18 _ ?_; clear h18; try clear N18
 refine u_cond (fun hb21 => ?_) (fun hb21 => ?_)
 refine vc_seq_k fun N22 h22 => ?_
 refine u_reg ?_
 try refine lg_mk ?_
 refine u_mv (hq := by exact so_) ?_
 refine lg_nil ?_
 refine h22 _ ?_; clear h22; try clear N22
 refine vc_ret ?_
 try simp only [k_rules]
 have hr : snC ⟨1, b, c, e⟩ l = 5 := by
  unfold snC snF; dsimp only; rw [if_neg g1, if_neg c2, if_neg c3, if_neg (by omega), if_neg (fun h => e2 h.2)]
 rw [hr]
 refine fin_ ?_
 refine ⟨[some 0], by rfl, ?_, ?_⟩
 refine fin_ ?_
 exact cl_
 refine fin_ ?_
 exact cl_
 ·first | omega | exact absurd trivial hb21 | contradiction | (simp_all; done)
 have f1 : (c = wnt l (sar 1) 0) = False := eq_false e1
 have f2 : True := trivial
 have hx := And.intro @f1 (And.intro @f2 (And.intro @hwt hx0))
 refine u_reg ?_
 try refine lg_mk ?_
 refine u_pt (hq := by exact so_) ?_
 refine u_ld (hq := by exact so_) ?_
 refine u_pt (hq := by exact so_) ?_
 refine u_ld (hq := by exact so_) ?_
 refine u_bn (hq := by exact so_) ?_
 refine u_mv (hq := by exact so_) ?_
 refine s_pt (hq := by exact si_) ?_
 refine s_ld (hq := by exact si_) ?_
 refine s_pt (hq := by exact si_) ?_
 refine s_ld (hq := by exact si_) ?_
 refine s_bn (hq := by exact si_) ?_
 refine u_pk (hq := by exact so_) ?_
 refine lg_nil ?_
 have hx := hx0
 refine h18 _ ?_; clear h18; try clear N18
 refine u_cond (fun hb23 => ?_) (fun hb23 => ?_)
 refine vc_seq_k fun N24 h24 => ?_
 refine u_reg ?_
 try refine lg_mk ?_
 refine u_mv (hq := by exact so_) ?_
 refine lg_nil ?_
 refine h24 _ ?_; clear h24; try clear N24
 refine vc_ret ?_
 try simp only [k_rules]
 have hr : snC ⟨1, b, c, e⟩ l = 5 := by
  unfold snC snF; dsimp only; rw [if_neg g1, if_neg c2, if_neg c3, if_neg (by omega), if_neg (fun h => e1 h.1)]
 rw [hr]
 refine fin_ ?_
 refine ⟨[some 0], by rfl, ?_, ?_⟩
 refine fin_ ?_
 exact cl_
 refine fin_ ?_
 exact cl_
 ·first | omega | exact absurd trivial hb23 | contradiction | (simp_all; done)
 have f1 : (a = 1) = False := eq_false ga
 have hx := And.intro @f1 hx0
 refine vc_regG [62] hmix (by kernel_rfl) ?_
 try refine lg_mk ?_
 refine u_pt (hq := by exact so_) ?_
 refine u_ld (hq := by exact so_) ?_
 refine u_bn (hq := by exact so_) ?_
 refine u_mv (hq := by exact so_) ?_
 refine lg_g0 ?_ ?_
 focus (exact gt_)
 refine lg_g0 ?_ ?_
 focus (exact gt_)
 refine lg_g0 ?_ ?_
 focus (exact gt_)
 refine lg_g0 ?_ ?_
 focus (exact gt_)
 refine u_pk (hq := by exact so_) ?_
 refine lg_nil ?_
 have hx := hx0
 refine h7 _ ?_; clear h7; try clear N7
 refine u_cond (fun hb25 => ?_) (fun hb25 => ?_)
 ·first | omega | exact absurd trivial hb25 | contradiction | (simp_all; done)
 refine vc_skip ?_
 try simp only [k_rules]
 refine h6 _ ?_; clear h6; try clear N6
 refine vc_seq_k fun N26 h26 => ?_
 refine u_reg ?_
 try refine lg_mk ?_
 refine u_pt (hq := by exact so_) ?_
 refine u_ld (hq := by exact so_) ?_
 have hc := call_rule (E := (E_ist.at_ 61)) (f := 34) (sp := Spec.pure sarG) rfl
 have hs := @sarG.eq_1
 refine u_cp (hq := by exact so_) ?_
 refine u_mv (hq := by exact so_) ?_
 refine lg_nil ?_
 refine h26 _ ?_; clear h26; try clear N26
 refine vc_seq_k fun N27 h27 => ?_
 refine vc_seq_k fun N28 h28 => ?_
 rcases (show b = [] ∨ b ≠ [] by by_cases h : b = []; exact .inl h; exact .inr h) with gb | gb
 have f2 : (b = []) = True := eq_true gb
 have c2 : ¬(a = 1 ∧ okT b = false) := fun h => ga h.1
 have c3 : ¬(a ≠ 1 ∧ b ≠ []) := fun h => h.2 gb
 have hx := And.intro @f1 (And.intro @f2 hx0)
 refine u_reg ?_
 try refine lg_mk ?_
 refine u_pt (hq := by exact so_) ?_
 refine u_ld (hq := by exact so_) ?_
 refine u_bn (hq := by exact so_) ?_
 refine u_mv (hq := by exact so_) ?_
 refine v_pt (hq := by exact so_) ?_
 refine v_ld (hq := by exact so_) ?_
 refine v_bn (hq := by exact so_) ?_
 refine u_pk (hq := by exact so_) ?_
 refine u_mv (hq := by exact so_) ?_
 refine v_mv (hq := by exact so_) ?_
 refine v_ln (hq := by exact so_) ?_
 refine v_mv (hq := by exact so_) ?_
 refine v_bn (hq := by exact so_) ?_
 refine u_pk (hq := by exact so_) ?_
 refine lg_nil ?_
 have hx := hx0
 refine h28 _ ?_; clear h28; try clear N28
 refine u_cond (fun hb29 => ?_) (fun hb29 => ?_)
 refine vc_seq_k fun N30 h30 => ?_
 refine u_reg ?_
 try refine lg_mk ?_
 refine u_mv (hq := by exact so_) ?_
 refine lg_nil ?_
 refine h30 _ ?_; clear h30; try clear N30
 refine vc_ret ?_
 try simp only [k_rules]
 have hr : snC ⟨a, b, c, e⟩ l = 5 := by
  unfold snC snF; dsimp only; rw [if_neg g1, if_neg c2, if_neg c3, if_pos (by have := hb29; (try simp at this); omega)]
 rw [hr]
 refine fin_ ?_
 refine ⟨[some 0], by rfl, ?_, ?_⟩
 refine fin_ ?_
 exact cl_
 refine fin_ ?_
 exact cl_
 have hkl : sar a ≤ l.length := by have := hb29; (try simp at this); omega
 have hwt := want_is l hkl (sar_le _)
 have hsu : ((l.length : Int) - (sar a : Int)).toNat = l.length - sar a := by omega
 have hss : l.length - (l.length - sar a) = sar a := by omega
 refine vc_skip ?_
 try simp only [k_rules]
 refine h27 _ ?_; clear h27; try clear N27
 refine vc_seq_k fun N31 h31 => ?_
 refine u_reg ?_
 try refine lg_mk ?_
 refine lg_sem (by rfl) (sem_allocFull (by first | (simp only [wB, eq_self, Nat.reduceEqDiff, reduceIte, env_rules, tys, hT, tiAgg]; done) | (simp only [wB, eq_self, Nat.reduceEqDiff, reduceIte, env_rules, tys, hT, tiAgg]; rfl)) (by simp only [List.map]; rfl) (by simp) (by decide) (by decide) ?_)
 try simp only [wB, eq_self, Nat.reduceEqDiff, reduceIte, wL, Int.toNat_natCast, Int.reduceToNat, Nat.reduceAdd, Nat.reduceMul, Nat.reduceSub, Nat.reduceLeDiff, hx]
 refine lg_nil ?_
 refine h31 _ ?_; clear h31; try clear N31
 refine vc_seq_k fun N32 h32 => ?_
 have hx := And.intro @hsu (And.intro @hss hx0)
 refine u_reg ?_
 try refine lg_mk ?_
 refine lg_semV (by rfl) (semv_arr (by first | (simp only [wB, eq_self, Nat.reduceEqDiff, reduceIte]; done) | (simp only [wB, eq_self, Nat.reduceEqDiff, reduceIte]; rfl)) (by first | trivial | simp only [wB, eq_self, Nat.reduceEqDiff, reduceIte]) (by simp only [wB, eq_self, Nat.reduceEqDiff, reduceIte]; rfl) (by first | (simp only [wB, eq_self, Nat.reduceEqDiff, reduceIte, env_rules, tys, hT, tiAgg]; done) | (simp only [wB, eq_self, Nat.reduceEqDiff, reduceIte, env_rules, tys, hT, tiAgg]; rfl)) (by first | (simp only [wB, eq_self, Nat.reduceEqDiff, reduceIte, env_rules, tys, hT, tiAgg]; done) | (simp only [wB, eq_self, Nat.reduceEqDiff, reduceIte, env_rules, tys, hT, tiAgg]; rfl)) rfl (by decide)) ?_
 try simp only [wB, eq_self, Nat.reduceEqDiff, reduceIte, wL, Int.toNat_natCast, Int.reduceToNat, Nat.reduceAdd, Nat.reduceMul, Nat.reduceSub, Nat.reduceLeDiff, hx]
 iterate 2 refine u_mv (hq := by exact so_) ?_
 refine u_ln (hq := by exact so_) ?_
 refine u_mv (hq := by exact so_) ?_
 refine u_bn (hq := by exact so_) ?_
 refine u_sl (hq := by exact so_) ?_
 refine lg_sem (by rfl) (sem_unfull (id := 2) (by simp only [wB, eq_self, Nat.reduceEqDiff, reduceIte]; rfl) (sem_copy (by first | (simp only [wB, eq_self, Nat.reduceEqDiff, reduceIte]; done) | (simp only [wB, eq_self, Nat.reduceEqDiff, reduceIte]; rfl)) (by first | trivial | simp only [wB, eq_self, Nat.reduceEqDiff, reduceIte]) (by simp only [heap_rules, wB, eq_self, Nat.reduceEqDiff, reduceIte]; rfl) (by first | (simp only [wB, eq_self, Nat.reduceEqDiff, reduceIte, env_rules, tys, hT, tiAgg]; done) | (simp only [wB, eq_self, Nat.reduceEqDiff, reduceIte, env_rules, tys, hT, tiAgg]; rfl)) (by first | (simp only [wB, eq_self, Nat.reduceEqDiff, reduceIte, env_rules, tys, hT, tiAgg]; done) | (simp only [wB, eq_self, Nat.reduceEqDiff, reduceIte, env_rules, tys, hT, tiAgg]; rfl)) rfl (by first | (simp only [wB, eq_self, Nat.reduceEqDiff, reduceIte]; done) | (simp only [wB, eq_self, Nat.reduceEqDiff, reduceIte]; rfl)) (by first | trivial | simp only [wB, eq_self, Nat.reduceEqDiff, reduceIte]) (by simp only [rowsSrc, heap_rules, wB, eq_self, Nat.reduceEqDiff, reduceIte, wL, Int.toNat_natCast, Int.reduceToNat, Nat.reduceAdd, Nat.reduceMul, Nat.reduceSub, Nat.reduceLeDiff, hx]; rfl) (by (first | (first | omega | decide | exact rows_rect (f := eI) (fun _ => rfl) _) | exact sd_)) (by (first | (first | omega | decide | exact rows_rect (f := eI) (fun _ => rfl) _) | exact sd_)) (by (first | (first | omega | decide | exact rows_rect (f := eI) (fun _ => rfl) _) | exact sd_)) ?_))
 try simp only [heap_rules, wB, eq_self, Nat.reduceEqDiff, reduceIte, wL, Int.toNat_natCast, Int.reduceToNat, Nat.reduceAdd, Nat.reduceMul, Nat.reduceSub, Nat.reduceLeDiff, hx]
 refine lg_nil ?_
 have hx := hx0
 refine h32 _ ?_; clear h32; try clear N32
 refine vc_seq_k fun N33 h33 => ?_
 refine vc_seq_k fun N34 h34 => ?_
 rcases (show (c = wnt l (sar a) 0 ∧ e = wnt l (sar a) 1) ∨ (c = wnt l (sar a) 0 ∧ e ≠ wnt l (sar a) 1) ∨ c ≠ wnt l (sar a) 0 by by_cases h : c = wnt l (sar a) 0 <;> by_cases h' : e = wnt l (sar a) 1 <;> simp [h, h']) with ⟨e1, e2⟩ | ⟨e1, e2⟩ | e1
 have f1 : (c = wnt l (sar a) 0) = True := eq_true e1
 have f2 : (e = wnt l (sar a) 1) = True := eq_true e2
 have hx := And.intro @f1 (And.intro @f2 (And.intro @hwt hx0))
 refine u_reg ?_
 try refine lg_mk ?_
 refine u_pt (hq := by exact so_) ?_
 refine u_ld (hq := by exact so_) ?_
 refine u_pt (hq := by exact so_) ?_
 refine u_ld (hq := by exact so_) ?_
 refine u_bn (hq := by exact so_) ?_
 refine u_mv (hq := by exact so_) ?_
 refine s_pt (hq := by exact si_) ?_
 refine s_ld (hq := by exact si_) ?_
 refine s_pt (hq := by exact si_) ?_
 refine s_ld (hq := by exact si_) ?_
 refine s_bn (hq := by exact si_) ?_
 refine u_pk (hq := by exact so_) ?_
 refine lg_nil ?_
 have hx := hx0
 refine h34 _ ?_; clear h34; try clear N34
 refine u_cond (fun hb35 => ?_) (fun hb35 => ?_)
 ·first | omega | exact absurd trivial hb35 | contradiction | (simp_all; done)
 refine vc_skip ?_
 try simp only [k_rules]
 refine h33 _ ?_; clear h33; try clear N33
 refine vc_seq_k fun N36 h36 => ?_
 refine u_reg ?_
 try refine lg_mk ?_
 refine u_mv (hq := by exact so_) ?_
 refine lg_nil ?_
 refine h36 _ ?_; clear h36; try clear N36
 refine vc_ret ?_
 try simp only [k_rules]
 have hr : snC ⟨a, b, c, e⟩ l = 0 := by
  unfold snC snF; dsimp only; rw [if_neg g1, if_neg c2, if_neg c3, if_neg (by omega), if_pos ⟨e1, e2⟩]
 rw [hr]
 refine fin_ ?_
 refine ⟨[some 0], by rfl, ?_, ?_⟩
 refine fin_ ?_
 exact cl_
 refine fin_ ?_
 exact cl_
 have f1 : (c = wnt l (sar a) 0) = True := eq_true e1
 have f2 : (e = wnt l (sar a) 1) = False := eq_false e2
 have hx := And.intro @f1 (And.intro @f2 (And.intro @hwt hx0))
 refine u_reg ?_
 try refine lg_mk ?_
 refine u_pt (hq := by exact so_) ?_
 refine u_ld (hq := by exact so_) ?_
 refine u_pt (hq := by exact so_) ?_
 refine u_ld (hq := by exact so_) ?_
 refine u_bn (hq := by exact so_) ?_
 refine u_mv (hq := by exact so_) ?_
 refine s_pt (hq := by exact si_) ?_
 refine s_ld (hq := by exact si_) ?_
 refine s_pt (hq := by exact si_) ?_
 refine s_ld (hq := by exact si_) ?_
 refine s_bn (hq := by exact si_) ?_
 refine u_pk (hq := by exact so_) ?_
 refine lg_nil ?_
 have hx := hx0
 refine h34 _ ?_; clear h34; try clear N34
 refine u_cond (fun hb37 => ?_) (fun hb37 => ?_)
 refine vc_seq_k fun N38 h38 => ?_
 refine u_reg ?_
 try refine lg_mk ?_
 refine u_mv (hq := by exact so_) ?_
 refine lg_nil ?_
 refine h38 _ ?_; clear h38; try clear N38
 refine vc_ret ?_
 try simp only [k_rules]
 have hr : snC ⟨a, b, c, e⟩ l = 5 := by
  unfold snC snF; dsimp only; rw [if_neg g1, if_neg c2, if_neg c3, if_neg (by omega), if_neg (fun h => e2 h.2)]
 rw [hr]
 refine fin_ ?_
 refine ⟨[some 0], by rfl, ?_, ?_⟩
 refine fin_ ?_
 exact cl_
 refine fin_ ?_
 exact cl_
 ·first | omega | exact absurd trivial hb37 | contradiction | (simp_all; done)
 have f1 : (c = wnt l (sar a) 0) = False := eq_false e1
 have f2 : True := trivial
 have hx := And.intro @f1 (And.intro @f2 (And.intro @hwt hx0))
 refine u_reg ?_
 try refine lg_mk ?_
 refine u_pt (hq := by exact so_) ?_
 refine u_ld (hq := by exact so_) ?_
 refine u_pt (hq := by exact so_) ?_
 refine u_ld (hq := by exact so_) ?_
 refine u_bn (hq := by exact so_) ?_
 refine u_mv (hq := by exact so_) ?_
 refine s_pt (hq := by exact si_) ?_
 refine s_ld (hq := by exact si_) ?_
 refine s_pt (hq := by exact si_) ?_
 refine s_ld (hq := by exact si_) ?_
 refine s_bn (hq := by exact si_) ?_
 refine u_pk (hq := by exact so_) ?_
 refine lg_nil ?_
 have hx := hx0
 refine h34 _ ?_; clear h34; try clear N34
 refine u_cond (fun hb39 => ?_) (fun hb39 => ?_)
 refine vc_seq_k fun N40 h40 => ?_
 refine u_reg ?_
 try refine lg_mk ?_
 refine u_mv (hq := by exact so_) ?_
 refine lg_nil ?_
 refine h40 _ ?_; clear h40; try clear N40
 refine vc_ret ?_
 try simp only [k_rules]
 have hr : snC ⟨a, b, c, e⟩ l = 5 := by
  unfold snC snF; dsimp only; rw [if_neg g1, if_neg c2, if_neg c3, if_neg (by omega), if_neg (fun h => e1 h.1)]
 rw [hr]
 refine fin_ ?_
 refine ⟨[some 0], by rfl, ?_, ?_⟩
 refine fin_ ?_
 exact cl_
 refine fin_ ?_
 exact cl_
 ·first | omega | exact absurd trivial hb39 | contradiction | (simp_all; done)
 have f2 : (b = []) = False := eq_false gb
 have c2 : ¬(a = 1 ∧ okT b = false) := fun h => ga h.1
 have hx := And.intro @f1 (And.intro @f2 hx0)
 refine u_reg ?_
 try refine lg_mk ?_
 refine u_pt (hq := by exact so_) ?_
 refine u_ld (hq := by exact so_) ?_
 refine u_bn (hq := by exact so_) ?_
 refine u_mv (hq := by exact so_) ?_
 refine v_pt (hq := by exact so_) ?_
 refine v_ld (hq := by exact so_) ?_
 refine v_bn (hq := by exact so_) ?_
 refine u_pk (hq := by exact so_) ?_
 refine u_mv (hq := by exact so_) ?_
 refine lg_g0 ?_ ?_
 focus (exact gt_)
 refine lg_g0 ?_ ?_
 focus (exact gt_)
 refine lg_g0 ?_ ?_
 focus (exact gt_)
 refine lg_g0 ?_ ?_
 focus (exact gt_)
 refine u_pk (hq := by exact so_) ?_
 refine lg_nil ?_
 have hx := hx0
 refine h28 _ ?_; clear h28; try clear N28
 refine u_cond (fun hb41 => ?_) (fun hb41 => ?_)
 refine vc_seq_k fun N42 h42 => ?_
 refine u_reg ?_
 try refine lg_mk ?_
 refine u_mv (hq := by exact so_) ?_
 refine lg_nil ?_
 refine h42 _ ?_; clear h42; try clear N42
 refine vc_ret ?_
 try simp only [k_rules]
 have hr : snC ⟨a, b, c, e⟩ l = 5 := by
  unfold snC snF; dsimp only; rw [if_neg g1, if_neg c2, if_pos ⟨ga, gb⟩]
 rw [hr]
 refine fin_ ?_
 refine ⟨[some 0], by rfl, ?_, ?_⟩
 refine fin_ ?_
 exact cl_
 refine fin_ ?_
 exact cl_
 ·first | omega | exact absurd trivial hb41 | contradiction | (simp_all; done)
 cases hg

def E_chk : Env Tryz.prog := E_ist.add 33 (Spec.gen chkSG) chk_meets (by kernel_rfl)
end Go.Proofs.YtmbjnkgpcbpclaaGreat
