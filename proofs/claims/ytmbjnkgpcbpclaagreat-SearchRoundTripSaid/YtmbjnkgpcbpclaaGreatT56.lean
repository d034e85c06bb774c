/- Walks, printed by wip/gen/walk.py. -/
import Derived.Test.YtmbjnkgpcbpclaaGreatT55
import Derived.Test.YtmbjnkgpcbpclaaGreatV5
set_option linter.all false
set_option maxRecDepth 100000
set_option maxHeartbeats 4000000
namespace Go.Proofs.YtmbjnkgpcbpclaaGreat
open Go Go.Vc Go.RowKit
theorem arM_len {q : List Sn} {i : Nat} (h : i ≤ q.length) : (arQ (mpQ q) i).length = i := arQ_len (by rw [mp_len]; exact h)
theorem arM_snoc {q : List Sn} {i : Nat} {x : Sn} (h : q[i]? = some x) : arQ (mpQ q) (i + 1) = arQ (mpQ q) i ++ [sar x.kd] := by
  have : (mpQ q)[i]? = some (nM x) := by unfold mpQ; rw [List.getElem?_map, h]; rfl
  rw [arQ_snoc this]
  show _ ++ [ar (kM x.kd)] = _
  rw [ar_kM]
theorem badM {q : List Sn} {i : Nat} (hi : i < q.length) : badA (arQ (mpQ q) (i + 1)) = szB (szlS q i) (sar (q.getD i default).kd) := by
  rw [bad_q (by rw [mp_len]; omega), mp_ar hi]; rfl
theorem okM {q : List Sn} {i m : Nat} (hm : m ≤ i) (hi : i ≤ q.length) (h : ∀ j, j < m → refCs q j = 0) : okA (arQ (mpQ q) i) m := ok_q hm (by rw [mp_len]; exact hi) fun j hj => refC_of (by omega) (h j hj)
theorem badM_all {q : List Sn} (h1 : 1 ≤ q.length) (h : ∀ j, j < q.length → refCs q j = 0) : badA (arQ (mpQ q) q.length) = false := by
  have := bad_all (q := mpQ q) (by rw [mp_len]; exact h1) fun j hj => refC_of (by rw [mp_len] at hj; exact hj) (h j (by rw [mp_len] at hj; exact hj))
  rwa [mp_len] at this
theorem szM_ok {q : List Sn} {i : Nat} (hi : i ≤ q.length) (hb : badA (arQ (mpQ q) i) = false) : szX (arQ (mpQ q) i) = -1 ∧ szO (arQ (mpQ q) i) = szlS q i := sz_ok (by rw [mp_len]; exact hi) hb
theorem szM_bad {q : List Sn} {i : Nat} (hi : i + 1 ≤ q.length) (hb : badA (arQ (mpQ q) (i + 1)) = true) : szX (arQ (mpQ q) (i + 1)) = (i : Int) := sz_bad (by rw [mp_len]; exact hi) hb
theorem opM_is {q : List Sn} {i a : Nat} (h40 : q.length ≤ 40) (hi : i + 1 ≤ q.length) (h : ∀ j, j < i → refCs q j = 0) (ha : a ≤ 2) (hb : szB (szlS q i) a = false) :
    (((a : Nat) : Int) = 2 → 1 ≤ (i : Int) ∧ (szlS q (i + 1)).getD (((i : Nat) : Int).toNat - 1) 0 ≤ 1000) ∧
    (if ((a : Nat) : Int) = 1 then (i : Int) - 1 else if ((a : Nat) : Int) = 2 then (i : Int) - 1 - ((szlS q (i + 1)).getD (((i : Nat) : Int).toNat - 1) 0 : Nat) else 0) = opL (szlS q i) a ∧
    (if ((a : Nat) : Int) = 2 then (i : Int) - 1 else 0) = opR (szlS q i) a := op_is (by rw [mp_len]; exact h40) (by rw [mp_len]; exact hi) (fun j hj => refC_of (by omega) (h j hj)) ha hb
theorem okT_out {b : Bs} (h : (decide (1 ≤ (b.length : Int)) && decide ((b.length : Int) ≤ 80)) = false) : okT b = false := by
  unfold okT
  rw [Bool.and_eq_false_iff, decide_eq_false_iff_not, decide_eq_false_iff_not] at h
  have : (decide (1 ≤ b.length) && decide (b.length ≤ 80)) = false := by rw [Bool.and_eq_false_iff, decide_eq_false_iff_not, decide_eq_false_iff_not]; omega
  rw [this]; rfl
theorem txt_cases (a : Int) (u h : Bool) : ¬a = 1 ∨ (a = 1 ∧ u = false) ∨ (a = 1 ∧ u = true ∧ h = true) ∨ (a = 1 ∧ u = true ∧ h = false) := by
  by_cases ha : a = 1
  · cases u <;> cases h <;> simp [ha]
  · exact .inl ha
theorem okT_80 {b : Bs} (h : (decide (1 ≤ (b.length : Int)) && decide ((b.length : Int) ≤ 80)) = true) : b.length ≤ 80 := by
  rw [Bool.and_eq_true, decide_eq_true_eq, decide_eq_true_eq] at h; omega
theorem okT_in {b : Bs} (h : (decide (1 ≤ (b.length : Int)) && decide ((b.length : Int) ≤ 80)) = true) : okT b = !(hasSub b [10]) := by
  unfold okT
  rw [Bool.and_eq_true, decide_eq_true_eq, decide_eq_true_eq] at h
  rw [decide_eq_true (p := 1 ≤ b.length) (by omega), decide_eq_true (p := b.length ≤ 80) (by omega), has_mem]; rfl

theorem refSF_meets : Meets Tryz.prog 12 (Spec.pure refSG) := by
 refine meets_fun (E_siz.at_ 115) Tryz.func12 rfl rfl rfl ?_
 intro args p r hg hp
 unfold refSG at hg
 split at hg
 rename_i xs
 simp only [Option.some.injEq, Prod.mk.injEq] at hg
 obtain ⟨rfl, rfl⟩ := hg
 obtain ⟨he, hl, hbg⟩ := hp
 generalize dSn xs = q at *
 subst he
 have hT : (E_siz).X = T := rfl
 have hx0 := And.intro @rect_eSn (And.intro @dSn_rows (And.intro @dZ_rows (And.intro @zI_len (And.intro @dec_t (And.intro @dec_f @Tryz.results12)))))
 have hx := hx0
 refine ⟨by rfl, ?_⟩
 intro F W0 hnp hmk
 refine vc_seq_k fun N1 h1 => ?_
 refine u_reg ?_
 try refine lg_mk ?_
 refine u_bx ?_
 refine u_al ?_
 refine lg_nil ?_
 refine h1 _ ?_; clear h1; try clear N1
 refine vc_seq_k fun N2 h2 => ?_
 refine vc_seq_k fun N3 h3 => ?_
 refine u_reg ?_
 try refine lg_mk ?_
 refine u_pt ?_
 refine u_ld ?_
 refine u_ln ?_
 have hc := call_rule (E := (E_siz.at_ 115)) (f := 35) (sp := Spec.pure inG) rfl
 have hs := @inG.eq_1
 refine u_cp ?_
 refine u_un ?_
 refine lg_nil ?_
 refine h3 _ ?_; clear h3; try clear N3
 refine u_cond (fun hb4 => ?_) (fun hb4 => ?_)
 refine vc_seq_k fun N5 h5 => ?_
 refine u_reg ?_
 try refine lg_mk ?_
 have hc := call_rule (E := (E_siz.at_ 115)) (f := 21) (sp := Spec.pure faultG) rfl
 have hs := @faultG.eq_1
 refine u_cp ?_
 refine u_st ?_
 refine lg_nil ?_
 refine h5 _ ?_; clear h5; try clear N5
 refine vc_ret ?_
 try simp only [k_rules]
 have hr : refS q = (9, -1) := by unfold refS; rw [if_pos (by have := hb4; simpa using this)]
 rw [hr]
 refine fin2_ ?_
 exact cl_
 have h1 : 1 ≤ q.length := by have := hb4; (try simp at this); omega
 have h40 : q.length ≤ 40 := by have := hb4; (try simp at this); omega
 refine vc_skip ?_
 try simp only [k_rules]
 refine h2 _ ?_; clear h2; try clear N2
 refine vc_seq_k fun N6 h6 => ?_
 refine u_reg ?_
 try refine lg_mk ?_
 refine u_mv ?_
 refine lg_nil ?_
 refine h6 _ ?_; clear h6; try clear N6
 refine vc_seq_k fun N7 h7 => ?_
 refine vc_seq_k fun N8 h8 => ?_
 refine u_reg ?_
 try refine lg_mk ?_
 refine u_mv ?_
 refine lg_nil ?_
 refine h8 _ ?_; clear h8; try clear N8
 refine vc_block ?_
 refine vc_loop_mk (σ := Nat) (fun s => (fun i => i ≤ q.length ∧ ∀ j, j < i → refCs q j = 0) s)
  (fun s => (fun i => [(1, .ptr 0 0 0), (2, .ptr 1 0 0), (3, .sl 2 0 i), (4, .d (.int .i64 (i : Nat)))]) s)
  (fun s => (fun i => [some (.one 25 [.d (.sl (rows eSn q))]), some (.one 29 [.d (.int .i64 0), .d (.int .i64 0)]), some (.vec 3 1 (rows eI (zI (arQ (mpQ q) i))))]) s) (fun s => (fun i => q.length - i) s) hnp 0 ?_ [some 0, some 1, none] ?_ ?_
 dsimp only
 exact ⟨by omega, fun j hj => by omega⟩
 dsimp only
 refine ⟨by rfl, ?_, ?_⟩
 refine fin_ ?_
 exact cl_
 refine fin_ ?_
 exact cl_
 rintro i hinv N9 h9
 dsimp only at hinv ⊢
 obtain ⟨i1, i2⟩ := hinv
 refine vc_seq_k fun N10 h10 => ?_
 refine vc_seq_k fun N11 h11 => ?_
 refine u_reg ?_
 try refine lg_mk ?_
 refine u_mv ?_
 refine u_pt ?_
 refine u_ld ?_
 refine u_ln ?_
 refine u_bn ?_
 refine lg_nil ?_
 refine h11 _ ?_; clear h11; try clear N11
 refine u_cond (fun hb12 => ?_) (fun hb12 => ?_)
 have hiq : i < q.length := by have := hb12; omega
 obtain ⟨x, hxe⟩ := getE (l := q) (i := i) hiq
 have hxd : q.getD i default = x := by rw [List.getD_eq_getElem?_getD, hxe]; rfl
 have hbx := hbg x (mem_at hxe)
 have hal := arM_len (q := q) (i := i) (by omega)
 have hal1 := arM_len (q := q) (i := i + 1) (by omega)
 have has := arM_snoc hxe
 have hzs := zI_snoc (arQ (mpQ q) i) (sar x.kd)
 have hzt := zI_take (arQ (mpQ q) i)
 rw [hal] at hzt
 have har := sar_le x.kd
 have hbq := badM (q := q) (i := i) hiq
 rw [hxd] at hbq
 have hokA : okA (arQ (mpQ q) (i + 1)) ((arQ (mpQ q) (i + 1)).length - 1) := by rw [hal1]; exact okM (by omega) (by omega) i2
 have hsl : (szlS q (i + 1)).length = i + 1 := szl_len _ _
 obtain ⟨a, b, c, d⟩ := x
 dsimp only at has hzs har hbq hbx
 have hsx : rows eI (List.take i (zI (arQ (mpQ q) i))) ++ [[D.int IntKind.i64 ((sar a : Nat) : Int)]] = rows eI (zI (arQ (mpQ q) (i + 1))) := by rw [hzt, hzs, ← has]
 refine vc_skip ?_
 try simp only [k_rules]
 refine h10 _ ?_; clear h10; try clear N10
 refine vc_seq_k fun N13 h13 => ?_
 refine vc_block ?_
 refine vc_seq_k fun N14 h14 => ?_
 have hx := And.intro @hxe (And.intro @eSn.eq_1 hx0)
 refine u_reg ?_
 try refine lg_mk ?_
 refine u_pt ?_
 refine u_ld ?_
 refine u_mv ?_
 refine u_pt ?_
 refine u_ld ?_
 refine u_al ?_
 refine u_st ?_
 refine lg_nil ?_
 have hx := hx0
 refine h14 _ ?_; clear h14; try clear N14
 refine vc_seq_k fun N15 h15 => ?_
 refine vc_seq_k fun N16 h16 => ?_
 refine u_reg ?_
 try refine lg_mk ?_
 refine u_pt ?_
 refine u_ld ?_
 have hc := call_rule (E := (E_siz.at_ 115)) (f := 35) (sp := Spec.pure inG) rfl
 have hs := @inG.eq_1
 refine u_cp ?_
 refine u_un ?_
 refine lg_nil ?_
 refine h16 _ ?_; clear h16; try clear N16
 refine u_cond (fun hb17 => ?_) (fun hb17 => ?_)
 have g1 : a < 1 ∨ 4 < a := by have := hb17; (try simp at this); omega
 refine vc_seq_k fun N18 h18 => ?_
 refine u_reg ?_
 try refine lg_mk ?_
 refine u_mv ?_
 have hc := call_rule (E := (E_siz.at_ 115)) (f := 21) (sp := Spec.pure faultG) rfl
 have hs := @faultG.eq_1
 refine u_cp ?_
 refine u_st ?_
 refine lg_nil ?_
 refine h18 _ ?_; clear h18; try clear N18
 refine vc_ret ?_
 try simp only [k_rules]
 have hrc : refCs q i = 4 := by
  unfold refCs snF; rw [hxd]; dsimp only; rw [if_pos g1]
 have hr := refS_at h1 h40 hiq i2 hrc (by decide)
 rw [hr]
 refine fin2_ ?_
 exact cl_
 have g1 : ¬(a < 1 ∨ 4 < a) := by have := hb17; (try simp at this); omega
 refine vc_skip ?_
 try simp only [k_rules]
 refine h15 _ ?_; clear h15; try clear N15
 refine vc_seq_k fun N19 h19 => ?_
 refine vc_seq_k fun N20 h20 => ?_
 rcases txt_cases a (decide (1 ≤ (b.length : Int)) && decide ((b.length : Int) ≤ 80)) (hasSub b [10]) with ga | ⟨ga, f2⟩ | ⟨ga, f2, f3⟩ | ⟨ga, f2, f3⟩
 have f1 : (a = 1) = False := eq_false ga
 have f2 := True.intro
 have f3 := True.intro
 have c2 : ¬(a = 1 ∧ okT b = false) := fun h => ga h.1
 have hx := And.intro @f1 (And.intro @f2 (And.intro @f3 hx0))
 refine u_reg ?_
 try refine lg_mk ?_
 refine u_pt ?_
 refine u_ld ?_
 refine u_bn ?_
 refine u_mv ?_
 refine lg_g0 ?_ ?_
 focus (exact gt_)
 refine lg_g0 ?_ ?_
 focus (exact gt_)
 refine lg_g0 ?_ ?_
 focus (exact gt_)
 refine lg_g0 ?_ ?_
 focus (exact gt_)
 refine lg_g0 ?_ ?_
 focus (exact gt_)
 refine lg_g0 ?_ ?_
 focus (exact gt_)
 refine lg_g0 ?_ ?_
 focus (exact gt_)
 refine lg_g0 ?_ ?_
 focus (exact gt_)
 refine lg_g0 ?_ ?_
 focus (exact gt_)
 refine lg_g0 ?_ ?_
 focus (exact gt_)
 refine u_pk ?_
 refine lg_nil ?_
 have hx := hx0
 refine h20 _ ?_; clear h20; try clear N20
 refine u_cond (fun hb21 => ?_) (fun hb21 => ?_)
 ·first | omega | exact absurd trivial hb21 | contradiction | (simp_all; done)
 refine vc_skip ?_
 try simp only [k_rules]
 refine h19 _ ?_; clear h19; try clear N19
 refine vc_seq_k fun N22 h22 => ?_
 refine vc_regG [37] hmix (by kernel_rfl) ?_
 try refine lg_mk ?_
 refine u_mv ?_
 refine u_pt ?_
 refine u_ld ?_
 have hc := call_rule (E := (E_siz.at_ 115)) (f := 37) (sp := Spec.pure sarG) rfl
 have hs := @sarG.eq_1
 refine u_cp ?_
 refine u_bs ?_
 refine u_ap ?_
 refine u_mv ?_
 refine lg_nil ?_
 refine h22 _ ?_; clear h22; try clear N22
 refine vc_seq_k fun N23 h23 => ?_
 rcases (show badA (arQ (mpQ q) (i + 1)) = false ∨ badA (arQ (mpQ q) (i + 1)) = true by cases badA (arQ (mpQ q) (i + 1)) <;> simp) with hb | hb
 obtain ⟨hsX, hsO⟩ := szM_ok (q := q) (i := i + 1) (by omega) hb
 have hsb := hbq.symm.trans hb
 obtain ⟨ho1, ho2, ho3⟩ := opM_is (q := q) (i := i) h40 (by omega) i2 har hsb
 have hx := And.intro @hsx (And.intro @hsX (And.intro @hsO hx0))
 refine u_reg ?_
 try refine lg_mk ?_
 refine u_mv ?_
 have hc := call_rule (E := (E_siz.at_ 115)) (f := 38) (sp := Spec.gen sizG) rfl
 have hs := @sizG.eq_1
 refine u_hg (hq := by (first | ((repeat' apply And.intro) <;> first | rfl | omega | exact arQ_two | exact hokA) | exact sd_)) ?_
 refine u_mv ?_
 iterate 2 refine u_ex ?_
 iterate 2 refine u_mv ?_
 refine lg_nil ?_
 have hx := hx0
 refine h23 _ ?_; clear h23; try clear N23
 refine vc_seq_k fun N24 h24 => ?_
 refine vc_seq_k fun N25 h25 => ?_
 have ng1 : ((0 : Int) ≤ -1) = False := eq_false (by decide)
 rcases (show b = [] ∨ b ≠ [] by by_cases h : b = []; exact .inl h; exact .inr h) with gb | gb
 have f4 : (b = []) = True := eq_true gb
 have c3 : ¬(a ≠ 1 ∧ b ≠ []) := fun h => h.2 gb
 have hx := And.intro @f1 (And.intro @f4 (And.intro @ng1 hx0))
 refine u_reg ?_
 try refine lg_mk ?_
 refine u_mv ?_
 refine u_bn ?_
 refine u_mv ?_
 refine v_pt ?_
 refine v_ld ?_
 refine v_bn ?_
 refine v_mv ?_
 refine v_pt ?_
 refine v_ld ?_
 refine v_bn ?_
 refine v_pk ?_
 refine u_pk ?_
 refine lg_nil ?_
 have hx := hx0
 refine h25 _ ?_; clear h25; try clear N25
 refine u_cond (fun hb26 => ?_) (fun hb26 => ?_)
 ·first | omega | exact absurd trivial hb26 | contradiction | (simp_all; done)
 refine vc_skip ?_
 try simp only [k_rules]
 refine h24 _ ?_; clear h24; try clear N24
 refine vc_seq_k fun N27 h27 => ?_
 have hx := And.intro @ho2 (And.intro @ho3 hx0)
 refine u_reg ?_
 try refine lg_mk ?_
 refine u_pt ?_
 refine u_ld ?_
 have hc := call_rule (E := (E_siz.at_ 115)) (f := 37) (sp := Spec.pure sarG) rfl
 have hs := @sarG.eq_1
 refine u_cp ?_
 iterate 2 refine u_mv ?_
 have hc := call_rule (E := (E_siz.at_ 115)) (f := 39) (sp := Spec.pure opdG) rfl
 have hs := @opdG.eq_1
 refine u_cp (hq := by (first | ((repeat' apply And.intro) <;> first | rfl | omega | exact ho1) | exact sd_)) ?_
 refine u_mv ?_
 iterate 2 refine u_ex ?_
 iterate 2 refine u_mv ?_
 refine lg_nil ?_
 have hx := hx0
 refine h27 _ ?_; clear h27; try clear N27
 refine vc_seq_k fun N28 h28 => ?_
 rcases (show (c = opL (szlS q i) (sar a) ∧ d = opR (szlS q i) (sar a)) ∨ (c = opL (szlS q i) (sar a) ∧ d ≠ opR (szlS q i) (sar a)) ∨ c ≠ opL (szlS q i) (sar a) by by_cases h : c = opL (szlS q i) (sar a) <;> by_cases h' : d = opR (szlS q i) (sar a) <;> simp [h, h']) with ⟨e1, e2⟩ | ⟨e1, e2⟩ | e1
 have f1 : (c = opL (szlS q i) (sar a)) = True := eq_true e1
 have f2 : (d = opR (szlS q i) (sar a)) = True := eq_true e2
 have hx := And.intro @f1 (And.intro @f2 hx0)
 refine u_reg ?_
 try refine lg_mk ?_
 refine u_pt ?_
 refine u_ld ?_
 refine u_mv ?_
 refine u_bn ?_
 refine u_mv ?_
 refine g_pt ?_
 refine g_ld ?_
 refine g_mv ?_
 refine g_bn ?_
 refine u_pk ?_
 refine lg_nil ?_
 have hx := hx0
 refine h28 _ ?_; clear h28; try clear N28
 refine u_cond (fun hb29 => ?_) (fun hb29 => ?_)
 ·first | omega | exact absurd trivial hb29 | contradiction | (simp_all; done)
 refine vc_skip ?_
 try simp only [k_rules]
 refine h13 _ ?_; clear h13; try clear N13
 refine u_reg ?_
 try refine lg_mk ?_
 refine u_mv ?_
 refine u_bn ?_
 refine u_mv ?_
 refine lg_nil ?_
 have hrc : refCs q i = 0 := by
  unfold refCs snF; rw [hxd]; dsimp only; rw [if_neg g1, if_neg c2, if_neg c3, if_neg (by rw [hsb]; simp), if_pos ⟨e1, e2⟩]
 refine h9 _ ⟨i + 1, ?_, ?_, [some 0, some 1, some 5], ?_⟩
 dsimp only
 exact ⟨by omega, lt_succF i2 hrc⟩
 dsimp only
 omega
 dsimp only
 refine ⟨by rfl, ?_, ?_⟩
 refine fin_ ?_
 ·(repeat' apply And.intro) <;> (first | (first | rfl | trivial | omega | (rw [hsx]; done) | exact Or.inl rfl) | exact cl_)
 refine fin_ ?_
 ·(repeat' apply And.intro) <;> (first | (first | rfl | trivial | omega | (rw [hsx]; done) | exact Or.inl rfl) | exact cl_)
 have f1 : (c = opL (szlS q i) (sar a)) = True := eq_true e1
 have f2 : (d = opR (szlS q i) (sar a)) = False := eq_false e2
 have hx := And.intro @f1 (And.intro @f2 hx0)
 refine u_reg ?_
 try refine lg_mk ?_
 refine u_pt ?_
 refine u_ld ?_
 refine u_mv ?_
 refine u_bn ?_
 refine u_mv ?_
 refine g_pt ?_
 refine g_ld ?_
 refine g_mv ?_
 refine g_bn ?_
 refine u_pk ?_
 refine lg_nil ?_
 have hx := hx0
 refine h28 _ ?_; clear h28; try clear N28
 refine u_cond (fun hb30 => ?_) (fun hb30 => ?_)
 refine vc_seq_k fun N31 h31 => ?_
 refine u_reg ?_
 try refine lg_mk ?_
 refine u_mv ?_
 have hc := call_rule (E := (E_siz.at_ 115)) (f := 21) (sp := Spec.pure faultG) rfl
 have hs := @faultG.eq_1
 refine u_cp ?_
 refine u_st ?_
 refine lg_nil ?_
 refine h31 _ ?_; clear h31; try clear N31
 refine vc_ret ?_
 try simp only [k_rules]
 have hrc : refCs q i = 5 := by
  unfold refCs snF; rw [hxd]; dsimp only; rw [if_neg g1, if_neg c2, if_neg c3, if_neg (by rw [hsb]; simp), if_neg (fun h => e2 h.2)]
 have hr := refS_at h1 h40 hiq i2 hrc (by decide)
 rw [hr]
 refine fin2_ ?_
 exact cl_
 ·first | omega | exact absurd trivial hb30 | contradiction | (simp_all; done)
 have f1 : (c = opL (szlS q i) (sar a)) = False := eq_false e1
 have f2 : True := trivial
 have hx := And.intro @f1 (And.intro @f2 hx0)
 refine u_reg ?_
 try refine lg_mk ?_
 refine u_pt ?_
 refine u_ld ?_
 refine u_mv ?_
 refine u_bn ?_
 refine u_mv ?_
 refine g_pt ?_
 refine g_ld ?_
 refine g_mv ?_
 refine g_bn ?_
 refine u_pk ?_
 refine lg_nil ?_
 have hx := hx0
 refine h28 _ ?_; clear h28; try clear N28
 refine u_cond (fun hb32 => ?_) (fun hb32 => ?_)
 refine vc_seq_k fun N33 h33 => ?_
 refine u_reg ?_
 try refine lg_mk ?_
 refine u_mv ?_
 have hc := call_rule (E := (E_siz.at_ 115)) (f := 21) (sp := Spec.pure faultG) rfl
 have hs := @faultG.eq_1
 refine u_cp ?_
 refine u_st ?_
 refine lg_nil ?_
 refine h33 _ ?_; clear h33; try clear N33
 refine vc_ret ?_
 try simp only [k_rules]
 have hrc : refCs q i = 5 := by
  unfold refCs snF; rw [hxd]; dsimp only; rw [if_neg g1, if_neg c2, if_neg c3, if_neg (by rw [hsb]; simp), if_neg (fun h => e1 h.1)]
 have hr := refS_at h1 h40 hiq i2 hrc (by decide)
 rw [hr]
 refine fin2_ ?_
 exact cl_
 ·first | omega | exact absurd trivial hb32 | contradiction | (simp_all; done)
 have f4 : (b = []) = False := eq_false gb
 have hx := And.intro @f1 (And.intro @f4 (And.intro @ng1 hx0))
 refine u_reg ?_
 try refine lg_mk ?_
 refine u_mv ?_
 refine u_bn ?_
 refine u_mv ?_
 refine v_pt ?_
 refine v_ld ?_
 refine v_bn ?_
 refine v_mv ?_
 refine v_pt ?_
 refine v_ld ?_
 refine v_bn ?_
 refine v_pk ?_
 refine u_pk ?_
 refine lg_nil ?_
 have hx := hx0
 refine h25 _ ?_; clear h25; try clear N25
 refine u_cond (fun hb34 => ?_) (fun hb34 => ?_)
 refine vc_seq_k fun N35 h35 => ?_
 refine u_reg ?_
 try refine lg_mk ?_
 refine u_mv ?_
 have hc := call_rule (E := (E_siz.at_ 115)) (f := 21) (sp := Spec.pure faultG) rfl
 have hs := @faultG.eq_1
 refine u_cp ?_
 refine u_st ?_
 refine lg_nil ?_
 refine h35 _ ?_; clear h35; try clear N35
 refine vc_ret ?_
 try simp only [k_rules]
 have hrc : refCs q i = 5 := by
  unfold refCs snF; rw [hxd]; dsimp only; rw [if_neg g1, if_neg c2, if_pos ⟨ga, gb⟩]
 have hr := refS_at h1 h40 hiq i2 hrc (by decide)
 rw [hr]
 refine fin2_ ?_
 exact cl_
 ·first | omega | exact absurd trivial hb34 | contradiction | (simp_all; done)
 have hsX := szM_bad (q := q) (i := i) (by omega) hb
 have hsO : True := trivial
 have hsb := hbq.symm.trans hb
 have hx := And.intro @hsx (And.intro @hsX (And.intro @hsO hx0))
 refine u_reg ?_
 try refine lg_mk ?_
 refine u_mv ?_
 have hc := call_rule (E := (E_siz.at_ 115)) (f := 38) (sp := Spec.gen sizG) rfl
 have hs := @sizG.eq_1
 refine u_hg (hq := by (first | ((repeat' apply And.intro) <;> first | rfl | omega | exact arQ_two | exact hokA) | exact sd_)) ?_
 refine u_mv ?_
 iterate 2 refine u_ex ?_
 iterate 2 refine u_mv ?_
 refine lg_nil ?_
 have hx := hx0
 refine h23 _ ?_; clear h23; try clear N23
 refine vc_seq_k fun N36 h36 => ?_
 refine vc_seq_k fun N37 h37 => ?_
 have ng2 : ((0 : Int) ≤ (i : Int)) = True := eq_true (by omega)
 have hx := And.intro @ng2 hx0
 refine u_reg ?_
 try refine lg_mk ?_
 refine u_mv ?_
 refine u_bn ?_
 refine u_mv ?_
 refine lg_g0 ?_ ?_
 focus (exact gt_)
 refine lg_g0 ?_ ?_
 focus (exact gt_)
 refine lg_g0 ?_ ?_
 focus (exact gt_)
 refine lg_g0 ?_ ?_
 focus (exact gt_)
 refine lg_g0 ?_ ?_
 focus (exact gt_)
 refine lg_g0 ?_ ?_
 focus (exact gt_)
 refine lg_g0 ?_ ?_
 focus (exact gt_)
 refine lg_g0 ?_ ?_
 focus (exact gt_)
 refine u_pk ?_
 refine lg_nil ?_
 have hx := hx0
 refine h37 _ ?_; clear h37; try clear N37
 refine u_cond (fun hb38 => ?_) (fun hb38 => ?_)
 refine vc_seq_k fun N39 h39 => ?_
 refine u_reg ?_
 try refine lg_mk ?_
 refine u_mv ?_
 have hc := call_rule (E := (E_siz.at_ 115)) (f := 21) (sp := Spec.pure faultG) rfl
 have hs := @faultG.eq_1
 refine u_cp ?_
 refine u_st ?_
 refine lg_nil ?_
 refine h39 _ ?_; clear h39; try clear N39
 refine vc_ret ?_
 try simp only [k_rules]
 have hrc : refCs q i = 5 := by
  unfold refCs snF; rw [hxd]; dsimp only; rw [if_neg g1, if_neg c2, if_pos hsb, ite_self]
 have hr := refS_at h1 h40 hiq i2 hrc (by decide)
 rw [hr]
 refine fin2_ ?_
 exact cl_
 ·first | omega | exact absurd trivial hb38 | contradiction | (simp_all; done)
 have f1 : (a = 1) = True := eq_true ga
 have f3 := True.intro
 have hkt := okT_out f2
 have hx := And.intro @f1 (And.intro @f2 (And.intro @f3 hx0))
 refine u_reg ?_
 try refine lg_mk ?_
 refine u_pt ?_
 refine u_ld ?_
 refine u_bn ?_
 refine u_mv ?_
 refine v_pt ?_
 refine v_ld ?_
 refine v_ln ?_
 have hc := call_rule (E := (E_siz.at_ 115)) (f := 35) (sp := Spec.pure inG) rfl
 have hs := @inG.eq_1
 refine v_cp ?_
 refine v_un ?_
 refine v_mv ?_
 refine lg_g0 ?_ ?_
 focus (exact gt_)
 refine lg_g0 ?_ ?_
 focus (exact gt_)
 refine lg_g0 ?_ ?_
 focus (exact gt_)
 refine v_pk ?_
 refine u_pk ?_
 refine lg_nil ?_
 have hx := hx0
 refine h20 _ ?_; clear h20; try clear N20
 refine u_cond (fun hb40 => ?_) (fun hb40 => ?_)
 refine vc_seq_k fun N41 h41 => ?_
 refine u_reg ?_
 try refine lg_mk ?_
 refine u_mv ?_
 have hc := call_rule (E := (E_siz.at_ 115)) (f := 21) (sp := Spec.pure faultG) rfl
 have hs := @faultG.eq_1
 refine u_cp ?_
 refine u_st ?_
 refine lg_nil ?_
 refine h41 _ ?_; clear h41; try clear N41
 refine vc_ret ?_
 try simp only [k_rules]
 have hrc : refCs q i = 3 := by
  unfold refCs snF; rw [hxd]; dsimp only; rw [if_neg g1, if_pos ⟨ga, hkt⟩]
 have hr := refS_at h1 h40 hiq i2 hrc (by decide)
 rw [hr]
 refine fin2_ ?_
 exact cl_
 ·first | omega | exact absurd trivial hb40 | contradiction | (simp_all; done)
 have f1 : (a = 1) = True := eq_true ga
 have hkt := okT_in f2
 have hb80 := okT_80 f2
 rw [f3] at hkt
 have hx := And.intro @f1 (And.intro @f2 (And.intro @f3 hx0))
 refine u_reg ?_
 try refine lg_mk ?_
 refine u_pt ?_
 refine u_ld ?_
 refine u_bn ?_
 refine u_mv ?_
 refine v_pt ?_
 refine v_ld ?_
 refine v_ln ?_
 have hc := call_rule (E := (E_siz.at_ 115)) (f := 35) (sp := Spec.pure inG) rfl
 have hs := @inG.eq_1
 refine v_cp ?_
 refine v_un ?_
 refine v_mv ?_
 refine v_pt ?_
 refine v_ld ?_
 have hc := call_rule (E := (E_siz.at_ 115)) (f := 36) (sp := Spec.pure conSG) rfl
 have hs := @conSG.eq_1
 refine v_cp (hq := by (first | ((repeat' apply And.intro) <;> first | rfl | omega | (simp; done) | (simp; omega)) | exact sd_)) ?_
 refine v_pk ?_
 refine u_pk ?_
 refine lg_nil ?_
 have hx := hx0
 refine h20 _ ?_; clear h20; try clear N20
 refine u_cond (fun hb42 => ?_) (fun hb42 => ?_)
 refine vc_seq_k fun N43 h43 => ?_
 refine u_reg ?_
 try refine lg_mk ?_
 refine u_mv ?_
 have hc := call_rule (E := (E_siz.at_ 115)) (f := 21) (sp := Spec.pure faultG) rfl
 have hs := @faultG.eq_1
 refine u_cp ?_
 refine u_st ?_
 refine lg_nil ?_
 refine h43 _ ?_; clear h43; try clear N43
 refine vc_ret ?_
 try simp only [k_rules]
 have hrc : refCs q i = 3 := by
  unfold refCs snF; rw [hxd]; dsimp only; rw [if_neg g1, if_pos ⟨ga, hkt⟩]
 have hr := refS_at h1 h40 hiq i2 hrc (by decide)
 rw [hr]
 refine fin2_ ?_
 exact cl_
 ·first | omega | exact absurd trivial hb42 | contradiction | (simp_all; done)
 have f1 : (a = 1) = True := eq_true ga
 have hkt := okT_in f2
 have hb80 := okT_80 f2
 rw [f3] at hkt
 have c2 : ¬(a = 1 ∧ okT b = false) := fun h => by rw [hkt] at h; cases h.2
 have c3 : ¬(a ≠ 1 ∧ b ≠ []) := fun h => h.1 ga
 have hx := And.intro @f1 (And.intro @f2 (And.intro @f3 hx0))
 refine u_reg ?_
 try refine lg_mk ?_
 refine u_pt ?_
 refine u_ld ?_
 refine u_bn ?_
 refine u_mv ?_
 refine v_pt ?_
 refine v_ld ?_
 refine v_ln ?_
 have hc := call_rule (E := (E_siz.at_ 115)) (f := 35) (sp := Spec.pure inG) rfl
 have hs := @inG.eq_1
 refine v_cp ?_
 refine v_un ?_
 refine v_mv ?_
 refine v_pt ?_
 refine v_ld ?_
 have hc := call_rule (E := (E_siz.at_ 115)) (f := 36) (sp := Spec.pure conSG) rfl
 have hs := @conSG.eq_1
 refine v_cp (hq := by (first | ((repeat' apply And.intro) <;> first | rfl | omega | (simp; done) | (simp; omega)) | exact sd_)) ?_
 refine v_pk ?_
 refine u_pk ?_
 refine lg_nil ?_
 have hx := hx0
 refine h20 _ ?_; clear h20; try clear N20
 refine u_cond (fun hb44 => ?_) (fun hb44 => ?_)
 ·first | omega | exact absurd trivial hb44 | contradiction | (simp_all; done)
 refine vc_skip ?_
 try simp only [k_rules]
 refine h19 _ ?_; clear h19; try clear N19
 refine vc_seq_k fun N45 h45 => ?_
 refine vc_regG [37] hmix (by kernel_rfl) ?_
 try refine lg_mk ?_
 refine u_mv ?_
 refine u_pt ?_
 refine u_ld ?_
 have hc := call_rule (E := (E_siz.at_ 115)) (f := 37) (sp := Spec.pure sarG) rfl
 have hs := @sarG.eq_1
 refine u_cp ?_
 refine u_bs ?_
 refine u_ap ?_
 refine u_mv ?_
 refine lg_nil ?_
 refine h45 _ ?_; clear h45; try clear N45
 refine vc_seq_k fun N46 h46 => ?_
 rcases (show badA (arQ (mpQ q) (i + 1)) = false ∨ badA (arQ (mpQ q) (i + 1)) = true by cases badA (arQ (mpQ q) (i + 1)) <;> simp) with hb | hb
 obtain ⟨hsX, hsO⟩ := szM_ok (q := q) (i := i + 1) (by omega) hb
 have hsb := hbq.symm.trans hb
 obtain ⟨ho1, ho2, ho3⟩ := opM_is (q := q) (i := i) h40 (by omega) i2 har hsb
 have hx := And.intro @hsx (And.intro @hsX (And.intro @hsO hx0))
 refine u_reg ?_
 try refine lg_mk ?_
 refine u_mv ?_
 have hc := call_rule (E := (E_siz.at_ 115)) (f := 38) (sp := Spec.gen sizG) rfl
 have hs := @sizG.eq_1
 refine u_hg (hq := by (first | ((repeat' apply And.intro) <;> first | rfl | omega | exact arQ_two | exact hokA) | exact sd_)) ?_
 refine u_mv ?_
 iterate 2 refine u_ex ?_
 iterate 2 refine u_mv ?_
 refine lg_nil ?_
 have hx := hx0
 refine h46 _ ?_; clear h46; try clear N46
 refine vc_seq_k fun N47 h47 => ?_
 refine vc_seq_k fun N48 h48 => ?_
 have ng1 : ((0 : Int) ≤ -1) = False := eq_false (by decide)
 have hx := And.intro @f1 (And.intro @ng1 hx0)
 refine u_reg ?_
 try refine lg_mk ?_
 refine u_mv ?_
 refine u_bn ?_
 refine u_mv ?_
 refine v_pt ?_
 refine v_ld ?_
 refine v_bn ?_
 refine v_mv ?_
 refine lg_g0 ?_ ?_
 focus (exact gt_)
 refine lg_g0 ?_ ?_
 focus (exact gt_)
 refine lg_g0 ?_ ?_
 focus (exact gt_)
 refine v_pk ?_
 refine u_pk ?_
 refine lg_nil ?_
 have hx := hx0
 refine h48 _ ?_; clear h48; try clear N48
 refine u_cond (fun hb49 => ?_) (fun hb49 => ?_)
 ·first | omega | exact absurd trivial hb49 | contradiction | (simp_all; done)
 refine vc_skip ?_
 try simp only [k_rules]
 refine h47 _ ?_; clear h47; try clear N47
 refine vc_seq_k fun N50 h50 => ?_
 have hx := And.intro @ho2 (And.intro @ho3 hx0)
 refine u_reg ?_
 try refine lg_mk ?_
 refine u_pt ?_
 refine u_ld ?_
 have hc := call_rule (E := (E_siz.at_ 115)) (f := 37) (sp := Spec.pure sarG) rfl
 have hs := @sarG.eq_1
 refine u_cp ?_
 iterate 2 refine u_mv ?_
 have hc := call_rule (E := (E_siz.at_ 115)) (f := 39) (sp := Spec.pure opdG) rfl
 have hs := @opdG.eq_1
 refine u_cp (hq := by (first | ((repeat' apply And.intro) <;> first | rfl | omega | exact ho1) | exact sd_)) ?_
 refine u_mv ?_
 iterate 2 refine u_ex ?_
 iterate 2 refine u_mv ?_
 refine lg_nil ?_
 have hx := hx0
 refine h50 _ ?_; clear h50; try clear N50
 refine vc_seq_k fun N51 h51 => ?_
 rcases (show (c = opL (szlS q i) (sar a) ∧ d = opR (szlS q i) (sar a)) ∨ (c = opL (szlS q i) (sar a) ∧ d ≠ opR (szlS q i) (sar a)) ∨ c ≠ opL (szlS q i) (sar a) by by_cases h : c = opL (szlS q i) (sar a) <;> by_cases h' : d = opR (szlS q i) (sar a) <;> simp [h, h']) with ⟨e1, e2⟩ | ⟨e1, e2⟩ | e1
 have f1 : (c = opL (szlS q i) (sar a)) = True := eq_true e1
 have f2 : (d = opR (szlS q i) (sar a)) = True := eq_true e2
 have hx := And.intro @f1 (And.intro @f2 hx0)
 refine u_reg ?_
 try refine lg_mk ?_
 refine u_pt ?_
 refine u_ld ?_
 refine u_mv ?_
 refine u_bn ?_
 refine u_mv ?_
 refine g_pt ?_
 refine g_ld ?_
 refine g_mv ?_
 refine g_bn ?_
 refine u_pk ?_
 refine lg_nil ?_
 have hx := hx0
 refine h51 _ ?_; clear h51; try clear N51
 refine u_cond (fun hb52 => ?_) (fun hb52 => ?_)
 ·first | omega | exact absurd trivial hb52 | contradiction | (simp_all; done)
 refine vc_skip ?_
 try simp only [k_rules]
 refine h13 _ ?_; clear h13; try clear N13
 refine u_reg ?_
 try refine lg_mk ?_
 refine u_mv ?_
 refine u_bn ?_
 refine u_mv ?_
 refine lg_nil ?_
 have hrc : refCs q i = 0 := by
  unfold refCs snF; rw [hxd]; dsimp only; rw [if_neg g1, if_neg c2, if_neg c3, if_neg (by rw [hsb]; simp), if_pos ⟨e1, e2⟩]
 refine h9 _ ⟨i + 1, ?_, ?_, [some 0, some 1, some 5], ?_⟩
 dsimp only
 exact ⟨by omega, lt_succF i2 hrc⟩
 dsimp only
 omega
 dsimp only
 refine ⟨by rfl, ?_, ?_⟩
 refine fin_ ?_
 ·(repeat' apply And.intro) <;> (first | (first | rfl | trivial | omega | (rw [hsx]; done) | exact Or.inl rfl) | exact cl_)
 refine fin_ ?_
 ·(repeat' apply And.intro) <;> (first | (first | rfl | trivial | omega | (rw [hsx]; done) | exact Or.inl rfl) | exact cl_)
 have f1 : (c = opL (szlS q i) (sar a)) = True := eq_true e1
 have f2 : (d = opR (szlS q i) (sar a)) = False := eq_false e2
 have hx := And.intro @f1 (And.intro @f2 hx0)
 refine u_reg ?_
 try refine lg_mk ?_
 refine u_pt ?_
 refine u_ld ?_
 refine u_mv ?_
 refine u_bn ?_
 refine u_mv ?_
 refine g_pt ?_
 refine g_ld ?_
 refine g_mv ?_
 refine g_bn ?_
 refine u_pk ?_
 refine lg_nil ?_
 have hx := hx0
 refine h51 _ ?_; clear h51; try clear N51
 refine u_cond (fun hb53 => ?_) (fun hb53 => ?_)
 refine vc_seq_k fun N54 h54 => ?_
 refine u_reg ?_
 try refine lg_mk ?_
 refine u_mv ?_
 have hc := call_rule (E := (E_siz.at_ 115)) (f := 21) (sp := Spec.pure faultG) rfl
 have hs := @faultG.eq_1
 refine u_cp ?_
 refine u_st ?_
 refine lg_nil ?_
 refine h54 _ ?_; clear h54; try clear N54
 refine vc_ret ?_
 try simp only [k_rules]
 have hrc : refCs q i = 5 := by
  unfold refCs snF; rw [hxd]; dsimp only; rw [if_neg g1, if_neg c2, if_neg c3, if_neg (by rw [hsb]; simp), if_neg (fun h => e2 h.2)]
 have hr := refS_at h1 h40 hiq i2 hrc (by decide)
 rw [hr]
 refine fin2_ ?_
 exact cl_
 ·first | omega | exact absurd trivial hb53 | contradiction | (simp_all; done)
 have f1 : (c = opL (szlS q i) (sar a)) = False := eq_false e1
 have f2 : True := trivial
 have hx := And.intro @f1 (And.intro @f2 hx0)
 refine u_reg ?_
 try refine lg_mk ?_
 refine u_pt ?_
 refine u_ld ?_
 refine u_mv ?_
 refine u_bn ?_
 refine u_mv ?_
 refine g_pt ?_
 refine g_ld ?_
 refine g_mv ?_
 refine g_bn ?_
 refine u_pk ?_
 refine lg_nil ?_
 have hx := hx0
 refine h51 _ ?_; clear h51; try clear N51
 refine u_cond (fun hb55 => ?_) (fun hb55 => ?_)
 refine vc_seq_k fun N56 h56 => ?_
 refine u_reg ?_
 try refine lg_mk ?_
 refine u_mv ?_
 have hc := call_rule (E := (E_siz.at_ 115)) (f := 21) (sp := Spec.pure faultG) rfl
 have hs := @faultG.eq_1
 refine u_cp ?_
 refine u_st ?_
 refine lg_nil ?_
 refine h56 _ ?_; clear h56; try clear N56
 refine vc_ret ?_
 try simp only [k_rules]
 have hrc : refCs q i = 5 := by
  unfold refCs snF; rw [hxd]; dsimp only; rw [if_neg g1, if_neg c2, if_neg c3, if_neg (by rw [hsb]; simp), if_neg (fun h => e1 h.1)]
 have hr := refS_at h1 h40 hiq i2 hrc (by decide)
 rw [hr]
 refine fin2_ ?_
 exact cl_
 ·first | omega | exact absurd trivial hb55 | contradiction | (simp_all; done)
 have hsX := szM_bad (q := q) (i := i) (by omega) hb
 have hsO : True := trivial
 have hsb := hbq.symm.trans hb
 have hx := And.intro @hsx (And.intro @hsX (And.intro @hsO hx0))
 refine u_reg ?_
 try refine lg_mk ?_
 refine u_mv ?_
 have hc := call_rule (E := (E_siz.at_ 115)) (f := 38) (sp := Spec.gen sizG) rfl
 have hs := @sizG.eq_1
 refine u_hg (hq := by (first | ((repeat' apply And.intro) <;> first | rfl | omega | exact arQ_two | exact hokA) | exact sd_)) ?_
 refine u_mv ?_
 iterate 2 refine u_ex ?_
 iterate 2 refine u_mv ?_
 refine lg_nil ?_
 have hx := hx0
 refine h46 _ ?_; clear h46; try clear N46
 refine vc_seq_k fun N57 h57 => ?_
 refine vc_seq_k fun N58 h58 => ?_
 have ng2 : ((0 : Int) ≤ (i : Int)) = True := eq_true (by omega)
 have hx := And.intro @ng2 hx0
 refine u_reg ?_
 try refine lg_mk ?_
 refine u_mv ?_
 refine u_bn ?_
 refine u_mv ?_
 refine lg_g0 ?_ ?_
 focus (exact gt_)
 refine lg_g0 ?_ ?_
 focus (exact gt_)
 refine lg_g0 ?_ ?_
 focus (exact gt_)
 refine lg_g0 ?_ ?_
 focus (exact gt_)
 refine lg_g0 ?_ ?_
 focus (exact gt_)
 refine lg_g0 ?_ ?_
 focus (exact gt_)
 refine lg_g0 ?_ ?_
 focus (exact gt_)
 refine lg_g0 ?_ ?_
 focus (exact gt_)
 refine u_pk ?_
 refine lg_nil ?_
 have hx := hx0
 refine h58 _ ?_; clear h58; try clear N58
 refine u_cond (fun hb59 => ?_) (fun hb59 => ?_)
 refine vc_seq_k fun N60 h60 => ?_
 refine u_reg ?_
 try refine lg_mk ?_
 refine u_mv ?_
 have hc := call_rule (E := (E_siz.at_ 115)) (f := 21) (sp := Spec.pure faultG) rfl
 have hs := @faultG.eq_1
 refine u_cp ?_
 refine u_st ?_
 refine lg_nil ?_
 refine h60 _ ?_; clear h60; try clear N60
 refine vc_ret ?_
 try simp only [k_rules]
 have hrc : refCs q i = 5 := by
  unfold refCs snF; rw [hxd]; dsimp only; rw [if_neg g1, if_neg c2, if_pos hsb, ite_self]
 have hr := refS_at h1 h40 hiq i2 hrc (by decide)
 rw [hr]
 refine fin2_ ?_
 exact cl_
 ·first | omega | exact absurd trivial hb59 | contradiction | (simp_all; done)
 obtain rfl : i = q.length := by have := hb12; omega
 have hba := badM_all h1 i2
 obtain ⟨hsX, hsO⟩ := szM_ok (Nat.le_refl q.length) hba
 have hal := arM_len (Nat.le_refl q.length)
 have hokA : okA (arQ (mpQ q) q.length) ((arQ (mpQ q) q.length).length - 1) := by rw [hal]; exact okM (by omega) (Nat.le_refl _) (fun j hj => i2 j (by omega))
 have hsl : (szlS q q.length).length = q.length := szl_len _ _
 obtain ⟨y, hye⟩ := getE (l := szlS q q.length) (i := q.length - 1) (by omega)
 have hyd : (szlS q q.length).getD (q.length - 1) 0 = y := getD_at hye
 have hzy := zI_at hye
 have hpm : ((q.length : Int) - 1).toNat = q.length - 1 := by omega
 have hre := refS_end h1 h40 i2
 rw [hyd] at hre
 refine vc_exit ?_
 simp only [k_rules, Nat.reduceEqDiff, reduceIte, eq_self]
 refine h7 _ ?_; clear h7; try clear N7
 refine vc_seq_k fun N61 h61 => ?_
 have hx := And.intro @hsX (And.intro @hsO hx0)
 refine u_reg ?_
 try refine lg_mk ?_
 refine u_mv ?_
 have hc := call_rule (E := (E_siz.at_ 115)) (f := 38) (sp := Spec.gen sizG) rfl
 have hs := @sizG.eq_1
 refine u_hg (hq := by (first | ((repeat' apply And.intro) <;> first | rfl | omega | exact arQ_two | exact hokA) | exact sd_)) ?_
 refine u_mv ?_
 iterate 2 refine u_ex ?_
 iterate 2 refine u_mv ?_
 refine lg_nil ?_
 have hx := hx0
 refine h61 _ ?_; clear h61; try clear N61
 refine vc_seq_k fun N62 h62 => ?_
 refine vc_seq_k fun N63 h63 => ?_
 have hx := And.intro @hsl (And.intro @hpm (And.intro @hzy (And.intro @eI.eq_1 hx0)))
 refine u_reg ?_
 try refine lg_mk ?_
 iterate 2 refine u_mv ?_
 refine u_ln ?_
 refine u_bn ?_
 refine u_pt ?_
 refine u_ld ?_
 refine u_mv ?_
 refine u_ln ?_
 refine u_bn ?_
 refine lg_nil ?_
 have hx := hx0
 refine h63 _ ?_; clear h63; try clear N63
 refine u_cond (fun hb64 => ?_) (fun hb64 => ?_)
 refine vc_seq_k fun N65 h65 => ?_
 refine u_reg ?_
 try refine lg_mk ?_
 have hc := call_rule (E := (E_siz.at_ 115)) (f := 21) (sp := Spec.pure faultG) rfl
 have hs := @faultG.eq_1
 refine u_cp ?_
 refine u_st ?_
 refine lg_nil ?_
 refine h65 _ ?_; clear h65; try clear N65
 refine vc_ret ?_
 try simp only [k_rules]
 rw [if_pos (by have := hb64; (try simp at this); omega)] at hre
 rw [hre]
 refine fin2_ ?_
 exact cl_
 refine vc_skip ?_
 try simp only [k_rules]
 refine h62 _ ?_; clear h62; try clear N62
 refine vc_seq_k fun N66 h66 => ?_
 refine u_reg ?_
 try refine lg_mk ?_
 refine u_bd ?_
 refine u_st ?_
 refine lg_nil ?_
 refine h66 _ ?_; clear h66; try clear N66
 refine vc_ret ?_
 try simp only [k_rules]
 rw [if_neg (by have := hb64; (try simp at this); omega)] at hre
 rw [hre]
 refine fin2_ ?_
 exact cl_
 cases hg

def E_refSF : Env Tryz.prog := E_siz.add 12 (Spec.pure refSG) refSF_meets (by kernel_rfl)
end Go.Proofs.YtmbjnkgpcbpclaaGreat
