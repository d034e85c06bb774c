/- Walks, printed by wip/gen/walk.py. -/
import Derived.Test.YtlbjffdaooadoaaDoorT81
import Derived.Test.YtlbjffdaooadoaaDoorV5
set_option linter.all false
set_option maxRecDepth 100000
set_option maxHeartbeats 4000000
namespace Go.Proofs.YtlbjffdaooadoaaDoor
open Go Go.Vc Go.RowKit
def faC (w : Bs) (k c : Int) : Int := if nbR w = true then (if (nvR w : Int) ≤ k then c else 3) else 1
def faI (w : Bs) (a : Nat) (k i : Int) : Int := if nbR w = true then (if (nvR w : Int) ≤ k then i else a) else a
def faX (w : Bs) : Int := if nbR w = true then (nvR w : Int) else 0
def rgB (ls : List (List D)) (nd rt op : AV) (c i : Int) : Option Box := some (.one 92 [.d (.sl ls), nd, rt, op, .d (.int .i64 c), .d (.int .i64 i)])
def dgW (w : Bs) : Prop := 0 < w.length → dgB (w.getD 0 0) = true → w.all dgB = true
def numrG : GFun
  | [.ptr 0 0 0, .agg [.d (.str w), .d (.int .i64 a)], .d (.int .i64 k)], [some (.one ty [.d (.sl ls), .sl 1 0 x, .sl 2 0 y, .sl 3 0 z, .d (.int .i64 c), .d (.int .i64 i)]), some (.vec t1 s1 v1), some (.vec t2 s2 v2), some (.vec t3 s3 v3)] =>
    some (ty = 92 ∧ 0 ≤ a ∧ w.length ≤ 1000000 ∧ dgW w, .d (.int .i64 (faX w)), [rgB ls (.sl 1 0 x) (.sl 2 0 y) (.sl 3 0 z) (faC w k c) (faI w a.toNat k i), some (.vec t1 s1 v1), some (.vec t2 s2 v2), some (.vec t3 s3 v3)])
  | _, _ => none
theorem nb_cases (w : Bs) (hd : dgW w) : (w.length = 0 ∧ nbR w = false) ∨ (7 < w.length ∧ nbR w = false) ∨ ∃ b, w[0]? = some b ∧ w.getD 0 0 = b ∧ 0 < w.length ∧ w.length ≤ 7 ∧ ((kcI (b.toNat : Int) ≠ 2 ∧ nbR w = false) ∨ (kcI (b.toNat : Int) = 2 ∧ 1 < w.length ∧ (b.toNat : Int) = 48 ∧ nbR w = false) ∨ (kcI (b.toNat : Int) = 2 ∧ 1 < w.length ∧ (b.toNat : Int) ≠ 48 ∧ nbR w = true ∧ w.all dgB = true) ∨ (kcI (b.toNat : Int) = 2 ∧ w.length = 1 ∧ nbR w = true ∧ w.all dgB = true)) := by
  by_cases h0 : w.length = 0
  · exact .inl ⟨h0, by unfold nbR; rw [decide_eq_false (by omega)]; rfl⟩
  by_cases h7 : 7 < w.length
  · exact .inr (.inl ⟨h7, by unfold nbR; rw [decide_eq_false (by omega)]; rfl⟩)
  obtain ⟨b, hb⟩ := getE (l := w) (i := 0) (by omega)
  have hg : w.getD 0 0 = b := by rw [List.getD_eq_getElem?_getD, hb]; rfl
  refine .inr (.inr ⟨b, hb, hg, by omega, by omega, ?_⟩)
  by_cases hk : kcI (b.toNat : Int) = 2
  · have hr := kc_is2 hk
    have hdg : dgB b = true := by unfold dgB inB; simp only [Bool.and_eq_true, decide_eq_true_eq]; omega
    have hall := hd (by omega) (by rw [hg]; exact hdg)
    by_cases h1 : w.length = 1
    · exact .inr (.inr (.inr ⟨hk, h1, by unfold nbR; rw [hg, hdg, decide_eq_true h1, decide_eq_true (by omega)]; rfl, hall⟩))
    · by_cases h48 : (b.toNat : Int) = 48
      · exact .inr (.inl ⟨hk, by omega, h48, by unfold nbR; rw [hg, decide_eq_false (p := b.toNat ≠ 48) (by omega), decide_eq_false h1]; simp⟩)
      · exact .inr (.inr (.inl ⟨hk, by omega, h48, by unfold nbR; rw [hg, hdg, decide_eq_true (p := b.toNat ≠ 48) (by omega), decide_eq_true (by omega)]; simp, hall⟩))
  · refine .inl ⟨hk, ?_⟩
    have hdg : dgB b = false := by
      cases h : dgB b with
      | false => rfl
      | true => have := dg_val h; exact absurd (kc_2 (b := (b.toNat : Int)) (by omega)) hk
    unfold nbR; rw [hg, hdg]; simp
theorem nv_take {w : Bs} {i : Nat} {b : UInt8} (h : w[i]? = some b) : nvR (w.take (i + 1)) = nvR (w.take i) * 10 + (b.toNat - 48) := by
  rw [List.take_add_one, h]; exact nv_snoc _ _
theorem u8_sub {b : UInt8} (h : 48 ≤ b.toNat) : IntKind.u8.wrap ((b.toNat : Int) - 48) = ((b.toNat - 48 : Nat) : Int) := by
  have := b.toNat_lt
  rw [show (b.toNat : Int) - 48 = ((b.toNat - 48 : Nat) : Int) by omega]
  have h8 : ∀ n : Nat, n < 256 → IntKind.u8.wrap (n : Int) = n := by
    intro n hn
    unfold IntKind.wrap; simp [IntKind.signed, IntKind.bits]; omega
  exact h8 _ (by omega)
theorem all_at {w : Bs} {i : Nat} {b : UInt8} (ha : w.all dgB = true) (h : w[i]? = some b) : 48 ≤ b.toNat ∧ b.toNat ≤ 57 := dg_val (List.all_eq_true.1 ha b (List.mem_of_getElem? h))
theorem nv_small {w : Bs} {i : Nat} (ha : w.all dgB = true) (h7 : w.length ≤ 7) : nvR (w.take i) < 10000000 := by
  have hl : (w.take i).length ≤ 7 := by rw [List.length_take]; omega
  have := nv_lt _ (w.take i) rfl (by rw [List.all_eq_true] at ha ⊢; exact fun x hx => ha x (List.mem_of_mem_take hx))
  have hp : 10 ^ (w.take i).length ≤ 10 ^ 7 := Nat.pow_le_pow_right (by omega) hl
  exact Nat.lt_of_lt_of_le this hp

theorem numr_meets : Meets Tryd.prog 61 (Spec.gen numrG) := by
 refine meets_handed (E_lvl.at_ 70) Tryd.func61 rfl rfl rfl ?_
 intro args bl p r bf hg hp
 unfold numrG at hg
 split at hg
 rename_i w a k ty ls x y z c i t1 s1 v1 t2 s2 v2 t3 s3 v3
 simp only [Option.some.injEq, Prod.mk.injEq] at hg
 obtain ⟨rfl, rfl, rfl⟩ := hg
 obtain ⟨rfl, ha0, hwl, hdw⟩ := hp
 obtain ⟨m, rfl⟩ := Int.eq_ofNat_of_zero_le ha0
 have hmt : ((m : Nat) : Int).toNat = m := rfl
 rw [hmt]
 have hT : (E_lvl).X = T := rfl
 have hx0 := And.intro @dec_t (And.intro @dec_f (And.intro @rgB.eq_1 @Tryd.results61))
 have hx := hx0
 refine ⟨Nat.le_of_ble_eq_true rfl, ?_⟩
 intro F W0 M0 hnp hmk
 have hnp : Far.np = 4 := hnp
 refine vc_seq_k fun N1 h1 => ?_
 refine u_reg ?_
 try refine lg_mk ?_
 refine u_bx (hq := by exact so_) ?_
 refine u_mv (hq := by exact so_) ?_
 refine lg_nil ?_
 refine h1 _ ?_; clear h1; try clear N1
 refine vc_seq_k fun N2 h2 => ?_
 refine vc_seq_k fun N3 h3 => ?_
 rcases nb_cases w hdw with ⟨g1, hnb⟩ | ⟨g1, hnb⟩ | ⟨b, hb0, hbg, g1, g2, ⟨g3, hnb⟩ | ⟨g3, g4, g5, hnb⟩ | ⟨g3, g4, g5, hnb, hall⟩ | ⟨g3, g4, hnb, hall⟩⟩
 have f1 : ((w.length : Int) = 0) = True := eq_true (by omega)
 have f2 := True.intro
 have f3 := True.intro
 have f4 := True.intro
 have f5 := True.intro
 have hb0 := True.intro
 have hx := And.intro @f1 (And.intro @f2 (And.intro @f3 (And.intro @f4 (And.intro @f5 (And.intro @hb0 hx0)))))
 refine vc_regG [80] hmix (by kernel_rfl) ?_
 try refine lg_mk ?_
 refine u_pt (hq := by exact so_) ?_
 refine u_ld (hq := by exact so_) ?_
 refine u_ln (hq := by exact so_) ?_
 refine u_bn (hq := by exact so_) ?_
 refine u_mv (hq := by exact so_) ?_
 refine lg_g0 ?_ ?_
 focus (exact gt_)
 refine lg_g0 ?_ ?_
 focus (exact gt_)
 refine lg_g0 ?_ ?_
 focus (exact gt_)
 refine lg_g0 ?_ ?_
 focus (exact gt_)
 refine u_pk (hq := by exact so_) ?_
 refine u_mv (hq := by exact so_) ?_
 refine lg_g0 ?_ ?_
 focus (exact gt_)
 refine lg_g0 ?_ ?_
 focus (exact gt_)
 refine lg_g0 ?_ ?_
 focus (exact gt_)
 refine lg_g0 ?_ ?_
 focus (exact gt_)
 refine lg_g0 ?_ ?_
 focus (exact gt_)
 refine u_pk (hq := by exact so_) ?_
 refine u_mv (hq := by exact so_) ?_
 refine lg_g0 ?_ ?_
 focus (exact gt_)
 refine lg_g0 ?_ ?_
 focus (exact gt_)
 refine lg_g0 ?_ ?_
 focus (exact gt_)
 refine lg_g0 ?_ ?_
 focus (exact gt_)
 refine lg_g0 ?_ ?_
 focus (exact gt_)
 refine lg_g0 ?_ ?_
 focus (exact gt_)
 refine lg_g0 ?_ ?_
 focus (exact gt_)
 refine lg_g0 ?_ ?_
 focus (exact gt_)
 refine lg_g0 ?_ ?_
 focus (exact gt_)
 refine lg_g0 ?_ ?_
 focus (exact gt_)
 refine u_pk (hq := by exact so_) ?_
 refine lg_nil ?_
 have hx := hx0
 refine h3 _ ?_; clear h3; try clear N3
 refine u_cond (fun hb4 => ?_) (fun hb4 => ?_)
 refine vc_seq_k fun N5 h5 => ?_
 refine u_reg ?_
 try refine lg_mk ?_
 refine u_mv (hq := by exact so_) ?_
 refine u_pt (hq := by exact so_) ?_
 refine u_ld (hq := by exact so_) ?_
 have hc := call_rule (E := (E_lvl.at_ 70)) (f := 26) (sp := Spec.pure faultG) rfl
 have hs := @faultG.eq_1
 refine u_cp (hq := by exact so_) ?_
 refine u_nl (hq := by exact so_) ?_
 refine u_pt (hq := by exact so_) ?_
 refine u_st (hq := by exact so_) ?_
 refine lg_nil ?_
 refine h5 _ ?_; clear h5; try clear N5
 refine vc_seq_k fun N6 h6 => ?_
 refine u_reg ?_
 try refine lg_mk ?_
 refine u_mv (hq := by exact so_) ?_
 refine lg_nil ?_
 refine h6 _ ?_; clear h6; try clear N6
 refine vc_ret ?_
 try simp only [k_rules]
 have hnb' : ¬nbR w = true := by rw [hnb]; simp
 have e1 : faX w = 0 := if_neg hnb'
 have e2 : faC w k c = 1 := if_neg hnb'
 have e3 : faI w m k i = m := if_neg hnb'
 rw [e1, e2, e3]
 refine fin_ ?_
 refine ⟨[some 0, some 1, some 2, some 3], by rfl, ?_, ?_⟩
 refine fin_ ?_
 exact cl_
 refine fin_ ?_
 exact cl_
 ·first | omega | exact absurd trivial hb4 | contradiction | (simp_all; done)
 have f1 : ((w.length : Int) = 0) = False := eq_false (by omega)
 have f2 : ((7 : Int) < (w.length : Int)) = True := eq_true (by omega)
 have f3 := True.intro
 have f4 := True.intro
 have f5 := True.intro
 have hb0 := True.intro
 have hx := And.intro @f1 (And.intro @f2 (And.intro @f3 (And.intro @f4 (And.intro @f5 (And.intro @hb0 hx0)))))
 refine vc_regG [80] hmix (by kernel_rfl) ?_
 try refine lg_mk ?_
 refine u_pt (hq := by exact so_) ?_
 refine u_ld (hq := by exact so_) ?_
 refine u_ln (hq := by exact so_) ?_
 refine u_bn (hq := by exact so_) ?_
 refine u_mv (hq := by exact so_) ?_
 refine s_pt (hq := by exact si_) ?_
 refine s_ld (hq := by exact si_) ?_
 refine s_ln (hq := by exact si_) ?_
 refine s_bn (hq := by exact si_) ?_
 refine u_pk (hq := by exact so_) ?_
 refine u_mv (hq := by exact so_) ?_
 refine lg_g0 ?_ ?_
 focus (exact gt_)
 refine lg_g0 ?_ ?_
 focus (exact gt_)
 refine lg_g0 ?_ ?_
 focus (exact gt_)
 refine lg_g0 ?_ ?_
 focus (exact gt_)
 refine lg_g0 ?_ ?_
 focus (exact gt_)
 refine u_pk (hq := by exact so_) ?_
 refine u_mv (hq := by exact so_) ?_
 refine lg_g0 ?_ ?_
 focus (exact gt_)
 refine lg_g0 ?_ ?_
 focus (exact gt_)
 refine lg_g0 ?_ ?_
 focus (exact gt_)
 refine lg_g0 ?_ ?_
 focus (exact gt_)
 refine lg_g0 ?_ ?_
 focus (exact gt_)
 refine lg_g0 ?_ ?_
 focus (exact gt_)
 refine lg_g0 ?_ ?_
 focus (exact gt_)
 refine lg_g0 ?_ ?_
 focus (exact gt_)
 refine lg_g0 ?_ ?_
 focus (exact gt_)
 refine lg_g0 ?_ ?_
 focus (exact gt_)
 refine u_pk (hq := by exact so_) ?_
 refine lg_nil ?_
 have hx := hx0
 refine h3 _ ?_; clear h3; try clear N3
 refine u_cond (fun hb7 => ?_) (fun hb7 => ?_)
 refine vc_seq_k fun N8 h8 => ?_
 refine u_reg ?_
 try refine lg_mk ?_
 refine u_mv (hq := by exact so_) ?_
 refine u_pt (hq := by exact so_) ?_
 refine u_ld (hq := by exact so_) ?_
 have hc := call_rule (E := (E_lvl.at_ 70)) (f := 26) (sp := Spec.pure faultG) rfl
 have hs := @faultG.eq_1
 refine u_cp (hq := by exact so_) ?_
 refine u_nl (hq := by exact so_) ?_
 refine u_pt (hq := by exact so_) ?_
 refine u_st (hq := by exact so_) ?_
 refine lg_nil ?_
 refine h8 _ ?_; clear h8; try clear N8
 refine vc_seq_k fun N9 h9 => ?_
 refine u_reg ?_
 try refine lg_mk ?_
 refine u_mv (hq := by exact so_) ?_
 refine lg_nil ?_
 refine h9 _ ?_; clear h9; try clear N9
 refine vc_ret ?_
 try simp only [k_rules]
 have hnb' : ¬nbR w = true := by rw [hnb]; simp
 have e1 : faX w = 0 := if_neg hnb'
 have e2 : faC w k c = 1 := if_neg hnb'
 have e3 : faI w m k i = m := if_neg hnb'
 rw [e1, e2, e3]
 refine fin_ ?_
 refine ⟨[some 0, some 1, some 2, some 3], by rfl, ?_, ?_⟩
 refine fin_ ?_
 exact cl_
 refine fin_ ?_
 exact cl_
 ·first | omega | exact absurd trivial hb7 | contradiction | (simp_all; done)
 have f1 : ((w.length : Int) = 0) = False := eq_false (by omega)
 have f2 : ((7 : Int) < (w.length : Int)) = False := eq_false (by omega)
 have f3 : (kcI (b.toNat : Int) = 2) = False := eq_false (by omega)
 have f4 := True.intro
 have f5 := True.intro
 have hx := And.intro @f1 (And.intro @f2 (And.intro @f3 (And.intro @f4 (And.intro @f5 (And.intro @hb0 hx0)))))
 refine vc_regG [80] hmix (by kernel_rfl) ?_
 try refine lg_mk ?_
 refine u_pt (hq := by exact so_) ?_
 refine u_ld (hq := by exact so_) ?_
 refine u_ln (hq := by exact so_) ?_
 refine u_bn (hq := by exact so_) ?_
 refine u_mv (hq := by exact so_) ?_
 refine s_pt (hq := by exact si_) ?_
 refine s_ld (hq := by exact si_) ?_
 refine s_ln (hq := by exact si_) ?_
 refine s_bn (hq := by exact si_) ?_
 refine u_pk (hq := by exact so_) ?_
 refine u_mv (hq := by exact so_) ?_
 refine s_pt (hq := by exact si_) ?_
 refine s_ld (hq := by exact si_) ?_
 refine s_pt (hq := by exact si_) ?_
 have hc := call_rule (E := (E_lvl.at_ 70)) (f := 80) (sp := Spec.pure kcG) rfl
 have hs := @kcG.eq_1
 refine s_cp (hq := by exact si_) ?_
 refine s_bn (hq := by exact si_) ?_
 refine u_pk (hq := by exact so_) ?_
 refine u_mv (hq := by exact so_) ?_
 refine lg_g0 ?_ ?_
 focus (exact gt_)
 refine lg_g0 ?_ ?_
 focus (exact gt_)
 refine lg_g0 ?_ ?_
 focus (exact gt_)
 refine lg_g0 ?_ ?_
 focus (exact gt_)
 refine lg_g0 ?_ ?_
 focus (exact gt_)
 refine lg_g0 ?_ ?_
 focus (exact gt_)
 refine lg_g0 ?_ ?_
 focus (exact gt_)
 refine lg_g0 ?_ ?_
 focus (exact gt_)
 refine lg_g0 ?_ ?_
 focus (exact gt_)
 refine lg_g0 ?_ ?_
 focus (exact gt_)
 refine u_pk (hq := by exact so_) ?_
 refine lg_nil ?_
 have hx := hx0
 refine h3 _ ?_; clear h3; try clear N3
 refine u_cond (fun hb10 => ?_) (fun hb10 => ?_)
 refine vc_seq_k fun N11 h11 => ?_
 refine u_reg ?_
 try refine lg_mk ?_
 refine u_mv (hq := by exact so_) ?_
 refine u_pt (hq := by exact so_) ?_
 refine u_ld (hq := by exact so_) ?_
 have hc := call_rule (E := (E_lvl.at_ 70)) (f := 26) (sp := Spec.pure faultG) rfl
 have hs := @faultG.eq_1
 refine u_cp (hq := by exact so_) ?_
 refine u_nl (hq := by exact so_) ?_
 refine u_pt (hq := by exact so_) ?_
 refine u_st (hq := by exact so_) ?_
 refine lg_nil ?_
 refine h11 _ ?_; clear h11; try clear N11
 refine vc_seq_k fun N12 h12 => ?_
 refine u_reg ?_
 try refine lg_mk ?_
 refine u_mv (hq := by exact so_) ?_
 refine lg_nil ?_
 refine h12 _ ?_; clear h12; try clear N12
 refine vc_ret ?_
 try simp only [k_rules]
 have hnb' : ¬nbR w = true := by rw [hnb]; simp
 have e1 : faX w = 0 := if_neg hnb'
 have e2 : faC w k c = 1 := if_neg hnb'
 have e3 : faI w m k i = m := if_neg hnb'
 rw [e1, e2, e3]
 refine fin_ ?_
 refine ⟨[some 0, some 1, some 2, some 3], by rfl, ?_, ?_⟩
 refine fin_ ?_
 exact cl_
 refine fin_ ?_
 exact cl_
 ·first | omega | exact absurd trivial hb10 | contradiction | (simp_all; done)
 have f1 : ((w.length : Int) = 0) = False := eq_false (by omega)
 have f2 : ((7 : Int) < (w.length : Int)) = False := eq_false (by omega)
 have f3 : (kcI (b.toNat : Int) = 2) = True := eq_true (by omega)
 have f4 : ((1 : Int) < (w.length : Int)) = True := eq_true (by omega)
 have f5 : ((b.toNat : Int) = 48) = True := eq_true (by omega)
 have hx := And.intro @f1 (And.intro @f2 (And.intro @f3 (And.intro @f4 (And.intro @f5 (And.intro @hb0 hx0)))))
 refine vc_regG [80] hmix (by kernel_rfl) ?_
 try refine lg_mk ?_
 refine u_pt (hq := by exact so_) ?_
 refine u_ld (hq := by exact so_) ?_
 refine u_ln (hq := by exact so_) ?_
 refine u_bn (hq := by exact so_) ?_
 refine u_mv (hq := by exact so_) ?_
 refine s_pt (hq := by exact si_) ?_
 refine s_ld (hq := by exact si_) ?_
 refine s_ln (hq := by exact si_) ?_
 refine s_bn (hq := by exact si_) ?_
 refine u_pk (hq := by exact so_) ?_
 refine u_mv (hq := by exact so_) ?_
 refine s_pt (hq := by exact si_) ?_
 refine s_ld (hq := by exact si_) ?_
 refine s_pt (hq := by exact si_) ?_
 have hc := call_rule (E := (E_lvl.at_ 70)) (f := 80) (sp := Spec.pure kcG) rfl
 have hs := @kcG.eq_1
 refine s_cp (hq := by exact si_) ?_
 refine s_bn (hq := by exact si_) ?_
 refine u_pk (hq := by exact so_) ?_
 refine u_mv (hq := by exact so_) ?_
 refine s_pt (hq := by exact si_) ?_
 refine s_ld (hq := by exact si_) ?_
 refine s_ln (hq := by exact si_) ?_
 refine s_bn (hq := by exact si_) ?_
 refine s_mv (hq := by exact si_) ?_
 refine s_pt (hq := by exact si_) ?_
 refine s_ld (hq := by exact si_) ?_
 refine s_pt (hq := by exact si_) ?_
 refine s_bn (hq := by exact si_) ?_
 refine s_pk (hq := by exact si_) ?_
 refine u_pk (hq := by exact so_) ?_
 refine lg_nil ?_
 have hx := hx0
 refine h3 _ ?_; clear h3; try clear N3
 refine u_cond (fun hb13 => ?_) (fun hb13 => ?_)
 refine vc_seq_k fun N14 h14 => ?_
 refine u_reg ?_
 try refine lg_mk ?_
 refine u_mv (hq := by exact so_) ?_
 refine u_pt (hq := by exact so_) ?_
 refine u_ld (hq := by exact so_) ?_
 have hc := call_rule (E := (E_lvl.at_ 70)) (f := 26) (sp := Spec.pure faultG) rfl
 have hs := @faultG.eq_1
 refine u_cp (hq := by exact so_) ?_
 refine u_nl (hq := by exact so_) ?_
 refine u_pt (hq := by exact so_) ?_
 refine u_st (hq := by exact so_) ?_
 refine lg_nil ?_
 refine h14 _ ?_; clear h14; try clear N14
 refine vc_seq_k fun N15 h15 => ?_
 refine u_reg ?_
 try refine lg_mk ?_
 refine u_mv (hq := by exact so_) ?_
 refine lg_nil ?_
 refine h15 _ ?_; clear h15; try clear N15
 refine vc_ret ?_
 try simp only [k_rules]
 have hnb' : ¬nbR w = true := by rw [hnb]; simp
 have e1 : faX w = 0 := if_neg hnb'
 have e2 : faC w k c = 1 := if_neg hnb'
 have e3 : faI w m k i = m := if_neg hnb'
 rw [e1, e2, e3]
 refine fin_ ?_
 refine ⟨[some 0, some 1, some 2, some 3], by rfl, ?_, ?_⟩
 refine fin_ ?_
 exact cl_
 refine fin_ ?_
 exact cl_
 ·first | omega | exact absurd trivial hb13 | contradiction | (simp_all; done)
 have f1 : ((w.length : Int) = 0) = False := eq_false (by omega)
 have f2 : ((7 : Int) < (w.length : Int)) = False := eq_false (by omega)
 have f3 : (kcI (b.toNat : Int) = 2) = True := eq_true (by omega)
 have f4 : ((1 : Int) < (w.length : Int)) = True := eq_true (by omega)
 have f5 : ((b.toNat : Int) = 48) = False := eq_false (by omega)
 have hx := And.intro @f1 (And.intro @f2 (And.intro @f3 (And.intro @f4 (And.intro @f5 (And.intro @hb0 hx0)))))
 refine vc_regG [80] hmix (by kernel_rfl) ?_
 try refine lg_mk ?_
 refine u_pt (hq := by exact so_) ?_
 refine u_ld (hq := by exact so_) ?_
 refine u_ln (hq := by exact so_) ?_
 refine u_bn (hq := by exact so_) ?_
 refine u_mv (hq := by exact so_) ?_
 refine s_pt (hq := by exact si_) ?_
 refine s_ld (hq := by exact si_) ?_
 refine s_ln (hq := by exact si_) ?_
 refine s_bn (hq := by exact si_) ?_
 refine u_pk (hq := by exact so_) ?_
 refine u_mv (hq := by exact so_) ?_
 refine s_pt (hq := by exact si_) ?_
 refine s_ld (hq := by exact si_) ?_
 refine s_pt (hq := by exact si_) ?_
 have hc := call_rule (E := (E_lvl.at_ 70)) (f := 80) (sp := Spec.pure kcG) rfl
 have hs := @kcG.eq_1
 refine s_cp (hq := by exact si_) ?_
 refine s_bn (hq := by exact si_) ?_
 refine u_pk (hq := by exact so_) ?_
 refine u_mv (hq := by exact so_) ?_
 refine s_pt (hq := by exact si_) ?_
 refine s_ld (hq := by exact si_) ?_
 refine s_ln (hq := by exact si_) ?_
 refine s_bn (hq := by exact si_) ?_
 refine s_mv (hq := by exact si_) ?_
 refine s_pt (hq := by exact si_) ?_
 refine s_ld (hq := by exact si_) ?_
 refine s_pt (hq := by exact si_) ?_
 refine s_bn (hq := by exact si_) ?_
 refine s_pk (hq := by exact si_) ?_
 refine u_pk (hq := by exact so_) ?_
 refine lg_nil ?_
 have hx := hx0
 refine h3 _ ?_; clear h3; try clear N3
 refine u_cond (fun hb16 => ?_) (fun hb16 => ?_)
 ·first | omega | exact absurd trivial hb16 | contradiction | (simp_all; done)
 refine vc_skip ?_
 try simp only [k_rules]
 refine h2 _ ?_; clear h2; try clear N2
 refine vc_seq_k fun N17 h17 => ?_
 refine u_reg ?_
 try refine lg_mk ?_
 refine u_mv (hq := by exact so_) ?_
 refine lg_nil ?_
 refine h17 _ ?_; clear h17; try clear N17
 refine vc_seq_k fun N18 h18 => ?_
 refine vc_seq_k fun N19 h19 => ?_
 refine u_reg ?_
 try refine lg_mk ?_
 refine u_mv (hq := by exact so_) ?_
 refine lg_nil ?_
 refine h19 _ ?_; clear h19; try clear N19
 refine vc_block ?_
 refine vc_loop_mk (σ := Nat) (fun s => (fun j => j ≤ w.length) s)
  (fun s => (fun j => [(0, .ptr 0 0 0), (2, .d (.int .i64 k)), (4, .ptr 4 0 0), (7, .d (.int .i64 (nvR (w.take j) : Nat))), (8, .d (.int .i64 (j : Nat)))]) s)
  (fun s => (fun j => [rgB ls (.sl 1 0 x) (.sl 2 0 y) (.sl 3 0 z) c i, some (.vec t1 s1 v1), some (.vec t2 s2 v2), some (.vec t3 s3 v3), some (.one 94 [.d (.str w), .d (.int .i64 (m : Nat))])]) s) (fun s => (fun j => w.length - j) s) hnp 0 ?_ [some 0, some 1, some 2, some 3, some 4] ?_ ?_
 dsimp only
 ·first | rfl | exact Or.inr rfl | exact Or.inl rfl | trivial | omega | assumption | (simp; done) | (simp; omega)
 dsimp only
 refine ⟨by rfl, ?_, ?_⟩
 refine fin_ ?_
 exact cl_
 refine fin_ ?_
 exact cl_
 rintro j hinv N20 h20
 dsimp only at hinv ⊢
 skip
 refine vc_seq_k fun N21 h21 => ?_
 refine vc_seq_k fun N22 h22 => ?_
 refine u_reg ?_
 try refine lg_mk ?_
 refine u_mv (hq := by exact so_) ?_
 refine u_pt (hq := by exact so_) ?_
 refine u_ld (hq := by exact so_) ?_
 refine u_ln (hq := by exact so_) ?_
 refine u_bn (hq := by exact so_) ?_
 refine lg_nil ?_
 refine h22 _ ?_; clear h22; try clear N22
 refine u_cond (fun hb23 => ?_) (fun hb23 => ?_)
 have hjl : j < w.length := by have := hb23; omega
 obtain ⟨d, hde⟩ := getE (l := w) (i := j) hjl
 have hdd := all_at hall hde
 have hu8 := u8_sub hdd.1
 have hnt := nv_take hde
 have hsm1 := nv_small (i := j) hall g2
 have hsm2 := nv_small (i := j + 1) hall g2
 have hnv : 10 * ((nvR (w.take j) : Nat) : Int) + ((d.toNat - 48 : Nat) : Int) = ((nvR (w.take (j + 1)) : Nat) : Int) := by omega
 refine vc_skip ?_
 try simp only [k_rules]
 refine h21 _ ?_; clear h21; try clear N21
 refine vc_seq_k fun N24 h24 => ?_
 refine vc_block ?_
 have hx := And.intro @hde (And.intro @hu8 (And.intro @hnv hx0))
 refine u_reg ?_
 try refine lg_mk ?_
 refine u_mv (hq := by exact so_) ?_
 refine u_bn (hq := by exact so_) ?_
 refine u_pt (hq := by exact so_) ?_
 refine u_ld (hq := by exact so_) ?_
 refine u_mv (hq := by exact so_) ?_
 refine u_pt (hq := by exact so_) ?_
 refine u_bn (hq := by exact so_) ?_
 refine u_cv (hq := by exact so_) ?_
 refine u_bn (hq := by exact so_) ?_
 refine u_mv (hq := by exact so_) ?_
 refine lg_nil ?_
 have hx := hx0
 refine h24 _ ?_; clear h24; try clear N24
 refine u_reg ?_
 try refine lg_mk ?_
 refine u_mv (hq := by exact so_) ?_
 refine u_bn (hq := by exact so_) ?_
 refine u_mv (hq := by exact so_) ?_
 refine lg_nil ?_
 refine h20 _ ⟨j + 1, ?_, ?_, [some 0, some 1, some 2, some 3, some 4], ?_⟩
 dsimp only
 omega
 dsimp only
 omega
 dsimp only
 refine ⟨by rfl, ?_, ?_⟩
 refine fin_ ?_
 exact cl_
 refine fin_ ?_
 exact cl_
 obtain rfl : j = w.length := by have := hb23; omega
 have hsm1 := nv_small (i := w.length) hall g2
 simp only [List.take_length] at hsm1 ⊢
 refine vc_exit ?_
 simp only [k_rules, Nat.reduceEqDiff, reduceIte, eq_self]
 refine h18 _ ?_; clear h18; try clear N18
 refine vc_seq_k fun N25 h25 => ?_
 refine vc_seq_k fun N26 h26 => ?_
 refine u_reg ?_
 try refine lg_mk ?_
 iterate 2 refine u_mv (hq := by exact so_) ?_
 refine u_bn (hq := by exact so_) ?_
 refine lg_nil ?_
 refine h26 _ ?_; clear h26; try clear N26
 refine u_cond (fun hb27 => ?_) (fun hb27 => ?_)
 refine u_reg ?_
 try refine lg_mk ?_
 refine u_mv (hq := by exact so_) ?_
 refine u_pt (hq := by exact so_) ?_
 refine u_ld (hq := by exact so_) ?_
 have hc := call_rule (E := (E_lvl.at_ 70)) (f := 26) (sp := Spec.pure faultG) rfl
 have hs := @faultG.eq_1
 refine u_cp (hq := by exact so_) ?_
 refine u_nl (hq := by exact so_) ?_
 refine u_pt (hq := by exact so_) ?_
 refine u_st (hq := by exact so_) ?_
 refine lg_nil ?_
 refine h25 _ ?_; clear h25; try clear N25
 refine vc_seq_k fun N28 h28 => ?_
 refine u_reg ?_
 try refine lg_mk ?_
 iterate 2 refine u_mv (hq := by exact so_) ?_
 refine lg_nil ?_
 refine h28 _ ?_; clear h28; try clear N28
 refine vc_ret ?_
 try simp only [k_rules]
 have h62 : ¬(nvR w : Int) ≤ k := by have := hb27; (try simp at this); omega
 have e1 : faX w = nvR w := if_pos hnb
 have e2 : faC w k c = 3 := by unfold faC; rw [if_pos hnb, if_neg h62]
 have e3 : faI w m k i = m := by unfold faI; rw [if_pos hnb, if_neg h62]
 rw [e1, e2, e3]
 refine fin_ ?_
 refine ⟨[some 0, some 1, some 2, some 3], by rfl, ?_, ?_⟩
 refine fin_ ?_
 exact cl_
 refine fin_ ?_
 exact cl_
 refine vc_skip ?_
 try simp only [k_rules]
 refine h25 _ ?_; clear h25; try clear N25
 refine vc_seq_k fun N29 h29 => ?_
 refine u_reg ?_
 try refine lg_mk ?_
 iterate 2 refine u_mv (hq := by exact so_) ?_
 refine lg_nil ?_
 refine h29 _ ?_; clear h29; try clear N29
 refine vc_ret ?_
 try simp only [k_rules]
 have h62 : (nvR w : Int) ≤ k := by have := hb27; (try simp at this); omega
 have e1 : faX w = nvR w := if_pos hnb
 have e2 : faC w k c = c := by unfold faC; rw [if_pos hnb, if_pos h62]
 have e3 : faI w m k i = i := by unfold faI; rw [if_pos hnb, if_pos h62]
 rw [e1, e2, e3]
 refine fin_ ?_
 refine ⟨[some 0, some 1, some 2, some 3], by rfl, ?_, ?_⟩
 refine fin_ ?_
 exact cl_
 refine fin_ ?_
 exact cl_
 have f1 : ((w.length : Int) = 0) = False := eq_false (by omega)
 have f2 : ((7 : Int) < (w.length : Int)) = False := eq_false (by omega)
 have f3 : (kcI (b.toNat : Int) = 2) = True := eq_true (by omega)
 have f4 : ((1 : Int) < (w.length : Int)) = False := eq_false (by omega)
 have f5 := True.intro
 have hx := And.intro @f1 (And.intro @f2 (And.intro @f3 (And.intro @f4 (And.intro @f5 (And.intro @hb0 hx0)))))
 refine vc_regG [80] hmix (by kernel_rfl) ?_
 try refine lg_mk ?_
 refine u_pt (hq := by exact so_) ?_
 refine u_ld (hq := by exact so_) ?_
 refine u_ln (hq := by exact so_) ?_
 refine u_bn (hq := by exact so_) ?_
 refine u_mv (hq := by exact so_) ?_
 refine s_pt (hq := by exact si_) ?_
 refine s_ld (hq := by exact si_) ?_
 refine s_ln (hq := by exact si_) ?_
 refine s_bn (hq := by exact si_) ?_
 refine u_pk (hq := by exact so_) ?_
 refine u_mv (hq := by exact so_) ?_
 refine s_pt (hq := by exact si_) ?_
 refine s_ld (hq := by exact si_) ?_
 refine s_pt (hq := by exact si_) ?_
 have hc := call_rule (E := (E_lvl.at_ 70)) (f := 80) (sp := Spec.pure kcG) rfl
 have hs := @kcG.eq_1
 refine s_cp (hq := by exact si_) ?_
 refine s_bn (hq := by exact si_) ?_
 refine u_pk (hq := by exact so_) ?_
 refine u_mv (hq := by exact so_) ?_
 refine s_pt (hq := by exact si_) ?_
 refine s_ld (hq := by exact si_) ?_
 refine s_ln (hq := by exact si_) ?_
 refine s_bn (hq := by exact si_) ?_
 refine s_mv (hq := by exact si_) ?_
 refine lg_g0 ?_ ?_
 focus (exact gt_)
 refine lg_g0 ?_ ?_
 focus (exact gt_)
 refine lg_g0 ?_ ?_
 focus (exact gt_)
 refine lg_g0 ?_ ?_
 focus (exact gt_)
 refine s_pk (hq := by exact si_) ?_
 refine u_pk (hq := by exact so_) ?_
 refine lg_nil ?_
 have hx := hx0
 refine h3 _ ?_; clear h3; try clear N3
 refine u_cond (fun hb30 => ?_) (fun hb30 => ?_)
 ·first | omega | exact absurd trivial hb30 | contradiction | (simp_all; done)
 refine vc_skip ?_
 try simp only [k_rules]
 refine h2 _ ?_; clear h2; try clear N2
 refine vc_seq_k fun N31 h31 => ?_
 refine u_reg ?_
 try refine lg_mk ?_
 refine u_mv (hq := by exact so_) ?_
 refine lg_nil ?_
 refine h31 _ ?_; clear h31; try clear N31
 refine vc_seq_k fun N32 h32 => ?_
 refine vc_seq_k fun N33 h33 => ?_
 refine u_reg ?_
 try refine lg_mk ?_
 refine u_mv (hq := by exact so_) ?_
 refine lg_nil ?_
 refine h33 _ ?_; clear h33; try clear N33
 refine vc_block ?_
 refine vc_loop_mk (σ := Nat) (fun s => (fun j => j ≤ w.length) s)
  (fun s => (fun j => [(0, .ptr 0 0 0), (2, .d (.int .i64 k)), (4, .ptr 4 0 0), (7, .d (.int .i64 (nvR (w.take j) : Nat))), (8, .d (.int .i64 (j : Nat)))]) s)
  (fun s => (fun j => [rgB ls (.sl 1 0 x) (.sl 2 0 y) (.sl 3 0 z) c i, some (.vec t1 s1 v1), some (.vec t2 s2 v2), some (.vec t3 s3 v3), some (.one 94 [.d (.str w), .d (.int .i64 (m : Nat))])]) s) (fun s => (fun j => w.length - j) s) hnp 0 ?_ [some 0, some 1, some 2, some 3, some 4] ?_ ?_
 dsimp only
 ·first | rfl | exact Or.inr rfl | exact Or.inl rfl | trivial | omega | assumption | (simp; done) | (simp; omega)
 dsimp only
 refine ⟨by rfl, ?_, ?_⟩
 refine fin_ ?_
 exact cl_
 refine fin_ ?_
 exact cl_
 rintro j hinv N34 h34
 dsimp only at hinv ⊢
 skip
 refine vc_seq_k fun N35 h35 => ?_
 refine vc_seq_k fun N36 h36 => ?_
 refine u_reg ?_
 try refine lg_mk ?_
 refine u_mv (hq := by exact so_) ?_
 refine u_pt (hq := by exact so_) ?_
 refine u_ld (hq := by exact so_) ?_
 refine u_ln (hq := by exact so_) ?_
 refine u_bn (hq := by exact so_) ?_
 refine lg_nil ?_
 refine h36 _ ?_; clear h36; try clear N36
 refine u_cond (fun hb37 => ?_) (fun hb37 => ?_)
 have hjl : j < w.length := by have := hb37; omega
 obtain ⟨d, hde⟩ := getE (l := w) (i := j) hjl
 have hdd := all_at hall hde
 have hu8 := u8_sub hdd.1
 have hnt := nv_take hde
 have hsm1 := nv_small (i := j) hall g2
 have hsm2 := nv_small (i := j + 1) hall g2
 have hnv : 10 * ((nvR (w.take j) : Nat) : Int) + ((d.toNat - 48 : Nat) : Int) = ((nvR (w.take (j + 1)) : Nat) : Int) := by omega
 refine vc_skip ?_
 try simp only [k_rules]
 refine h35 _ ?_; clear h35; try clear N35
 refine vc_seq_k fun N38 h38 => ?_
 refine vc_block ?_
 have hx := And.intro @hde (And.intro @hu8 (And.intro @hnv hx0))
 refine u_reg ?_
 try refine lg_mk ?_
 refine u_mv (hq := by exact so_) ?_
 refine u_bn (hq := by exact so_) ?_
 refine u_pt (hq := by exact so_) ?_
 refine u_ld (hq := by exact so_) ?_
 refine u_mv (hq := by exact so_) ?_
 refine u_pt (hq := by exact so_) ?_
 refine u_bn (hq := by exact so_) ?_
 refine u_cv (hq := by exact so_) ?_
 refine u_bn (hq := by exact so_) ?_
 refine u_mv (hq := by exact so_) ?_
 refine lg_nil ?_
 have hx := hx0
 refine h38 _ ?_; clear h38; try clear N38
 refine u_reg ?_
 try refine lg_mk ?_
 refine u_mv (hq := by exact so_) ?_
 refine u_bn (hq := by exact so_) ?_
 refine u_mv (hq := by exact so_) ?_
 refine lg_nil ?_
 refine h34 _ ⟨j + 1, ?_, ?_, [some 0, some 1, some 2, some 3, some 4], ?_⟩
 dsimp only
 omega
 dsimp only
 omega
 dsimp only
 refine ⟨by rfl, ?_, ?_⟩
 refine fin_ ?_
 exact cl_
 refine fin_ ?_
 exact cl_
 obtain rfl : j = w.length := by have := hb37; omega
 have hsm1 := nv_small (i := w.length) hall g2
 simp only [List.take_length] at hsm1 ⊢
 refine vc_exit ?_
 simp only [k_rules, Nat.reduceEqDiff, reduceIte, eq_self]
 refine h32 _ ?_; clear h32; try clear N32
 refine vc_seq_k fun N39 h39 => ?_
 refine vc_seq_k fun N40 h40 => ?_
 refine u_reg ?_
 try refine lg_mk ?_
 iterate 2 refine u_mv (hq := by exact so_) ?_
 refine u_bn (hq := by exact so_) ?_
 refine lg_nil ?_
 refine h40 _ ?_; clear h40; try clear N40
 refine u_cond (fun hb41 => ?_) (fun hb41 => ?_)
 refine u_reg ?_
 try refine lg_mk ?_
 refine u_mv (hq := by exact so_) ?_
 refine u_pt (hq := by exact so_) ?_
 refine u_ld (hq := by exact so_) ?_
 have hc := call_rule (E := (E_lvl.at_ 70)) (f := 26) (sp := Spec.pure faultG) rfl
 have hs := @faultG.eq_1
 refine u_cp (hq := by exact so_) ?_
 refine u_nl (hq := by exact so_) ?_
 refine u_pt (hq := by exact so_) ?_
 refine u_st (hq := by exact so_) ?_
 refine lg_nil ?_
 refine h39 _ ?_; clear h39; try clear N39
 refine vc_seq_k fun N42 h42 => ?_
 refine u_reg ?_
 try refine lg_mk ?_
 iterate 2 refine u_mv (hq := by exact so_) ?_
 refine lg_nil ?_
 refine h42 _ ?_; clear h42; try clear N42
 refine vc_ret ?_
 try simp only [k_rules]
 have h62 : ¬(nvR w : Int) ≤ k := by have := hb41; (try simp at this); omega
 have e1 : faX w = nvR w := if_pos hnb
 have e2 : faC w k c = 3 := by unfold faC; rw [if_pos hnb, if_neg h62]
 have e3 : faI w m k i = m := by unfold faI; rw [if_pos hnb, if_neg h62]
 rw [e1, e2, e3]
 refine fin_ ?_
 refine ⟨[some 0, some 1, some 2, some 3], by rfl, ?_, ?_⟩
 refine fin_ ?_
 exact cl_
 refine fin_ ?_
 exact cl_
 refine vc_skip ?_
 try simp only [k_rules]
 refine h39 _ ?_; clear h39; try clear N39
 refine vc_seq_k fun N43 h43 => ?_
 refine u_reg ?_
 try refine lg_mk ?_
 iterate 2 refine u_mv (hq := by exact so_) ?_
 refine lg_nil ?_
 refine h43 _ ?_; clear h43; try clear N43
 refine vc_ret ?_
 try simp only [k_rules]
 have h62 : (nvR w : Int) ≤ k := by have := hb41; (try simp at this); omega
 have e1 : faX w = nvR w := if_pos hnb
 have e2 : faC w k c = c := by unfold faC; rw [if_pos hnb, if_pos h62]
 have e3 : faI w m k i = i := by unfold faI; rw [if_pos hnb, if_pos h62]
 rw [e1, e2, e3]
 refine fin_ ?_
 refine ⟨[some 0, some 1, some 2, some 3], by rfl, ?_, ?_⟩
 refine fin_ ?_
 exact cl_
 refine fin_ ?_
 exact cl_
 cases hg

def E_numr : Env Tryd.prog := E_lvl.add 61 (Spec.gen numrG) numr_meets (by kernel_rfl)
end Go.Proofs.YtlbjffdaooadoaaDoor
