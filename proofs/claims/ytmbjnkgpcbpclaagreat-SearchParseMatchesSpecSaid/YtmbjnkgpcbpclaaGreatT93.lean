/- Walks, printed by wip/gen/walk.py. -/
import Derived.Test.YtmbjnkgpcbpclaaGreatT92
import Derived.Test.YtmbjnkgpcbpclaaGreatV5
set_option linter.all false
set_option maxRecDepth 100000
set_option maxHeartbeats 4000000
namespace Go.Proofs.YtmbjnkgpcbpclaaGreat
open Go Go.Vc Go.RowKit
theorem rdX_q2 (t : Bs) (f a : Nat) (ns : List Sn) : rdX t (f + 1) 2 a ns = rdX t f 3 a ns := by rw [rdX]; rfl
theorem rdX_q (t : Bs) (f m a : Nat) (ns : List Sn) (h : m < 2) : rdX t (f + 1) m a ns = bndX (rdX t f (m + 1) a ns) fun a' ns' x => lpX (rdX t f (m + 1)) t m (t.length + 1) a' ns' x := by
  rw [rdX]; rw [if_neg (by omega), if_neg (by omega)]
theorem bad_e {α : Type} {r : Except (Int × Int) α} (h : eC r ≠ 0) : ∃ c k, r = .error (c, k) ∧ c ≠ 0 := by
  match r, h with
  | .error (c, k), h => exact ⟨c, k, rfl, h⟩
  | .ok _, h => exact absurd rfl h
theorem bndX_er {r : PX} {k : Nat → List Sn → Nat → PX} {e : Int × Int} (h : bndX r k = .error e) : r = .error e ∨ ∃ a ns x, r = .ok (a, ns, x) ∧ k a ns x = .error e := by
  match r, h with
  | .error e', h => cases h; exact .inl rfl
  | .ok (a, ns, x), h => exact .inr ⟨a, ns, x, rfl, h⟩
theorem lpX_s (sub : Nat → List Sn → PX) (t : Bs) (m g a : Nat) (ns : List Sn) (x : Nat) : lpX sub t m (g + 1) a ns x = if t.getD (skS t a) 0 = sgn m then bndX (sub (skS t a + 1) ns) fun a' ns' y => lpX sub t m g a' (ns' ++ [⟨kdm m, [], x, y⟩]) ns'.length else .ok (skS t a, ns, x) := rfl
theorem lpX_g {sub : Nat → List Sn → PX} {t : Bs} {m g a : Nat} {ns : List Sn} {x : Nat} {c k : Int} (h : lpX sub t m g a ns x = .error (c, k)) (hc : c ≠ 0) : ∃ g', g = g' + 1 := by
  match g, h with
  | 0, h => cases h; exact absurd rfl hc
  | g + 1, _ => exact ⟨g, rfl⟩

theorem qrx_step (fu : Nat) (kq : Meets Tryz.prog 42 (Spec.gen (qryG fu))) (ku : Meets Tryz.prog 63 (Spec.gen (unaG fu))) (kx : Panics Tryz.prog 42 (Spec.gen (qryX fu)) 29) (kz : Panics Tryz.prog 63 (Spec.gen (unaX fu)) 29) (ky : Panics Tryz.prog 82 (Spec.gen quoX) 29) : Panics Tryz.prog 42 (Spec.gen (qryX (fu + 1))) 29 := by
 refine panics_gen ((E_rd fu kq ku).at_ 53) Tryz.func42 rfl rfl rfl ?_
 intro args bl p r bf hg hp
 unfold qryX at hg
 split at hg
 rename_i l ty t a n vt sz xs
 simp only [Option.some.injEq, Prod.mk.injEq] at hg
 obtain ⟨rfl, rfl, rfl⟩ := hg
 obtain ⟨hl0, hl2, hpr, hsm⟩ := hp
 obtain ⟨m, rfl⟩ := Int.eq_ofNat_of_zero_le hl0
 have hm1 : ((m : Int) + 1).toNat = m + 1 := by omega
 obtain ⟨rfl, rfl, rfl, he, rfl, ha0, hal, htl, hqa⟩ := hpr
 generalize dSn xs = q at *
 subst he
 obtain ⟨a, rfl⟩ := Int.eq_ofNat_of_zero_le ha0
 simp only [Int.toNat_natCast] at *
 have hal : a ≤ t.length := by omega
 have hqa : q.length ≤ a := by omega
 obtain ⟨k1, k2⟩ := skS_le hal
 have hps := preS_ok hqa hal htl
 obtain ⟨c0, k0, hall, hc0⟩ := bad_e hsm
 rw [hall]
 have hT : ((E_rd fu kq ku)).X = T := rfl
 have hx0 := And.intro @dec_t (And.intro @dec_f (And.intro @Int.toNat_natCast (And.intro @rdS.eq_1 (And.intro @dSn_rows (And.intro @rect_eSn (And.intro @rX_s (And.intro @rBx_s (And.intro @eC_e (And.intro @eK_e @Tryz.results42)))))))))
 have hx := hx0
 refine ⟨_, _, rfl, rfl, rfl, Nat.le_of_ble_eq_true rfl, ?_⟩
 intro F W0 M0 hnp hmk
 have hnp : Far.np = 2 := hnp
 refine vc_seq_k fun N1 h1 => ?_
 refine u_reg ?_
 try refine lg_mk ?_
 refine u_mv ?_
 refine lg_nil ?_
 refine h1 _ ?_; clear h1; try clear N1
 refine vc_seq_k fun N2 h2 => ?_
 refine vc_seq_k fun N3 h3 => ?_
 refine u_reg ?_
 try refine lg_mk ?_
 refine u_mv ?_
 refine u_bn ?_
 refine lg_nil ?_
 refine h3 _ ?_; clear h3; try clear N3
 refine u_cond (fun hb4 => ?_) (fun hb4 => ?_)
 obtain rfl : m = 2 := by have := hb4; (try simp at this); omega
 rw [rdX_q2] at hall
 refine vc_seq_k fun N5 h5 => ?_
 have hx := And.intro @hall hx0
 refine vc_pan [] 1 (by rfl) (by rfl) ?_
 simp only [List.take_succ_cons, List.take_zero]
 try refine lg_mk ?_
 refine u_mv ?_
 refine lg_nil ?_
 show PanO _ _ _ _
 have hs := @unaX.eq_1
 refine ⟨_, 63, _, _, _, _, _, Spec.gen (unaX fu), 29, _, _, _, _, _, [0, 1], rfl, kz, by kernel_rfl, (by first | trivial | simp only [wB, eq_self, Nat.reduceEqDiff, reduceIte, and_true]), (by simp only [map_rules, wB, eq_self, Nat.reduceEqDiff, reduceIte, callS, rd_rules, pureL, cleanD, pure_rules, hs, sc_rules, heap_rules, wL, Int.toNat_natCast, Int.reduceToNat, Nat.reduceAdd, Nat.reduceMul, Nat.reduceSub, Nat.reduceLeDiff, List.mem_cons, List.not_mem_nil, dI_rows, dB_rows, dU_rows, hx, wG, Nat.reduceAdd, Nat.reduceSub, Nat.reduceLT, Nat.reduceLeDiff, if_true, if_false, ite_self, List.mem_append, true_implies, Option.bind_some, List.set_cons_zero, List.set_cons_succ, or_false, false_or]; rfl), (by refine ⟨hps, ?_⟩; first | exact hc0 | (rw [hall]; exact hc0) | (simp only [dSn_rows, Int.toNat_natCast, hall, eC_e]; exact hc0)), ?_⟩
 exact rfl
 have hm2 : m < 2 := by have := hb4; (try simp at this); omega
 rw [rdX_q t fu m a q hm2] at hall
 have hsc := sg_cases hm2
 refine vc_skip ?_
 try simp only [k_rules]
 refine h2 _ ?_; clear h2; try clear N2
 refine vc_seq_k fun N6 h6 => ?_
 refine u_reg ?_
 try refine lg_mk ?_
 iterate 2 refine u_mv ?_
 refine lg_nil ?_
 refine h6 _ ?_; clear h6; try clear N6
 refine vc_seq_m (σ := Unit) (fun s => (fun u => True) s)
  (fun s => (fun u => [(0, .ptr 0 0 0), (1, .d (.int .i64 (m : Nat))), (5, .d (.int .u8 ((sgn m).toNat : Int))), (6, .d (.int .i64 (kdm m)))]) s)
  (fun s => (fun u => [some (.one 75 [.d (.str t), .d (.int .i64 (a : Nat)), .sl 1 0 q.length]), some (.vec 55 4 (rows eSn q))]) s) hnp ?_ ?_
 rintro u hinv
 dsimp only at hinv ⊢
 refine vc_seq_k fun N8 h8 => ?_
 rcases bndX_er hall with hP | ⟨a0, n0, x0, hR, hF⟩
 have hX := hP
 have hx := And.intro @hm1 (And.intro @hP hx0)
 refine vc_pan [] 3 (by rfl) (by rfl) ?_
 simp only [List.take_succ_cons, List.take_zero]
 try refine lg_mk ?_
 iterate 2 refine u_mv ?_
 refine u_bn ?_
 refine lg_nil ?_
 show PanO _ _ _ _
 have hs := @qryX.eq_1
 refine ⟨_, 42, _, _, _, _, _, Spec.gen (qryX fu), 29, _, _, _, _, _, [0, 1], rfl, kx, by kernel_rfl, (by first | trivial | simp only [wB, eq_self, Nat.reduceEqDiff, reduceIte, and_true]), (by simp only [map_rules, wB, eq_self, Nat.reduceEqDiff, reduceIte, callS, rd_rules, pureL, cleanD, pure_rules, hs, sc_rules, heap_rules, wL, Int.toNat_natCast, Int.reduceToNat, Nat.reduceAdd, Nat.reduceMul, Nat.reduceSub, Nat.reduceLeDiff, List.mem_cons, List.not_mem_nil, dI_rows, dB_rows, dU_rows, hx, wG, Nat.reduceAdd, Nat.reduceSub, Nat.reduceLT, Nat.reduceLeDiff, if_true, if_false, ite_self, List.mem_append, true_implies, Option.bind_some, List.set_cons_zero, List.set_cons_succ, or_false, false_or]; rfl), (by refine ⟨by omega, by omega, hps, ?_⟩; first | exact hc0 | (rw [hP]; exact hc0) | (simp only [dSn_rows, Int.toNat_natCast, hm1, hP, eC_e]; exact hc0)), ?_⟩
 exact rfl
 have hP := rdX_ok hR
 obtain ⟨⟨f1, f2, f3⟩, f4⟩ := rd_fit t fu (m + 1) a q hal a0 n0 x0 hP
 have hx := And.intro @hm1 (And.intro @hP hx0)
 refine u_reg ?_
 try refine lg_mk ?_
 iterate 2 refine u_mv ?_
 refine u_bn ?_
 have hc := call_rule (E := ((E_rd fu kq ku).at_ 53)) (f := 42) (sp := Spec.gen (qryG fu)) rfl
 have hs := @qryG.eq_1
 refine u_hg (hq := by (first | (refine ⟨by omega, by omega, hps, ?_⟩; first | rfl | (rw [hP]; rfl) | (simp only [dSn_rows, Int.toNat_natCast, hm1, hP]; rfl)) | exact sd_)) ?_
 refine u_mv ?_
 refine lg_nil ?_
 have hx := hx0
 refine h8 _ ?_; clear h8; try clear N8
 refine vc_seq_k fun N9 h9 => ?_
 refine vc_block ?_
 refine vc_loop_mk (σ := Nat × List Sn × Nat × Nat) (fun s => (fun a1 n1 x g => lpX (rdX t fu (m + 1)) t m g a1 n1 x = .error (c0, k0) ∧ a1 ≤ t.length ∧ n1.length ≤ a1) (s.1) (s.2.1) (s.2.2.1) (s.2.2.2))
  (fun s => (fun a1 n1 x g => [(0, .ptr 0 0 0), (1, .d (.int .i64 (m : Nat))), (5, .d (.int .u8 ((sgn m).toNat : Int))), (6, .d (.int .i64 (kdm m))), (7, .d (.int .i64 (x : Nat)))]) (s.1) (s.2.1) (s.2.2.1) (s.2.2.2))
  (fun s => (fun a1 n1 x g => [some (.one 75 [.d (.str t), .d (.int .i64 (a1 : Nat)), .sl 2 0 n1.length]), none, some (.vec 55 4 (rows eSn n1))]) (s.1) (s.2.1) (s.2.2.1) (s.2.2.2)) (fun s => (fun a1 n1 x g => g) (s.1) (s.2.1) (s.2.2.1) (s.2.2.2)) hnp (a0, n0, x0, t.length + 1) ?_ [some 0, some 1, some 2] ?_ ?_
 dsimp only
 exact ⟨hF, f2, by omega⟩
 dsimp only
 refine ⟨by rfl, ?_, ?_⟩
 refine fin_ ?_
 exact cl_
 refine fin_ ?_
 exact cl_
 rintro ⟨a1, n1, x, g⟩ hinv N10 h10
 dsimp only at hinv ⊢
 obtain ⟨hI, i2, i3⟩ := hinv
 obtain ⟨g', rfl⟩ := lpX_g hI hc0
 rw [lpX_s] at hI
 have hps2 := preS_ok (t := t) (m := a1) (q := n1) i3 i2 htl
 obtain ⟨k3, k4⟩ := skS_le i2
 generalize hB1 : skS t a1 = B1 at *
 generalize hC1 : t.getD B1 0 = C1 at *
 refine vc_seq_k fun N11 h11 => ?_
 refine vc_seq_k fun N12 h12 => ?_
 by_cases hgo : C1 = sgn m
 rw [if_pos hgo] at hI
 have hB1l := (getD_lt (hC1.trans hgo) (sgn_ne m)).1
 have g1 : ((C1.toNat : Int) = ((sgn m).toNat : Int)) = True := eq_true (by rw [hgo])
 have g2 : ((B1 : Int) < (t.length : Int)) = True := eq_true (by omega)
 have hb1 : ((B1 : Int) + 1).toNat = B1 + 1 := by omega
 have hx := And.intro @hB1 (And.intro @hC1 (And.intro @g1 (And.intro @g2 hx0)))
 refine vc_regO [] [0, 2, 1, 3, 4, 5, 6, 7, 8, 9, 10, 11, 12, 13, 14, 15] hmix (by kernel_rfl) ?_
 simp only [pick_rules, list_rules]
 try refine lg_mk ?_
 iterate 2 refine u_mv ?_
 have hc := call_rule (E := ((E_rd fu kq ku).at_ 53)) (f := 64) (sp := Spec.gen nxtG) rfl
 have hs := @nxtG.eq_1
 refine u_hg (hq := by (first | (exact hps2) | exact sd_)) ?_
 refine u_bn ?_
 refine u_mv ?_
 refine v_mv ?_
 refine v_nl ?_
 refine v_pt ?_
 refine v_ld ?_
 refine v_mv ?_
 refine v_nl ?_
 refine v_pt ?_
 refine v_ld ?_
 refine v_ln ?_
 refine v_bn ?_
 refine u_pk ?_
 refine lg_nil ?_
 have hx := hx0
 refine h12 _ ?_; clear h12; try clear N12
 refine u_cond (fun hb13 => ?_) (fun hb13 => ?_)
 refine vc_skip ?_
 try simp only [k_rules]
 refine h11 _ ?_; clear h11; try clear N11
 refine vc_block ?_
 refine vc_seq_k fun N14 h14 => ?_
 refine u_reg ?_
 try refine lg_mk ?_
 refine u_mv ?_
 refine u_nl ?_
 refine u_pt ?_
 refine u_ld ?_
 refine u_bn ?_
 refine u_nl ?_
 refine u_pt ?_
 refine u_st ?_
 refine lg_nil ?_
 refine h14 _ ?_; clear h14; try clear N14
 refine vc_seq_k fun N15 h15 => ?_
 rcases bndX_er hI with hP2 | ⟨a2, n2, y, hR2, hI2⟩
 have hX := hP2
 have hx := And.intro @hm1 (And.intro @hb1 (And.intro @hP2 hx0))
 refine vc_pan [] 3 (by rfl) (by rfl) ?_
 simp only [List.take_succ_cons, List.take_zero]
 try refine lg_mk ?_
 iterate 2 refine u_mv ?_
 refine u_bn ?_
 refine lg_nil ?_
 show PanO _ _ _ _
 have hs := @qryX.eq_1
 refine ⟨_, 42, _, _, _, _, _, Spec.gen (qryX fu), 29, _, _, _, _, _, [0, 2], rfl, kx, by kernel_rfl, (by first | trivial | simp only [wB, eq_self, Nat.reduceEqDiff, reduceIte, and_true]), (by simp only [map_rules, wB, eq_self, Nat.reduceEqDiff, reduceIte, callS, rd_rules, pureL, cleanD, pure_rules, hs, sc_rules, heap_rules, wL, Int.toNat_natCast, Int.reduceToNat, Nat.reduceAdd, Nat.reduceMul, Nat.reduceSub, Nat.reduceLeDiff, List.mem_cons, List.not_mem_nil, dI_rows, dB_rows, dU_rows, hx, wG, Nat.reduceAdd, Nat.reduceSub, Nat.reduceLT, Nat.reduceLeDiff, if_true, if_false, ite_self, List.mem_append, true_implies, Option.bind_some, List.set_cons_zero, List.set_cons_succ, or_false, false_or]; rfl), (by refine ⟨by omega, by omega, preS_1 (by omega) (by omega) htl, ?_⟩; first | exact hc0 | (rw [hP2]; exact hc0) | (simp only [dSn_rows, Int.toNat_natCast, hm1, hb1, hP2, eC_e]; exact hc0)), ?_⟩
 exact rfl
 have hP2 := rdX_ok hR2
 obtain ⟨⟨e1, e2, e3⟩, e4⟩ := rd_fit t fu (m + 1) (B1 + 1) n1 (by omega) a2 n2 y hP2
 have hx := And.intro @hm1 (And.intro @hb1 (And.intro @hP2 hx0))
 refine u_reg ?_
 try refine lg_mk ?_
 iterate 2 refine u_mv ?_
 refine u_bn ?_
 have hc := call_rule (E := ((E_rd fu kq ku).at_ 53)) (f := 42) (sp := Spec.gen (qryG fu)) rfl
 have hs := @qryG.eq_1
 refine u_hg (hq := by (first | (refine ⟨by omega, by omega, preS_1 (by omega) (by omega) htl, ?_⟩; first | rfl | (rw [hP2]; rfl) | (simp only [dSn_rows, Int.toNat_natCast, hm1, hb1, hP2]; rfl)) | exact sd_)) ?_
 refine u_mv ?_
 refine lg_nil ?_
 have hx := hx0
 refine h15 _ ?_; clear h15; try clear N15
 refine u_reg ?_
 try refine lg_mk ?_
 iterate 4 refine u_mv (hq := by exact so_) ?_
 refine u_bd (hq := by exact so_) ?_
 have hc := call_rule (E := ((E_rd fu kq ku).at_ 53)) (f := 65) (sp := Spec.gen addG) rfl
 have hs := @addG.eq_1
 refine u_hg (hq := by exact so_) ?_
 refine u_mv (hq := by exact so_) ?_
 refine lg_nil ?_
 refine h10 _ ⟨(a2, n2 ++ [⟨kdm m, [], x, y⟩], n2.length, g'), ?_, ?_, [some 0, some 1, some 4], ?_⟩
 dsimp only
 exact ⟨hI2, e2, by rw [List.length_append, List.length_singleton]; omega⟩
 dsimp only
 omega
 dsimp only
 refine ⟨by rfl, ?_, ?_⟩
 refine fin_ ?_
 ·(repeat' apply And.intro) <;> (first | (simp only [List.length_append, List.length_singleton]; exact cl_) | exact cl_)
 refine fin_ ?_
 ·(repeat' apply And.intro) <;> (first | (simp only [List.length_append, List.length_singleton]; exact cl_) | exact cl_)
 ·first | omega | exact absurd trivial hb13 | contradiction | (simp_all; done)
 rw [if_neg hgo] at hI; exact absurd hI (fun h => by cases h)
 intro N7 h7
 refine vc_seq_k fun N16 h16 => ?_
 refine u_reg ?_
 try refine lg_mk ?_
 refine u_mv ?_
 refine u_bn ?_
 refine lg_nil ?_
 refine h16 _ ?_; clear h16; try clear N16
 refine u_cond (fun hb17 => ?_) (fun hb17 => ?_)
 refine u_reg ?_
 try refine lg_mk ?_
 iterate 2 refine u_mv ?_
 refine lg_nil ?_
 obtain ⟨rfl, e1, e2⟩ : m = 1 ∧ sgn m = 38 ∧ kdm m = 2 := hsc.resolve_right fun h => by have := hb17; (try simp at this); omega
 refine h7 _ ⟨(), trivial, [some 0, some 1], ?_⟩
 dsimp only
 refine ⟨by rfl, ?_, ?_⟩
 refine fin_ ?_
 ·(repeat' apply And.intro) <;> (first | (first | rfl | (rw [e1]; exact Or.inl rfl) | (rw [e2]; exact Or.inl rfl) | exact cl_) | exact cl_)
 refine fin_ ?_
 ·(repeat' apply And.intro) <;> (first | (first | rfl | (rw [e1]; exact Or.inl rfl) | (rw [e2]; exact Or.inl rfl) | exact cl_) | exact cl_)
 refine vc_skip ?_
 try simp only [k_rules]
 obtain ⟨rfl, e1, e2⟩ : m = 0 ∧ sgn m = 124 ∧ kdm m = 3 := hsc.resolve_left fun h => by have := hb17; (try simp at this); omega
 refine h7 _ ⟨(), trivial, [some 0, some 1], ?_⟩
 dsimp only
 refine ⟨by rfl, ?_, ?_⟩
 refine fin_ ?_
 ·(repeat' apply And.intro) <;> (first | (first | rfl | (rw [e1]; exact Or.inl rfl) | (rw [e2]; exact Or.inl rfl) | exact cl_) | exact cl_)
 refine fin_ ?_
 ·(repeat' apply And.intro) <;> (first | (first | rfl | (rw [e1]; exact Or.inl rfl) | (rw [e2]; exact Or.inl rfl) | exact cl_) | exact cl_)
 cases hg
end Go.Proofs.YtmbjnkgpcbpclaaGreat
