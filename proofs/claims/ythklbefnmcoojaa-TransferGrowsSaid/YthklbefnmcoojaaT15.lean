/- Walks, printed by wip/gen/walk.py. -/
import Derived.Test.YthklbefnmcoojaaT14
set_option linter.all false
set_option maxRecDepth 100000
set_option maxHeartbeats 4000000
namespace Go.Proofs.Ythklbefnmcoojaa
open Go Go.Vc Go.RowKit
section
variable [Far] {P : Program} {E : Env P} {W0 : World} {M0 : Nat → Prop} {dr : Bool} {calm : List FuncId} {ops : Array Oper} {K : St → Prop} {o : Op} {d : Option Tmp} {t : TypeId} {p : String} {af : Array Edge} {r : List Oper} {fr : Nat → AV} {H H' : Heap} {n n' : Nat} {q : Prop} {c : AV} {b : Bool} {gd : Nat × Bool}
theorem t15a0 {p : Prop} (h : p := by simp only [op_rules, ev_rules, fr_rules, av_rules, rs_rules, eq_self, Nat.reduceEqDiff, reduceIte, bw]; rfl) : p := h
theorem t15a1 {p : Prop} (h : p := by simp only [nd_rules, nd_slice, ev_rules, fr_rules, av_rules, eq_self, Nat.reduceEqDiff, reduceIte, and_true, true_and, map_rules, List.map_cons, List.map_nil]) : p := h
theorem t15a2 {p : Prop} (h : p := by (first | trivial | omega | assumption | (unfold inI64; omega) | (simp; done) | (simp; omega))) : p := h
theorem t15_0 (hk : AG W0 M0 dr calm E ops K r ⟨putD d c fr, H, n⟩) (h : aOp E fr H n o = .v q c := by exact t15a0) (hn : ndO fr o := by exact t15a1) (hq : q := by exact t15a2) : AG W0 M0 dr calm E ops K (⟨d, o, t, p, af, none⟩ :: r) ⟨fr, H, n⟩ := lg_v h hn hq hk
theorem t15_1 (hk : AG W0 M0 dr calm E ops K r ⟨putD d c fr, H, n⟩) (h : aOp E fr H n o = .v q c := by simp only [op_rules, ev_rules, fr_rules, av_rules, rs_rules, eq_self, Nat.reduceEqDiff, reduceIte, bw, op_rules2, aLen, env_rules, tys, g_transferOf, tiAgg, list_rules, opt_rules, map_rules, rows_get, rows_len, rows_drop, rows_take, rows_app, rows_nil, rows_set, Int.toNat_natCast, Int.reduceToNat, Nat.reduceAdd, Nat.reduceMul, Nat.reduceSub, Nat.reduceLeDiff, Nat.zero_add, Nat.add_zero, true_and, and_true, and_assoc, rect_eI, rect_eB, rect_eU, rect_eS, rect_eL, rect_nil, rect_cons, bytes_is, bytes_str, splice_rules, cell_rules, fill_rules, bnd_rules, or_false, false_or, not_true_eq_false, not_false_eq_true, rect_eE]; rfl) (hn : ndO fr o := by exact t15a1) (hq : q := by exact t15a2) : AG W0 M0 dr calm E ops K (⟨d, o, t, p, af, none⟩ :: r) ⟨fr, H, n⟩ := lg_v h hn hq hk
theorem t15_2 (hk : AG W0 M0 dr calm E ops K r ⟨putD d c fr, H, n⟩) (h : aOp E fr H n o = .v q c := by simp only [op_rules, ev_rules, fr_rules, av_rules, rs_rules, eq_self, Nat.reduceEqDiff, reduceIte, bw, env_rules, tys, g_transferOf, tiAgg, bin_rules, ar_rules, str_rules, eq_rules, bit_rules, Bool.true_and, Bool.and_true, rect_eE]; rfl) (hn : ndO fr o := by exact t15a1) (hq : q := by exact t15a2) : AG W0 M0 dr calm E ops K (⟨d, o, t, p, af, none⟩ :: r) ⟨fr, H, n⟩ := lg_v h hn hq hk
theorem t15_3 {p : Prop} (h : p := by (simp only [w1, w2, w3, tys, k_rules, eq_self, Nat.reduceEqDiff, Nat.reduceLeDiff, Nat.reduceAdd, Nat.reduceSub, Nat.reduceMul, Int.toNat_natCast, Int.reduceToNat, Int.reduceNeg, List.mem_cons, List.not_mem_nil, or_false, false_or, not_true_eq_false, not_false_eq_true, bif_and, bif_or, reduceIte, true_and, and_true, and_assoc, true_implies, forall_const, implies_true, Bool.true_eq_false, Bool.false_eq_true, false_implies, rows_len, rows_get, rows_drop, rows_take, rows_app, rows_nil, rect_nil, rect_eI, rect_eB, rect_eU, rect_eS, rect_eL, rect_eE, w4, Try.results17, reduceCtorEq, false_or, or_true, true_or]) <;> (try simp only [w1, w2, w3, tys, k_rules, eq_self, Nat.reduceEqDiff, Nat.reduceLeDiff, Nat.reduceAdd, Nat.reduceSub, Nat.reduceMul, Int.toNat_natCast, Int.reduceToNat, Int.reduceNeg, List.mem_cons, List.not_mem_nil, or_false, false_or, not_true_eq_false, not_false_eq_true, bif_and, bif_or, reduceIte, true_and, and_true, and_assoc, true_implies, forall_const, implies_true, Bool.true_eq_false, Bool.false_eq_true, false_implies, rows_len, rows_get, rows_drop, rows_take, rows_app, rows_nil, rect_nil, rect_eI, rect_eB, rect_eU, rect_eS, rect_eL, rect_eE, w4, Try.results17, reduceCtorEq, false_or, or_true, true_or]) <;> (repeat' apply And.intro) <;> (first | rfl | exact Or.inl rfl | exact Or.inr rfl | trivial | exact Nat.le_refl _ | omega | (simp; done))) : p := h
theorem t15_4 {p : Prop} (h : p := by (simp only [w1, w2, w3, tys, k_rules, eq_self, Nat.reduceEqDiff, Nat.reduceLeDiff, Nat.reduceAdd, Nat.reduceSub, Nat.reduceMul, Int.toNat_natCast, Int.reduceToNat, Int.reduceNeg, List.mem_cons, List.not_mem_nil, or_false, false_or, not_true_eq_false, not_false_eq_true, bif_and, bif_or, reduceIte, true_and, and_true, and_assoc, true_implies, forall_const, implies_true, Bool.true_eq_false, Bool.false_eq_true, false_implies, rows_len, rows_get, rows_drop, rows_take, rows_app, rows_nil, rect_nil, rect_eI, rect_eB, rect_eU, rect_eS, rect_eL, rect_eE, w4]) <;> (repeat' apply And.intro) <;> (first | rfl | exact Or.inr rfl | exact Or.inl rfl | trivial | omega | assumption | (simp; done) | (simp; omega))) : p := h
theorem t15_5 (hk : AG W0 M0 dr calm E ops K r ⟨putD d c fr, H, n⟩) (h : aOp E fr H n o = .v q c := by simp only [op_rules, ev_rules, fr_rules, av_rules, rs_rules, eq_self, Nat.reduceEqDiff, reduceIte, bw, op_rules2, aFieldAddr, aField, aIndexAddr, aIndex, aPart, env_rules, tys, g_transferOf, tiAgg, list_rules, opt_rules, map_rules, rows_get, rows_len, rows_drop, rows_take, rows_app, rows_nil, rows_set, Int.toNat_natCast, Int.reduceToNat, Nat.reduceAdd, Nat.reduceMul, Nat.reduceSub, Nat.reduceLeDiff, Nat.zero_add, Nat.add_zero, true_and, and_true, and_assoc, rect_eI, rect_eB, rect_eU, rect_eS, rect_eL, rect_nil, rect_cons, bytes_is, bytes_str, splice_rules, cell_rules, fill_rules, bnd_rules, or_false, false_or, not_true_eq_false, not_false_eq_true, rect_eE, ha, hc, eE]; rfl) (hn : ndO fr o := by exact t15a1) (hq : q := by exact t15a2) : AG W0 M0 dr calm E ops K (⟨d, o, t, p, af, none⟩ :: r) ⟨fr, H, n⟩ := lg_v h hn hq hk
theorem t15_6 (hk : AG W0 M0 dr calm E ops K r ⟨putD d c fr, H, n⟩) (h : aOp E fr H n o = .v q c := by simp only [op_rules, ev_rules, fr_rules, av_rules, rs_rules, eq_self, Nat.reduceEqDiff, reduceIte, bw, op_rules2, aLoad, loadRow, env_rules, tys, g_transferOf, tiAgg, list_rules, opt_rules, map_rules, rows_get, rows_len, rows_drop, rows_take, rows_app, rows_nil, rows_set, Int.toNat_natCast, Int.reduceToNat, Nat.reduceAdd, Nat.reduceMul, Nat.reduceSub, Nat.reduceLeDiff, Nat.zero_add, Nat.add_zero, true_and, and_true, and_assoc, rect_eI, rect_eB, rect_eU, rect_eS, rect_eL, rect_nil, rect_cons, bytes_is, bytes_str, splice_rules, cell_rules, fill_rules, bnd_rules, or_false, false_or, not_true_eq_false, not_false_eq_true, rect_eE, ha, hc, eE]; rfl) (hn : ndO fr o := by exact t15a1) (hq : q := by exact t15a2) : AG W0 M0 dr calm E ops K (⟨d, o, t, p, af, none⟩ :: r) ⟨fr, H, n⟩ := lg_v h hn hq hk
theorem t15_7 (hk : AG W0 M0 dr calm E ops K r ⟨putD d c fr, H', n'⟩) (h : aOp E fr H n o = .h q c H' n' := by simp only [call_rule (E := (E_events.at_ 70)) (f := 9) (sp := Spec.pure framesG) rfl, op_rules, ev_rules, fr_rules, av_rules, rs_rules, eq_self, Nat.reduceEqDiff, reduceIte, bw, callS, rd_rules, pure_rules, framesG, sc_rules, heap_rules, list_rules, opt_rules, map_rules, rows_get, rows_len, rows_drop, rows_take, rows_app, rows_nil, rows_set, Int.toNat_natCast, Int.reduceToNat, Nat.reduceAdd, Nat.reduceMul, Nat.reduceSub, Nat.reduceLeDiff, Nat.zero_add, Nat.add_zero, true_and, and_true, and_assoc, rect_eI, rect_eB, rect_eU, rect_eS, rect_eL, rect_nil, rect_cons, bytes_is, bytes_str, splice_rules, cell_rules, fill_rules, bnd_rules, or_false, false_or, not_true_eq_false, not_false_eq_true, List.mem_cons, List.not_mem_nil, dI_rows, dB_rows, dU_rows, rect_eE, hq, if_true, if_false, ite_true, ite_false]; rfl) (hn : ndO fr o := by exact t15a1) (hq : q := by exact t15a2) (hl : (dr && growB calm d o) = true → HLe H H' := by exact (fun h => Bool.noConfusion (show false = true from h))) : AG W0 M0 dr calm E ops K (⟨d, o, t, p, af, none⟩ :: r) ⟨fr, H, n⟩ := lg_h h hn hq hl hk
theorem t15_8 (hk : AG W0 M0 dr calm E ops K r ⟨putD d c fr, H, n⟩) (h : aOp E fr H n o = .v q c := by simp only [op_rules, ev_rules, fr_rules, av_rules, rs_rules, eq_self, Nat.reduceEqDiff, reduceIte, bw, op_rules2, aExtract, list_rules, rect_eE, hq, if_true, if_false, ite_true, ite_false]; rfl) (hn : ndO fr o := by exact t15a1) (hq : q := by exact t15a2) : AG W0 M0 dr calm E ops K (⟨d, o, t, p, af, none⟩ :: r) ⟨fr, H, n⟩ := lg_v h hn hq hk
theorem t15_9 (hk : AG W0 M0 dr calm E ops K r ⟨putD d c fr, H', n'⟩) (h : aOp E fr H n o = .h q c H' n' := by simp only [op_rules, ev_rules, fr_rules, av_rules, rs_rules, eq_self, Nat.reduceEqDiff, reduceIte, bw, aAlloc, env_rules, tys, g_events, tiAgg, list_rules, opt_rules, map_rules, rows_get, rows_len, rows_drop, rows_take, rows_app, rows_nil, rows_set, Int.toNat_natCast, Int.reduceToNat, Nat.reduceAdd, Nat.reduceMul, Nat.reduceSub, Nat.reduceLeDiff, Nat.zero_add, Nat.add_zero, true_and, and_true, and_assoc, rect_eI, rect_eB, rect_eU, rect_eS, rect_eL, rect_nil, rect_cons, bytes_is, bytes_str, splice_rules, cell_rules, fill_rules, bnd_rules, or_false, false_or, not_true_eq_false, not_false_eq_true, rect_eE, hq, if_true, if_false, ite_true, ite_false]; rfl) (hn : ndO fr o := by exact t15a1) (hq : q := by exact t15a2) (hl : (dr && growB calm d o) = true → HLe H H' := by exact (fun h => Bool.noConfusion (show false = true from h))) : AG W0 M0 dr calm E ops K (⟨d, o, t, p, af, none⟩ :: r) ⟨fr, H, n⟩ := lg_h h hn hq hl hk
theorem t15_10 (hk : AG W0 M0 dr calm E ops K r ⟨putD d c fr, H', n'⟩) (h : aOp E fr H n o = .h q c H' n' := by simp only [op_rules, ev_rules, fr_rules, av_rules, rs_rules, eq_self, Nat.reduceEqDiff, reduceIte, bw, aStore, env_rules, tys, g_events, tiAgg, list_rules, opt_rules, map_rules, rows_get, rows_len, rows_drop, rows_take, rows_app, rows_nil, rows_set, Int.toNat_natCast, Int.reduceToNat, Nat.reduceAdd, Nat.reduceMul, Nat.reduceSub, Nat.reduceLeDiff, Nat.zero_add, Nat.add_zero, true_and, and_true, and_assoc, rect_eI, rect_eB, rect_eU, rect_eS, rect_eL, rect_nil, rect_cons, bytes_is, bytes_str, splice_rules, cell_rules, fill_rules, bnd_rules, or_false, false_or, not_true_eq_false, not_false_eq_true, rect_eE, hq, if_true, if_false, ite_true, ite_false]; rfl) (hn : ndO fr o := by exact t15a1) (hq : q := by exact t15a2) (hl : (dr && growB calm d o) = true → HLe H H' := by exact (fun h => Bool.noConfusion (show false = true from h))) : AG W0 M0 dr calm E ops K (⟨d, o, t, p, af, none⟩ :: r) ⟨fr, H, n⟩ := lg_h h hn hq hl hk
theorem t15_11 (hk : AG W0 M0 dr calm E ops K r ⟨putD d c fr, H, n⟩) (h : aOp E fr H n o = .v q c := by simp only [op_rules, ev_rules, fr_rules, av_rules, rs_rules, eq_self, Nat.reduceEqDiff, reduceIte, bw, op_rules2, aLoad, loadRow, env_rules, tys, g_events, tiAgg, list_rules, opt_rules, map_rules, rows_get, rows_len, rows_drop, rows_take, rows_app, rows_nil, rows_set, Int.toNat_natCast, Int.reduceToNat, Nat.reduceAdd, Nat.reduceMul, Nat.reduceSub, Nat.reduceLeDiff, Nat.zero_add, Nat.add_zero, true_and, and_true, and_assoc, rect_eI, rect_eB, rect_eU, rect_eS, rect_eL, rect_nil, rect_cons, bytes_is, bytes_str, splice_rules, cell_rules, fill_rules, bnd_rules, or_false, false_or, not_true_eq_false, not_false_eq_true, rect_eE]; rfl) (hn : ndO fr o := by exact t15a1) (hq : q := by exact t15a2) : AG W0 M0 dr calm E ops K (⟨d, o, t, p, af, none⟩ :: r) ⟨fr, H, n⟩ := lg_v h hn hq hk
theorem t15_12 (hk : AG W0 M0 dr calm E ops K r ⟨putD d c fr, H, n⟩) (h : aOp E fr H n o = .v q c := by simp only [op_rules, ev_rules, fr_rules, av_rules, rs_rules, eq_self, Nat.reduceEqDiff, reduceIte, bw, op_rules2, aBuild, env_rules, tys, g_events, tiAgg, list_rules, opt_rules, map_rules, rows_get, rows_len, rows_drop, rows_take, rows_app, rows_nil, rows_set, Int.toNat_natCast, Int.reduceToNat, Nat.reduceAdd, Nat.reduceMul, Nat.reduceSub, Nat.reduceLeDiff, Nat.zero_add, Nat.add_zero, true_and, and_true, and_assoc, rect_eI, rect_eB, rect_eU, rect_eS, rect_eL, rect_nil, rect_cons, bytes_is, bytes_str, splice_rules, cell_rules, fill_rules, bnd_rules, or_false, false_or, not_true_eq_false, not_false_eq_true, rect_eE]; rfl) (hn : ndO fr o := by exact t15a1) (hq : q := by exact t15a2) : AG W0 M0 dr calm E ops K (⟨d, o, t, p, af, none⟩ :: r) ⟨fr, H, n⟩ := lg_v h hn hq hk
theorem t15_13 (hk : AG W0 M0 dr calm E ops K r ⟨putD d c fr, H, n⟩) (h : aOp E fr H n o = .v q c := by simp only [op_rules, ev_rules, fr_rules, av_rules, rs_rules, eq_self, Nat.reduceEqDiff, reduceIte, bw, env_rules, tys, g_events, tiAgg, bin_rules, ar_rules, str_rules, eq_rules, bit_rules, Bool.true_and, Bool.and_true, rect_eE]; rfl) (hn : ndO fr o := by exact t15a1) (hq : q := by exact t15a2) : AG W0 M0 dr calm E ops K (⟨d, o, t, p, af, none⟩ :: r) ⟨fr, H, n⟩ := lg_v h hn hq hk
theorem t15a3 {p : Prop} (h : p := by simp only [op_rules, ev_rules, fr_rules, av_rules, rs_rules, eq_self, Nat.reduceEqDiff, reduceIte, bw, aStore, env_rules, tys, g_events, tiAgg, list_rules, opt_rules, map_rules, rows_get, rows_len, rows_drop, rows_take, rows_app, rows_nil, rows_set, Int.toNat_natCast, Int.reduceToNat, Nat.reduceAdd, Nat.reduceMul, Nat.reduceSub, Nat.reduceLeDiff, Nat.zero_add, Nat.add_zero, true_and, and_true, and_assoc, rect_eI, rect_eB, rect_eU, rect_eS, rect_eL, rect_nil, rect_cons, bytes_is, bytes_str, splice_rules, cell_rules, fill_rules, bnd_rules, or_false, false_or, not_true_eq_false, not_false_eq_true, rect_eE]; rfl) : p := h
theorem t15_14 {p : Prop} (h : p := by (simp only [w1, w2, w3, tys, k_rules, eq_self, Nat.reduceEqDiff, Nat.reduceLeDiff, Nat.reduceAdd, Nat.reduceSub, Nat.reduceMul, Int.toNat_natCast, Int.reduceToNat, Int.reduceNeg, List.mem_cons, List.not_mem_nil, or_false, false_or, not_true_eq_false, not_false_eq_true, bif_and, bif_or, reduceIte, true_and, and_true, and_assoc, true_implies, forall_const, implies_true, Bool.true_eq_false, Bool.false_eq_true, false_implies, rows_len, rows_get, rows_drop, rows_take, rows_app, rows_nil, rect_nil, rect_eI, rect_eB, rect_eU, rect_eS, rect_eL, rect_eE, w4, Try.results15, reduceCtorEq, false_or, or_true, true_or]) <;> (try simp only [w1, w2, w3, tys, k_rules, eq_self, Nat.reduceEqDiff, Nat.reduceLeDiff, Nat.reduceAdd, Nat.reduceSub, Nat.reduceMul, Int.toNat_natCast, Int.reduceToNat, Int.reduceNeg, List.mem_cons, List.not_mem_nil, or_false, false_or, not_true_eq_false, not_false_eq_true, bif_and, bif_or, reduceIte, true_and, and_true, and_assoc, true_implies, forall_const, implies_true, Bool.true_eq_false, Bool.false_eq_true, false_implies, rows_len, rows_get, rows_drop, rows_take, rows_app, rows_nil, rect_nil, rect_eI, rect_eB, rect_eU, rect_eS, rect_eL, rect_eE, w4, Try.results15, reduceCtorEq, false_or, or_true, true_or]) <;> (repeat' apply And.intro) <;> (first | rfl | exact Or.inl rfl | exact Or.inr rfl | trivial | exact Nat.le_refl _ | omega | (simp; done) | (simp [rows_len]; done) | (rw [List.drop_zero, rows_take, List.take_length]; done) | (rw [rows_take, List.take_length]; done))) : p := h
theorem t15_15 (hk : AG W0 M0 dr calm E ops K r ⟨putD d c fr, H, n⟩) (h : aOp E fr H n o = .v q c := by simp only [op_rules, ev_rules, fr_rules, av_rules, rs_rules, eq_self, Nat.reduceEqDiff, reduceIte, bw, op_rules2, aLen, env_rules, tys, g_events, tiAgg, list_rules, opt_rules, map_rules, rows_get, rows_len, rows_drop, rows_take, rows_app, rows_nil, rows_set, Int.toNat_natCast, Int.reduceToNat, Nat.reduceAdd, Nat.reduceMul, Nat.reduceSub, Nat.reduceLeDiff, Nat.zero_add, Nat.add_zero, true_and, and_true, and_assoc, rect_eI, rect_eB, rect_eU, rect_eS, rect_eL, rect_nil, rect_cons, bytes_is, bytes_str, splice_rules, cell_rules, fill_rules, bnd_rules, or_false, false_or, not_true_eq_false, not_false_eq_true, rect_eE]; rfl) (hn : ndO fr o := by exact t15a1) (hq : q := by exact t15a2) : AG W0 M0 dr calm E ops K (⟨d, o, t, p, af, none⟩ :: r) ⟨fr, H, n⟩ := lg_v h hn hq hk
theorem t15_16 (hk : AG W0 M0 dr calm E ops K r ⟨putD d c fr, H', n'⟩) (h : aOp E fr H n o = .h q c H' n' := by exact t15a3) (hn : ndO fr o := by exact t15a1) (hq : q := by exact t15a2) (hl : (dr && growB calm d o) = true → HLe H H' := by exact (fun h => Bool.noConfusion (show false = true from h))) : AG W0 M0 dr calm E ops K (⟨d, o, t, p, af, none⟩ :: r) ⟨fr, H, n⟩ := lg_h h hn hq hl hk
theorem t15_17 (hk : AG W0 M0 dr calm E ops K r ⟨putD d c fr, H', n'⟩) (h : aOp E fr H n o = .h q c H' n' := by simp only [op_rules, ev_rules, fr_rules, av_rules, rs_rules, eq_self, Nat.reduceEqDiff, reduceIte, bw, aBuildSlice, env_rules, tys, g_events, tiAgg, list_rules, opt_rules, map_rules, rows_get, rows_len, rows_drop, rows_take, rows_app, rows_nil, rows_set, Int.toNat_natCast, Int.reduceToNat, Nat.reduceAdd, Nat.reduceMul, Nat.reduceSub, Nat.reduceLeDiff, Nat.zero_add, Nat.add_zero, true_and, and_true, and_assoc, rect_eI, rect_eB, rect_eU, rect_eS, rect_eL, rect_nil, rect_cons, bytes_is, bytes_str, splice_rules, cell_rules, fill_rules, bnd_rules, or_false, false_or, not_true_eq_false, not_false_eq_true, rect_eE]; rfl) (hn : ndO fr o := by exact t15a1) (hq : q := by exact t15a2) (hl : (dr && growB calm d o) = true → HLe H H' := by exact (fun h => Bool.noConfusion (show false = true from h))) : AG W0 M0 dr calm E ops K (⟨d, o, t, p, af, none⟩ :: r) ⟨fr, H, n⟩ := lg_h h hn hq hl hk
theorem t15_18 (hk : AG W0 M0 dr calm E ops K r ⟨putD d c fr, H, n⟩) (h : aOp E fr H n o = .v q c := by simp only [op_rules, ev_rules, fr_rules, av_rules, rs_rules, eq_self, Nat.reduceEqDiff, reduceIte, bw, op_rules2, aLen, env_rules, tys, g_events, tiAgg, list_rules, opt_rules, map_rules, rows_get, rows_len, rows_drop, rows_take, rows_app, rows_nil, rows_set, Int.toNat_natCast, Int.reduceToNat, Nat.reduceAdd, Nat.reduceMul, Nat.reduceSub, Nat.reduceLeDiff, Nat.zero_add, Nat.add_zero, true_and, and_true, and_assoc, rect_eI, rect_eB, rect_eU, rect_eS, rect_eL, rect_nil, rect_cons, bytes_is, bytes_str, splice_rules, cell_rules, fill_rules, bnd_rules, or_false, false_or, not_true_eq_false, not_false_eq_true, rect_eE, hkb, hk']; rfl) (hn : ndO fr o := by exact t15a1) (hq : q := by exact t15a2) : AG W0 M0 dr calm E ops K (⟨d, o, t, p, af, none⟩ :: r) ⟨fr, H, n⟩ := lg_v h hn hq hk
theorem t15_19 (hk : AG W0 M0 dr calm E ops K r ⟨putD d c fr, H, n⟩) (h : aOp E fr H n o = .v q c := by simp only [op_rules, ev_rules, fr_rules, av_rules, rs_rules, eq_self, Nat.reduceEqDiff, reduceIte, bw, env_rules, tys, g_events, tiAgg, bin_rules, ar_rules, str_rules, eq_rules, bit_rules, Bool.true_and, Bool.and_true, rect_eE, hkb, hk']; rfl) (hn : ndO fr o := by exact t15a1) (hq : q := by exact t15a2) : AG W0 M0 dr calm E ops K (⟨d, o, t, p, af, none⟩ :: r) ⟨fr, H, n⟩ := lg_v h hn hq hk
theorem t15a4 {p : Prop} (h : p := by simp only [guard_rules, list_rules, opt_bind, fr_rules, eq_self, Nat.reduceEqDiff, reduceIte, bool_rules, hkb, hk']; rfl) : p := h
theorem t15a5 {p : Prop} (h : p := by exact (fun hg => ⟨by first | (simp only [nd_rules, nd_slice, ev_rules, fr_rules, av_rules, eq_self, Nat.reduceEqDiff, reduceIte, and_true, true_and, map_rules, List.map_cons, List.map_nil]; done) | (simp only [nd_rules, nd_slice, ev_rules, fr_rules, av_rules, eq_self, Nat.reduceEqDiff, reduceIte, and_true, true_and, map_rules, List.map_cons, List.map_nil]; exact hg) | (simp_all [nd_rules, nd_slice, ev_rules, fr_rules, av_rules, eq_self, Nat.reduceEqDiff, reduceIte, and_true, true_and, map_rules, List.map_cons, List.map_nil]; done), by (try simp only [b_rules, bif_and, bif_or] at hg); (first | trivial | omega | assumption | (unfold inI64; omega) | (simp; done) | (simp; omega))⟩)) : p := h
theorem t15_20 (hk : AG W0 M0 dr calm E ops K r ⟨putD d (.cond b c) fr, H, n⟩) (hg : guardA ops fr (some gd) = some (some b) := by exact t15a4) (h : aOp E fr H n o = .v q c := by exact t15a0) (hq : b = true → ndO fr o ∧ q := by exact t15a5) : AG W0 M0 dr calm E ops K (⟨d, o, t, p, af, some gd⟩ :: r) ⟨fr, H, n⟩ := lg_gv hg h hq hk
theorem t15_21 (hk : AG W0 M0 dr calm E ops K r ⟨putD d (.cond b c) fr, H, n⟩) (hg : guardA ops fr (some gd) = some (some b) := by exact t15a4) (h : aOp E fr H n o = .v q c := by simp only [op_rules, ev_rules, fr_rules, av_rules, rs_rules, eq_self, Nat.reduceEqDiff, reduceIte, bw, op_rules2, aFieldAddr, aField, aIndexAddr, aIndex, aPart, env_rules, tys, g_events, tiAgg, list_rules, opt_rules, map_rules, rows_get, rows_len, rows_drop, rows_take, rows_app, rows_nil, rows_set, Int.toNat_natCast, Int.reduceToNat, Nat.reduceAdd, Nat.reduceMul, Nat.reduceSub, Nat.reduceLeDiff, Nat.zero_add, Nat.add_zero, true_and, and_true, and_assoc, rect_eI, rect_eB, rect_eU, rect_eS, rect_eL, rect_nil, rect_cons, bytes_is, bytes_str, splice_rules, cell_rules, fill_rules, bnd_rules, or_false, false_or, not_true_eq_false, not_false_eq_true, rect_eE, hkb, hk']; rfl) (hq : b = true → ndO fr o ∧ q := by exact t15a5) : AG W0 M0 dr calm E ops K (⟨d, o, t, p, af, some gd⟩ :: r) ⟨fr, H, n⟩ := lg_gv hg h hq hk
theorem t15_22 (hk : AG W0 M0 dr calm E ops K r ⟨putD d (.cond b c) fr, H, n⟩) (hg : guardA ops fr (some gd) = some (some b) := by exact t15a4) (h : aOp E fr H n o = .v q c := by simp only [op_rules, ev_rules, fr_rules, av_rules, rs_rules, eq_self, Nat.reduceEqDiff, reduceIte, bw, op_rules2, aLoad, loadRow, env_rules, tys, g_events, tiAgg, list_rules, opt_rules, map_rules, rows_get, rows_len, rows_drop, rows_take, rows_app, rows_nil, rows_set, Int.toNat_natCast, Int.reduceToNat, Nat.reduceAdd, Nat.reduceMul, Nat.reduceSub, Nat.reduceLeDiff, Nat.zero_add, Nat.add_zero, true_and, and_true, and_assoc, rect_eI, rect_eB, rect_eU, rect_eS, rect_eL, rect_nil, rect_cons, bytes_is, bytes_str, splice_rules, cell_rules, fill_rules, bnd_rules, or_false, false_or, not_true_eq_false, not_false_eq_true, rect_eE, hkb, hk']; rfl) (hq : b = true → ndO fr o ∧ q := by exact t15a5) : AG W0 M0 dr calm E ops K (⟨d, o, t, p, af, some gd⟩ :: r) ⟨fr, H, n⟩ := lg_gv hg h hq hk
theorem t15_23 (hk : AG W0 M0 dr calm E ops K r ⟨putD d c fr, H, n⟩) (h : aOp E fr H n o = .v q c := by simp only [op_rules, ev_rules, fr_rules, av_rules, rs_rules, eq_self, Nat.reduceEqDiff, reduceIte, bw, un_rules, bif_and, bif_or, bool_rules]; rfl) (hn : ndO fr o := by exact t15a1) (hq : q := by exact t15a2) : AG W0 M0 dr calm E ops K (⟨d, o, t, p, af, none⟩ :: r) ⟨fr, H, n⟩ := lg_v h hn hq hk
theorem t15_24 {p : Prop} (h : p := by (simp only [w1, w2, w3, tys, k_rules, eq_self, Nat.reduceEqDiff, Nat.reduceLeDiff, Nat.reduceAdd, Nat.reduceSub, Nat.reduceMul, Int.toNat_natCast, Int.reduceToNat, Int.reduceNeg, List.mem_cons, List.not_mem_nil, or_false, false_or, not_true_eq_false, not_false_eq_true, bif_and, bif_or, reduceIte, true_and, and_true, and_assoc, true_implies, forall_const, implies_true, Bool.true_eq_false, Bool.false_eq_true, false_implies, rows_len, rows_get, rows_drop, rows_take, rows_app, rows_nil, rect_nil, rect_eI, rect_eB, rect_eU, rect_eS, rect_eL, rect_eE, w4]) <;> (repeat' apply And.intro) <;> (first | (first | rfl | (subst hK; simp [rows, eI]; done) | (subst hK; simp; done)) | (first | rfl | exact Or.inr rfl | exact Or.inl rfl | trivial | omega | assumption | (simp; done) | (simp; omega)))) : p := h
theorem t15_25 (hk : AG W0 M0 dr calm E ops K r ⟨putD d c fr, H, n⟩) (h : aOp E fr H n o = .v q c := by simp only [op_rules, ev_rules, fr_rules, av_rules, rs_rules, eq_self, Nat.reduceEqDiff, reduceIte, bw, op_rules2, aFieldAddr, aField, aIndexAddr, aIndex, aPart, env_rules, tys, g_events, tiAgg, list_rules, opt_rules, map_rules, rows_get, rows_len, rows_drop, rows_take, rows_app, rows_nil, rows_set, Int.toNat_natCast, Int.reduceToNat, Nat.reduceAdd, Nat.reduceMul, Nat.reduceSub, Nat.reduceLeDiff, Nat.zero_add, Nat.add_zero, true_and, and_true, and_assoc, rect_eI, rect_eB, rect_eU, rect_eS, rect_eL, rect_nil, rect_cons, bytes_is, bytes_str, splice_rules, cell_rules, fill_rules, bnd_rules, or_false, false_or, not_true_eq_false, not_false_eq_true, rect_eE, hkx]; rfl) (hn : ndO fr o := by exact t15a1) (hq : q := by exact t15a2) : AG W0 M0 dr calm E ops K (⟨d, o, t, p, af, none⟩ :: r) ⟨fr, H, n⟩ := lg_v h hn hq hk
theorem t15_26 (hk : AG W0 M0 dr calm E ops K r ⟨putD d c fr, H, n⟩) (h : aOp E fr H n o = .v q c := by simp only [op_rules, ev_rules, fr_rules, av_rules, rs_rules, eq_self, Nat.reduceEqDiff, reduceIte, bw, op_rules2, aLoad, loadRow, env_rules, tys, g_events, tiAgg, list_rules, opt_rules, map_rules, rows_get, rows_len, rows_drop, rows_take, rows_app, rows_nil, rows_set, Int.toNat_natCast, Int.reduceToNat, Nat.reduceAdd, Nat.reduceMul, Nat.reduceSub, Nat.reduceLeDiff, Nat.zero_add, Nat.add_zero, true_and, and_true, and_assoc, rect_eI, rect_eB, rect_eU, rect_eS, rect_eL, rect_nil, rect_cons, bytes_is, bytes_str, splice_rules, cell_rules, fill_rules, bnd_rules, or_false, false_or, not_true_eq_false, not_false_eq_true, rect_eE, hkx]; rfl) (hn : ndO fr o := by exact t15a1) (hq : q := by exact t15a2) : AG W0 M0 dr calm E ops K (⟨d, o, t, p, af, none⟩ :: r) ⟨fr, H, n⟩ := lg_v h hn hq hk
theorem t15_27 (hk : AG W0 M0 dr calm E ops K r ⟨putD d c fr, H', n'⟩) (h : aOp E fr H n o = .h q c H' n' := by simp only [op_rules, ev_rules, fr_rules, av_rules, rs_rules, eq_self, Nat.reduceEqDiff, reduceIte, bw, aAppend, rowsSrc, or_self, env_rules, tys, g_events, tiAgg, list_rules, opt_rules, map_rules, rows_get, rows_len, rows_drop, rows_take, rows_app, rows_nil, rows_set, Int.toNat_natCast, Int.reduceToNat, Nat.reduceAdd, Nat.reduceMul, Nat.reduceSub, Nat.reduceLeDiff, Nat.zero_add, Nat.add_zero, true_and, and_true, and_assoc, rect_eI, rect_eB, rect_eU, rect_eS, rect_eL, rect_nil, rect_cons, bytes_is, bytes_str, splice_rules, cell_rules, fill_rules, bnd_rules, or_false, false_or, not_true_eq_false, not_false_eq_true, rect_eE]; rfl) (hn : ndO fr o := by exact t15a1) (hq : q := by exact t15a2) (hl : (dr && growB calm d o) = true → HLe H H' := by exact (fun h => Bool.noConfusion (show false = true from h))) : AG W0 M0 dr calm E ops K (⟨d, o, t, p, af, none⟩ :: r) ⟨fr, H, n⟩ := lg_h h hn hq hl hk
theorem t15_28 {p : Prop} (h : p := by (simp only [w1, w2, w3, tys, k_rules, eq_self, Nat.reduceEqDiff, Nat.reduceLeDiff, Nat.reduceAdd, Nat.reduceSub, Nat.reduceMul, Int.toNat_natCast, Int.reduceToNat, Int.reduceNeg, List.mem_cons, List.not_mem_nil, or_false, false_or, not_true_eq_false, not_false_eq_true, bif_and, bif_or, reduceIte, true_and, and_true, and_assoc, true_implies, forall_const, implies_true, Bool.true_eq_false, Bool.false_eq_true, false_implies, rows_len, rows_get, rows_drop, rows_take, rows_app, rows_nil, rect_nil, rect_eI, rect_eB, rect_eU, rect_eS, rect_eL, rect_eE, w4]) <;> (repeat' apply And.intro) <;> (first | (first | rfl | trivial | exact kinds_len hkx out | exact kinds_rows hkx out | (rw [kinds_snoc hkx]; simp [rows, eE]; done) | (rw [kinds_snoc hkx]; simp; done) | exact Or.inr rfl | exact Or.inl rfl | (rw [kinds_snoc hkx])) | (first | rfl | exact Or.inr rfl | exact Or.inl rfl | trivial | omega | assumption | (simp; done) | (simp; omega)))) : p := h
end
def eventsG : List AV → Option (Prop × AV)
  | [.d (.sl xs), .d (.sl ys)] => some (xs = rows eE (dE xs) ∧ ys = rows eE (dE ys) ∧ (dE xs).length ≤ 9223372036854775807 ∧ (dE ys).length ≤ 9223372036854775807, .d (.bool (decide (dE xs = dE ys))))
  | _ => none
theorem ne_at {l m : List Ev} {i : Nat} {a b : Ev} (h1 : l[i]? = some a) (h2 : m[i]? = some b) (h : a ≠ b) : l ≠ m := by
  rintro rfl; rw [h1] at h2; exact h (Option.some.inj h2)
theorem take_at {l m : List Ev} {i : Nat} {a : Ev} (h1 : l[i]? = some a) (h2 : m[i]? = some a) (h : l.take i = m.take i) : l.take (i + 1) = m.take (i + 1) := by
  rw [List.take_add_one, List.take_add_one, h1, h2, h]
def planR (l : List UInt8) (ls : List Bool) : List Ev × Bool × Int × Int :=
  if l.length ≤ 4096 then if ls.length ≤ 100 then ((plan ls (framesOf l).length 200).1, (plan ls (framesOf l).length 200).2, 0, 0) else ([], false, 2, -2) else ([], false, 2, -1)
def planG : List AV → Option (Prop × AV)
  | [.d (.sl xs), .d (.sl bs)] => some (xs = rows eU (dU xs) ∧ bs = rows eB (dB bs) ∧ (dU xs).length ≤ 9223372036854775807 ∧ (dB bs).length ≤ 9223372036854775807,
      .tup [.d (.sl (rows eE (planR (dU xs) (dB bs)).1)), .d (.bool (planR (dU xs) (dB bs)).2.1), .agg [.d (.int .i64 (planR (dU xs) (dB bs)).2.2.1), .d (.int .i64 (planR (dU xs) (dB bs)).2.2.2)]])
  | _ => none
theorem kinds_snoc {K : List Int} {j : Nat} {x : Int} (h : K[j]? = some x) (out : List Ev) : out ++ (K.take (j + 1)).map (fun k => (k, (0 : Int))) = (out ++ (K.take j).map fun k => (k, (0 : Int))) ++ [(x, 0)] := by
  rw [List.take_add_one, h]; simp
theorem kinds_len {K : List Int} {j : Nat} {x : Int} (h : K[j]? = some x) (out : List Ev) : (out ++ (K.take j).map fun k => (k, (0 : Int))).length + 1 = (out ++ (K.take (j + 1)).map fun k => (k, (0 : Int))).length := by
  rw [kinds_snoc h, List.length_append (bs := [(x, 0)])]; rfl
theorem kinds_rows {K : List Int} {j : Nat} {x : Int} (h : K[j]? = some x) (out : List Ev) : rows eE ((out ++ (K.take j).map fun k => (k, (0 : Int))).take (out ++ (K.take j).map fun k => (k, (0 : Int))).length) ++ [[.int .i64 x, .int .i64 0]] = rows eE (out ++ (K.take (j + 1)).map fun k => (k, (0 : Int))) := by
  rw [kinds_snoc h, List.take_length]; simp only [rows, List.map_append]; rfl

theorem events_meets : Meets Try.prog 17 (Spec.pure eventsG) := by
 refine meets_fun (E_transferOf.at_ 26) Try.func17 rfl rfl rfl ?_
 intro args p r hg hp
 unfold eventsG at hg
 split at hg
 ·rename_i xs ys
  simp only [Option.some.injEq, Prod.mk.injEq] at hg
  obtain ⟨rfl, rfl⟩ := hg
  obtain ⟨hx, hy, hl, hm⟩ := hp
  generalize dE xs = l at *
  generalize dE ys = m at *
  subst hx hy
  refine ⟨by rfl, ?_⟩
  intro F W0 hnp hmk
  refine vc_seq_k fun N1 h1 => ?_
  refine vc_regG [] hmix (by kernel_rfl) ?_
  try refine lg_mk ?_
  refine t15_0 ?_
  refine lg_nil ?_
  refine h1 _ ?_; clear h1; try clear N1
  refine vc_seq_k fun N2 h2 => ?_
  refine vc_seq_k fun N3 h3 => ?_
  refine vc_regG [] hmix (by kernel_rfl) ?_
  try refine lg_mk ?_
  refine t15_0 ?_
  refine t15_1 ?_
  refine t15_0 ?_
  refine t15_1 ?_
  refine t15_2 ?_
  refine lg_nil ?_
  refine h3 _ ?_; clear h3; try clear N3
  refine vc_cond_k (by simp only [w1, w3, eq_self, Nat.reduceEqDiff, reduceIte]; rfl) (fun hb4 => ?_) (fun hb4 => ?_)
  ·try simp only [b_rules, bif_and, bif_or] at hb4
   refine vc_seq_k fun N5 h5 => ?_
   refine vc_regG [] hmix (by kernel_rfl) ?_
   try refine lg_mk ?_
   refine t15_0 ?_
   refine lg_nil ?_
   refine h5 _ ?_; clear h5; try clear N5
   refine vc_ret ?_
   try simp only [k_rules]
   have hr : decide (l = m) = false := decide_eq_false (fun h => by subst h; omega)
   rw [hr]
   exact t15_3
  ·try simp only [b_rules, bif_and, bif_or] at hb4
   refine vc_skip ?_
   try simp only [k_rules]
   refine h2 _ ?_; clear h2; try clear N2
   refine vc_seq_k fun N6 h6 => ?_
   refine vc_seq_k fun N7 h7 => ?_
   refine vc_regG [] hmix (by kernel_rfl) ?_
   try refine lg_mk ?_
   refine t15_0 ?_
   refine lg_nil ?_
   refine h7 _ ?_; clear h7; try clear N7
   refine vc_block ?_
   refine vc_loop_mk (σ := Nat) (fun s => (fun i => l.length = m.length ∧ i ≤ l.length ∧ l.take i = m.take i) s)
    (fun s => (fun i => [(0, .d (.sl (rows eE l))), (1, .d (.sl (rows eE m))), (5, .d (.int .i64 (i : Nat)))]) s)
    (fun s => (fun i => []) s) (fun s => (fun i => l.length - i) s) hnp 0 ?_ [] ?_ ?_
   ·dsimp only
    refine ⟨by omega, by omega, rfl⟩
   ·dsimp only
    refine ⟨by rfl, ?_, ?_⟩
    ·exact t15_4
    ·exact t15_4
   ·rintro i hinv N8 h8
    dsimp only at hinv ⊢
    obtain ⟨i1, i2, i3⟩ := hinv
    refine vc_seq_k fun N9 h9 => ?_
    refine vc_seq_k fun N10 h10 => ?_
    refine vc_regG [] hmix (by kernel_rfl) ?_
    try refine lg_mk ?_
    refine t15_0 ?_
    refine t15_0 ?_
    refine t15_1 ?_
    refine t15_2 ?_
    refine lg_nil ?_
    refine h10 _ ?_; clear h10; try clear N10
    refine vc_cond_k (by simp only [w1, w3, eq_self, Nat.reduceEqDiff, reduceIte]; rfl) (fun hb11 => ?_) (fun hb11 => ?_)
    ·try simp only [b_rules, bif_and, bif_or] at hb11
     obtain ⟨⟨a, b⟩, ha⟩ : ∃ e, l[i]? = some e := ⟨_, List.getElem?_eq_getElem (by omega)⟩
     obtain ⟨⟨c, d⟩, hc⟩ : ∃ e, m[i]? = some e := ⟨_, List.getElem?_eq_getElem (by omega)⟩
     refine vc_skip ?_
     try simp only [k_rules]
     refine h9 _ ?_; clear h9; try clear N9
     refine vc_seq_k fun N12 h12 => ?_
     refine vc_block ?_
     refine vc_seq_k fun N13 h13 => ?_
     refine vc_regG [] hmix (by kernel_rfl) ?_
     try refine lg_mk ?_
     refine t15_0 ?_
     refine t15_0 ?_
     refine t15_5 ?_
     refine t15_6 ?_
     refine t15_0 ?_
     refine t15_0 ?_
     refine t15_5 ?_
     refine t15_6 ?_
     refine lg_v (by simp only [op_rules, ev_rules, fr_rules, av_rules, rs_rules, eq_self, Nat.reduceEqDiff, reduceIte, bw, env_rules, tys, g_transferOf, tiAgg, bin_rules, ar_rules, str_rules, eq_rules, bit_rules, Bool.true_and, Bool.and_true, rect_eE, ha, hc, eE]; rfl) (by exact t15a1) (by exact t15a2) ?_
     refine lg_nil ?_
     refine h13 _ ?_; clear h13; try clear N13
     refine vc_cond_k (by simp only [w1, w3, eq_self, Nat.reduceEqDiff, reduceIte]; rfl) (fun hb14 => ?_) (fun hb14 => ?_)
     ·try simp only [b_rules, bif_and, bif_or] at hb14
      have hne := hb14
      refine vc_seq_k fun N15 h15 => ?_
      refine vc_regG [] hmix (by kernel_rfl) ?_
      try refine lg_mk ?_
      refine t15_0 ?_
      refine lg_nil ?_
      refine h15 _ ?_; clear h15; try clear N15
      refine vc_ret ?_
      try simp only [k_rules]
      have hr : decide (l = m) = false := decide_eq_false (ne_at ha hc (by simp_all))
      rw [hr]
      exact t15_3
     ·try simp only [b_rules, bif_and, bif_or] at hb14
      have hne := hb14
      refine vc_skip ?_
      try simp only [k_rules]
      refine h12 _ ?_; clear h12; try clear N12
      refine vc_regG [] hmix (by kernel_rfl) ?_
      try refine lg_mk ?_
      refine t15_0 ?_
      refine t15_2 ?_
      refine t15_0 ?_
      refine lg_nil ?_
      refine h8 _ ⟨i + 1, ?_, ?_, [], ?_⟩
      ·dsimp only
       refine ⟨i1, by omega, ?_⟩
       have he : a = c ∧ b = d := by simpa using hne
       obtain ⟨rfl, rfl⟩ := he
       exact take_at ha hc i3
      ·dsimp only
       omega
      ·dsimp only
       refine ⟨by rfl, ?_, ?_⟩
       ·exact t15_4
       ·exact t15_4
    ·try simp only [b_rules, bif_and, bif_or] at hb11
     refine vc_exit ?_
     simp only [k_rules, Nat.reduceEqDiff, reduceIte, eq_self]
     refine h6 _ ?_; clear h6; try clear N6
     refine vc_seq_k fun N16 h16 => ?_
     refine vc_regG [] hmix (by kernel_rfl) ?_
     try refine lg_mk ?_
     refine t15_0 ?_
     refine lg_nil ?_
     refine h16 _ ?_; clear h16; try clear N16
     refine vc_ret ?_
     try simp only [k_rules]
     have hr : decide (l = m) = true := decide_eq_true (by rw [List.take_of_length_le (by omega), List.take_of_length_le (by omega)] at i3; exact i3)
     rw [hr]
     exact t15_3
 ·cases hg

def E_events : Env Try.prog := E_transferOf.add 17 (Spec.pure eventsG) events_meets (by kernel_rfl)

theorem g_events : (E_events.X = T) ∧ (E_events.Γ 11 = some (Spec.pure faultG)) ∧ (E_events.Γ 18 = some (Spec.pure inG)) ∧ (E_events.Γ 16 = some (Spec.pure planOfG)) ∧ (E_events.Γ 20 = some (Spec.pure (cloneG 1 1))) ∧ (E_events.Γ 27 = some (Spec.gen (deleteG 3))) ∧ (E_events.Γ 25 = some (Spec.gen pickG)) ∧ (E_events.Γ 21 = some (Spec.gen stepG)) ∧ (E_events.Γ 19 = some (Spec.pure (chunkG 24))) ∧ (E_events.Γ 9 = some (Spec.pure framesG)) ∧ (E_events.Γ 12 = some (Spec.pure countG)) ∧ (E_events.Γ 13 = some (Spec.pure frameOfG)) ∧ (E_events.Γ 23 = some (Spec.fresh withoutG)) ∧ (E_events.Γ 26 = some (Spec.fresh growG)) ∧ (E_events.Γ 22 = some (Spec.pure concatG)) ∧ (E_events.Γ 10 = some (Spec.pure runG)) ∧ (E_events.Γ 14 = some (Spec.pure toG)) ∧ (E_events.Γ 17 = some (Spec.pure eventsG)) := ⟨rfl, rfl, rfl, rfl, rfl, rfl, rfl, rfl, rfl, rfl, rfl, rfl, rfl, rfl, rfl, rfl, rfl, rfl⟩

theorem planT_meets : Meets Try.prog 15 (Spec.pure planG) := by
 refine meets_fun (E_events.at_ 70) Try.func15 rfl rfl rfl ?_
 intro args p r hg hp
 unfold planG at hg
 split at hg
 ·rename_i xs bs
  simp only [Option.some.injEq, Prod.mk.injEq] at hg
  obtain ⟨rfl, rfl⟩ := hg
  obtain ⟨hx, hy, hl, hm⟩ := hp
  generalize dU xs = l at *
  generalize dB bs = lost at *
  subst hx hy
  have hfl := framesOf_len l
  refine ⟨by rfl, ?_⟩
  intro F W0 hnp hmk
  refine vc_seq_k fun N1 h1 => ?_
  refine vc_regG [] hmix (by kernel_rfl) ?_
  try refine lg_mk ?_
  refine t15_0 ?_
  refine t15_0 ?_
  refine lg_h (by simp only [op_rules, ev_rules, fr_rules, av_rules, rs_rules, eq_self, Nat.reduceEqDiff, reduceIte, bw, aAlloc, env_rules, tys, g_events, tiAgg, list_rules, opt_rules, map_rules, rows_get, rows_len, rows_drop, rows_take, rows_app, rows_nil, rows_set, Int.toNat_natCast, Int.reduceToNat, Nat.reduceAdd, Nat.reduceMul, Nat.reduceSub, Nat.reduceLeDiff, Nat.zero_add, Nat.add_zero, true_and, and_true, and_assoc, rect_eI, rect_eB, rect_eU, rect_eS, rect_eL, rect_nil, rect_cons, bytes_is, bytes_str, splice_rules, cell_rules, fill_rules, bnd_rules, or_false, false_or, not_true_eq_false, not_false_eq_true, rect_eE]; rfl) (by exact t15a1) (by exact t15a2) (fun h => Bool.noConfusion (show false = true from h)) ?_
  refine lg_nil ?_
  refine h1 _ ?_; clear h1; try clear N1
  refine vc_seq_k fun N2 h2 => ?_
  rcases Nat.lt_or_ge 4096 l.length with h4 | h4
  ·have hq : (l.length ≤ 4096) = False := eq_false (by omega)
   refine vc_regG [] hmix (by kernel_rfl) ?_
   try refine lg_mk ?_
   refine t15_0 ?_
   refine t15_7 ?_
   refine t15_0 ?_
   refine t15_8 ?_
   refine t15_8 ?_
   refine t15_9 ?_
   refine t15_0 ?_
   refine t15_10 ?_
   refine lg_nil ?_
   refine h2 _ ?_; clear h2; try clear N2
   refine vc_seq_k fun N3 h3 => ?_
   refine vc_seq_k fun N4 h4 => ?_
   refine vc_regG [] hmix (by kernel_rfl) ?_
   try refine lg_mk ?_
   refine t15_11 ?_
   refine t15_12 ?_
   refine t15_13 ?_
   refine lg_nil ?_
   refine h4 _ ?_; clear h4; try clear N4
   refine vc_cond_k (by simp only [w1, w3, eq_self, Nat.reduceEqDiff, reduceIte]; rfl) (fun hb5 => ?_) (fun hb5 => ?_)
   ·try simp only [b_rules, bif_and, bif_or] at hb5
    refine vc_seq_k fun N6 h6 => ?_
    refine vc_regG [] hmix (by kernel_rfl) ?_
    try refine lg_mk ?_
    refine t15_11 ?_
    refine t15_0 ?_
    refine t15_0 ?_
    refine lg_h (by exact t15a3) (by exact t15a1) (by exact t15a2) (by first | exact (fun h => Bool.noConfusion (show false = true from h)) | exact hle_refl _ _ _ _ _ | exact hle_getB _ _ _ _ (by simp only [le_rules, eq_self, and_true, true_and])) ?_
    refine lg_nil ?_
    refine h6 _ ?_; clear h6; try clear N6
    refine vc_ret ?_
    try simp only [k_rules]
    have hr : planR l lost = ([], false, 2, -1) := by simp [planR, hq]
    rw [hr]
    exact t15_14
   ·try simp only [b_rules, bif_and, bif_or] at hb5
    first | omega | exact absurd trivial hb5 | contradiction | (simp_all; done)
  ·have hq : (l.length ≤ 4096) = True := eq_true (by omega)
   refine vc_regG [] hmix (by kernel_rfl) ?_
   try refine lg_mk ?_
   refine t15_0 ?_
   refine t15_7 ?_
   refine t15_0 ?_
   refine t15_8 ?_
   refine t15_8 ?_
   refine t15_9 ?_
   refine t15_0 ?_
   refine t15_10 ?_
   refine lg_nil ?_
   refine h2 _ ?_; clear h2; try clear N2
   refine vc_seq_k fun N7 h7 => ?_
   refine vc_seq_k fun N8 h8 => ?_
   refine vc_regG [] hmix (by kernel_rfl) ?_
   try refine lg_mk ?_
   refine t15_11 ?_
   refine t15_12 ?_
   refine t15_13 ?_
   refine lg_nil ?_
   refine h8 _ ?_; clear h8; try clear N8
   refine vc_cond_k (by simp only [w1, w3, eq_self, Nat.reduceEqDiff, reduceIte]; rfl) (fun hb9 => ?_) (fun hb9 => ?_)
   ·try simp only [b_rules, bif_and, bif_or] at hb9
    first | omega | exact absurd trivial hb9 | contradiction | (simp_all; done)
   ·try simp only [b_rules, bif_and, bif_or] at hb9
    refine vc_skip ?_
    try simp only [k_rules]
    refine h7 _ ?_; clear h7; try clear N7
    refine vc_seq_k fun N10 h10 => ?_
    refine vc_seq_k fun N11 h11 => ?_
    refine vc_regG [] hmix (by kernel_rfl) ?_
    try refine lg_mk ?_
    refine t15_0 ?_
    refine t15_15 ?_
    refine t15_13 ?_
    refine lg_nil ?_
    refine h11 _ ?_; clear h11; try clear N11
    refine vc_cond_k (by simp only [w1, w3, eq_self, Nat.reduceEqDiff, reduceIte]; rfl) (fun hb12 => ?_) (fun hb12 => ?_)
    ·try simp only [b_rules, bif_and, bif_or] at hb12
     refine vc_seq_k fun N13 h13 => ?_
     refine vc_regG [] hmix (by kernel_rfl) ?_
     try refine lg_mk ?_
     refine t15_12 ?_
     refine t15_0 ?_
     refine t15_0 ?_
     refine t15_16 ?_
     refine lg_nil ?_
     refine h13 _ ?_; clear h13; try clear N13
     refine vc_ret ?_
     try simp only [k_rules]
     have hr : planR l lost = ([], false, 2, -2) := by
      unfold planR; rw [if_pos (by omega), if_neg (by omega)]
     rw [hr]
     exact t15_14
    ·try simp only [b_rules, bif_and, bif_or] at hb12
     refine vc_skip ?_
     try simp only [k_rules]
     refine h10 _ ?_; clear h10; try clear N10
     refine vc_seq_k fun N14 h14 => ?_
     refine vc_regG [] hmix (by kernel_rfl) ?_
     try refine lg_mk ?_
     refine t15_0 ?_
     refine lg_nil ?_
     refine h14 _ ?_; clear h14; try clear N14
     refine vc_seq_k fun N15 h15 => ?_
     refine vc_seq_k fun N16 h16 => ?_
     refine vc_regG [] hmix (by kernel_rfl) ?_
     try refine lg_mk ?_
     refine t15_0 ?_
     refine t15_0 ?_
     refine lg_nil ?_
     refine h16 _ ?_; clear h16; try clear N16
     refine vc_block ?_
     refine vc_loop_mk (σ := Nat × Nat × List Ev) (fun s => (fun k sent out => sent ≤ (framesOf l).length ∧ out.length ≤ 200 ∧ k ≤ out.length ∧ plan lost (framesOf l).length 200 = (out ++ (plan (lost.drop k) ((framesOf l).length - sent) (200 - out.length)).1, (plan (lost.drop k) ((framesOf l).length - sent) (200 - out.length)).2)) (s.1) (s.2.1) (s.2.2))
      (fun s => (fun k sent out => [(1, .d (.sl (rows eB lost))), (6, .ptr 0 0 0), (7, .d (.sl (rows (eL eU) (framesOf l)))), (9, .sl 2 0 out.length), (10, .d (.int .i64 (sent : Nat))), (11, .d (.int .i64 (k : Nat)))]) (s.1) (s.2.1) (s.2.2))
      (fun s => (fun k sent out => [some (.one 27 [.d (.int .i64 0), .d (.int .i64 0)]), some (.one 27 [.d (.int .i64 0), .d (.int .i64 0)]), some (.vec 48 2 (rows eE out))]) (s.1) (s.2.1) (s.2.2)) (fun s => (fun k sent out => 200 - out.length) (s.1) (s.2.1) (s.2.2)) hnp (0, 0, []) ?_ [some 0, some 1, none] ?_ ?_
     ·dsimp only
      simp
     ·dsimp only
      refine ⟨by rfl, ?_, ?_⟩
      ·exact t15_4
      ·exact t15_4
     ·rintro ⟨k, sent, out⟩ hinv N17 h17
      dsimp only at hinv ⊢
      obtain ⟨i2, i3, i5, i4⟩ := hinv
      refine vc_seq_k fun N18 h18 => ?_
      refine vc_seq_k fun N19 h19 => ?_
      refine vc_regG [] hmix (by kernel_rfl) ?_
      try refine lg_mk ?_
      refine t15_0 ?_
      refine t15_0 ?_
      refine t15_15 ?_
      refine t15_13 ?_
      refine lg_nil ?_
      refine h19 _ ?_; clear h19; try clear N19
      refine vc_cond_k (by simp only [w1, w3, eq_self, Nat.reduceEqDiff, reduceIte]; rfl) (fun hb20 => ?_) (fun hb20 => ?_)
      ·try simp only [b_rules, bif_and, bif_or] at hb20
       refine vc_skip ?_
       try simp only [k_rules]
       refine h18 _ ?_; clear h18; try clear N18
       refine vc_seq_k fun N21 h21 => ?_
       refine vc_block ?_
       refine vc_seq_k fun N22 h22 => ?_
       refine vc_regG [] hmix (by kernel_rfl) ?_
       try refine lg_mk ?_
       refine t15_17 ?_
       refine t15_0 ?_
       refine lg_nil ?_
       refine h22 _ ?_; clear h22; try clear N22
       refine vc_seq_k fun N23 h23 => ?_
       refine vc_seq_k fun N24 h24 => ?_
       rcases Nat.lt_or_ge k lost.length with hk | hk
       ·obtain ⟨b, hkb⟩ : ∃ b, lost[k]? = some b := ⟨_, List.getElem?_eq_getElem hk⟩
        have hk' : decide ((k : Int) < (lost.length : Int)) = true := by simp; omega
        refine vc_regG [] hmix (by kernel_rfl) ?_
        try refine lg_mk ?_
        refine t15_0 ?_
        refine t15_0 ?_
        refine t15_18 ?_
        refine t15_19 ?_
        refine t15_0 ?_
        first | (refine lg_g0 ?_ ?_; focus (simp only [guard_rules, list_rules, opt_bind, fr_rules, eq_self, Nat.reduceEqDiff, reduceIte, bool_rules, hkb, hk']; done)) | refine t15_20 ?_
        first | (refine lg_g0 ?_ ?_; focus (simp only [guard_rules, list_rules, opt_bind, fr_rules, eq_self, Nat.reduceEqDiff, reduceIte, bool_rules, hkb, hk']; done)) | refine t15_20 ?_
        first | (refine lg_g0 ?_ ?_; focus (simp only [guard_rules, list_rules, opt_bind, fr_rules, eq_self, Nat.reduceEqDiff, reduceIte, bool_rules, hkb, hk']; done)) | refine t15_21 ?_
        first | (refine lg_g0 ?_ ?_; focus (simp only [guard_rules, list_rules, opt_bind, fr_rules, eq_self, Nat.reduceEqDiff, reduceIte, bool_rules, hkb, hk']; done)) | refine t15_22 ?_
        refine t15_23 ?_
        refine lg_nil ?_
        refine h24 _ ?_; clear h24; try clear N24
        refine vc_cond_k (by simp only [w1, w3, eq_self, Nat.reduceEqDiff, reduceIte]; rfl) (fun hb25 => ?_) (fun hb25 => ?_)
        ·try simp only [b_rules, bif_and, bif_or] at hb25
         subst hb25
         rw [plan_t hkb (by omega)] at i4
         refine vc_regG [] hmix (by kernel_rfl) ?_
         try refine lg_mk ?_
         refine t15_17 ?_
         refine t15_0 ?_
         refine lg_nil ?_
         refine h23 _ ?_; clear h23; try clear N23
         refine vc_seq_k fun N26 h26 => ?_
         refine vc_seq_k fun N27 h27 => ?_
         refine vc_regG [] hmix (by kernel_rfl) ?_
         try refine lg_mk ?_
         refine t15_0 ?_
         refine t15_15 ?_
         refine t15_0 ?_
         refine t15_15 ?_
         refine t15_13 ?_
         refine t15_13 ?_
         refine lg_nil ?_
         refine h27 _ ?_; clear h27; try clear N27
         refine vc_cond_k (by simp only [w1, w3, eq_self, Nat.reduceEqDiff, reduceIte]; rfl) (fun hb28 => ?_) (fun hb28 => ?_)
         ·try simp only [b_rules, bif_and, bif_or] at hb28
          refine vc_seq_k fun N29 h29 => ?_
          refine vc_regG [] hmix (by kernel_rfl) ?_
          try refine lg_mk ?_
          refine t15_0 ?_
          refine t15_12 ?_
          refine t15_0 ?_
          refine t15_0 ?_
          refine t15_16 ?_
          refine lg_nil ?_
          refine h29 _ ?_; clear h29; try clear N29
          refine vc_ret ?_
          try simp only [k_rules]
          rw [if_pos (by omega)] at i4
          have hr : planR l lost = (out, false, 0, 0) := by
           unfold planR; rw [if_pos (by omega), if_pos (by omega), i4, List.append_nil]
          rw [hr]
          exact t15_14
         ·try simp only [b_rules, bif_and, bif_or] at hb28
          refine vc_skip ?_
          try simp only [k_rules]
          refine h26 _ ?_; clear h26; try clear N26
          refine vc_seq_k fun N30 h30 => ?_
          refine vc_regG [] hmix (by kernel_rfl) ?_
          try refine lg_mk ?_
          refine t15_0 ?_
          refine t15_15 ?_
          refine t15_0 ?_
          refine lg_nil ?_
          refine h30 _ ?_; clear h30; try clear N30
          refine vc_block ?_
          obtain ⟨K, hK⟩ : ∃ K : List Int, K = [1, 3] := ⟨_, rfl⟩
          have hKl : K.length = 2 := by rw [hK]; rfl
          refine vc_loop_mk (σ := Nat) (fun s => (fun j => j ≤ 2) s)
           (fun s => (fun j => [(1, .d (.sl (rows eB lost))), (6, .ptr 0 0 0), (7, .d (.sl (rows (eL eU) (framesOf l)))), (9, .sl 2 0 (out ++ (K.take j).map fun k => (k, (0 : Int))).length), (10, .d (.int .i64 (sent : Nat))), (11, .d (.int .i64 (k : Nat))), (56, .sl 3 0 2), (57, .d (.int .i64 2)), (58, .d (.int .i64 (j : Nat)))]) s)
           (fun s => (fun j => [some (.one 27 [.d (.int .i64 0), .d (.int .i64 0)]), some (.one 27 [.d (.int .i64 0), .d (.int .i64 0)]), some (.vec 48 2 (rows eE (out ++ (K.take j).map fun k => (k, (0 : Int))))), some (.vec 3 1 (rows eI K))]) s) (fun s => (fun j => 2 - j) s) hnp 0 ?_ [some 0, some 1, some 2, some 4] ?_ ?_
          ·dsimp only
           omega
          ·dsimp only
           refine ⟨by rfl, ?_, ?_⟩
           ·exact t15_24
           ·exact t15_24
          ·rintro j hinv N31 h31
           dsimp only at hinv ⊢
           have hj := hinv
           refine vc_seq_k fun N32 h32 => ?_
           refine vc_regG [] hmix (by kernel_rfl) ?_
           try refine lg_mk ?_
           refine t15_13 ?_
           refine lg_nil ?_
           refine h32 _ ?_; clear h32; try clear N32
           refine vc_seq_k fun N33 h33 => ?_
           refine vc_cond_k (by simp only [w1, w3, eq_self, Nat.reduceEqDiff, reduceIte]; rfl) (fun hb34 => ?_) (fun hb34 => ?_)
           ·try simp only [b_rules, bif_and, bif_or] at hb34
            obtain ⟨kx, hkx⟩ : ∃ x, K[j]? = some x := ⟨_, List.getElem?_eq_getElem (by rw [hKl]; omega)⟩
            refine vc_skip ?_
            try simp only [k_rules]
            refine h33 _ ?_; clear h33; try clear N33
            refine vc_seq_k fun N35 h35 => ?_
            refine vc_block ?_
            refine vc_seq_k fun N36 h36 => ?_
            refine vc_regG [] hmix (by kernel_rfl) ?_
            try refine lg_mk ?_
            refine t15_25 ?_
            refine t15_26 ?_
            refine t15_0 ?_
            refine lg_nil ?_
            refine h36 _ ?_; clear h36; try clear N36
            refine vc_regG [] hmix (by kernel_rfl) ?_
            try refine lg_mk ?_
            refine t15_0 ?_
            refine t15_0 ?_
            refine t15_12 ?_
            refine t15_17 ?_
            refine t15_27 ?_
            refine t15_0 ?_
            refine lg_nil ?_
            refine h35 _ ?_; clear h35; try clear N35
            refine vc_regG [] hmix (by kernel_rfl) ?_
            try refine lg_mk ?_
            refine t15_13 ?_
            refine t15_0 ?_
            refine lg_nil ?_
            refine h31 _ ⟨j + 1, ?_, ?_, [some 0, some 1, some 5, some 3], ?_⟩
            ·dsimp only
             omega
            ·dsimp only
             omega
            ·dsimp only
             refine ⟨by rfl, ?_, ?_⟩
             ·exact t15_28
             ·exact t15_28
           ·try simp only [b_rules, bif_and, bif_or] at hb34
            obtain rfl : j = 2 := by omega
            subst hK
            try simp only [List.take_succ_cons, List.take_zero, List.map_cons, List.map_nil, List.take_nil]
            refine vc_exit ?_
            simp only [k_rules, Nat.reduceEqDiff, reduceIte, eq_self]
            refine h21 _ ?_; clear h21; try clear N21
            refine vc_regG [] hmix (by kernel_rfl) ?_
            try refine lg_mk ?_
            refine t15_0 ?_
            refine t15_13 ?_
            refine t15_0 ?_
            refine lg_nil ?_
            rw [if_neg (by omega)] at i4
            refine h17 _ ⟨(k + 1, sent, out ++ [(1, 0), (3, 0)]), ?_, ?_, [some 0, some 1, some 2], ?_⟩
            ·dsimp only
             refine ⟨by omega, by simp; omega, by simp; omega, ?_⟩
             rw [i4, Nat.sub_sub]
             simp [Nat.sub_sub]
            ·dsimp only
             simp; omega
            ·dsimp only
             refine ⟨by rfl, ?_, ?_⟩
             ·exact t15_4
             ·exact t15_4
        ·try simp only [b_rules, bif_and, bif_or] at hb25
         subst hb25
         rw [plan_f (.inl hkb) (by omega)] at i4
         refine vc_regG [] hmix (by kernel_rfl) ?_
         try refine lg_mk ?_
         refine t15_0 ?_
         refine t15_13 ?_
         refine t15_0 ?_
         refine lg_nil ?_
         refine h23 _ ?_; clear h23; try clear N23
         refine vc_seq_k fun N37 h37 => ?_
         refine vc_seq_k fun N38 h38 => ?_
         refine vc_regG [] hmix (by kernel_rfl) ?_
         try refine lg_mk ?_
         refine t15_0 ?_
         refine t15_15 ?_
         refine t15_0 ?_
         refine t15_15 ?_
         refine t15_13 ?_
         refine t15_13 ?_
         refine lg_nil ?_
         refine h38 _ ?_; clear h38; try clear N38
         refine vc_cond_k (by simp only [w1, w3, eq_self, Nat.reduceEqDiff, reduceIte]; rfl) (fun hb39 => ?_) (fun hb39 => ?_)
         ·try simp only [b_rules, bif_and, bif_or] at hb39
          refine vc_seq_k fun N40 h40 => ?_
          refine vc_regG [] hmix (by kernel_rfl) ?_
          try refine lg_mk ?_
          refine t15_0 ?_
          refine t15_12 ?_
          refine t15_0 ?_
          refine t15_0 ?_
          refine t15_16 ?_
          refine lg_nil ?_
          refine h40 _ ?_; clear h40; try clear N40
          refine vc_ret ?_
          try simp only [k_rules]
          rw [if_pos (by omega)] at i4
          have hr : planR l lost = (out, false, 0, 0) := by
           unfold planR; rw [if_pos (by omega), if_pos (by omega), i4, List.append_nil]
          rw [hr]
          exact t15_14
         ·try simp only [b_rules, bif_and, bif_or] at hb39
          refine vc_skip ?_
          try simp only [k_rules]
          refine h37 _ ?_; clear h37; try clear N37
          refine vc_seq_k fun N41 h41 => ?_
          refine vc_regG [] hmix (by kernel_rfl) ?_
          try refine lg_mk ?_
          refine t15_0 ?_
          refine t15_15 ?_
          refine t15_0 ?_
          refine lg_nil ?_
          refine h41 _ ?_; clear h41; try clear N41
          refine vc_block ?_
          obtain ⟨K, hK⟩ : ∃ K : List Int, K = [1, 2, 5] := ⟨_, rfl⟩
          have hKl : K.length = 3 := by rw [hK]; rfl
          refine vc_loop_mk (σ := Nat) (fun s => (fun j => j ≤ 3) s)
           (fun s => (fun j => [(1, .d (.sl (rows eB lost))), (6, .ptr 0 0 0), (7, .d (.sl (rows (eL eU) (framesOf l)))), (9, .sl 2 0 (out ++ (K.take j).map fun k => (k, (0 : Int))).length), (10, .d (.int .i64 (sent + 1 : Nat))), (11, .d (.int .i64 (k : Nat))), (56, .sl 3 0 3), (57, .d (.int .i64 3)), (58, .d (.int .i64 (j : Nat)))]) s)
           (fun s => (fun j => [some (.one 27 [.d (.int .i64 0), .d (.int .i64 0)]), some (.one 27 [.d (.int .i64 0), .d (.int .i64 0)]), some (.vec 48 2 (rows eE (out ++ (K.take j).map fun k => (k, (0 : Int))))), some (.vec 3 1 (rows eI K))]) s) (fun s => (fun j => 3 - j) s) hnp 0 ?_ [some 0, some 1, some 2, some 3] ?_ ?_
          ·dsimp only
           omega
          ·dsimp only
           refine ⟨by rfl, ?_, ?_⟩
           ·exact t15_24
           ·exact t15_24
          ·rintro j hinv N42 h42
           dsimp only at hinv ⊢
           have hj := hinv
           refine vc_seq_k fun N43 h43 => ?_
           refine vc_regG [] hmix (by kernel_rfl) ?_
           try refine lg_mk ?_
           refine t15_13 ?_
           refine lg_nil ?_
           refine h43 _ ?_; clear h43; try clear N43
           refine vc_seq_k fun N44 h44 => ?_
           refine vc_cond_k (by simp only [w1, w3, eq_self, Nat.reduceEqDiff, reduceIte]; rfl) (fun hb45 => ?_) (fun hb45 => ?_)
           ·try simp only [b_rules, bif_and, bif_or] at hb45
            obtain ⟨kx, hkx⟩ : ∃ x, K[j]? = some x := ⟨_, List.getElem?_eq_getElem (by rw [hKl]; omega)⟩
            refine vc_skip ?_
            try simp only [k_rules]
            refine h44 _ ?_; clear h44; try clear N44
            refine vc_seq_k fun N46 h46 => ?_
            refine vc_block ?_
            refine vc_seq_k fun N47 h47 => ?_
            refine vc_regG [] hmix (by kernel_rfl) ?_
            try refine lg_mk ?_
            refine t15_25 ?_
            refine t15_26 ?_
            refine t15_0 ?_
            refine lg_nil ?_
            refine h47 _ ?_; clear h47; try clear N47
            refine vc_regG [] hmix (by kernel_rfl) ?_
            try refine lg_mk ?_
            refine t15_0 ?_
            refine t15_0 ?_
            refine t15_12 ?_
            refine t15_17 ?_
            refine t15_27 ?_
            refine t15_0 ?_
            refine lg_nil ?_
            refine h46 _ ?_; clear h46; try clear N46
            refine vc_regG [] hmix (by kernel_rfl) ?_
            try refine lg_mk ?_
            refine t15_13 ?_
            refine t15_0 ?_
            refine lg_nil ?_
            refine h42 _ ⟨j + 1, ?_, ?_, [some 0, some 1, some 5, some 3], ?_⟩
            ·dsimp only
             omega
            ·dsimp only
             omega
            ·dsimp only
             refine ⟨by rfl, ?_, ?_⟩
             ·exact t15_28
             ·exact t15_28
           ·try simp only [b_rules, bif_and, bif_or] at hb45
            obtain rfl : j = 3 := by omega
            subst hK
            try simp only [List.take_succ_cons, List.take_zero, List.map_cons, List.map_nil, List.take_nil]
            refine vc_exit ?_
            simp only [k_rules, Nat.reduceEqDiff, reduceIte, eq_self]
            refine h21 _ ?_; clear h21; try clear N21
            refine vc_regG [] hmix (by kernel_rfl) ?_
            try refine lg_mk ?_
            refine t15_0 ?_
            refine t15_13 ?_
            refine t15_0 ?_
            refine lg_nil ?_
            rw [if_neg (by omega)] at i4
            refine h17 _ ⟨(k + 1, sent + 1, out ++ [(1, 0), (2, 0), (5, 0)]), ?_, ?_, [some 0, some 1, some 2], ?_⟩
            ·dsimp only
             refine ⟨by omega, by simp; omega, by simp; omega, ?_⟩
             rw [i4, Nat.sub_sub]
             simp [Nat.sub_sub]
            ·dsimp only
             simp; omega
            ·dsimp only
             refine ⟨by rfl, ?_, ?_⟩
             ·exact t15_4
             ·exact t15_4
       ·have hkb : lost[k]? = none := List.getElem?_eq_none hk
        have hk' : decide ((k : Int) < (lost.length : Int)) = false := by simp; omega
        refine vc_regG [] hmix (by kernel_rfl) ?_
        try refine lg_mk ?_
        refine t15_0 ?_
        refine t15_0 ?_
        refine t15_18 ?_
        refine t15_19 ?_
        refine t15_0 ?_
        first | (refine lg_g0 ?_ ?_; focus (simp only [guard_rules, list_rules, opt_bind, fr_rules, eq_self, Nat.reduceEqDiff, reduceIte, bool_rules, hkb, hk']; done)) | refine t15_20 ?_
        first | (refine lg_g0 ?_ ?_; focus (simp only [guard_rules, list_rules, opt_bind, fr_rules, eq_self, Nat.reduceEqDiff, reduceIte, bool_rules, hkb, hk']; done)) | refine t15_20 ?_
        first | (refine lg_g0 ?_ ?_; focus (simp only [guard_rules, list_rules, opt_bind, fr_rules, eq_self, Nat.reduceEqDiff, reduceIte, bool_rules, hkb, hk']; done)) | refine t15_21 ?_
        first | (refine lg_g0 ?_ ?_; focus (simp only [guard_rules, list_rules, opt_bind, fr_rules, eq_self, Nat.reduceEqDiff, reduceIte, bool_rules, hkb, hk']; done)) | refine t15_22 ?_
        refine t15_23 ?_
        refine lg_nil ?_
        refine h24 _ ?_; clear h24; try clear N24
        refine vc_cond_k (by simp only [w1, w3, eq_self, Nat.reduceEqDiff, reduceIte]; rfl) (fun hb48 => ?_) (fun hb48 => ?_)
        ·try simp only [b_rules, bif_and, bif_or] at hb48
         cases hb48
        ·try simp only [b_rules, bif_and, bif_or] at hb48
         rw [plan_f (.inr hkb) (by omega)] at i4
         refine vc_regG [] hmix (by kernel_rfl) ?_
         try refine lg_mk ?_
         refine t15_0 ?_
         refine t15_13 ?_
         refine t15_0 ?_
         refine lg_nil ?_
         refine h23 _ ?_; clear h23; try clear N23
         refine vc_seq_k fun N49 h49 => ?_
         refine vc_seq_k fun N50 h50 => ?_
         refine vc_regG [] hmix (by kernel_rfl) ?_
         try refine lg_mk ?_
         refine t15_0 ?_
         refine t15_15 ?_
         refine t15_0 ?_
         refine t15_15 ?_
         refine t15_13 ?_
         refine t15_13 ?_
         refine lg_nil ?_
         refine h50 _ ?_; clear h50; try clear N50
         refine vc_cond_k (by simp only [w1, w3, eq_self, Nat.reduceEqDiff, reduceIte]; rfl) (fun hb51 => ?_) (fun hb51 => ?_)
         ·try simp only [b_rules, bif_and, bif_or] at hb51
          refine vc_seq_k fun N52 h52 => ?_
          refine vc_regG [] hmix (by kernel_rfl) ?_
          try refine lg_mk ?_
          refine t15_0 ?_
          refine t15_12 ?_
          refine t15_0 ?_
          refine t15_0 ?_
          refine t15_16 ?_
          refine lg_nil ?_
          refine h52 _ ?_; clear h52; try clear N52
          refine vc_ret ?_
          try simp only [k_rules]
          rw [if_pos (by omega)] at i4
          have hr : planR l lost = (out, false, 0, 0) := by
           unfold planR; rw [if_pos (by omega), if_pos (by omega), i4, List.append_nil]
          rw [hr]
          exact t15_14
         ·try simp only [b_rules, bif_and, bif_or] at hb51
          refine vc_skip ?_
          try simp only [k_rules]
          refine h49 _ ?_; clear h49; try clear N49
          refine vc_seq_k fun N53 h53 => ?_
          refine vc_regG [] hmix (by kernel_rfl) ?_
          try refine lg_mk ?_
          refine t15_0 ?_
          refine t15_15 ?_
          refine t15_0 ?_
          refine lg_nil ?_
          refine h53 _ ?_; clear h53; try clear N53
          refine vc_block ?_
          obtain ⟨K, hK⟩ : ∃ K : List Int, K = [1, 2, 5] := ⟨_, rfl⟩
          have hKl : K.length = 3 := by rw [hK]; rfl
          refine vc_loop_mk (σ := Nat) (fun s => (fun j => j ≤ 3) s)
           (fun s => (fun j => [(1, .d (.sl (rows eB lost))), (6, .ptr 0 0 0), (7, .d (.sl (rows (eL eU) (framesOf l)))), (9, .sl 2 0 (out ++ (K.take j).map fun k => (k, (0 : Int))).length), (10, .d (.int .i64 (sent + 1 : Nat))), (11, .d (.int .i64 (k : Nat))), (56, .sl 3 0 3), (57, .d (.int .i64 3)), (58, .d (.int .i64 (j : Nat)))]) s)
           (fun s => (fun j => [some (.one 27 [.d (.int .i64 0), .d (.int .i64 0)]), some (.one 27 [.d (.int .i64 0), .d (.int .i64 0)]), some (.vec 48 2 (rows eE (out ++ (K.take j).map fun k => (k, (0 : Int))))), some (.vec 3 1 (rows eI K))]) s) (fun s => (fun j => 3 - j) s) hnp 0 ?_ [some 0, some 1, some 2, some 3] ?_ ?_
          ·dsimp only
           omega
          ·dsimp only
           refine ⟨by rfl, ?_, ?_⟩
           ·exact t15_24
           ·exact t15_24
          ·rintro j hinv N54 h54
           dsimp only at hinv ⊢
           have hj := hinv
           refine vc_seq_k fun N55 h55 => ?_
           refine vc_regG [] hmix (by kernel_rfl) ?_
           try refine lg_mk ?_
           refine t15_13 ?_
           refine lg_nil ?_
           refine h55 _ ?_; clear h55; try clear N55
           refine vc_seq_k fun N56 h56 => ?_
           refine vc_cond_k (by simp only [w1, w3, eq_self, Nat.reduceEqDiff, reduceIte]; rfl) (fun hb57 => ?_) (fun hb57 => ?_)
           ·try simp only [b_rules, bif_and, bif_or] at hb57
            obtain ⟨kx, hkx⟩ : ∃ x, K[j]? = some x := ⟨_, List.getElem?_eq_getElem (by rw [hKl]; omega)⟩
            refine vc_skip ?_
            try simp only [k_rules]
            refine h56 _ ?_; clear h56; try clear N56
            refine vc_seq_k fun N58 h58 => ?_
            refine vc_block ?_
            refine vc_seq_k fun N59 h59 => ?_
            refine vc_regG [] hmix (by kernel_rfl) ?_
            try refine lg_mk ?_
            refine t15_25 ?_
            refine t15_26 ?_
            refine t15_0 ?_
            refine lg_nil ?_
            refine h59 _ ?_; clear h59; try clear N59
            refine vc_regG [] hmix (by kernel_rfl) ?_
            try refine lg_mk ?_
            refine t15_0 ?_
            refine t15_0 ?_
            refine t15_12 ?_
            refine t15_17 ?_
            refine t15_27 ?_
            refine t15_0 ?_
            refine lg_nil ?_
            refine h58 _ ?_; clear h58; try clear N58
            refine vc_regG [] hmix (by kernel_rfl) ?_
            try refine lg_mk ?_
            refine t15_13 ?_
            refine t15_0 ?_
            refine lg_nil ?_
            refine h54 _ ⟨j + 1, ?_, ?_, [some 0, some 1, some 5, some 3], ?_⟩
            ·dsimp only
             omega
            ·dsimp only
             omega
            ·dsimp only
             refine ⟨by rfl, ?_, ?_⟩
             ·exact t15_28
             ·exact t15_28
           ·try simp only [b_rules, bif_and, bif_or] at hb57
            obtain rfl : j = 3 := by omega
            subst hK
            try simp only [List.take_succ_cons, List.take_zero, List.map_cons, List.map_nil, List.take_nil]
            refine vc_exit ?_
            simp only [k_rules, Nat.reduceEqDiff, reduceIte, eq_self]
            refine h21 _ ?_; clear h21; try clear N21
            refine vc_regG [] hmix (by kernel_rfl) ?_
            try refine lg_mk ?_
            refine t15_0 ?_
            refine t15_13 ?_
            refine t15_0 ?_
            refine lg_nil ?_
            rw [if_neg (by omega)] at i4
            refine h17 _ ⟨(k + 1, sent + 1, out ++ [(1, 0), (2, 0), (5, 0)]), ?_, ?_, [some 0, some 1, some 2], ?_⟩
            ·dsimp only
             refine ⟨by omega, by simp; omega, by simp; omega, ?_⟩
             rw [i4, Nat.sub_sub]
             simp [Nat.sub_sub]
            ·dsimp only
             simp; omega
            ·dsimp only
             refine ⟨by rfl, ?_, ?_⟩
             ·exact t15_4
             ·exact t15_4
      ·try simp only [b_rules, bif_and, bif_or] at hb20
       refine vc_exit ?_
       simp only [k_rules, Nat.reduceEqDiff, reduceIte, eq_self]
       refine h15 _ ?_; clear h15; try clear N15
       refine vc_seq_k fun N60 h60 => ?_
       refine vc_regG [] hmix (by kernel_rfl) ?_
       try refine lg_mk ?_
       refine t15_0 ?_
       refine t15_12 ?_
       refine t15_0 ?_
       refine t15_0 ?_
       refine t15_16 ?_
       refine lg_nil ?_
       refine h60 _ ?_; clear h60; try clear N60
       refine vc_ret ?_
       try simp only [k_rules]
       have e0 : (framesOf l).length - sent = 0 := by omega
       rw [e0, plan_zero] at i4
       have hr : planR l lost = (out, true, 0, 0) := by
        unfold planR; rw [if_pos (by omega), if_pos (by omega), i4, List.append_nil]
       rw [hr]
       exact t15_14
 ·cases hg

def E_planT : Env Try.prog := E_events.add 15 (Spec.pure planG) planT_meets (by kernel_rfl)

theorem g_planT : (E_planT.X = T) ∧ (E_planT.Γ 11 = some (Spec.pure faultG)) ∧ (E_planT.Γ 18 = some (Spec.pure inG)) ∧ (E_planT.Γ 16 = some (Spec.pure planOfG)) ∧ (E_planT.Γ 20 = some (Spec.pure (cloneG 1 1))) ∧ (E_planT.Γ 27 = some (Spec.gen (deleteG 3))) ∧ (E_planT.Γ 25 = some (Spec.gen pickG)) ∧ (E_planT.Γ 21 = some (Spec.gen stepG)) ∧ (E_planT.Γ 19 = some (Spec.pure (chunkG 24))) ∧ (E_planT.Γ 9 = some (Spec.pure framesG)) ∧ (E_planT.Γ 12 = some (Spec.pure countG)) ∧ (E_planT.Γ 13 = some (Spec.pure frameOfG)) ∧ (E_planT.Γ 23 = some (Spec.fresh withoutG)) ∧ (E_planT.Γ 26 = some (Spec.fresh growG)) ∧ (E_planT.Γ 22 = some (Spec.pure concatG)) ∧ (E_planT.Γ 10 = some (Spec.pure runG)) ∧ (E_planT.Γ 14 = some (Spec.pure toG)) ∧ (E_planT.Γ 17 = some (Spec.pure eventsG)) ∧ (E_planT.Γ 15 = some (Spec.pure planG)) := ⟨rfl, rfl, rfl, rfl, rfl, rfl, rfl, rfl, rfl, rfl, rfl, rfl, rfl, rfl, rfl, rfl, rfl, rfl, rfl⟩
end Go.Proofs.Ythklbefnmcoojaa
