/- Walks, printed by wip/gen/walk.py. -/
import Derived.Test.YthklbefnmcoojaaT17
set_option linter.all false
set_option maxRecDepth 100000
set_option maxHeartbeats 4000000
namespace Go.Proofs.Ythklbefnmcoojaa
open Go Go.Vc Go.RowKit
section
variable [Far] {P : Program} {E : Env P} {W0 : World} {M0 : Nat → Prop} {dr : Bool} {calm : List FuncId} {ops : Array Oper} {K : St → Prop} {o : Op} {d : Option Tmp} {t : TypeId} {p : String} {af : Array Edge} {r : List Oper} {fr : Nat → AV} {H H' : Heap} {n n' : Nat} {q : Prop} {c : AV} {b : Bool} {gd : Nat × Bool}
theorem t18a0 {p : Prop} (h : p := by simp only [op_rules, ev_rules, fr_rules, av_rules, rs_rules, eq_self, Nat.reduceEqDiff, reduceIte, bw]; rfl) : p := h
theorem t18a1 {p : Prop} (h : p := by simp only [nd_rules, nd_slice, ev_rules, fr_rules, av_rules, eq_self, Nat.reduceEqDiff, reduceIte, and_true, true_and, map_rules, List.map_cons, List.map_nil]) : p := h
theorem t18a2 {p : Prop} (h : p := by (first | trivial | omega | assumption | (unfold inI64; omega) | (simp; done) | (simp; omega))) : p := h
theorem t18_0 (hk : AG W0 M0 dr calm E ops K r ⟨putD d c fr, H, n⟩) (h : aOp E fr H n o = .v q c := by exact t18a0) (hn : ndO fr o := by exact t18a1) (hq : q := by exact t18a2) : AG W0 M0 dr calm E ops K (⟨d, o, t, p, af, none⟩ :: r) ⟨fr, H, n⟩ := lg_v h hn hq hk
theorem t18_1 (hk : AG W0 M0 dr calm E ops K r ⟨putD d c fr, H', n'⟩) (h : aOp E fr H n o = .h q c H' n' := by simp only [call_rule (E := (E_example.at_ 124)) (f := 9) (sp := Spec.pure framesG) rfl, op_rules, ev_rules, fr_rules, av_rules, rs_rules, eq_self, Nat.reduceEqDiff, reduceIte, bw, callS, rd_rules, pure_rules, framesG, sc_rules, heap_rules, list_rules, opt_rules, map_rules, rows_get, rows_len, rows_drop, rows_take, rows_app, rows_nil, rows_set, Int.toNat_natCast, Int.reduceToNat, Nat.reduceAdd, Nat.reduceMul, Nat.reduceSub, Nat.reduceLeDiff, Nat.zero_add, Nat.add_zero, true_and, and_true, and_assoc, rect_eI, rect_eB, rect_eU, rect_eS, rect_eL, rect_nil, rect_cons, bytes_is, bytes_str, splice_rules, cell_rules, fill_rules, bnd_rules, or_false, false_or, not_true_eq_false, not_false_eq_true, List.mem_cons, List.not_mem_nil, dI_rows, dB_rows, dU_rows, rect_eE, dE_rows, hq, if_true, if_false, ite_true, ite_false]; rfl) (hn : ndO fr o := by exact t18a1) (hq : q := by exact t18a2) (hl : (dr && growB calm d o) = true → HLe H H' := by exact (fun h => Bool.noConfusion (show false = true from h))) : AG W0 M0 dr calm E ops K (⟨d, o, t, p, af, none⟩ :: r) ⟨fr, H, n⟩ := lg_h h hn hq hl hk
theorem t18_2 (hk : AG W0 M0 dr calm E ops K r ⟨putD d c fr, H, n⟩) (h : aOp E fr H n o = .v q c := by simp only [op_rules, ev_rules, fr_rules, av_rules, rs_rules, eq_self, Nat.reduceEqDiff, reduceIte, bw, op_rules2, aExtract, list_rules, rect_eE, dE_rows, hq, if_true, if_false, ite_true, ite_false]; rfl) (hn : ndO fr o := by exact t18a1) (hq : q := by exact t18a2) : AG W0 M0 dr calm E ops K (⟨d, o, t, p, af, none⟩ :: r) ⟨fr, H, n⟩ := lg_v h hn hq hk
theorem t18_3 (hk : AG W0 M0 dr calm E ops K r ⟨putD d c fr, H', n'⟩) (h : aOp E fr H n o = .h q c H' n' := by simp only [op_rules, ev_rules, fr_rules, av_rules, rs_rules, eq_self, Nat.reduceEqDiff, reduceIte, bw, aAlloc, env_rules, tys, g_example, tiAgg, list_rules, opt_rules, map_rules, rows_get, rows_len, rows_drop, rows_take, rows_app, rows_nil, rows_set, Int.toNat_natCast, Int.reduceToNat, Nat.reduceAdd, Nat.reduceMul, Nat.reduceSub, Nat.reduceLeDiff, Nat.zero_add, Nat.add_zero, true_and, and_true, and_assoc, rect_eI, rect_eB, rect_eU, rect_eS, rect_eL, rect_nil, rect_cons, bytes_is, bytes_str, splice_rules, cell_rules, fill_rules, bnd_rules, or_false, false_or, not_true_eq_false, not_false_eq_true, rect_eE, dE_rows, hq, if_true, if_false, ite_true, ite_false]; rfl) (hn : ndO fr o := by exact t18a1) (hq : q := by exact t18a2) (hl : (dr && growB calm d o) = true → HLe H H' := by exact (fun h => Bool.noConfusion (show false = true from h))) : AG W0 M0 dr calm E ops K (⟨d, o, t, p, af, none⟩ :: r) ⟨fr, H, n⟩ := lg_h h hn hq hl hk
theorem t18_4 (hk : AG W0 M0 dr calm E ops K r ⟨putD d c fr, H', n'⟩) (h : aOp E fr H n o = .h q c H' n' := by simp only [op_rules, ev_rules, fr_rules, av_rules, rs_rules, eq_self, Nat.reduceEqDiff, reduceIte, bw, aStore, env_rules, tys, g_example, tiAgg, list_rules, opt_rules, map_rules, rows_get, rows_len, rows_drop, rows_take, rows_app, rows_nil, rows_set, Int.toNat_natCast, Int.reduceToNat, Nat.reduceAdd, Nat.reduceMul, Nat.reduceSub, Nat.reduceLeDiff, Nat.zero_add, Nat.add_zero, true_and, and_true, and_assoc, rect_eI, rect_eB, rect_eU, rect_eS, rect_eL, rect_nil, rect_cons, bytes_is, bytes_str, splice_rules, cell_rules, fill_rules, bnd_rules, or_false, false_or, not_true_eq_false, not_false_eq_true, rect_eE, dE_rows, hq, if_true, if_false, ite_true, ite_false]; rfl) (hn : ndO fr o := by exact t18a1) (hq : q := by exact t18a2) (hl : (dr && growB calm d o) = true → HLe H H' := by exact (fun h => Bool.noConfusion (show false = true from h))) : AG W0 M0 dr calm E ops K (⟨d, o, t, p, af, none⟩ :: r) ⟨fr, H, n⟩ := lg_h h hn hq hl hk
theorem t18_5 (hk : AG W0 M0 dr calm E ops K r ⟨putD d c fr, H', n'⟩) (h : aOp E fr H n o = .h q c H' n' := by simp only [call_rule (E := (E_example.at_ 124)) (f := 10) (sp := Spec.pure runG) rfl, op_rules, ev_rules, fr_rules, av_rules, rs_rules, eq_self, Nat.reduceEqDiff, reduceIte, bw, callS, rd_rules, pure_rules, runG, sc_rules, heap_rules, list_rules, opt_rules, map_rules, rows_get, rows_len, rows_drop, rows_take, rows_app, rows_nil, rows_set, Int.toNat_natCast, Int.reduceToNat, Nat.reduceAdd, Nat.reduceMul, Nat.reduceSub, Nat.reduceLeDiff, Nat.zero_add, Nat.add_zero, true_and, and_true, and_assoc, rect_eI, rect_eB, rect_eU, rect_eS, rect_eL, rect_nil, rect_cons, bytes_is, bytes_str, splice_rules, cell_rules, fill_rules, bnd_rules, or_false, false_or, not_true_eq_false, not_false_eq_true, List.mem_cons, List.not_mem_nil, dI_rows, dB_rows, dU_rows, rect_eE, dE_rows, hr]; rfl) (hn : ndO fr o := by exact t18a1) (hq : q := by exact t18a2) (hl : (dr && growB calm d o) = true → HLe H H' := by exact (fun h => Bool.noConfusion (show false = true from h))) : AG W0 M0 dr calm E ops K (⟨d, o, t, p, af, none⟩ :: r) ⟨fr, H, n⟩ := lg_h h hn hq hl hk
theorem t18_6 (hk : AG W0 M0 dr calm E ops K r ⟨putD d c fr, H, n⟩) (h : aOp E fr H n o = .v q c := by simp only [op_rules, ev_rules, fr_rules, av_rules, rs_rules, eq_self, Nat.reduceEqDiff, reduceIte, bw, op_rules2, aExtract, list_rules, rect_eE, dE_rows, hr]; rfl) (hn : ndO fr o := by exact t18a1) (hq : q := by exact t18a2) : AG W0 M0 dr calm E ops K (⟨d, o, t, p, af, none⟩ :: r) ⟨fr, H, n⟩ := lg_v h hn hq hk
theorem t18_7 (hk : AG W0 M0 dr calm E ops K r ⟨putD d c fr, H', n'⟩) (h : aOp E fr H n o = .h q c H' n' := by simp only [op_rules, ev_rules, fr_rules, av_rules, rs_rules, eq_self, Nat.reduceEqDiff, reduceIte, bw, aAlloc, env_rules, tys, g_example, tiAgg, list_rules, opt_rules, map_rules, rows_get, rows_len, rows_drop, rows_take, rows_app, rows_nil, rows_set, Int.toNat_natCast, Int.reduceToNat, Nat.reduceAdd, Nat.reduceMul, Nat.reduceSub, Nat.reduceLeDiff, Nat.zero_add, Nat.add_zero, true_and, and_true, and_assoc, rect_eI, rect_eB, rect_eU, rect_eS, rect_eL, rect_nil, rect_cons, bytes_is, bytes_str, splice_rules, cell_rules, fill_rules, bnd_rules, or_false, false_or, not_true_eq_false, not_false_eq_true, rect_eE, dE_rows, hr]; rfl) (hn : ndO fr o := by exact t18a1) (hq : q := by exact t18a2) (hl : (dr && growB calm d o) = true → HLe H H' := by exact (fun h => Bool.noConfusion (show false = true from h))) : AG W0 M0 dr calm E ops K (⟨d, o, t, p, af, none⟩ :: r) ⟨fr, H, n⟩ := lg_h h hn hq hl hk
theorem t18_8 (hk : AG W0 M0 dr calm E ops K r ⟨putD d c fr, H', n'⟩) (h : aOp E fr H n o = .h q c H' n' := by simp only [op_rules, ev_rules, fr_rules, av_rules, rs_rules, eq_self, Nat.reduceEqDiff, reduceIte, bw, aStore, env_rules, tys, g_example, tiAgg, list_rules, opt_rules, map_rules, rows_get, rows_len, rows_drop, rows_take, rows_app, rows_nil, rows_set, Int.toNat_natCast, Int.reduceToNat, Nat.reduceAdd, Nat.reduceMul, Nat.reduceSub, Nat.reduceLeDiff, Nat.zero_add, Nat.add_zero, true_and, and_true, and_assoc, rect_eI, rect_eB, rect_eU, rect_eS, rect_eL, rect_nil, rect_cons, bytes_is, bytes_str, splice_rules, cell_rules, fill_rules, bnd_rules, or_false, false_or, not_true_eq_false, not_false_eq_true, rect_eE, dE_rows, hr]; rfl) (hn : ndO fr o := by exact t18a1) (hq : q := by exact t18a2) (hl : (dr && growB calm d o) = true → HLe H H' := by exact (fun h => Bool.noConfusion (show false = true from h))) : AG W0 M0 dr calm E ops K (⟨d, o, t, p, af, none⟩ :: r) ⟨fr, H, n⟩ := lg_h h hn hq hl hk
theorem t18a3 {p : Prop} (h : p := by simp only [op_rules, ev_rules, fr_rules, av_rules, rs_rules, eq_self, Nat.reduceEqDiff, reduceIte, bw, op_rules2, aLen, env_rules, tys, g_example, tiAgg, list_rules, opt_rules, map_rules, rows_get, rows_len, rows_drop, rows_take, rows_app, rows_nil, rows_set, Int.toNat_natCast, Int.reduceToNat, Nat.reduceAdd, Nat.reduceMul, Nat.reduceSub, Nat.reduceLeDiff, Nat.zero_add, Nat.add_zero, true_and, and_true, and_assoc, rect_eI, rect_eB, rect_eU, rect_eS, rect_eL, rect_nil, rect_cons, bytes_is, bytes_str, splice_rules, cell_rules, fill_rules, bnd_rules, or_false, false_or, not_true_eq_false, not_false_eq_true, rect_eE, dE_rows]; rfl) : p := h
theorem t18_9 (hk : AG W0 M0 dr calm E ops K r ⟨putD d c fr, H, n⟩) (h : aOp E fr H n o = .v q c := by exact t18a3) (hn : ndO fr o := by exact t18a1) (hq : q := by exact t18a2) : AG W0 M0 dr calm E ops K (⟨d, o, t, p, af, none⟩ :: r) ⟨fr, H, n⟩ := lg_v h hn hq hk
theorem t18a4 {p : Prop} (h : p := by simp only [op_rules, ev_rules, fr_rules, av_rules, rs_rules, eq_self, Nat.reduceEqDiff, reduceIte, bw, env_rules, tys, g_example, tiAgg, bin_rules, ar_rules, str_rules, eq_rules, bit_rules, Bool.true_and, Bool.and_true, rect_eE, dE_rows]; rfl) : p := h
theorem t18_10 (hk : AG W0 M0 dr calm E ops K r ⟨putD d c fr, H, n⟩) (h : aOp E fr H n o = .v q c := by exact t18a4) (hn : ndO fr o := by exact t18a1) (hq : q := by exact t18a2) : AG W0 M0 dr calm E ops K (⟨d, o, t, p, af, none⟩ :: r) ⟨fr, H, n⟩ := lg_v h hn hq hk
theorem t18_11 (hk : AG W0 M0 dr calm E ops K r ⟨putD d c fr, H, n⟩) (h : aOp E fr H n o = .v q c := by simp only [call_rule (E := (E_example.at_ 124)) (f := 11) (sp := Spec.pure faultG) rfl, op_rules, ev_rules, fr_rules, av_rules, rs_rules, eq_self, Nat.reduceEqDiff, reduceIte, bw, callS, rd_rules, pure_rules, faultG, sc_rules, heap_rules, list_rules, opt_rules, map_rules, rows_get, rows_len, rows_drop, rows_take, rows_app, rows_nil, rows_set, Int.toNat_natCast, Int.reduceToNat, Nat.reduceAdd, Nat.reduceMul, Nat.reduceSub, Nat.reduceLeDiff, Nat.zero_add, Nat.add_zero, true_and, and_true, and_assoc, rect_eI, rect_eB, rect_eU, rect_eS, rect_eL, rect_nil, rect_cons, bytes_is, bytes_str, splice_rules, cell_rules, fill_rules, bnd_rules, or_false, false_or, not_true_eq_false, not_false_eq_true, List.mem_cons, List.not_mem_nil, dI_rows, dB_rows, dU_rows, rect_eE, dE_rows]; rfl) (hn : ndO fr o := by exact t18a1) (hq : q := by exact t18a2) : AG W0 M0 dr calm E ops K (⟨d, o, t, p, af, none⟩ :: r) ⟨fr, H, n⟩ := lg_v h hn hq hk
theorem t18_12 (hk : AG W0 M0 dr calm E ops K r ⟨putD d c fr, H', n'⟩) (h : aOp E fr H n o = .h q c H' n' := by simp only [op_rules, ev_rules, fr_rules, av_rules, rs_rules, eq_self, Nat.reduceEqDiff, reduceIte, bw, aAlloc, env_rules, tys, g_example, tiAgg, list_rules, opt_rules, map_rules, rows_get, rows_len, rows_drop, rows_take, rows_app, rows_nil, rows_set, Int.toNat_natCast, Int.reduceToNat, Nat.reduceAdd, Nat.reduceMul, Nat.reduceSub, Nat.reduceLeDiff, Nat.zero_add, Nat.add_zero, true_and, and_true, and_assoc, rect_eI, rect_eB, rect_eU, rect_eS, rect_eL, rect_nil, rect_cons, bytes_is, bytes_str, splice_rules, cell_rules, fill_rules, bnd_rules, or_false, false_or, not_true_eq_false, not_false_eq_true, rect_eE, dE_rows]; rfl) (hn : ndO fr o := by exact t18a1) (hq : q := by exact t18a2) (hl : (dr && growB calm d o) = true → HLe H H' := by exact (fun h => Bool.noConfusion (show false = true from h))) : AG W0 M0 dr calm E ops K (⟨d, o, t, p, af, none⟩ :: r) ⟨fr, H, n⟩ := lg_h h hn hq hl hk
theorem t18_13 (hk : AG W0 M0 dr calm E ops K r ⟨putD d c fr, H', n'⟩) (h : aOp E fr H n o = .h q c H' n' := by simp only [op_rules, ev_rules, fr_rules, av_rules, rs_rules, eq_self, Nat.reduceEqDiff, reduceIte, bw, aStore, env_rules, tys, g_example, tiAgg, list_rules, opt_rules, map_rules, rows_get, rows_len, rows_drop, rows_take, rows_app, rows_nil, rows_set, Int.toNat_natCast, Int.reduceToNat, Nat.reduceAdd, Nat.reduceMul, Nat.reduceSub, Nat.reduceLeDiff, Nat.zero_add, Nat.add_zero, true_and, and_true, and_assoc, rect_eI, rect_eB, rect_eU, rect_eS, rect_eL, rect_nil, rect_cons, bytes_is, bytes_str, splice_rules, cell_rules, fill_rules, bnd_rules, or_false, false_or, not_true_eq_false, not_false_eq_true, rect_eE, dE_rows]; rfl) (hn : ndO fr o := by exact t18a1) (hq : q := by exact t18a2) (hl : (dr && growB calm d o) = true → HLe H H' := by exact (fun h => Bool.noConfusion (show false = true from h))) : AG W0 M0 dr calm E ops K (⟨d, o, t, p, af, none⟩ :: r) ⟨fr, H, n⟩ := lg_h h hn hq hl hk
theorem t18a5 {p : Prop} (h : p := by simp only [op_rules, ev_rules, fr_rules, av_rules, rs_rules, eq_self, Nat.reduceEqDiff, reduceIte, bw, op_rules2, aLoad, loadRow, env_rules, tys, g_example, tiAgg, list_rules, opt_rules, map_rules, rows_get, rows_len, rows_drop, rows_take, rows_app, rows_nil, rows_set, Int.toNat_natCast, Int.reduceToNat, Nat.reduceAdd, Nat.reduceMul, Nat.reduceSub, Nat.reduceLeDiff, Nat.zero_add, Nat.add_zero, true_and, and_true, and_assoc, rect_eI, rect_eB, rect_eU, rect_eS, rect_eL, rect_nil, rect_cons, bytes_is, bytes_str, splice_rules, cell_rules, fill_rules, bnd_rules, or_false, false_or, not_true_eq_false, not_false_eq_true, rect_eE, dE_rows]; rfl) : p := h
theorem t18_14 (hk : AG W0 M0 dr calm E ops K r ⟨putD d c fr, H, n⟩) (h : aOp E fr H n o = .v q c := by exact t18a5) (hn : ndO fr o := by exact t18a1) (hq : q := by exact t18a2) : AG W0 M0 dr calm E ops K (⟨d, o, t, p, af, none⟩ :: r) ⟨fr, H, n⟩ := lg_v h hn hq hk
theorem t18a6 {p : Prop} (h : p := by simp only [guard_rules, list_rules, opt_bind, fr_rules, eq_self, Nat.reduceEqDiff, reduceIte, bool_rules]; rfl) : p := h
theorem t18a7 {p : Prop} (h : p := by exact (fun hg => ⟨by first | (simp only [nd_rules, nd_slice, ev_rules, fr_rules, av_rules, eq_self, Nat.reduceEqDiff, reduceIte, and_true, true_and, map_rules, List.map_cons, List.map_nil]; done) | (simp only [nd_rules, nd_slice, ev_rules, fr_rules, av_rules, eq_self, Nat.reduceEqDiff, reduceIte, and_true, true_and, map_rules, List.map_cons, List.map_nil]; exact hg) | (simp_all [nd_rules, nd_slice, ev_rules, fr_rules, av_rules, eq_self, Nat.reduceEqDiff, reduceIte, and_true, true_and, map_rules, List.map_cons, List.map_nil]; done), by (try simp only [b_rules, bif_and, bif_or] at hg); (first | trivial | omega | assumption | (unfold inI64; omega) | (simp; done) | (simp; omega))⟩)) : p := h
theorem t18_15 (hk : AG W0 M0 dr calm E ops K r ⟨putD d (.cond b c) fr, H, n⟩) (hg : guardA ops fr (some gd) = some (some b) := by exact t18a6) (h : aOp E fr H n o = .v q c := by exact t18a5) (hq : b = true → ndO fr o ∧ q := by exact t18a7) : AG W0 M0 dr calm E ops K (⟨d, o, t, p, af, some gd⟩ :: r) ⟨fr, H, n⟩ := lg_gv hg h hq hk
theorem t18_16 (hk : AG W0 M0 dr calm E ops K r ⟨putD d (.cond b c) fr, H, n⟩) (hg : guardA ops fr (some gd) = some (some b) := by exact t18a6) (h : aOp E fr H n o = .v q c := by exact t18a4) (hq : b = true → ndO fr o ∧ q := by exact t18a7) : AG W0 M0 dr calm E ops K (⟨d, o, t, p, af, some gd⟩ :: r) ⟨fr, H, n⟩ := lg_gv hg h hq hk
theorem t18_17 (hk : AG W0 M0 dr calm E ops K r ⟨putD d c fr, H, n⟩) (h : aOp E fr H n o = .v q c := by simp only [op_rules, ev_rules, fr_rules, av_rules, rs_rules, eq_self, Nat.reduceEqDiff, reduceIte, bw, un_rules, bif_and, bif_or, bool_rules]; rfl) (hn : ndO fr o := by exact t18a1) (hq : q := by exact t18a2) : AG W0 M0 dr calm E ops K (⟨d, o, t, p, af, none⟩ :: r) ⟨fr, H, n⟩ := lg_v h hn hq hk
theorem t18_18 (hk : AG W0 M0 dr calm E ops K r ⟨putD d (.cond b c) fr, H, n⟩) (hg : guardA ops fr (some gd) = some (some b) := by exact t18a6) (h : aOp E fr H n o = .v q c := by exact t18a0) (hq : b = true → ndO fr o ∧ q := by exact t18a7) : AG W0 M0 dr calm E ops K (⟨d, o, t, p, af, some gd⟩ :: r) ⟨fr, H, n⟩ := lg_gv hg h hq hk
theorem t18_19 (hk : AG W0 M0 dr calm E ops K r ⟨putD d (.cond b c) fr, H, n⟩) (hg : guardA ops fr (some gd) = some (some b) := by exact t18a6) (h : aOp E fr H n o = .v q c := by exact t18a3) (hq : b = true → ndO fr o ∧ q := by exact t18a7) : AG W0 M0 dr calm E ops K (⟨d, o, t, p, af, some gd⟩ :: r) ⟨fr, H, n⟩ := lg_gv hg h hq hk
theorem t18_20 {p : Prop} (h : p := by (simp only [w1, w2, w3, tys, k_rules, eq_self, Nat.reduceEqDiff, Nat.reduceLeDiff, Nat.reduceAdd, Nat.reduceSub, Nat.reduceMul, Int.toNat_natCast, Int.reduceToNat, Int.reduceNeg, List.mem_cons, List.not_mem_nil, or_false, false_or, not_true_eq_false, not_false_eq_true, bif_and, bif_or, reduceIte, true_and, and_true, and_assoc, true_implies, forall_const, implies_true, Bool.true_eq_false, Bool.false_eq_true, false_implies, rows_len, rows_get, rows_drop, rows_take, rows_app, rows_nil, rect_nil, rect_eI, rect_eB, rect_eU, rect_eS, rect_eL, rect_eE, dE_rows, w4, Try.results3, reduceCtorEq, false_or, or_true, true_or]) <;> (try simp only [w1, w2, w3, tys, k_rules, eq_self, Nat.reduceEqDiff, Nat.reduceLeDiff, Nat.reduceAdd, Nat.reduceSub, Nat.reduceMul, Int.toNat_natCast, Int.reduceToNat, Int.reduceNeg, List.mem_cons, List.not_mem_nil, or_false, false_or, not_true_eq_false, not_false_eq_true, bif_and, bif_or, reduceIte, true_and, and_true, and_assoc, true_implies, forall_const, implies_true, Bool.true_eq_false, Bool.false_eq_true, false_implies, rows_len, rows_get, rows_drop, rows_take, rows_app, rows_nil, rect_nil, rect_eI, rect_eB, rect_eU, rect_eS, rect_eL, rect_eE, dE_rows, w4, Try.results3, reduceCtorEq, false_or, or_true, true_or]) <;> (repeat' apply And.intro) <;> (first | rfl | exact Or.inl rfl | exact Or.inr rfl | trivial | exact Nat.le_refl _ | omega | (simp; done) | (rw [take_min]; done) | (left; rw [take_min]; done) | (simp only [take_min]; done) | (simp [take_min]; done) | (rw [List.take_eq_take_iff]; omega) | (simp; omega))) : p := h
theorem t18_21 (hk : AG W0 M0 dr calm E ops K r ⟨putD d c fr, H, n⟩) (h : aOp E fr H n o = .v q c := by simp only [op_rules, ev_rules, fr_rules, av_rules, rs_rules, eq_self, Nat.reduceEqDiff, reduceIte, bw, op_rules2, aFieldAddr, aField, aIndexAddr, aIndex, aPart, env_rules, tys, g_example, tiAgg, list_rules, opt_rules, map_rules, rows_get, rows_len, rows_drop, rows_take, rows_app, rows_nil, rows_set, Int.toNat_natCast, Int.reduceToNat, Nat.reduceAdd, Nat.reduceMul, Nat.reduceSub, Nat.reduceLeDiff, Nat.zero_add, Nat.add_zero, true_and, and_true, and_assoc, rect_eI, rect_eB, rect_eU, rect_eS, rect_eL, rect_nil, rect_cons, bytes_is, bytes_str, splice_rules, cell_rules, fill_rules, bnd_rules, or_false, false_or, not_true_eq_false, not_false_eq_true, rect_eE, dE_rows]; rfl) (hn : ndO fr o := by exact t18a1) (hq : q := by exact t18a2) : AG W0 M0 dr calm E ops K (⟨d, o, t, p, af, none⟩ :: r) ⟨fr, H, n⟩ := lg_v h hn hq hk
theorem t18_22 (hk : AG W0 M0 dr calm E ops K r ⟨putD d (.cond b c) fr, H, n⟩) (hg : guardA ops fr (some gd) = some (some b) := by exact t18a6) (h : aOp E fr H n o = .v q c := by simp only [call_rule (E := (E_example.at_ 124)) (f := 12) (sp := Spec.pure countG) rfl, op_rules, ev_rules, fr_rules, av_rules, rs_rules, eq_self, Nat.reduceEqDiff, reduceIte, bw, callS, rd_rules, pure_rules, countG, sc_rules, heap_rules, list_rules, opt_rules, map_rules, rows_get, rows_len, rows_drop, rows_take, rows_app, rows_nil, rows_set, Int.toNat_natCast, Int.reduceToNat, Nat.reduceAdd, Nat.reduceMul, Nat.reduceSub, Nat.reduceLeDiff, Nat.zero_add, Nat.add_zero, true_and, and_true, and_assoc, rect_eI, rect_eB, rect_eU, rect_eS, rect_eL, rect_nil, rect_cons, bytes_is, bytes_str, splice_rules, cell_rules, fill_rules, bnd_rules, or_false, false_or, not_true_eq_false, not_false_eq_true, List.mem_cons, List.not_mem_nil, dI_rows, dB_rows, dU_rows, rect_eE, dE_rows]; rfl) (hq : b = true → ndO fr o ∧ q := by exact t18a7) : AG W0 M0 dr calm E ops K (⟨d, o, t, p, af, some gd⟩ :: r) ⟨fr, H, n⟩ := lg_gv hg h hq hk
theorem t18_23 {p : Prop} (h : p := by (simp only [w1, w2, w3, tys, k_rules, eq_self, Nat.reduceEqDiff, Nat.reduceLeDiff, Nat.reduceAdd, Nat.reduceSub, Nat.reduceMul, Int.toNat_natCast, Int.reduceToNat, Int.reduceNeg, List.mem_cons, List.not_mem_nil, or_false, false_or, not_true_eq_false, not_false_eq_true, bif_and, bif_or, reduceIte, true_and, and_true, and_assoc, true_implies, forall_const, implies_true, Bool.true_eq_false, Bool.false_eq_true, false_implies, rows_len, rows_get, rows_drop, rows_take, rows_app, rows_nil, rect_nil, rect_eI, rect_eB, rect_eU, rect_eS, rect_eL, rect_eE, dE_rows, w4]) <;> (repeat' apply And.intro) <;> (first | rfl | exact Or.inr rfl | exact Or.inl rfl | trivial | omega | assumption | (simp; done) | (simp; omega))) : p := h
theorem t18_24 (hk : AG W0 M0 dr calm E ops K r ⟨putD d c fr, H, n⟩) (h : aOp E fr H n o = .v q c := by simp only [op_rules, ev_rules, fr_rules, av_rules, rs_rules, eq_self, Nat.reduceEqDiff, reduceIte, bw, op_rules2, aFieldAddr, aField, aIndexAddr, aIndex, aPart, env_rules, tys, g_example, tiAgg, list_rules, opt_rules, map_rules, rows_get, rows_len, rows_drop, rows_take, rows_app, rows_nil, rows_set, Int.toNat_natCast, Int.reduceToNat, Nat.reduceAdd, Nat.reduceMul, Nat.reduceSub, Nat.reduceLeDiff, Nat.zero_add, Nat.add_zero, true_and, and_true, and_assoc, rect_eI, rect_eB, rect_eU, rect_eS, rect_eL, rect_nil, rect_cons, bytes_is, bytes_str, splice_rules, cell_rules, fill_rules, bnd_rules, or_false, false_or, not_true_eq_false, not_false_eq_true, rect_eE, dE_rows, hfi, eL]; rfl) (hn : ndO fr o := by exact t18a1) (hq : q := by exact t18a2) : AG W0 M0 dr calm E ops K (⟨d, o, t, p, af, none⟩ :: r) ⟨fr, H, n⟩ := lg_v h hn hq hk
theorem t18_25 (hk : AG W0 M0 dr calm E ops K r ⟨putD d c fr, H, n⟩) (h : aOp E fr H n o = .v q c := by simp only [op_rules, ev_rules, fr_rules, av_rules, rs_rules, eq_self, Nat.reduceEqDiff, reduceIte, bw, op_rules2, aLoad, loadRow, env_rules, tys, g_example, tiAgg, list_rules, opt_rules, map_rules, rows_get, rows_len, rows_drop, rows_take, rows_app, rows_nil, rows_set, Int.toNat_natCast, Int.reduceToNat, Nat.reduceAdd, Nat.reduceMul, Nat.reduceSub, Nat.reduceLeDiff, Nat.zero_add, Nat.add_zero, true_and, and_true, and_assoc, rect_eI, rect_eB, rect_eU, rect_eS, rect_eL, rect_nil, rect_cons, bytes_is, bytes_str, splice_rules, cell_rules, fill_rules, bnd_rules, or_false, false_or, not_true_eq_false, not_false_eq_true, rect_eE, dE_rows, hfi, eL]; rfl) (hn : ndO fr o := by exact t18a1) (hq : q := by exact t18a2) : AG W0 M0 dr calm E ops K (⟨d, o, t, p, af, none⟩ :: r) ⟨fr, H, n⟩ := lg_v h hn hq hk
theorem t18_26 (hk : AG W0 M0 dr calm E ops K r ⟨putD d c fr, H, n⟩) (h : aOp E fr H n o = .v q c := by simp only [op_rules, ev_rules, fr_rules, av_rules, rs_rules, eq_self, Nat.reduceEqDiff, reduceIte, bw, env_rules, tys, g_example, tiAgg, aConv, ar_rules, list_rules, opt_rules, map_rules, rows_get, rows_len, rows_drop, rows_take, rows_app, rows_nil, rows_set, Int.toNat_natCast, Int.reduceToNat, Nat.reduceAdd, Nat.reduceMul, Nat.reduceSub, Nat.reduceLeDiff, Nat.zero_add, Nat.add_zero, true_and, and_true, and_assoc, rect_eI, rect_eB, rect_eU, rect_eS, rect_eL, rect_nil, rect_cons, bytes_is, bytes_str, splice_rules, cell_rules, fill_rules, bnd_rules, or_false, false_or, not_true_eq_false, not_false_eq_true, rect_eE, dE_rows, hfi, eL]; rfl) (hn : ndO fr o := by exact t18a1) (hq : q := by exact t18a2) : AG W0 M0 dr calm E ops K (⟨d, o, t, p, af, none⟩ :: r) ⟨fr, H, n⟩ := lg_v h hn hq hk
theorem t18_27 (hk : AG W0 M0 dr calm E ops K r ⟨putD d c fr, H', n'⟩) (h : aOp E fr H n o = .h q c H' n' := by simp only [call_rule (E := (E_example.at_ 124)) (f := 13) (sp := Spec.pure frameOfG) rfl, op_rules, ev_rules, fr_rules, av_rules, rs_rules, eq_self, Nat.reduceEqDiff, reduceIte, bw, callS, rd_rules, pure_rules, frameOfG, sc_rules, heap_rules, list_rules, opt_rules, map_rules, rows_get, rows_len, rows_drop, rows_take, rows_app, rows_nil, rows_set, Int.toNat_natCast, Int.reduceToNat, Nat.reduceAdd, Nat.reduceMul, Nat.reduceSub, Nat.reduceLeDiff, Nat.zero_add, Nat.add_zero, true_and, and_true, and_assoc, rect_eI, rect_eB, rect_eU, rect_eS, rect_eL, rect_nil, rect_cons, bytes_is, bytes_str, splice_rules, cell_rules, fill_rules, bnd_rules, or_false, false_or, not_true_eq_false, not_false_eq_true, List.mem_cons, List.not_mem_nil, dI_rows, dB_rows, dU_rows, rect_eE, dE_rows, hfi, eL]; rfl) (hn : ndO fr o := by exact t18a1) (hq : q := by exact t18a2) (hl : (dr && growB calm d o) = true → HLe H H' := by first | exact (fun h => Bool.noConfusion (show false = true from h)) | exact hle_refl _ _ _ _ _ | exact hle_getB _ _ _ _ (by simp only [le_rules, eq_self, and_true, true_and])) : AG W0 M0 dr calm E ops K (⟨d, o, t, p, af, none⟩ :: r) ⟨fr, H, n⟩ := lg_h h hn hq hl hk
theorem t18_28 (hk : AG W0 M0 dr calm E ops K r ⟨putD d c fr, H, n⟩) (h : aOp E fr H n o = .v q c := by simp only [op_rules, ev_rules, fr_rules, av_rules, rs_rules, eq_self, Nat.reduceEqDiff, reduceIte, bw, env_rules, tys, g_example, tiAgg, bin_rules, ar_rules, str_rules, eq_rules, bit_rules, Bool.true_and, Bool.and_true, rect_eE, dE_rows, hfi, eL]; rfl) (hn : ndO fr o := by exact t18a1) (hq : q := by exact t18a2) : AG W0 M0 dr calm E ops K (⟨d, o, t, p, af, none⟩ :: r) ⟨fr, H, n⟩ := lg_v h hn hq hk
theorem t18_29 (hk : AG W0 M0 dr calm E ops K r ⟨putD d c fr, H, n⟩) (h : aOp E fr H n o = .v q c := by simp only [op_rules, ev_rules, fr_rules, av_rules, rs_rules, eq_self, Nat.reduceEqDiff, reduceIte, bw, op_rules2, aBuild, env_rules, tys, g_example, tiAgg, list_rules, opt_rules, map_rules, rows_get, rows_len, rows_drop, rows_take, rows_app, rows_nil, rows_set, Int.toNat_natCast, Int.reduceToNat, Nat.reduceAdd, Nat.reduceMul, Nat.reduceSub, Nat.reduceLeDiff, Nat.zero_add, Nat.add_zero, true_and, and_true, and_assoc, rect_eI, rect_eB, rect_eU, rect_eS, rect_eL, rect_nil, rect_cons, bytes_is, bytes_str, splice_rules, cell_rules, fill_rules, bnd_rules, or_false, false_or, not_true_eq_false, not_false_eq_true, rect_eE, dE_rows]; rfl) (hn : ndO fr o := by exact t18a1) (hq : q := by exact t18a2) : AG W0 M0 dr calm E ops K (⟨d, o, t, p, af, none⟩ :: r) ⟨fr, H, n⟩ := lg_v h hn hq hk
theorem t18_30 (hk : AG W0 M0 dr calm E ops K r ⟨putD d c fr, H, n⟩) (h : aOp E fr H n o = .v q c := by simp only [op_rules, ev_rules, fr_rules, av_rules, rs_rules, eq_self, Nat.reduceEqDiff, reduceIte, bw, op_rules2, aFieldAddr, aField, aIndexAddr, aIndex, aPart, env_rules, tys, g_example, tiAgg, list_rules, opt_rules, map_rules, rows_get, rows_len, rows_drop, rows_take, rows_app, rows_nil, rows_set, Int.toNat_natCast, Int.reduceToNat, Nat.reduceAdd, Nat.reduceMul, Nat.reduceSub, Nat.reduceLeDiff, Nat.zero_add, Nat.add_zero, true_and, and_true, and_assoc, rect_eI, rect_eB, rect_eU, rect_eS, rect_eL, rect_nil, rect_cons, bytes_is, bytes_str, splice_rules, cell_rules, fill_rules, bnd_rules, or_false, false_or, not_true_eq_false, not_false_eq_true, rect_eE, dE_rows, take_min]; rfl) (hn : ndO fr o := by exact t18a1) (hq : q := by exact t18a2) : AG W0 M0 dr calm E ops K (⟨d, o, t, p, af, none⟩ :: r) ⟨fr, H, n⟩ := lg_v h hn hq hk
theorem t18_31 (hk : AG W0 M0 dr calm E ops K r ⟨putD d c fr, H, n⟩) (h : aOp E fr H n o = .v q c := by simp only [op_rules, ev_rules, fr_rules, av_rules, rs_rules, eq_self, Nat.reduceEqDiff, reduceIte, bw, op_rules2, aLoad, loadRow, env_rules, tys, g_example, tiAgg, list_rules, opt_rules, map_rules, rows_get, rows_len, rows_drop, rows_take, rows_app, rows_nil, rows_set, Int.toNat_natCast, Int.reduceToNat, Nat.reduceAdd, Nat.reduceMul, Nat.reduceSub, Nat.reduceLeDiff, Nat.zero_add, Nat.add_zero, true_and, and_true, and_assoc, rect_eI, rect_eB, rect_eU, rect_eS, rect_eL, rect_nil, rect_cons, bytes_is, bytes_str, splice_rules, cell_rules, fill_rules, bnd_rules, or_false, false_or, not_true_eq_false, not_false_eq_true, rect_eE, dE_rows, take_min]; rfl) (hn : ndO fr o := by exact t18a1) (hq : q := by exact t18a2) : AG W0 M0 dr calm E ops K (⟨d, o, t, p, af, none⟩ :: r) ⟨fr, H, n⟩ := lg_v h hn hq hk
theorem t18a8 {p : Prop} (h : p := by simp only [op_rules, ev_rules, fr_rules, av_rules, rs_rules, eq_self, Nat.reduceEqDiff, reduceIte, bw, env_rules, tys, g_example, tiAgg, bin_rules, ar_rules, str_rules, eq_rules, bit_rules, Bool.true_and, Bool.and_true, rect_eE, dE_rows, take_min]; rfl) : p := h
theorem t18_32 (hk : AG W0 M0 dr calm E ops K r ⟨putD d c fr, H, n⟩) (h : aOp E fr H n o = .v q c := by exact t18a8) (hn : ndO fr o := by exact t18a1) (hq : q := by exact t18a2) : AG W0 M0 dr calm E ops K (⟨d, o, t, p, af, none⟩ :: r) ⟨fr, H, n⟩ := lg_v h hn hq hk
theorem t18a9 {p : Prop} (h : p := by simp only [guard_rules, list_rules, opt_bind, fr_rules, eq_self, Nat.reduceEqDiff, reduceIte, bool_rules, take_min]; rfl) : p := h
theorem t18_33 (hk : AG W0 M0 dr calm E ops K r ⟨putD d (.cond b c) fr, H, n⟩) (hg : guardA ops fr (some gd) = some (some b) := by exact t18a9) (h : aOp E fr H n o = .v q c := by exact t18a0) (hq : b = true → ndO fr o ∧ q := by exact t18a7) : AG W0 M0 dr calm E ops K (⟨d, o, t, p, af, some gd⟩ :: r) ⟨fr, H, n⟩ := lg_gv hg h hq hk
theorem t18_34 (hk : AG W0 M0 dr calm E ops K r ⟨putD d (.cond b c) fr, H, n⟩) (hg : guardA ops fr (some gd) = some (some b) := by exact t18a9) (h : aOp E fr H n o = .v q c := by exact t18a8) (hq : b = true → ndO fr o ∧ q := by exact t18a7) : AG W0 M0 dr calm E ops K (⟨d, o, t, p, af, some gd⟩ :: r) ⟨fr, H, n⟩ := lg_gv hg h hq hk
theorem t18_35 (hk : AG W0 M0 dr calm E ops K r ⟨putD d (.cond b c) fr, H, n⟩) (hg : guardA ops fr (some gd) = some (some b) := by exact t18a9) (h : aOp E fr H n o = .v q c := by simp only [op_rules, ev_rules, fr_rules, av_rules, rs_rules, eq_self, Nat.reduceEqDiff, reduceIte, bw, env_rules, tys, g_example, tiAgg, aConv, ar_rules, list_rules, opt_rules, map_rules, rows_get, rows_len, rows_drop, rows_take, rows_app, rows_nil, rows_set, Int.toNat_natCast, Int.reduceToNat, Nat.reduceAdd, Nat.reduceMul, Nat.reduceSub, Nat.reduceLeDiff, Nat.zero_add, Nat.add_zero, true_and, and_true, and_assoc, rect_eI, rect_eB, rect_eU, rect_eS, rect_eL, rect_nil, rect_cons, bytes_is, bytes_str, splice_rules, cell_rules, fill_rules, bnd_rules, or_false, false_or, not_true_eq_false, not_false_eq_true, rect_eE, dE_rows, take_min]; rfl) (hq : b = true → ndO fr o ∧ q := by exact t18a7) : AG W0 M0 dr calm E ops K (⟨d, o, t, p, af, some gd⟩ :: r) ⟨fr, H, n⟩ := lg_gv hg h hq hk
theorem t18_36 (hk : AG W0 M0 dr calm E ops K r ⟨putD d (.cond b c) fr, H, n⟩) (hg : guardA ops fr (some gd) = some (some b) := by exact t18a9) (h : aOp E fr H n o = .v q c := by simp only [op_rules, ev_rules, fr_rules, av_rules, rs_rules, eq_self, Nat.reduceEqDiff, reduceIte, bw, op_rules2, aLen, env_rules, tys, g_example, tiAgg, list_rules, opt_rules, map_rules, rows_get, rows_len, rows_drop, rows_take, rows_app, rows_nil, rows_set, Int.toNat_natCast, Int.reduceToNat, Nat.reduceAdd, Nat.reduceMul, Nat.reduceSub, Nat.reduceLeDiff, Nat.zero_add, Nat.add_zero, true_and, and_true, and_assoc, rect_eI, rect_eB, rect_eU, rect_eS, rect_eL, rect_nil, rect_cons, bytes_is, bytes_str, splice_rules, cell_rules, fill_rules, bnd_rules, or_false, false_or, not_true_eq_false, not_false_eq_true, rect_eE, dE_rows, take_min]; rfl) (hq : b = true → ndO fr o ∧ q := by exact t18a7) : AG W0 M0 dr calm E ops K (⟨d, o, t, p, af, some gd⟩ :: r) ⟨fr, H, n⟩ := lg_gv hg h hq hk
theorem t18_37 (hk : AG W0 M0 dr calm E ops K r ⟨putD d (.cond b c) fr, H, n⟩) (hg : guardA ops fr (some gd) = some (some b) := by exact t18a9) (h : aOp E fr H n o = .v q c := by simp only [op_rules, ev_rules, fr_rules, av_rules, rs_rules, eq_self, Nat.reduceEqDiff, reduceIte, bw, mm_rules, rect_eE, dE_rows, take_min]; rfl) (hq : b = true → ndO fr o ∧ q := by exact t18a7) : AG W0 M0 dr calm E ops K (⟨d, o, t, p, af, some gd⟩ :: r) ⟨fr, H, n⟩ := lg_gv hg h hq hk
theorem t18_38 (hk : AG W0 M0 dr calm E ops K r ⟨putD d (.cond b c) fr, H, n⟩) (hg : guardA ops fr (some gd) = some (some b) := by exact t18a9) (h : aOp E fr H n o = .v q c := by simp only [op_rules, ev_rules, fr_rules, av_rules, rs_rules, eq_self, Nat.reduceEqDiff, reduceIte, bw, op_rules2, aSlice, env_rules, tys, g_example, tiAgg, list_rules, opt_rules, map_rules, rows_get, rows_len, rows_drop, rows_take, rows_app, rows_nil, rows_set, Int.toNat_natCast, Int.reduceToNat, Nat.reduceAdd, Nat.reduceMul, Nat.reduceSub, Nat.reduceLeDiff, Nat.zero_add, Nat.add_zero, true_and, and_true, and_assoc, rect_eI, rect_eB, rect_eU, rect_eS, rect_eL, rect_nil, rect_cons, bytes_is, bytes_str, splice_rules, cell_rules, fill_rules, bnd_rules, or_false, false_or, not_true_eq_false, not_false_eq_true, rect_eE, dE_rows, take_min]; rfl) (hq : b = true → ndO fr o ∧ q := by exact t18a7) : AG W0 M0 dr calm E ops K (⟨d, o, t, p, af, some gd⟩ :: r) ⟨fr, H, n⟩ := lg_gv hg h hq hk
theorem t18_39 (hk : AG W0 M0 dr calm E ops K r ⟨putD d c fr, H, n⟩) (h : aOp E fr H n o = .v q c := by simp only [op_rules, ev_rules, fr_rules, av_rules, rs_rules, eq_self, Nat.reduceEqDiff, reduceIte, bw, op_rules2, aLen, env_rules, tys, g_example, tiAgg, list_rules, opt_rules, map_rules, rows_get, rows_len, rows_drop, rows_take, rows_app, rows_nil, rows_set, Int.toNat_natCast, Int.reduceToNat, Nat.reduceAdd, Nat.reduceMul, Nat.reduceSub, Nat.reduceLeDiff, Nat.zero_add, Nat.add_zero, true_and, and_true, and_assoc, rect_eI, rect_eB, rect_eU, rect_eS, rect_eL, rect_nil, rect_cons, bytes_is, bytes_str, splice_rules, cell_rules, fill_rules, bnd_rules, or_false, false_or, not_true_eq_false, not_false_eq_true, rect_eE, dE_rows, ht]; rfl) (hn : ndO fr o := by exact t18a1) (hq : q := by exact t18a2) : AG W0 M0 dr calm E ops K (⟨d, o, t, p, af, none⟩ :: r) ⟨fr, H, n⟩ := lg_v h hn hq hk
theorem t18_40 (hk : AG W0 M0 dr calm E ops K r ⟨putD d c fr, H, n⟩) (h : aOp E fr H n o = .v q c := by simp only [call_rule (E := (E_example.at_ 124)) (f := 14) (sp := Spec.pure toG) rfl, op_rules, ev_rules, fr_rules, av_rules, rs_rules, eq_self, Nat.reduceEqDiff, reduceIte, bw, callS, rd_rules, pure_rules, toG, sc_rules, heap_rules, list_rules, opt_rules, map_rules, rows_get, rows_len, rows_drop, rows_take, rows_app, rows_nil, rows_set, Int.toNat_natCast, Int.reduceToNat, Nat.reduceAdd, Nat.reduceMul, Nat.reduceSub, Nat.reduceLeDiff, Nat.zero_add, Nat.add_zero, true_and, and_true, and_assoc, rect_eI, rect_eB, rect_eU, rect_eS, rect_eL, rect_nil, rect_cons, bytes_is, bytes_str, splice_rules, cell_rules, fill_rules, bnd_rules, or_false, false_or, not_true_eq_false, not_false_eq_true, List.mem_cons, List.not_mem_nil, dI_rows, dB_rows, dU_rows, rect_eE, dE_rows, ht]; rfl) (hn : ndO fr o := by exact t18a1) (hq : q := by exact t18a2) : AG W0 M0 dr calm E ops K (⟨d, o, t, p, af, none⟩ :: r) ⟨fr, H, n⟩ := lg_v h hn hq hk
theorem t18_41 (hk : AG W0 M0 dr calm E ops K r ⟨putD d c fr, H, n⟩) (h : aOp E fr H n o = .v q c := by simp only [op_rules, ev_rules, fr_rules, av_rules, rs_rules, eq_self, Nat.reduceEqDiff, reduceIte, bw, op_rules2, aExtract, list_rules, rect_eE, dE_rows, ht]; rfl) (hn : ndO fr o := by exact t18a1) (hq : q := by exact t18a2) : AG W0 M0 dr calm E ops K (⟨d, o, t, p, af, none⟩ :: r) ⟨fr, H, n⟩ := lg_v h hn hq hk
theorem t18_42 (hk : AG W0 M0 dr calm E ops K r ⟨putD d c fr, H', n'⟩) (h : aOp E fr H n o = .h q c H' n' := by simp only [op_rules, ev_rules, fr_rules, av_rules, rs_rules, eq_self, Nat.reduceEqDiff, reduceIte, bw, aStore, env_rules, tys, g_example, tiAgg, list_rules, opt_rules, map_rules, rows_get, rows_len, rows_drop, rows_take, rows_app, rows_nil, rows_set, Int.toNat_natCast, Int.reduceToNat, Nat.reduceAdd, Nat.reduceMul, Nat.reduceSub, Nat.reduceLeDiff, Nat.zero_add, Nat.add_zero, true_and, and_true, and_assoc, rect_eI, rect_eB, rect_eU, rect_eS, rect_eL, rect_nil, rect_cons, bytes_is, bytes_str, splice_rules, cell_rules, fill_rules, bnd_rules, or_false, false_or, not_true_eq_false, not_false_eq_true, rect_eE, dE_rows, ht]; rfl) (hn : ndO fr o := by exact t18a1) (hq : q := by exact t18a2) (hl : (dr && growB calm d o) = true → HLe H H' := by exact (fun h => Bool.noConfusion (show false = true from h))) : AG W0 M0 dr calm E ops K (⟨d, o, t, p, af, none⟩ :: r) ⟨fr, H, n⟩ := lg_h h hn hq hl hk
end
theorem take_min (l : List UInt8) (tk : Nat) : l.take (min (l.length : Int) (16 * (tk : Int))).toNat = l.take (16 * tk) := by
  rw [List.take_eq_take_iff]; omega
theorem frame_at {l : List UInt8} {i : Nat} (h : i < (framesOf l).length) : (framesOf l)[i]? = some ((l.drop (16 * i)).take 16) := by
  have h' : i < (l.length + 15) / 16 := by rw [← framesOf_len]; exact h
  simp [framesOf, List.getElem?_range h']

theorem lawRun_meets : Meets Try.prog 3 (Spec.pure lawEG) := by
 refine meets_fun (E_example.at_ 124) Try.func3 rfl rfl rfl ?_
 intro args p r hg hp
 unfold lawEG at hg
 split at hg
 ·rename_i xs es
  simp only [Option.some.injEq, Prod.mk.injEq] at hg
  obtain ⟨rfl, rfl⟩ := hg
  obtain ⟨hx, hy, hl, hm⟩ := hp
  generalize dU xs = l at *
  generalize dE es = es at *
  subst hx hy
  have hfl := framesOf_len l
  refine ⟨by rfl, ?_⟩
  intro F W0 hnp hmk
  refine vc_seq_k fun N1 h1 => ?_
  refine vc_regG [13] hmix (by kernel_rfl) ?_
  try refine lg_mk ?_
  refine t18_0 ?_
  refine lg_nil ?_
  refine h1 _ ?_; clear h1; try clear N1
  refine vc_seq_k fun N2 h2 => ?_
  refine vc_seq_k fun N3 h3 => ?_
  refine vc_regG [13] hmix (by kernel_rfl) ?_
  try refine lg_mk ?_
  refine lg_v (by simp only [call_rule (E := (E_example.at_ 124)) (f := 8) (sp := Spec.pure exampleG) rfl, op_rules, ev_rules, fr_rules, av_rules, rs_rules, eq_self, Nat.reduceEqDiff, reduceIte, bw, callS, rd_rules, pure_rules, exampleG, sc_rules, heap_rules, list_rules, opt_rules, map_rules, rows_get, rows_len, rows_drop, rows_take, rows_app, rows_nil, rows_set, Int.toNat_natCast, Int.reduceToNat, Nat.reduceAdd, Nat.reduceMul, Nat.reduceSub, Nat.reduceLeDiff, Nat.zero_add, Nat.add_zero, true_and, and_true, and_assoc, rect_eI, rect_eB, rect_eU, rect_eS, rect_eL, rect_nil, rect_cons, bytes_is, bytes_str, splice_rules, cell_rules, fill_rules, bnd_rules, or_false, false_or, not_true_eq_false, not_false_eq_true, List.mem_cons, List.not_mem_nil, dI_rows, dB_rows, dU_rows, rect_eE, dE_rows]; rfl) (by exact t18a1) (by exact t18a2) ?_
  refine lg_v (by simp only [op_rules, ev_rules, fr_rules, av_rules, rs_rules, eq_self, Nat.reduceEqDiff, reduceIte, bw, un_rules, ar_rules, Bool.not_not, rect_eE, dE_rows]; rfl) (by exact t18a1) (by exact t18a2) ?_
  refine lg_nil ?_
  refine h3 _ ?_; clear h3; try clear N3
  refine vc_cond_k (by simp only [w1, w3, eq_self, Nat.reduceEqDiff, reduceIte]; rfl) (fun hb4 => ?_) (fun hb4 => ?_)
  ·try simp only [b_rules, bif_and, bif_or] at hb4
   first | omega | exact absurd trivial hb4 | contradiction | (simp_all; done)
  ·try simp only [b_rules, bif_and, bif_or] at hb4
   refine vc_skip ?_
   try simp only [k_rules]
   refine h2 _ ?_; clear h2; try clear N2
   refine vc_seq_k fun N5 h5 => ?_
   rcases run_cases l es with ⟨g4, hr⟩ | ⟨g4, g5, hr⟩ | ⟨g4, g5, c, ci, hc, hr, ht⟩ | ⟨g4, g5, a, tk, s, hat, htn, -, -, -, hr, ht⟩
   ·have hq : (l.length ≤ 4096) = False := eq_false (by omega)
    have ht : True := trivial
    refine vc_regG [13] hmix (by kernel_rfl) ?_
    try refine lg_mk ?_
    refine t18_0 ?_
    refine t18_1 ?_
    refine t18_0 ?_
    refine t18_2 ?_
    refine t18_2 ?_
    refine t18_3 ?_
    refine t18_0 ?_
    refine t18_4 ?_
    refine lg_nil ?_
    refine h5 _ ?_; clear h5; try clear N5
    refine vc_seq_k fun N6 h6 => ?_
    refine vc_regG [13] hmix (by kernel_rfl) ?_
    try refine lg_mk ?_
    refine t18_0 ?_
    refine t18_0 ?_
    refine t18_5 ?_
    refine t18_0 ?_
    refine t18_6 ?_
    refine t18_6 ?_
    refine t18_6 ?_
    refine t18_7 ?_
    refine t18_0 ?_
    refine t18_0 ?_
    refine t18_8 ?_
    refine lg_nil ?_
    refine h6 _ ?_; clear h6; try clear N6
    refine vc_seq_k fun N7 h7 => ?_
    refine vc_seq_k fun N8 h8 => ?_
    refine vc_regG [13] hmix (by kernel_rfl) ?_
    try refine lg_mk ?_
    refine t18_0 ?_
    refine t18_9 ?_
    refine t18_10 ?_
    refine lg_nil ?_
    refine h8 _ ?_; clear h8; try clear N8
    refine vc_cond_k (by simp only [w1, w3, eq_self, Nat.reduceEqDiff, reduceIte]; rfl) (fun hb9 => ?_) (fun hb9 => ?_)
    ·try simp only [b_rules, bif_and, bif_or] at hb9
     refine vc_seq_k fun N10 h10 => ?_
     refine vc_regG [13] hmix (by kernel_rfl) ?_
     try refine lg_mk ?_
     refine t18_11 ?_
     refine t18_12 ?_
     refine t18_13 ?_
     refine lg_nil ?_
     refine h10 _ ?_; clear h10; try clear N10
     refine vc_seq_k fun N11 h11 => ?_
     refine vc_regG [13] hmix (by kernel_rfl) ?_
     try refine lg_mk ?_
     refine t18_14 ?_
     refine t18_14 ?_
     refine t18_10 ?_
     refine t18_0 ?_
     first | (refine lg_g0 ?_ ?_; focus (simp only [guard_rules, list_rules, opt_bind, fr_rules, eq_self, Nat.reduceEqDiff, reduceIte, bool_rules]; done)) | refine t18_15 ?_
     first | (refine lg_g0 ?_ ?_; focus (simp only [guard_rules, list_rules, opt_bind, fr_rules, eq_self, Nat.reduceEqDiff, reduceIte, bool_rules]; done)) | refine t18_15 ?_
     first | (refine lg_g0 ?_ ?_; focus (simp only [guard_rules, list_rules, opt_bind, fr_rules, eq_self, Nat.reduceEqDiff, reduceIte, bool_rules]; done)) | refine t18_16 ?_
     refine t18_17 ?_
     refine t18_0 ?_
     first | (refine lg_g0 ?_ ?_; focus (simp only [guard_rules, list_rules, opt_bind, fr_rules, eq_self, Nat.reduceEqDiff, reduceIte, bool_rules]; done)) | refine t18_18 ?_
     first | (refine lg_g0 ?_ ?_; focus (simp only [guard_rules, list_rules, opt_bind, fr_rules, eq_self, Nat.reduceEqDiff, reduceIte, bool_rules]; done)) | refine t18_19 ?_
     first | (refine lg_g0 ?_ ?_; focus (simp only [guard_rules, list_rules, opt_bind, fr_rules, eq_self, Nat.reduceEqDiff, reduceIte, bool_rules]; done)) | refine t18_18 ?_
     first | (refine lg_g0 ?_ ?_; focus (simp only [guard_rules, list_rules, opt_bind, fr_rules, eq_self, Nat.reduceEqDiff, reduceIte, bool_rules]; done)) | refine t18_19 ?_
     first | (refine lg_g0 ?_ ?_; focus (simp only [guard_rules, list_rules, opt_bind, fr_rules, eq_self, Nat.reduceEqDiff, reduceIte, bool_rules]; done)) | refine t18_16 ?_
     first | (refine lg_g0 ?_ ?_; focus (simp only [guard_rules, list_rules, opt_bind, fr_rules, eq_self, Nat.reduceEqDiff, reduceIte, bool_rules]; done)) | refine t18_18 ?_
     first | (refine lg_g0 ?_ ?_; focus (simp only [guard_rules, list_rules, opt_bind, fr_rules, eq_self, Nat.reduceEqDiff, reduceIte, bool_rules]; done)) | refine t18_16 ?_
     first | (refine lg_g0 ?_ ?_; focus (simp only [guard_rules, list_rules, opt_bind, fr_rules, eq_self, Nat.reduceEqDiff, reduceIte, bool_rules]; done)) | refine t18_16 ?_
     refine t18_17 ?_
     refine t18_0 ?_
     refine lg_nil ?_
     refine h11 _ ?_; clear h11; try clear N11
     refine vc_ret ?_
     try simp only [k_rules]
     exact t18_20
    ·try simp only [b_rules, bif_and, bif_or] at hb9
     first | omega | exact absurd trivial hb9 | contradiction | (simp_all; done)
   ·have hq : (l.length ≤ 4096) = True := eq_true (by omega)
    have ht : True := trivial
    refine vc_regG [13] hmix (by kernel_rfl) ?_
    try refine lg_mk ?_
    refine t18_0 ?_
    refine t18_1 ?_
    refine t18_0 ?_
    refine t18_2 ?_
    refine t18_2 ?_
    refine t18_3 ?_
    refine t18_0 ?_
    refine t18_4 ?_
    refine lg_nil ?_
    refine h5 _ ?_; clear h5; try clear N5
    refine vc_seq_k fun N12 h12 => ?_
    refine vc_regG [13] hmix (by kernel_rfl) ?_
    try refine lg_mk ?_
    refine t18_0 ?_
    refine t18_0 ?_
    refine t18_5 ?_
    refine t18_0 ?_
    refine t18_6 ?_
    refine t18_6 ?_
    refine t18_6 ?_
    refine t18_7 ?_
    refine t18_0 ?_
    refine t18_0 ?_
    refine t18_8 ?_
    refine lg_nil ?_
    refine h12 _ ?_; clear h12; try clear N12
    refine vc_seq_k fun N13 h13 => ?_
    refine vc_seq_k fun N14 h14 => ?_
    refine vc_regG [13] hmix (by kernel_rfl) ?_
    try refine lg_mk ?_
    refine t18_0 ?_
    refine t18_9 ?_
    refine t18_10 ?_
    refine lg_nil ?_
    refine h14 _ ?_; clear h14; try clear N14
    refine vc_cond_k (by simp only [w1, w3, eq_self, Nat.reduceEqDiff, reduceIte]; rfl) (fun hb15 => ?_) (fun hb15 => ?_)
    ·try simp only [b_rules, bif_and, bif_or] at hb15
     first | omega | exact absurd trivial hb15 | contradiction | (simp_all; done)
    ·try simp only [b_rules, bif_and, bif_or] at hb15
     refine vc_skip ?_
     try simp only [k_rules]
     refine h13 _ ?_; clear h13; try clear N13
     refine vc_seq_k fun N16 h16 => ?_
     refine vc_seq_k fun N17 h17 => ?_
     refine vc_regG [13] hmix (by kernel_rfl) ?_
     try refine lg_mk ?_
     refine t18_21 ?_
     refine t18_14 ?_
     refine t18_10 ?_
     refine t18_0 ?_
     first | (refine lg_g0 ?_ ?_; focus (simp only [guard_rules, list_rules, opt_bind, fr_rules, eq_self, Nat.reduceEqDiff, reduceIte, bool_rules]; done)) | refine t18_18 ?_
     first | (refine lg_g0 ?_ ?_; focus (simp only [guard_rules, list_rules, opt_bind, fr_rules, eq_self, Nat.reduceEqDiff, reduceIte, bool_rules]; done)) | refine t18_19 ?_
     first | (refine lg_g0 ?_ ?_; focus (simp only [guard_rules, list_rules, opt_bind, fr_rules, eq_self, Nat.reduceEqDiff, reduceIte, bool_rules]; done)) | refine t18_18 ?_
     first | (refine lg_g0 ?_ ?_; focus (simp only [guard_rules, list_rules, opt_bind, fr_rules, eq_self, Nat.reduceEqDiff, reduceIte, bool_rules]; done)) | refine t18_22 ?_
     first | (refine lg_g0 ?_ ?_; focus (simp only [guard_rules, list_rules, opt_bind, fr_rules, eq_self, Nat.reduceEqDiff, reduceIte, bool_rules]; done)) | refine t18_16 ?_
     refine t18_17 ?_
     refine lg_nil ?_
     refine h17 _ ?_; clear h17; try clear N17
     refine vc_cond_k (by simp only [w1, w3, eq_self, Nat.reduceEqDiff, reduceIte]; rfl) (fun hb18 => ?_) (fun hb18 => ?_)
     ·try simp only [b_rules, bif_and, bif_or] at hb18
      first | omega | exact absurd trivial hb18 | contradiction | (simp_all; done)
     ·try simp only [b_rules, bif_and, bif_or] at hb18
      refine vc_skip ?_
      try simp only [k_rules]
      refine h16 _ ?_; clear h16; try clear N16
      refine vc_seq_k fun N19 h19 => ?_
      refine vc_seq_k fun N20 h20 => ?_
      refine vc_regG [13] hmix (by kernel_rfl) ?_
      try refine lg_mk ?_
      refine t18_0 ?_
      refine lg_nil ?_
      refine h20 _ ?_; clear h20; try clear N20
      refine vc_block ?_
      refine vc_loop_mk (σ := Nat) (fun s => (fun i => i ≤ (framesOf l).length) s)
       (fun s => (fun i => [(0, .d (.sl (rows eU l))), (1, .d (.sl (rows eE es))), (5, .d (.sl (rows (eL eU) (framesOf l)))), (6, .ptr 0 0 0), (7, .d (.sl [])), (8, .d (.int .i64 0)), (9, .ptr 1 0 0), (11, .d (.int .i64 (i : Nat)))]) s)
       (fun s => (fun i => [some (.one 27 [.d (.int .i64 0), .d (.int .i64 0)]), some (.one 27 [.d (.int .i64 2), .d (.int .i64 (-2))])]) s) (fun s => (fun i => (framesOf l).length - i) s) hnp 0 ?_ [some 0, some 1] ?_ ?_
      ·dsimp only
       exact Nat.zero_le _
      ·dsimp only
       refine ⟨by rfl, ?_, ?_⟩
       ·exact t18_23
       ·exact t18_23
      ·rintro i hinv N21 h21
       dsimp only at hinv ⊢
       have hi := hinv
       refine vc_seq_k fun N22 h22 => ?_
       refine vc_seq_k fun N23 h23 => ?_
       refine vc_regG [13] hmix (by kernel_rfl) ?_
       try refine lg_mk ?_
       refine t18_0 ?_
       refine t18_0 ?_
       refine t18_9 ?_
       refine t18_10 ?_
       refine lg_nil ?_
       refine h23 _ ?_; clear h23; try clear N23
       refine vc_cond_k (by simp only [w1, w3, eq_self, Nat.reduceEqDiff, reduceIte]; rfl) (fun hb24 => ?_) (fun hb24 => ?_)
       ·try simp only [b_rules, bif_and, bif_or] at hb24
        have hfi := frame_at (l := l) (i := i) (by omega)
        refine vc_skip ?_
        try simp only [k_rules]
        refine h22 _ ?_; clear h22; try clear N22
        refine vc_seq_k fun N25 h25 => ?_
        refine vc_block ?_
        refine vc_seq_k fun N26 h26 => ?_
        refine vc_regG [13] hmix (by kernel_rfl) ?_
        try refine lg_mk ?_
        refine t18_0 ?_
        refine t18_0 ?_
        refine t18_24 ?_
        refine t18_25 ?_
        refine t18_26 ?_
        refine t18_0 ?_
        refine t18_0 ?_
        refine t18_27 ?_
        refine t18_26 ?_
        refine t18_28 ?_
        refine lg_nil ?_
        refine h26 _ ?_; clear h26; try clear N26
        refine vc_cond_k (by simp only [w1, w3, eq_self, Nat.reduceEqDiff, reduceIte]; rfl) (fun hb27 => ?_) (fun hb27 => ?_)
        ·try simp only [b_rules, bif_and, bif_or] at hb27
         first | omega | exact absurd trivial hb27 | contradiction | (simp_all; done)
        ·try simp only [b_rules, bif_and, bif_or] at hb27
         refine vc_skip ?_
         try simp only [k_rules]
         refine h25 _ ?_; clear h25; try clear N25
         refine vc_regG [13] hmix (by kernel_rfl) ?_
         try refine lg_mk ?_
         refine t18_0 ?_
         refine t18_10 ?_
         refine t18_0 ?_
         refine lg_nil ?_
         refine h21 _ ⟨i + 1, ?_, ?_, [some 0, some 1], ?_⟩
         ·dsimp only
          omega
         ·dsimp only
          omega
         ·dsimp only
          refine ⟨by rfl, ?_, ?_⟩
          ·exact t18_23
          ·exact t18_23
       ·try simp only [b_rules, bif_and, bif_or] at hb24
        refine vc_exit ?_
        simp only [k_rules, Nat.reduceEqDiff, reduceIte, eq_self]
        refine h19 _ ?_; clear h19; try clear N19
        refine vc_seq_k fun N28 h28 => ?_
        refine vc_regG [13] hmix (by kernel_rfl) ?_
        try refine lg_mk ?_
        refine t18_29 ?_
        refine t18_12 ?_
        refine t18_13 ?_
        refine lg_nil ?_
        refine h28 _ ?_; clear h28; try clear N28
        refine vc_seq_k fun N29 h29 => ?_
        refine vc_regG [13] hmix (by kernel_rfl) ?_
        try refine lg_mk ?_
        refine t18_0 ?_
        refine t18_0 ?_
        refine lg_nil ?_
        refine h29 _ ?_; clear h29; try clear N29
        refine vc_seq_k fun N30 h30 => ?_
        refine vc_seq_k fun N31 h31 => ?_
        refine vc_regG [13] hmix (by kernel_rfl) ?_
        try refine lg_mk ?_
        refine t18_0 ?_
        refine t18_9 ?_
        refine t18_10 ?_
        refine lg_nil ?_
        refine h31 _ ?_; clear h31; try clear N31
        refine vc_cond_k (by simp only [w1, w3, eq_self, Nat.reduceEqDiff, reduceIte]; rfl) (fun hb32 => ?_) (fun hb32 => ?_)
        ·try simp only [b_rules, bif_and, bif_or] at hb32
         refine vc_regG [13] hmix (by kernel_rfl) ?_
         try refine lg_mk ?_
         refine t18_11 ?_
         refine t18_13 ?_
         refine lg_nil ?_
         refine h30 _ ?_; clear h30; try clear N30
         refine vc_seq_k fun N33 h33 => ?_
         refine vc_seq_k fun N34 h34 => ?_
         refine vc_regG [13] hmix (by kernel_rfl) ?_
         try refine lg_mk ?_
         refine t18_21 ?_
         refine t18_14 ?_
         refine t18_10 ?_
         refine lg_nil ?_
         refine h34 _ ?_; clear h34; try clear N34
         refine vc_cond_k (by simp only [w1, w3, eq_self, Nat.reduceEqDiff, reduceIte]; rfl) (fun hb35 => ?_) (fun hb35 => ?_)
         ·try simp only [b_rules, bif_and, bif_or] at hb35
          refine vc_seq_k fun N36 h36 => ?_
          refine vc_regG [13] hmix (by kernel_rfl) ?_
          try refine lg_mk ?_
          refine t18_14 ?_
          refine t18_14 ?_
          refine t18_10 ?_
          refine t18_0 ?_
          first | (refine lg_g0 ?_ ?_; focus (simp only [guard_rules, list_rules, opt_bind, fr_rules, eq_self, Nat.reduceEqDiff, reduceIte, bool_rules]; done)) | refine t18_18 ?_
          first | (refine lg_g0 ?_ ?_; focus (simp only [guard_rules, list_rules, opt_bind, fr_rules, eq_self, Nat.reduceEqDiff, reduceIte, bool_rules]; done)) | refine t18_19 ?_
          first | (refine lg_g0 ?_ ?_; focus (simp only [guard_rules, list_rules, opt_bind, fr_rules, eq_self, Nat.reduceEqDiff, reduceIte, bool_rules]; done)) | refine t18_18 ?_
          first | (refine lg_g0 ?_ ?_; focus (simp only [guard_rules, list_rules, opt_bind, fr_rules, eq_self, Nat.reduceEqDiff, reduceIte, bool_rules]; done)) | refine t18_16 ?_
          first | (refine lg_g0 ?_ ?_; focus (simp only [guard_rules, list_rules, opt_bind, fr_rules, eq_self, Nat.reduceEqDiff, reduceIte, bool_rules]; done)) | refine t18_16 ?_
          refine t18_17 ?_
          refine t18_0 ?_
          refine lg_nil ?_
          refine h36 _ ?_; clear h36; try clear N36
          refine vc_ret ?_
          try simp only [k_rules]
          exact t18_20
         ·try simp only [b_rules, bif_and, bif_or] at hb35
          refine vc_skip ?_
          try simp only [k_rules]
          refine h33 _ ?_; clear h33; try clear N33
          refine vc_seq_k fun N37 h37 => ?_
          refine vc_regG [13] hmix (by kernel_rfl) ?_
          try refine lg_mk ?_
          refine t18_30 ?_
          refine t18_31 ?_
          refine t18_32 ?_
          refine t18_0 ?_
          first | (refine lg_g0 ?_ ?_; focus (simp only [guard_rules, list_rules, opt_bind, fr_rules, eq_self, Nat.reduceEqDiff, reduceIte, bool_rules, take_min]; done)) | refine t18_33 ?_
          first | (refine lg_g0 ?_ ?_; focus (simp only [guard_rules, list_rules, opt_bind, fr_rules, eq_self, Nat.reduceEqDiff, reduceIte, bool_rules, take_min]; done)) | refine t18_33 ?_
          first | (refine lg_g0 ?_ ?_; focus (simp only [guard_rules, list_rules, opt_bind, fr_rules, eq_self, Nat.reduceEqDiff, reduceIte, bool_rules, take_min]; done)) | refine t18_34 ?_
          refine t18_17 ?_
          refine t18_0 ?_
          first | (refine lg_g0 ?_ ?_; focus (simp only [guard_rules, list_rules, opt_bind, fr_rules, eq_self, Nat.reduceEqDiff, reduceIte, bool_rules, take_min]; done)) | refine t18_33 ?_
          first | (refine lg_g0 ?_ ?_; focus (simp only [guard_rules, list_rules, opt_bind, fr_rules, eq_self, Nat.reduceEqDiff, reduceIte, bool_rules, take_min]; done)) | refine t18_35 ?_
          first | (refine lg_g0 ?_ ?_; focus (simp only [guard_rules, list_rules, opt_bind, fr_rules, eq_self, Nat.reduceEqDiff, reduceIte, bool_rules, take_min]; done)) | refine t18_33 ?_
          first | (refine lg_g0 ?_ ?_; focus (simp only [guard_rules, list_rules, opt_bind, fr_rules, eq_self, Nat.reduceEqDiff, reduceIte, bool_rules, take_min]; done)) | refine t18_33 ?_
          first | (refine lg_g0 ?_ ?_; focus (simp only [guard_rules, list_rules, opt_bind, fr_rules, eq_self, Nat.reduceEqDiff, reduceIte, bool_rules, take_min]; done)) | refine t18_36 ?_
          first | (refine lg_g0 ?_ ?_; focus (simp only [guard_rules, list_rules, opt_bind, fr_rules, eq_self, Nat.reduceEqDiff, reduceIte, bool_rules, take_min]; done)) | refine t18_33 ?_
          first | (refine lg_g0 ?_ ?_; focus (simp only [guard_rules, list_rules, opt_bind, fr_rules, eq_self, Nat.reduceEqDiff, reduceIte, bool_rules, take_min]; done)) | refine t18_34 ?_
          first | (refine lg_g0 ?_ ?_; focus (simp only [guard_rules, list_rules, opt_bind, fr_rules, eq_self, Nat.reduceEqDiff, reduceIte, bool_rules, take_min]; done)) | refine t18_37 ?_
          first | (refine lg_g0 ?_ ?_; focus (simp only [guard_rules, list_rules, opt_bind, fr_rules, eq_self, Nat.reduceEqDiff, reduceIte, bool_rules, take_min]; done)) | refine t18_38 ?_
          first | (refine lg_g0 ?_ ?_; focus (simp only [guard_rules, list_rules, opt_bind, fr_rules, eq_self, Nat.reduceEqDiff, reduceIte, bool_rules, take_min]; done)) | refine t18_35 ?_
          first | (refine lg_g0 ?_ ?_; focus (simp only [guard_rules, list_rules, opt_bind, fr_rules, eq_self, Nat.reduceEqDiff, reduceIte, bool_rules, take_min]; done)) | refine t18_34 ?_
          refine t18_17 ?_
          refine t18_0 ?_
          refine lg_nil ?_
          refine h37 _ ?_; clear h37; try clear N37
          refine vc_ret ?_
          try simp only [k_rules]
          exact t18_20
        ·try simp only [b_rules, bif_and, bif_or] at hb32
         first | omega | exact absurd trivial hb32 | contradiction | (simp_all; done)
   ·have hq : (l.length ≤ 4096) = True := eq_true (by omega)
    refine vc_regG [13] hmix (by kernel_rfl) ?_
    try refine lg_mk ?_
    refine t18_0 ?_
    refine t18_1 ?_
    refine t18_0 ?_
    refine t18_2 ?_
    refine t18_2 ?_
    refine t18_3 ?_
    refine t18_0 ?_
    refine t18_4 ?_
    refine lg_nil ?_
    refine h5 _ ?_; clear h5; try clear N5
    refine vc_seq_k fun N38 h38 => ?_
    refine vc_regG [13] hmix (by kernel_rfl) ?_
    try refine lg_mk ?_
    refine t18_0 ?_
    refine t18_0 ?_
    refine t18_5 ?_
    refine t18_0 ?_
    refine t18_6 ?_
    refine t18_6 ?_
    refine t18_6 ?_
    refine t18_7 ?_
    refine t18_0 ?_
    refine t18_0 ?_
    refine t18_8 ?_
    refine lg_nil ?_
    refine h38 _ ?_; clear h38; try clear N38
    refine vc_seq_k fun N39 h39 => ?_
    refine vc_seq_k fun N40 h40 => ?_
    refine vc_regG [13] hmix (by kernel_rfl) ?_
    try refine lg_mk ?_
    refine t18_0 ?_
    refine t18_9 ?_
    refine t18_10 ?_
    refine lg_nil ?_
    refine h40 _ ?_; clear h40; try clear N40
    refine vc_cond_k (by simp only [w1, w3, eq_self, Nat.reduceEqDiff, reduceIte]; rfl) (fun hb41 => ?_) (fun hb41 => ?_)
    ·try simp only [b_rules, bif_and, bif_or] at hb41
     first | omega | exact absurd trivial hb41 | contradiction | (simp_all; done)
    ·try simp only [b_rules, bif_and, bif_or] at hb41
     refine vc_skip ?_
     try simp only [k_rules]
     refine h39 _ ?_; clear h39; try clear N39
     refine vc_seq_k fun N42 h42 => ?_
     refine vc_seq_k fun N43 h43 => ?_
     refine vc_regG [13] hmix (by kernel_rfl) ?_
     try refine lg_mk ?_
     refine t18_21 ?_
     refine t18_14 ?_
     refine t18_10 ?_
     refine t18_0 ?_
     first | (refine lg_g0 ?_ ?_; focus (simp only [guard_rules, list_rules, opt_bind, fr_rules, eq_self, Nat.reduceEqDiff, reduceIte, bool_rules]; done)) | refine t18_18 ?_
     first | (refine lg_g0 ?_ ?_; focus (simp only [guard_rules, list_rules, opt_bind, fr_rules, eq_self, Nat.reduceEqDiff, reduceIte, bool_rules]; done)) | refine t18_19 ?_
     first | (refine lg_g0 ?_ ?_; focus (simp only [guard_rules, list_rules, opt_bind, fr_rules, eq_self, Nat.reduceEqDiff, reduceIte, bool_rules]; done)) | refine t18_18 ?_
     first | (refine lg_g0 ?_ ?_; focus (simp only [guard_rules, list_rules, opt_bind, fr_rules, eq_self, Nat.reduceEqDiff, reduceIte, bool_rules]; done)) | refine t18_22 ?_
     first | (refine lg_g0 ?_ ?_; focus (simp only [guard_rules, list_rules, opt_bind, fr_rules, eq_self, Nat.reduceEqDiff, reduceIte, bool_rules]; done)) | refine t18_16 ?_
     refine t18_17 ?_
     refine lg_nil ?_
     refine h43 _ ?_; clear h43; try clear N43
     refine vc_cond_k (by simp only [w1, w3, eq_self, Nat.reduceEqDiff, reduceIte]; rfl) (fun hb44 => ?_) (fun hb44 => ?_)
     ·try simp only [b_rules, bif_and, bif_or] at hb44
      first | omega | exact absurd trivial hb44 | contradiction | (simp_all; done)
     ·try simp only [b_rules, bif_and, bif_or] at hb44
      refine vc_skip ?_
      try simp only [k_rules]
      refine h42 _ ?_; clear h42; try clear N42
      refine vc_seq_k fun N45 h45 => ?_
      refine vc_seq_k fun N46 h46 => ?_
      refine vc_regG [13] hmix (by kernel_rfl) ?_
      try refine lg_mk ?_
      refine t18_0 ?_
      refine lg_nil ?_
      refine h46 _ ?_; clear h46; try clear N46
      refine vc_block ?_
      refine vc_loop_mk (σ := Nat) (fun s => (fun i => i ≤ (framesOf l).length) s)
       (fun s => (fun i => [(0, .d (.sl (rows eU l))), (1, .d (.sl (rows eE es))), (5, .d (.sl (rows (eL eU) (framesOf l)))), (6, .ptr 0 0 0), (7, .d (.sl [])), (8, .d (.int .i64 0)), (9, .ptr 1 0 0), (11, .d (.int .i64 (i : Nat)))]) s)
       (fun s => (fun i => [some (.one 27 [.d (.int .i64 0), .d (.int .i64 0)]), some (.one 27 [.d (.int .i64 c), .d (.int .i64 ci)])]) s) (fun s => (fun i => (framesOf l).length - i) s) hnp 0 ?_ [some 0, some 1] ?_ ?_
      ·dsimp only
       exact Nat.zero_le _
      ·dsimp only
       refine ⟨by rfl, ?_, ?_⟩
       ·exact t18_23
       ·exact t18_23
      ·rintro i hinv N47 h47
       dsimp only at hinv ⊢
       have hi := hinv
       refine vc_seq_k fun N48 h48 => ?_
       refine vc_seq_k fun N49 h49 => ?_
       refine vc_regG [13] hmix (by kernel_rfl) ?_
       try refine lg_mk ?_
       refine t18_0 ?_
       refine t18_0 ?_
       refine t18_9 ?_
       refine t18_10 ?_
       refine lg_nil ?_
       refine h49 _ ?_; clear h49; try clear N49
       refine vc_cond_k (by simp only [w1, w3, eq_self, Nat.reduceEqDiff, reduceIte]; rfl) (fun hb50 => ?_) (fun hb50 => ?_)
       ·try simp only [b_rules, bif_and, bif_or] at hb50
        have hfi := frame_at (l := l) (i := i) (by omega)
        refine vc_skip ?_
        try simp only [k_rules]
        refine h48 _ ?_; clear h48; try clear N48
        refine vc_seq_k fun N51 h51 => ?_
        refine vc_block ?_
        refine vc_seq_k fun N52 h52 => ?_
        refine vc_regG [13] hmix (by kernel_rfl) ?_
        try refine lg_mk ?_
        refine t18_0 ?_
        refine t18_0 ?_
        refine t18_24 ?_
        refine t18_25 ?_
        refine t18_26 ?_
        refine t18_0 ?_
        refine t18_0 ?_
        refine t18_27 ?_
        refine t18_26 ?_
        refine t18_28 ?_
        refine lg_nil ?_
        refine h52 _ ?_; clear h52; try clear N52
        refine vc_cond_k (by simp only [w1, w3, eq_self, Nat.reduceEqDiff, reduceIte]; rfl) (fun hb53 => ?_) (fun hb53 => ?_)
        ·try simp only [b_rules, bif_and, bif_or] at hb53
         first | omega | exact absurd trivial hb53 | contradiction | (simp_all; done)
        ·try simp only [b_rules, bif_and, bif_or] at hb53
         refine vc_skip ?_
         try simp only [k_rules]
         refine h51 _ ?_; clear h51; try clear N51
         refine vc_regG [13] hmix (by kernel_rfl) ?_
         try refine lg_mk ?_
         refine t18_0 ?_
         refine t18_10 ?_
         refine t18_0 ?_
         refine lg_nil ?_
         refine h47 _ ⟨i + 1, ?_, ?_, [some 0, some 1], ?_⟩
         ·dsimp only
          omega
         ·dsimp only
          omega
         ·dsimp only
          refine ⟨by rfl, ?_, ?_⟩
          ·exact t18_23
          ·exact t18_23
       ·try simp only [b_rules, bif_and, bif_or] at hb50
        refine vc_exit ?_
        simp only [k_rules, Nat.reduceEqDiff, reduceIte, eq_self]
        refine h45 _ ?_; clear h45; try clear N45
        refine vc_seq_k fun N54 h54 => ?_
        refine vc_regG [13] hmix (by kernel_rfl) ?_
        try refine lg_mk ?_
        refine t18_29 ?_
        refine t18_12 ?_
        refine t18_13 ?_
        refine lg_nil ?_
        refine h54 _ ?_; clear h54; try clear N54
        refine vc_seq_k fun N55 h55 => ?_
        refine vc_regG [13] hmix (by kernel_rfl) ?_
        try refine lg_mk ?_
        refine t18_0 ?_
        refine t18_0 ?_
        refine lg_nil ?_
        refine h55 _ ?_; clear h55; try clear N55
        refine vc_seq_k fun N56 h56 => ?_
        refine vc_seq_k fun N57 h57 => ?_
        refine vc_regG [13] hmix (by kernel_rfl) ?_
        try refine lg_mk ?_
        refine t18_0 ?_
        refine t18_9 ?_
        refine t18_10 ?_
        refine lg_nil ?_
        refine h57 _ ?_; clear h57; try clear N57
        refine vc_cond_k (by simp only [w1, w3, eq_self, Nat.reduceEqDiff, reduceIte]; rfl) (fun hb58 => ?_) (fun hb58 => ?_)
        ·try simp only [b_rules, bif_and, bif_or] at hb58
         first | omega | exact absurd trivial hb58 | contradiction | (simp_all; done)
        ·try simp only [b_rules, bif_and, bif_or] at hb58
         refine vc_regG [13] hmix (by kernel_rfl) ?_
         try refine lg_mk ?_
         refine t18_0 ?_
         refine t18_39 ?_
         refine t18_0 ?_
         refine t18_40 ?_
         refine t18_0 ?_
         refine t18_41 ?_
         refine t18_41 ?_
         refine t18_41 ?_
         refine t18_0 ?_
         refine t18_0 ?_
         refine t18_42 ?_
         refine lg_nil ?_
         refine h56 _ ?_; clear h56; try clear N56
         refine vc_seq_k fun N59 h59 => ?_
         refine vc_seq_k fun N60 h60 => ?_
         refine vc_regG [13] hmix (by kernel_rfl) ?_
         try refine lg_mk ?_
         refine t18_21 ?_
         refine t18_14 ?_
         refine t18_10 ?_
         refine lg_nil ?_
         refine h60 _ ?_; clear h60; try clear N60
         refine vc_cond_k (by simp only [w1, w3, eq_self, Nat.reduceEqDiff, reduceIte]; rfl) (fun hb61 => ?_) (fun hb61 => ?_)
         ·try simp only [b_rules, bif_and, bif_or] at hb61
          refine vc_seq_k fun N62 h62 => ?_
          refine vc_regG [13] hmix (by kernel_rfl) ?_
          try refine lg_mk ?_
          refine t18_14 ?_
          refine t18_14 ?_
          refine t18_10 ?_
          refine t18_0 ?_
          first | (refine lg_g0 ?_ ?_; focus (simp only [guard_rules, list_rules, opt_bind, fr_rules, eq_self, Nat.reduceEqDiff, reduceIte, bool_rules]; done)) | refine t18_18 ?_
          first | (refine lg_g0 ?_ ?_; focus (simp only [guard_rules, list_rules, opt_bind, fr_rules, eq_self, Nat.reduceEqDiff, reduceIte, bool_rules]; done)) | refine t18_19 ?_
          first | (refine lg_g0 ?_ ?_; focus (simp only [guard_rules, list_rules, opt_bind, fr_rules, eq_self, Nat.reduceEqDiff, reduceIte, bool_rules]; done)) | refine t18_18 ?_
          first | (refine lg_g0 ?_ ?_; focus (simp only [guard_rules, list_rules, opt_bind, fr_rules, eq_self, Nat.reduceEqDiff, reduceIte, bool_rules]; done)) | refine t18_16 ?_
          first | (refine lg_g0 ?_ ?_; focus (simp only [guard_rules, list_rules, opt_bind, fr_rules, eq_self, Nat.reduceEqDiff, reduceIte, bool_rules]; done)) | refine t18_16 ?_
          refine t18_17 ?_
          refine t18_0 ?_
          refine lg_nil ?_
          refine h62 _ ?_; clear h62; try clear N62
          refine vc_ret ?_
          try simp only [k_rules]
          exact t18_20
         ·try simp only [b_rules, bif_and, bif_or] at hb61
          refine vc_skip ?_
          try simp only [k_rules]
          refine h59 _ ?_; clear h59; try clear N59
          refine vc_seq_k fun N63 h63 => ?_
          refine vc_regG [13] hmix (by kernel_rfl) ?_
          try refine lg_mk ?_
          refine t18_30 ?_
          refine t18_31 ?_
          refine t18_32 ?_
          refine t18_0 ?_
          first | (refine lg_g0 ?_ ?_; focus (simp only [guard_rules, list_rules, opt_bind, fr_rules, eq_self, Nat.reduceEqDiff, reduceIte, bool_rules, take_min]; done)) | refine t18_33 ?_
          first | (refine lg_g0 ?_ ?_; focus (simp only [guard_rules, list_rules, opt_bind, fr_rules, eq_self, Nat.reduceEqDiff, reduceIte, bool_rules, take_min]; done)) | refine t18_33 ?_
          first | (refine lg_g0 ?_ ?_; focus (simp only [guard_rules, list_rules, opt_bind, fr_rules, eq_self, Nat.reduceEqDiff, reduceIte, bool_rules, take_min]; done)) | refine t18_34 ?_
          refine t18_17 ?_
          refine t18_0 ?_
          first | (refine lg_g0 ?_ ?_; focus (simp only [guard_rules, list_rules, opt_bind, fr_rules, eq_self, Nat.reduceEqDiff, reduceIte, bool_rules, take_min]; done)) | refine t18_33 ?_
          first | (refine lg_g0 ?_ ?_; focus (simp only [guard_rules, list_rules, opt_bind, fr_rules, eq_self, Nat.reduceEqDiff, reduceIte, bool_rules, take_min]; done)) | refine t18_35 ?_
          first | (refine lg_g0 ?_ ?_; focus (simp only [guard_rules, list_rules, opt_bind, fr_rules, eq_self, Nat.reduceEqDiff, reduceIte, bool_rules, take_min]; done)) | refine t18_33 ?_
          first | (refine lg_g0 ?_ ?_; focus (simp only [guard_rules, list_rules, opt_bind, fr_rules, eq_self, Nat.reduceEqDiff, reduceIte, bool_rules, take_min]; done)) | refine t18_33 ?_
          first | (refine lg_g0 ?_ ?_; focus (simp only [guard_rules, list_rules, opt_bind, fr_rules, eq_self, Nat.reduceEqDiff, reduceIte, bool_rules, take_min]; done)) | refine t18_36 ?_
          first | (refine lg_g0 ?_ ?_; focus (simp only [guard_rules, list_rules, opt_bind, fr_rules, eq_self, Nat.reduceEqDiff, reduceIte, bool_rules, take_min]; done)) | refine t18_33 ?_
          first | (refine lg_g0 ?_ ?_; focus (simp only [guard_rules, list_rules, opt_bind, fr_rules, eq_self, Nat.reduceEqDiff, reduceIte, bool_rules, take_min]; done)) | refine t18_34 ?_
          first | (refine lg_g0 ?_ ?_; focus (simp only [guard_rules, list_rules, opt_bind, fr_rules, eq_self, Nat.reduceEqDiff, reduceIte, bool_rules, take_min]; done)) | refine t18_37 ?_
          first | (refine lg_g0 ?_ ?_; focus (simp only [guard_rules, list_rules, opt_bind, fr_rules, eq_self, Nat.reduceEqDiff, reduceIte, bool_rules, take_min]; done)) | refine t18_38 ?_
          first | (refine lg_g0 ?_ ?_; focus (simp only [guard_rules, list_rules, opt_bind, fr_rules, eq_self, Nat.reduceEqDiff, reduceIte, bool_rules, take_min]; done)) | refine t18_35 ?_
          first | (refine lg_g0 ?_ ?_; focus (simp only [guard_rules, list_rules, opt_bind, fr_rules, eq_self, Nat.reduceEqDiff, reduceIte, bool_rules, take_min]; done)) | refine t18_34 ?_
          refine t18_17 ?_
          refine t18_0 ?_
          refine lg_nil ?_
          refine h63 _ ?_; clear h63; try clear N63
          refine vc_ret ?_
          try simp only [k_rules]
          exact t18_20
   ·have hq : (l.length ≤ 4096) = True := eq_true (by omega)
    refine vc_regG [13] hmix (by kernel_rfl) ?_
    try refine lg_mk ?_
    refine t18_0 ?_
    refine t18_1 ?_
    refine t18_0 ?_
    refine t18_2 ?_
    refine t18_2 ?_
    refine t18_3 ?_
    refine t18_0 ?_
    refine t18_4 ?_
    refine lg_nil ?_
    refine h5 _ ?_; clear h5; try clear N5
    refine vc_seq_k fun N64 h64 => ?_
    refine vc_regG [13] hmix (by kernel_rfl) ?_
    try refine lg_mk ?_
    refine t18_0 ?_
    refine t18_0 ?_
    refine t18_5 ?_
    refine t18_0 ?_
    refine t18_6 ?_
    refine t18_6 ?_
    refine t18_6 ?_
    refine t18_7 ?_
    refine t18_0 ?_
    refine t18_0 ?_
    refine t18_8 ?_
    refine lg_nil ?_
    refine h64 _ ?_; clear h64; try clear N64
    refine vc_seq_k fun N65 h65 => ?_
    refine vc_seq_k fun N66 h66 => ?_
    refine vc_regG [13] hmix (by kernel_rfl) ?_
    try refine lg_mk ?_
    refine t18_0 ?_
    refine t18_9 ?_
    refine t18_10 ?_
    refine lg_nil ?_
    refine h66 _ ?_; clear h66; try clear N66
    refine vc_cond_k (by simp only [w1, w3, eq_self, Nat.reduceEqDiff, reduceIte]; rfl) (fun hb67 => ?_) (fun hb67 => ?_)
    ·try simp only [b_rules, bif_and, bif_or] at hb67
     first | omega | exact absurd trivial hb67 | contradiction | (simp_all; done)
    ·try simp only [b_rules, bif_and, bif_or] at hb67
     refine vc_skip ?_
     try simp only [k_rules]
     refine h65 _ ?_; clear h65; try clear N65
     refine vc_seq_k fun N68 h68 => ?_
     refine vc_seq_k fun N69 h69 => ?_
     refine vc_regG [13] hmix (by kernel_rfl) ?_
     try refine lg_mk ?_
     refine t18_21 ?_
     refine t18_14 ?_
     refine t18_10 ?_
     refine t18_0 ?_
     first | (refine lg_g0 ?_ ?_; focus (simp only [guard_rules, list_rules, opt_bind, fr_rules, eq_self, Nat.reduceEqDiff, reduceIte, bool_rules]; done)) | refine t18_18 ?_
     first | (refine lg_g0 ?_ ?_; focus (simp only [guard_rules, list_rules, opt_bind, fr_rules, eq_self, Nat.reduceEqDiff, reduceIte, bool_rules]; done)) | refine t18_19 ?_
     first | (refine lg_g0 ?_ ?_; focus (simp only [guard_rules, list_rules, opt_bind, fr_rules, eq_self, Nat.reduceEqDiff, reduceIte, bool_rules]; done)) | refine t18_18 ?_
     first | (refine lg_g0 ?_ ?_; focus (simp only [guard_rules, list_rules, opt_bind, fr_rules, eq_self, Nat.reduceEqDiff, reduceIte, bool_rules]; done)) | refine t18_22 ?_
     first | (refine lg_g0 ?_ ?_; focus (simp only [guard_rules, list_rules, opt_bind, fr_rules, eq_self, Nat.reduceEqDiff, reduceIte, bool_rules]; done)) | refine t18_16 ?_
     refine t18_17 ?_
     refine lg_nil ?_
     refine h69 _ ?_; clear h69; try clear N69
     refine vc_cond_k (by simp only [w1, w3, eq_self, Nat.reduceEqDiff, reduceIte]; rfl) (fun hb70 => ?_) (fun hb70 => ?_)
     ·try simp only [b_rules, bif_and, bif_or] at hb70
      first | omega | exact absurd trivial hb70 | contradiction | (simp_all; done)
     ·try simp only [b_rules, bif_and, bif_or] at hb70
      refine vc_skip ?_
      try simp only [k_rules]
      refine h68 _ ?_; clear h68; try clear N68
      refine vc_seq_k fun N71 h71 => ?_
      refine vc_seq_k fun N72 h72 => ?_
      refine vc_regG [13] hmix (by kernel_rfl) ?_
      try refine lg_mk ?_
      refine t18_0 ?_
      refine lg_nil ?_
      refine h72 _ ?_; clear h72; try clear N72
      refine vc_block ?_
      refine vc_loop_mk (σ := Nat) (fun s => (fun i => i ≤ (framesOf l).length) s)
       (fun s => (fun i => [(0, .d (.sl (rows eU l))), (1, .d (.sl (rows eE es))), (5, .d (.sl (rows (eL eU) (framesOf l)))), (6, .ptr 0 0 0), (7, .d (.sl (rows eU (l.take (16 * tk))))), (8, .d (.int .i64 (a : Nat))), (9, .ptr 1 0 0), (11, .d (.int .i64 (i : Nat)))]) s)
       (fun s => (fun i => [some (.one 27 [.d (.int .i64 0), .d (.int .i64 0)]), some (.one 27 [.d (.int .i64 0), .d (.int .i64 0)])]) s) (fun s => (fun i => (framesOf l).length - i) s) hnp 0 ?_ [some 0, some 1] ?_ ?_
      ·dsimp only
       exact Nat.zero_le _
      ·dsimp only
       refine ⟨by rfl, ?_, ?_⟩
       ·exact t18_23
       ·exact t18_23
      ·rintro i hinv N73 h73
       dsimp only at hinv ⊢
       have hi := hinv
       refine vc_seq_k fun N74 h74 => ?_
       refine vc_seq_k fun N75 h75 => ?_
       refine vc_regG [13] hmix (by kernel_rfl) ?_
       try refine lg_mk ?_
       refine t18_0 ?_
       refine t18_0 ?_
       refine t18_9 ?_
       refine t18_10 ?_
       refine lg_nil ?_
       refine h75 _ ?_; clear h75; try clear N75
       refine vc_cond_k (by simp only [w1, w3, eq_self, Nat.reduceEqDiff, reduceIte]; rfl) (fun hb76 => ?_) (fun hb76 => ?_)
       ·try simp only [b_rules, bif_and, bif_or] at hb76
        have hfi := frame_at (l := l) (i := i) (by omega)
        refine vc_skip ?_
        try simp only [k_rules]
        refine h74 _ ?_; clear h74; try clear N74
        refine vc_seq_k fun N77 h77 => ?_
        refine vc_block ?_
        refine vc_seq_k fun N78 h78 => ?_
        refine vc_regG [13] hmix (by kernel_rfl) ?_
        try refine lg_mk ?_
        refine t18_0 ?_
        refine t18_0 ?_
        refine t18_24 ?_
        refine t18_25 ?_
        refine t18_26 ?_
        refine t18_0 ?_
        refine t18_0 ?_
        refine t18_27 ?_
        refine t18_26 ?_
        refine t18_28 ?_
        refine lg_nil ?_
        refine h78 _ ?_; clear h78; try clear N78
        refine vc_cond_k (by simp only [w1, w3, eq_self, Nat.reduceEqDiff, reduceIte]; rfl) (fun hb79 => ?_) (fun hb79 => ?_)
        ·try simp only [b_rules, bif_and, bif_or] at hb79
         first | omega | exact absurd trivial hb79 | contradiction | (simp_all; done)
        ·try simp only [b_rules, bif_and, bif_or] at hb79
         refine vc_skip ?_
         try simp only [k_rules]
         refine h77 _ ?_; clear h77; try clear N77
         refine vc_regG [13] hmix (by kernel_rfl) ?_
         try refine lg_mk ?_
         refine t18_0 ?_
         refine t18_10 ?_
         refine t18_0 ?_
         refine lg_nil ?_
         refine h73 _ ⟨i + 1, ?_, ?_, [some 0, some 1], ?_⟩
         ·dsimp only
          omega
         ·dsimp only
          omega
         ·dsimp only
          refine ⟨by rfl, ?_, ?_⟩
          ·exact t18_23
          ·exact t18_23
       ·try simp only [b_rules, bif_and, bif_or] at hb76
        refine vc_exit ?_
        simp only [k_rules, Nat.reduceEqDiff, reduceIte, eq_self]
        refine h71 _ ?_; clear h71; try clear N71
        refine vc_seq_k fun N80 h80 => ?_
        refine vc_regG [13] hmix (by kernel_rfl) ?_
        try refine lg_mk ?_
        refine t18_29 ?_
        refine t18_12 ?_
        refine t18_13 ?_
        refine lg_nil ?_
        refine h80 _ ?_; clear h80; try clear N80
        refine vc_seq_k fun N81 h81 => ?_
        refine vc_regG [13] hmix (by kernel_rfl) ?_
        try refine lg_mk ?_
        refine t18_0 ?_
        refine t18_0 ?_
        refine lg_nil ?_
        refine h81 _ ?_; clear h81; try clear N81
        refine vc_seq_k fun N82 h82 => ?_
        refine vc_seq_k fun N83 h83 => ?_
        refine vc_regG [13] hmix (by kernel_rfl) ?_
        try refine lg_mk ?_
        refine t18_0 ?_
        refine t18_9 ?_
        refine t18_10 ?_
        refine lg_nil ?_
        refine h83 _ ?_; clear h83; try clear N83
        refine vc_cond_k (by simp only [w1, w3, eq_self, Nat.reduceEqDiff, reduceIte]; rfl) (fun hb84 => ?_) (fun hb84 => ?_)
        ·try simp only [b_rules, bif_and, bif_or] at hb84
         first | omega | exact absurd trivial hb84 | contradiction | (simp_all; done)
        ·try simp only [b_rules, bif_and, bif_or] at hb84
         refine vc_regG [13] hmix (by kernel_rfl) ?_
         try refine lg_mk ?_
         refine t18_0 ?_
         refine t18_39 ?_
         refine t18_0 ?_
         refine t18_40 ?_
         refine t18_0 ?_
         refine t18_41 ?_
         refine t18_41 ?_
         refine t18_41 ?_
         refine t18_0 ?_
         refine t18_0 ?_
         refine t18_42 ?_
         refine lg_nil ?_
         refine h82 _ ?_; clear h82; try clear N82
         refine vc_seq_k fun N85 h85 => ?_
         refine vc_seq_k fun N86 h86 => ?_
         refine vc_regG [13] hmix (by kernel_rfl) ?_
         try refine lg_mk ?_
         refine t18_21 ?_
         refine t18_14 ?_
         refine t18_10 ?_
         refine lg_nil ?_
         refine h86 _ ?_; clear h86; try clear N86
         refine vc_cond_k (by simp only [w1, w3, eq_self, Nat.reduceEqDiff, reduceIte]; rfl) (fun hb87 => ?_) (fun hb87 => ?_)
         ·try simp only [b_rules, bif_and, bif_or] at hb87
          refine vc_seq_k fun N88 h88 => ?_
          refine vc_regG [13] hmix (by kernel_rfl) ?_
          try refine lg_mk ?_
          refine t18_14 ?_
          refine t18_14 ?_
          refine t18_10 ?_
          refine t18_0 ?_
          first | (refine lg_g0 ?_ ?_; focus (simp only [guard_rules, list_rules, opt_bind, fr_rules, eq_self, Nat.reduceEqDiff, reduceIte, bool_rules]; done)) | refine t18_18 ?_
          first | (refine lg_g0 ?_ ?_; focus (simp only [guard_rules, list_rules, opt_bind, fr_rules, eq_self, Nat.reduceEqDiff, reduceIte, bool_rules]; done)) | refine t18_19 ?_
          first | (refine lg_g0 ?_ ?_; focus (simp only [guard_rules, list_rules, opt_bind, fr_rules, eq_self, Nat.reduceEqDiff, reduceIte, bool_rules]; done)) | refine t18_18 ?_
          first | (refine lg_g0 ?_ ?_; focus (simp only [guard_rules, list_rules, opt_bind, fr_rules, eq_self, Nat.reduceEqDiff, reduceIte, bool_rules]; done)) | refine t18_16 ?_
          first | (refine lg_g0 ?_ ?_; focus (simp only [guard_rules, list_rules, opt_bind, fr_rules, eq_self, Nat.reduceEqDiff, reduceIte, bool_rules]; done)) | refine t18_16 ?_
          refine t18_17 ?_
          refine t18_0 ?_
          refine lg_nil ?_
          refine h88 _ ?_; clear h88; try clear N88
          refine vc_ret ?_
          try simp only [k_rules]
          exact t18_20
         ·try simp only [b_rules, bif_and, bif_or] at hb87
          refine vc_skip ?_
          try simp only [k_rules]
          refine h85 _ ?_; clear h85; try clear N85
          refine vc_seq_k fun N89 h89 => ?_
          refine vc_regG [13] hmix (by kernel_rfl) ?_
          try refine lg_mk ?_
          refine t18_30 ?_
          refine t18_31 ?_
          refine t18_32 ?_
          refine t18_0 ?_
          first | (refine lg_g0 ?_ ?_; focus (simp only [guard_rules, list_rules, opt_bind, fr_rules, eq_self, Nat.reduceEqDiff, reduceIte, bool_rules, take_min]; done)) | refine t18_33 ?_
          first | (refine lg_g0 ?_ ?_; focus (simp only [guard_rules, list_rules, opt_bind, fr_rules, eq_self, Nat.reduceEqDiff, reduceIte, bool_rules, take_min]; done)) | refine t18_33 ?_
          first | (refine lg_g0 ?_ ?_; focus (simp only [guard_rules, list_rules, opt_bind, fr_rules, eq_self, Nat.reduceEqDiff, reduceIte, bool_rules, take_min]; done)) | refine t18_34 ?_
          refine t18_17 ?_
          refine t18_0 ?_
          first | (refine lg_g0 ?_ ?_; focus (simp only [guard_rules, list_rules, opt_bind, fr_rules, eq_self, Nat.reduceEqDiff, reduceIte, bool_rules, take_min]; done)) | refine t18_33 ?_
          first | (refine lg_g0 ?_ ?_; focus (simp only [guard_rules, list_rules, opt_bind, fr_rules, eq_self, Nat.reduceEqDiff, reduceIte, bool_rules, take_min]; done)) | refine t18_35 ?_
          first | (refine lg_g0 ?_ ?_; focus (simp only [guard_rules, list_rules, opt_bind, fr_rules, eq_self, Nat.reduceEqDiff, reduceIte, bool_rules, take_min]; done)) | refine t18_33 ?_
          first | (refine lg_g0 ?_ ?_; focus (simp only [guard_rules, list_rules, opt_bind, fr_rules, eq_self, Nat.reduceEqDiff, reduceIte, bool_rules, take_min]; done)) | refine t18_33 ?_
          first | (refine lg_g0 ?_ ?_; focus (simp only [guard_rules, list_rules, opt_bind, fr_rules, eq_self, Nat.reduceEqDiff, reduceIte, bool_rules, take_min]; done)) | refine t18_36 ?_
          first | (refine lg_g0 ?_ ?_; focus (simp only [guard_rules, list_rules, opt_bind, fr_rules, eq_self, Nat.reduceEqDiff, reduceIte, bool_rules, take_min]; done)) | refine t18_33 ?_
          first | (refine lg_g0 ?_ ?_; focus (simp only [guard_rules, list_rules, opt_bind, fr_rules, eq_self, Nat.reduceEqDiff, reduceIte, bool_rules, take_min]; done)) | refine t18_34 ?_
          first | (refine lg_g0 ?_ ?_; focus (simp only [guard_rules, list_rules, opt_bind, fr_rules, eq_self, Nat.reduceEqDiff, reduceIte, bool_rules, take_min]; done)) | refine t18_37 ?_
          first | (refine lg_g0 ?_ ?_; focus (simp only [guard_rules, list_rules, opt_bind, fr_rules, eq_self, Nat.reduceEqDiff, reduceIte, bool_rules, take_min]; done)) | refine t18_38 ?_
          first | (refine lg_g0 ?_ ?_; focus (simp only [guard_rules, list_rules, opt_bind, fr_rules, eq_self, Nat.reduceEqDiff, reduceIte, bool_rules, take_min]; done)) | refine t18_35 ?_
          first | (refine lg_g0 ?_ ?_; focus (simp only [guard_rules, list_rules, opt_bind, fr_rules, eq_self, Nat.reduceEqDiff, reduceIte, bool_rules, take_min]; done)) | refine t18_34 ?_
          refine t18_17 ?_
          refine t18_0 ?_
          refine lg_nil ?_
          refine h89 _ ?_; clear h89; try clear N89
          refine vc_ret ?_
          try simp only [k_rules]
          exact t18_20
 ·cases hg

def E_lawRun : Env Try.prog := E_example.add 3 (Spec.pure lawEG) lawRun_meets (by kernel_rfl)

theorem g_lawRun : (E_lawRun.X = T) ∧ (E_lawRun.Γ 11 = some (Spec.pure faultG)) ∧ (E_lawRun.Γ 18 = some (Spec.pure inG)) ∧ (E_lawRun.Γ 16 = some (Spec.pure planOfG)) ∧ (E_lawRun.Γ 20 = some (Spec.pure (cloneG 1 1))) ∧ (E_lawRun.Γ 27 = some (Spec.gen (deleteG 3))) ∧ (E_lawRun.Γ 25 = some (Spec.gen pickG)) ∧ (E_lawRun.Γ 21 = some (Spec.gen stepG)) ∧ (E_lawRun.Γ 19 = some (Spec.pure (chunkG 24))) ∧ (E_lawRun.Γ 9 = some (Spec.pure framesG)) ∧ (E_lawRun.Γ 12 = some (Spec.pure countG)) ∧ (E_lawRun.Γ 13 = some (Spec.pure frameOfG)) ∧ (E_lawRun.Γ 23 = some (Spec.fresh withoutG)) ∧ (E_lawRun.Γ 26 = some (Spec.fresh growG)) ∧ (E_lawRun.Γ 22 = some (Spec.pure concatG)) ∧ (E_lawRun.Γ 10 = some (Spec.pure runG)) ∧ (E_lawRun.Γ 14 = some (Spec.pure toG)) ∧ (E_lawRun.Γ 17 = some (Spec.pure eventsG)) ∧ (E_lawRun.Γ 15 = some (Spec.pure planG)) ∧ (E_lawRun.Γ 8 = some (Spec.pure exampleG)) ∧ (E_lawRun.Γ 3 = some (Spec.pure lawEG)) := ⟨rfl, rfl, rfl, rfl, rfl, rfl, rfl, rfl, rfl, rfl, rfl, rfl, rfl, rfl, rfl, rfl, rfl, rfl, rfl, rfl, rfl⟩
end Go.Proofs.Ythklbefnmcoojaa
