/- Walks, printed by wip/gen/walk.py. -/
import Derived.Test.YthklbefnmcoojaaT13
set_option linter.all false
set_option maxRecDepth 100000
set_option maxHeartbeats 4000000
namespace Go.Proofs.Ythklbefnmcoojaa
open Go Go.Vc Go.RowKit
section
variable [Far] {P : Program} {E : Env P} {W0 : World} {M0 : Nat → Prop} {dr : Bool} {calm : List FuncId} {ops : Array Oper} {K : St → Prop} {o : Op} {d : Option Tmp} {t : TypeId} {p : String} {af : Array Edge} {r : List Oper} {fr : Nat → AV} {H H' : Heap} {n n' : Nat} {q : Prop} {c : AV} {b : Bool} {gd : Nat × Bool}
theorem t14a0 {p : Prop} (h : p := by simp only [op_rules, ev_rules, fr_rules, av_rules, rs_rules, eq_self, Nat.reduceEqDiff, reduceIte, bw]; rfl) : p := h
theorem t14a1 {p : Prop} (h : p := by simp only [nd_rules, nd_slice, ev_rules, fr_rules, av_rules, eq_self, Nat.reduceEqDiff, reduceIte, and_true, true_and, map_rules, List.map_cons, List.map_nil]) : p := h
theorem t14a2 {p : Prop} (h : p := by (first | trivial | omega | assumption | (unfold inI64; omega) | (simp; done) | (simp; omega))) : p := h
theorem t14_0 (hk : AG W0 M0 dr calm E ops K r ⟨putD d c fr, H, n⟩) (h : aOp E fr H n o = .v q c := by exact t14a0) (hn : ndO fr o := by exact t14a1) (hq : q := by exact t14a2) : AG W0 M0 dr calm E ops K (⟨d, o, t, p, af, none⟩ :: r) ⟨fr, H, n⟩ := lg_v h hn hq hk
theorem t14_1 {p : Prop} (h : p := by (simp only [w1, w2, w3, tys, k_rules, eq_self, Nat.reduceEqDiff, Nat.reduceLeDiff, Nat.reduceAdd, Nat.reduceSub, Nat.reduceMul, Int.toNat_natCast, Int.reduceToNat, Int.reduceNeg, List.mem_cons, List.not_mem_nil, or_false, false_or, not_true_eq_false, not_false_eq_true, bif_and, bif_or, reduceIte, true_and, and_true, and_assoc, true_implies, forall_const, implies_true, Bool.true_eq_false, Bool.false_eq_true, false_implies, rows_len, rows_get, rows_drop, rows_take, rows_app, rows_nil, rect_nil, rect_eI, rect_eB, rect_eU, rect_eS, rect_eL, rect_eE, w4]) <;> (repeat' apply And.intro) <;> (first | rfl | exact Or.inr rfl | exact Or.inl rfl | trivial | omega | assumption | (simp; done) | (simp; omega))) : p := h
theorem t14a3 {p : Prop} (h : p := by simp only [op_rules, ev_rules, fr_rules, av_rules, rs_rules, eq_self, Nat.reduceEqDiff, reduceIte, bw, op_rules2, aLen, env_rules, tys, g_run, tiAgg, list_rules, opt_rules, map_rules, rows_get, rows_len, rows_drop, rows_take, rows_app, rows_nil, rows_set, Int.toNat_natCast, Int.reduceToNat, Nat.reduceAdd, Nat.reduceMul, Nat.reduceSub, Nat.reduceLeDiff, Nat.zero_add, Nat.add_zero, true_and, and_true, and_assoc, rect_eI, rect_eB, rect_eU, rect_eS, rect_eL, rect_nil, rect_cons, bytes_is, bytes_str, splice_rules, cell_rules, fill_rules, bnd_rules, or_false, false_or, not_true_eq_false, not_false_eq_true, rect_eE]; rfl) : p := h
theorem t14a4 {p : Prop} (h : p := by simp only [op_rules, ev_rules, fr_rules, av_rules, rs_rules, eq_self, Nat.reduceEqDiff, reduceIte, bw, env_rules, tys, g_run, tiAgg, bin_rules, ar_rules, str_rules, eq_rules, bit_rules, Bool.true_and, Bool.and_true, rect_eE]; rfl) : p := h
theorem t14_2 (hk : AG W0 M0 dr calm E ops K r ⟨putD d c fr, H, n⟩) (h : aOp E fr H n o = .v q c := by exact t14a4) (hn : ndO fr o := by exact t14a1) (hq : q := by exact t14a2) : AG W0 M0 dr calm E ops K (⟨d, o, t, p, af, none⟩ :: r) ⟨fr, H, n⟩ := lg_v h hn hq hk
theorem t14_3 (hk : AG W0 M0 dr calm E ops K r ⟨putD d c fr, H, n⟩) (h : aOp E fr H n o = .v q c := by simp only [op_rules, ev_rules, fr_rules, av_rules, rs_rules, eq_self, Nat.reduceEqDiff, reduceIte, bw, op_rules2, aFieldAddr, aField, aIndexAddr, aIndex, aPart, env_rules, tys, g_run, tiAgg, list_rules, opt_rules, map_rules, rows_get, rows_len, rows_drop, rows_take, rows_app, rows_nil, rows_set, Int.toNat_natCast, Int.reduceToNat, Nat.reduceAdd, Nat.reduceMul, Nat.reduceSub, Nat.reduceLeDiff, Nat.zero_add, Nat.add_zero, true_and, and_true, and_assoc, rect_eI, rect_eB, rect_eU, rect_eS, rect_eL, rect_nil, rect_cons, bytes_is, bytes_str, splice_rules, cell_rules, fill_rules, bnd_rules, or_false, false_or, not_true_eq_false, not_false_eq_true, rect_eE, he, eE]; rfl) (hn : ndO fr o := by exact t14a1) (hq : q := by exact t14a2) : AG W0 M0 dr calm E ops K (⟨d, o, t, p, af, none⟩ :: r) ⟨fr, H, n⟩ := lg_v h hn hq hk
theorem t14_4 (hk : AG W0 M0 dr calm E ops K r ⟨putD d c fr, H, n⟩) (h : aOp E fr H n o = .v q c := by simp only [op_rules, ev_rules, fr_rules, av_rules, rs_rules, eq_self, Nat.reduceEqDiff, reduceIte, bw, op_rules2, aLoad, loadRow, env_rules, tys, g_run, tiAgg, list_rules, opt_rules, map_rules, rows_get, rows_len, rows_drop, rows_take, rows_app, rows_nil, rows_set, Int.toNat_natCast, Int.reduceToNat, Nat.reduceAdd, Nat.reduceMul, Nat.reduceSub, Nat.reduceLeDiff, Nat.zero_add, Nat.add_zero, true_and, and_true, and_assoc, rect_eI, rect_eB, rect_eU, rect_eS, rect_eL, rect_nil, rect_cons, bytes_is, bytes_str, splice_rules, cell_rules, fill_rules, bnd_rules, or_false, false_or, not_true_eq_false, not_false_eq_true, rect_eE, he, eE]; rfl) (hn : ndO fr o := by exact t14a1) (hq : q := by exact t14a2) : AG W0 M0 dr calm E ops K (⟨d, o, t, p, af, none⟩ :: r) ⟨fr, H, n⟩ := lg_v h hn hq hk
theorem t14a5 {p : Prop} (h : p := by simp only [call_rule (E := (E_run.at_ 137)) (f := 18) (sp := Spec.pure inG) rfl, op_rules, ev_rules, fr_rules, av_rules, rs_rules, eq_self, Nat.reduceEqDiff, reduceIte, bw, callS, rd_rules, pure_rules, inG, sc_rules, heap_rules, list_rules, opt_rules, map_rules, rows_get, rows_len, rows_drop, rows_take, rows_app, rows_nil, rows_set, Int.toNat_natCast, Int.reduceToNat, Nat.reduceAdd, Nat.reduceMul, Nat.reduceSub, Nat.reduceLeDiff, Nat.zero_add, Nat.add_zero, true_and, and_true, and_assoc, rect_eI, rect_eB, rect_eU, rect_eS, rect_eL, rect_nil, rect_cons, bytes_is, bytes_str, splice_rules, cell_rules, fill_rules, bnd_rules, or_false, false_or, not_true_eq_false, not_false_eq_true, List.mem_cons, List.not_mem_nil, dI_rows, dB_rows, dU_rows, rect_eE]; rfl) : p := h
theorem t14_5 (hk : AG W0 M0 dr calm E ops K r ⟨putD d c fr, H, n⟩) (h : aOp E fr H n o = .v q c := by exact t14a5) (hn : ndO fr o := by exact t14a1) (hq : q := by exact t14a2) : AG W0 M0 dr calm E ops K (⟨d, o, t, p, af, none⟩ :: r) ⟨fr, H, n⟩ := lg_v h hn hq hk
theorem t14a6 {p : Prop} (h : p := by simp only [op_rules, ev_rules, fr_rules, av_rules, rs_rules, eq_self, Nat.reduceEqDiff, reduceIte, bw, un_rules, ar_rules, Bool.not_not, rect_eE]; rfl) : p := h
theorem t14_6 (hk : AG W0 M0 dr calm E ops K r ⟨putD d c fr, H, n⟩) (h : aOp E fr H n o = .v q c := by simp only [call_rule (E := (E_run.at_ 137)) (f := 11) (sp := Spec.pure faultG) rfl, op_rules, ev_rules, fr_rules, av_rules, rs_rules, eq_self, Nat.reduceEqDiff, reduceIte, bw, callS, rd_rules, pure_rules, faultG, sc_rules, heap_rules, list_rules, opt_rules, map_rules, rows_get, rows_len, rows_drop, rows_take, rows_app, rows_nil, rows_set, Int.toNat_natCast, Int.reduceToNat, Nat.reduceAdd, Nat.reduceMul, Nat.reduceSub, Nat.reduceLeDiff, Nat.zero_add, Nat.add_zero, true_and, and_true, and_assoc, rect_eI, rect_eB, rect_eU, rect_eS, rect_eL, rect_nil, rect_cons, bytes_is, bytes_str, splice_rules, cell_rules, fill_rules, bnd_rules, or_false, false_or, not_true_eq_false, not_false_eq_true, List.mem_cons, List.not_mem_nil, dI_rows, dB_rows, dU_rows, rect_eE]; rfl) (hn : ndO fr o := by exact t14a1) (hq : q := by exact t14a2) : AG W0 M0 dr calm E ops K (⟨d, o, t, p, af, none⟩ :: r) ⟨fr, H, n⟩ := lg_v h hn hq hk
theorem t14_7 (hk : AG W0 M0 dr calm E ops K r ⟨putD d c fr, H', n'⟩) (h : aOp E fr H n o = .h q c H' n' := by simp only [op_rules, ev_rules, fr_rules, av_rules, rs_rules, eq_self, Nat.reduceEqDiff, reduceIte, bw, aStore, env_rules, tys, g_run, tiAgg, list_rules, opt_rules, map_rules, rows_get, rows_len, rows_drop, rows_take, rows_app, rows_nil, rows_set, Int.toNat_natCast, Int.reduceToNat, Nat.reduceAdd, Nat.reduceMul, Nat.reduceSub, Nat.reduceLeDiff, Nat.zero_add, Nat.add_zero, true_and, and_true, and_assoc, rect_eI, rect_eB, rect_eU, rect_eS, rect_eL, rect_nil, rect_cons, bytes_is, bytes_str, splice_rules, cell_rules, fill_rules, bnd_rules, or_false, false_or, not_true_eq_false, not_false_eq_true, rect_eE]; rfl) (hn : ndO fr o := by exact t14a1) (hq : q := by exact t14a2) (hl : (dr && growB calm d o) = true → HLe H H' := by exact (fun h => Bool.noConfusion (show false = true from h))) : AG W0 M0 dr calm E ops K (⟨d, o, t, p, af, none⟩ :: r) ⟨fr, H, n⟩ := lg_h h hn hq hl hk
theorem t14_8 {p : Prop} (h : p := by (simp only [w1, w2, w3, tys, k_rules, eq_self, Nat.reduceEqDiff, Nat.reduceLeDiff, Nat.reduceAdd, Nat.reduceSub, Nat.reduceMul, Int.toNat_natCast, Int.reduceToNat, Int.reduceNeg, List.mem_cons, List.not_mem_nil, or_false, false_or, not_true_eq_false, not_false_eq_true, bif_and, bif_or, reduceIte, true_and, and_true, and_assoc, true_implies, forall_const, implies_true, Bool.true_eq_false, Bool.false_eq_true, false_implies, rows_len, rows_get, rows_drop, rows_take, rows_app, rows_nil, rect_nil, rect_eI, rect_eB, rect_eU, rect_eS, rect_eL, rect_eE, w4, Try.results14, reduceCtorEq, false_or, or_true, true_or]) <;> (try simp only [w1, w2, w3, tys, k_rules, eq_self, Nat.reduceEqDiff, Nat.reduceLeDiff, Nat.reduceAdd, Nat.reduceSub, Nat.reduceMul, Int.toNat_natCast, Int.reduceToNat, Int.reduceNeg, List.mem_cons, List.not_mem_nil, or_false, false_or, not_true_eq_false, not_false_eq_true, bif_and, bif_or, reduceIte, true_and, and_true, and_assoc, true_implies, forall_const, implies_true, Bool.true_eq_false, Bool.false_eq_true, false_implies, rows_len, rows_get, rows_drop, rows_take, rows_app, rows_nil, rect_nil, rect_eI, rect_eB, rect_eU, rect_eS, rect_eL, rect_eE, w4, Try.results14, reduceCtorEq, false_or, or_true, true_or]) <;> (repeat' apply And.intro) <;> (first | rfl | exact Or.inl rfl | exact Or.inr rfl | trivial | exact Nat.le_refl _ | omega | (simp; done))) : p := h
theorem t14a7 {p : Prop} (h : p := by simp only [guard_rules, list_rules, opt_bind, fr_rules, eq_self, Nat.reduceEqDiff, reduceIte, bool_rules]; rfl) : p := h
theorem t14a8 {p : Prop} (h : p := by exact (fun hg => ⟨by first | (simp only [nd_rules, nd_slice, ev_rules, fr_rules, av_rules, eq_self, Nat.reduceEqDiff, reduceIte, and_true, true_and, map_rules, List.map_cons, List.map_nil]; done) | (simp only [nd_rules, nd_slice, ev_rules, fr_rules, av_rules, eq_self, Nat.reduceEqDiff, reduceIte, and_true, true_and, map_rules, List.map_cons, List.map_nil]; exact hg) | (simp_all [nd_rules, nd_slice, ev_rules, fr_rules, av_rules, eq_self, Nat.reduceEqDiff, reduceIte, and_true, true_and, map_rules, List.map_cons, List.map_nil]; done), by (try simp only [b_rules, bif_and, bif_or] at hg); (first | trivial | omega | assumption | (unfold inI64; omega) | (simp; done) | (simp; omega))⟩)) : p := h
theorem t14_9 (hk : AG W0 M0 dr calm E ops K r ⟨putD d (.cond b c) fr, H, n⟩) (hg : guardA ops fr (some gd) = some (some b) := by exact t14a7) (h : aOp E fr H n o = .v q c := by exact t14a0) (hq : b = true → ndO fr o ∧ q := by exact t14a8) : AG W0 M0 dr calm E ops K (⟨d, o, t, p, af, some gd⟩ :: r) ⟨fr, H, n⟩ := lg_gv hg h hq hk
theorem t14_10 (hk : AG W0 M0 dr calm E ops K r ⟨putD d (.cond b c) fr, H, n⟩) (hg : guardA ops fr (some gd) = some (some b) := by exact t14a7) (h : aOp E fr H n o = .v q c := by exact t14a4) (hq : b = true → ndO fr o ∧ q := by exact t14a8) : AG W0 M0 dr calm E ops K (⟨d, o, t, p, af, some gd⟩ :: r) ⟨fr, H, n⟩ := lg_gv hg h hq hk
theorem t14a9 {p : Prop} (h : p := by simp only [op_rules, ev_rules, fr_rules, av_rules, rs_rules, eq_self, Nat.reduceEqDiff, reduceIte, bw, un_rules, bif_and, bif_or, bool_rules]; rfl) : p := h
theorem t14_11 (hk : AG W0 M0 dr calm E ops K r ⟨putD d c fr, H, n⟩) (h : aOp E fr H n o = .v q c := by exact t14a9) (hn : ndO fr o := by exact t14a1) (hq : q := by exact t14a2) : AG W0 M0 dr calm E ops K (⟨d, o, t, p, af, none⟩ :: r) ⟨fr, H, n⟩ := lg_v h hn hq hk
theorem t14_12 (hk : AG W0 M0 dr calm E ops K r ⟨putD d (.cond b c) fr, H, n⟩) (hg : guardA ops fr (some gd) = some (some b) := by exact t14a7) (h : aOp E fr H n o = .v q c := by exact t14a3) (hq : b = true → ndO fr o ∧ q := by exact t14a8) : AG W0 M0 dr calm E ops K (⟨d, o, t, p, af, some gd⟩ :: r) ⟨fr, H, n⟩ := lg_gv hg h hq hk
theorem t14_13 (hk : AG W0 M0 dr calm E ops K r ⟨putD d (.cond b c) fr, H, n⟩) (hg : guardA ops fr (some gd) = some (some b) := by exact t14a7) (h : aOp E fr H n o = .v q c := by exact t14a5) (hq : b = true → ndO fr o ∧ q := by exact t14a8) : AG W0 M0 dr calm E ops K (⟨d, o, t, p, af, some gd⟩ :: r) ⟨fr, H, n⟩ := lg_gv hg h hq hk
theorem t14_14 (hk : AG W0 M0 dr calm E ops K r ⟨putD d (.cond b c) fr, H, n⟩) (hg : guardA ops fr (some gd) = some (some b) := by exact t14a7) (h : aOp E fr H n o = .v q c := by exact t14a6) (hq : b = true → ndO fr o ∧ q := by exact t14a8) : AG W0 M0 dr calm E ops K (⟨d, o, t, p, af, some gd⟩ :: r) ⟨fr, H, n⟩ := lg_gv hg h hq hk
theorem t14_15 (hk : AG W0 M0 dr calm E ops K r ⟨putD d c fr, H', n'⟩) (h : aOp E fr H n o = .h q c H' n' := by simp only [op_rules, ev_rules, fr_rules, av_rules, rs_rules, eq_self, Nat.reduceEqDiff, reduceIte, bw, aBuildSlice, env_rules, tys, g_run, tiAgg, list_rules, opt_rules, map_rules, rows_get, rows_len, rows_drop, rows_take, rows_app, rows_nil, rows_set, Int.toNat_natCast, Int.reduceToNat, Nat.reduceAdd, Nat.reduceMul, Nat.reduceSub, Nat.reduceLeDiff, Nat.zero_add, Nat.add_zero, true_and, and_true, and_assoc, rect_eI, rect_eB, rect_eU, rect_eS, rect_eL, rect_nil, rect_cons, bytes_is, bytes_str, splice_rules, cell_rules, fill_rules, bnd_rules, or_false, false_or, not_true_eq_false, not_false_eq_true, rect_eE]; rfl) (hn : ndO fr o := by exact t14a1) (hq : q := by exact t14a2) (hl : (dr && growB calm d o) = true → HLe H H' := by exact (fun h => Bool.noConfusion (show false = true from h))) : AG W0 M0 dr calm E ops K (⟨d, o, t, p, af, none⟩ :: r) ⟨fr, H, n⟩ := lg_h h hn hq hl hk
theorem t14_16 (hk : AG W0 M0 dr calm E ops K r ⟨putD d c fr, H', n'⟩) (h : aOp E fr H n o = .h q c H' n' := by simp only [op_rules, ev_rules, fr_rules, av_rules, rs_rules, eq_self, Nat.reduceEqDiff, reduceIte, bw, aAppend, rowsSrc, or_self, env_rules, tys, g_run, tiAgg, list_rules, opt_rules, map_rules, rows_get, rows_len, rows_drop, rows_take, rows_app, rows_nil, rows_set, Int.toNat_natCast, Int.reduceToNat, Nat.reduceAdd, Nat.reduceMul, Nat.reduceSub, Nat.reduceLeDiff, Nat.zero_add, Nat.add_zero, true_and, and_true, and_assoc, rect_eI, rect_eB, rect_eU, rect_eS, rect_eL, rect_nil, rect_cons, bytes_is, bytes_str, splice_rules, cell_rules, fill_rules, bnd_rules, or_false, false_or, not_true_eq_false, not_false_eq_true, rect_eE]; rfl) (hn : ndO fr o := by exact t14a1) (hq : q := by exact t14a2) (hl : (dr && growB calm d o) = true → HLe H H' := by exact (fun h => Bool.noConfusion (show false = true from h))) : AG W0 M0 dr calm E ops K (⟨d, o, t, p, af, none⟩ :: r) ⟨fr, H, n⟩ := lg_h h hn hq hl hk
theorem t14_17 {p : Prop} (h : p := by (simp only [w1, w2, w3, tys, k_rules, eq_self, Nat.reduceEqDiff, Nat.reduceLeDiff, Nat.reduceAdd, Nat.reduceSub, Nat.reduceMul, Int.toNat_natCast, Int.reduceToNat, Int.reduceNeg, List.mem_cons, List.not_mem_nil, or_false, false_or, not_true_eq_false, not_false_eq_true, bif_and, bif_or, reduceIte, true_and, and_true, and_assoc, true_implies, forall_const, implies_true, Bool.true_eq_false, Bool.false_eq_true, false_implies, rows_len, rows_get, rows_drop, rows_take, rows_app, rows_nil, rect_nil, rect_eI, rect_eB, rect_eU, rect_eS, rect_eL, rect_eE, w4]) <;> (repeat' apply And.intro) <;> (first | (first | rfl | trivial | (rw [dropN_ok ho]; done) | (simp [dropN_ok ho, rows, eI]; done) | (simp [rows, eI]; done)) | (first | rfl | exact Or.inr rfl | exact Or.inl rfl | trivial | omega | assumption | (simp; done) | (simp; omega)))) : p := h
theorem t14_18 (hk : AG W0 M0 dr calm E ops K r ⟨putD d c fr, H, n⟩) (h : aOp E fr H n o = .v q c := by simp only [op_rules, ev_rules, fr_rules, av_rules, rs_rules, eq_self, Nat.reduceEqDiff, reduceIte, bw, op_rules2, aFieldAddr, aField, aIndexAddr, aIndex, aPart, env_rules, tys, g_run, tiAgg, list_rules, opt_rules, map_rules, rows_get, rows_len, rows_drop, rows_take, rows_app, rows_nil, rows_set, Int.toNat_natCast, Int.reduceToNat, Nat.reduceAdd, Nat.reduceMul, Nat.reduceSub, Nat.reduceLeDiff, Nat.zero_add, Nat.add_zero, true_and, and_true, and_assoc, rect_eI, rect_eB, rect_eU, rect_eS, rect_eL, rect_nil, rect_cons, bytes_is, bytes_str, splice_rules, cell_rules, fill_rules, bnd_rules, or_false, false_or, not_true_eq_false, not_false_eq_true, rect_eE, hx]; rfl) (hn : ndO fr o := by exact t14a1) (hq : q := by exact t14a2) : AG W0 M0 dr calm E ops K (⟨d, o, t, p, af, none⟩ :: r) ⟨fr, H, n⟩ := lg_v h hn hq hk
theorem t14_19 (hk : AG W0 M0 dr calm E ops K r ⟨putD d c fr, H, n⟩) (h : aOp E fr H n o = .v q c := by simp only [op_rules, ev_rules, fr_rules, av_rules, rs_rules, eq_self, Nat.reduceEqDiff, reduceIte, bw, op_rules2, aLoad, loadRow, env_rules, tys, g_run, tiAgg, list_rules, opt_rules, map_rules, rows_get, rows_len, rows_drop, rows_take, rows_app, rows_nil, rows_set, Int.toNat_natCast, Int.reduceToNat, Nat.reduceAdd, Nat.reduceMul, Nat.reduceSub, Nat.reduceLeDiff, Nat.zero_add, Nat.add_zero, true_and, and_true, and_assoc, rect_eI, rect_eB, rect_eU, rect_eS, rect_eL, rect_nil, rect_cons, bytes_is, bytes_str, splice_rules, cell_rules, fill_rules, bnd_rules, or_false, false_or, not_true_eq_false, not_false_eq_true, rect_eE, hx]; rfl) (hn : ndO fr o := by exact t14a1) (hq : q := by exact t14a2) : AG W0 M0 dr calm E ops K (⟨d, o, t, p, af, none⟩ :: r) ⟨fr, H, n⟩ := lg_v h hn hq hk
theorem t14_20 (hk : AG W0 M0 dr calm E ops K r ⟨putD d c fr, H, n⟩) (h : aOp E fr H n o = .v q c := by simp only [op_rules, ev_rules, fr_rules, av_rules, rs_rules, eq_self, Nat.reduceEqDiff, reduceIte, bw, env_rules, tys, g_run, tiAgg, bin_rules, ar_rules, str_rules, eq_rules, bit_rules, Bool.true_and, Bool.and_true, rect_eE, hx]; rfl) (hn : ndO fr o := by exact t14a1) (hq : q := by exact t14a2) : AG W0 M0 dr calm E ops K (⟨d, o, t, p, af, none⟩ :: r) ⟨fr, H, n⟩ := lg_v h hn hq hk
theorem t14_21 (hk : AG W0 M0 dr calm E ops K r ⟨putD d c fr, H', n'⟩) (h : aOp E fr H n o = .h q c H' n' := by simp only [call_rule (E := (E_run.at_ 137)) (f := 23) (sp := Spec.fresh withoutG) rfl, op_rules, ev_rules, fr_rules, av_rules, rs_rules, eq_self, Nat.reduceEqDiff, reduceIte, bw, callS, rd_rules, pure_rules, withoutG, sc_rules, heap_rules, list_rules, opt_rules, map_rules, rows_get, rows_len, rows_drop, rows_take, rows_app, rows_nil, rows_set, Int.toNat_natCast, Int.reduceToNat, Nat.reduceAdd, Nat.reduceMul, Nat.reduceSub, Nat.reduceLeDiff, Nat.zero_add, Nat.add_zero, true_and, and_true, and_assoc, rect_eI, rect_eB, rect_eU, rect_eS, rect_eL, rect_nil, rect_cons, bytes_is, bytes_str, splice_rules, cell_rules, fill_rules, bnd_rules, or_false, false_or, not_true_eq_false, not_false_eq_true, List.mem_cons, List.not_mem_nil, dI_rows, dB_rows, dU_rows, gen_rules, gw, gen_heap, gen_heap0, allSome, Nat.reduceAdd, Nat.reduceSub, Nat.reduceLT, Nat.reduceLeDiff, if_true, if_false, ite_self, List.mem_append, true_implies, Option.bind_some, rect_eE, dI_rows]; rfl) (hn : ndO fr o := by exact t14a1) (hq : q := by (first | (rw [dI_rows]; refine ⟨rfl, ?_, ?_, ?_⟩ <;> omega) | (first | trivial | omega | assumption | (unfold inI64; omega) | (simp; done) | (simp; omega)))) (hl : (dr && growB calm d o) = true → HLe H H' := by exact (fun h => Bool.noConfusion (show false = true from h))) : AG W0 M0 dr calm E ops K (⟨d, o, t, p, af, none⟩ :: r) ⟨fr, H, n⟩ := lg_h h hn hq hl hk
end
def toR (total : Int) (es : List Ev) : Int × Int × Int × Int := match runL total (0, 0, [], []) es 0 with
  | .inl (c, i) => (0, 0, c, i)
  | .inr s => (s.2.1, s.1, 0, 0)
def toG : List AV → Option (Prop × AV)
  | [.d (.int .i64 total), .d (.sl es)] => some (es = rows eE (dE es) ∧ (dE es).length ≤ 1000000 ∧ 0 ≤ total ∧ total ≤ 1000000, .tup [.d (.int .i64 (toR total (dE es)).1), .d (.int .i64 (toR total (dE es)).2.1), .agg [.d (.int .i64 (toR total (dE es)).2.2.1), .d (.int .i64 (toR total (dE es)).2.2.2)]])
  | _ => none
theorem dropN_ok {l : List Int} {n : Int} (h : okN l n = true) : dropN l n = l.eraseIdx n.toNat := by simp [dropN, h]

theorem transferOf_meets : Meets Try.prog 14 (Spec.pure toG) := by
 refine meets_fun (E_run.at_ 137) Try.func14 rfl rfl rfl ?_
 intro args p r hg hp
 unfold toG at hg
 split at hg
 ·rename_i total es
  simp only [Option.some.injEq, Prod.mk.injEq] at hg
  obtain ⟨rfl, rfl⟩ := hg
  obtain ⟨hy, hm, ht0, ht1⟩ := hp
  generalize dE es = es at *
  subst hy
  refine ⟨by rfl, ?_⟩
  intro F W0 hnp hmk
  refine vc_seq_k fun N1 h1 => ?_
  refine vc_regG [] hmix (by kernel_rfl) ?_
  try refine lg_mk ?_
  refine t14_0 ?_
  refine t14_0 ?_
  refine lg_h (by simp only [op_rules, ev_rules, fr_rules, av_rules, rs_rules, eq_self, Nat.reduceEqDiff, reduceIte, bw, aAlloc, env_rules, tys, g_run, tiAgg, list_rules, opt_rules, map_rules, rows_get, rows_len, rows_drop, rows_take, rows_app, rows_nil, rows_set, Int.toNat_natCast, Int.reduceToNat, Nat.reduceAdd, Nat.reduceMul, Nat.reduceSub, Nat.reduceLeDiff, Nat.zero_add, Nat.add_zero, true_and, and_true, and_assoc, rect_eI, rect_eB, rect_eU, rect_eS, rect_eL, rect_nil, rect_cons, bytes_is, bytes_str, splice_rules, cell_rules, fill_rules, bnd_rules, or_false, false_or, not_true_eq_false, not_false_eq_true, rect_eE]; rfl) (by exact t14a1) (by exact t14a2) (fun h => Bool.noConfusion (show false = true from h)) ?_
  refine lg_nil ?_
  refine h1 _ ?_; clear h1; try clear N1
  refine vc_seq_k fun N2 h2 => ?_
  refine vc_regG [] hmix (by kernel_rfl) ?_
  try refine lg_mk ?_
  refine t14_0 ?_
  refine t14_0 ?_
  refine lg_nil ?_
  refine h2 _ ?_; clear h2; try clear N2
  refine vc_seq_k fun N3 h3 => ?_
  refine vc_regG [] hmix (by kernel_rfl) ?_
  try refine lg_mk ?_
  refine t14_0 ?_
  refine t14_0 ?_
  refine lg_nil ?_
  refine h3 _ ?_; clear h3; try clear N3
  refine vc_seq_k fun N4 h4 => ?_
  refine vc_seq_k fun N5 h5 => ?_
  refine vc_regG [] hmix (by kernel_rfl) ?_
  try refine lg_mk ?_
  refine t14_0 ?_
  refine lg_nil ?_
  refine h5 _ ?_; clear h5; try clear N5
  refine vc_block ?_
  refine vc_loop_mk (σ := Nat × Int × Int × List Int × List Int) (fun s => (fun i a tk fs ws => i ≤ es.length ∧ LInv total (a, tk, fs, ws) ∧ fs.length ≤ i ∧ ws.length ≤ i ∧ runL total (0, 0, [], []) es 0 = runL total (a, tk, fs, ws) (es.drop i) i) (s.1) (s.2.1) (s.2.2.1) (s.2.2.2.1) (s.2.2.2.2))
   (fun s => (fun i a tk fs ws => [(0, .d (.int .i64 total)), (1, .d (.sl (rows eE es))), (6, .ptr 0 0 0), (7, .sl 1 0 fs.length), (8, .sl 2 0 ws.length), (9, .d (.int .i64 tk)), (10, .d (.int .i64 a)), (11, .d (.int .i64 (i : Nat)))]) (s.1) (s.2.1) (s.2.2.1) (s.2.2.2.1) (s.2.2.2.2))
   (fun s => (fun i a tk fs ws => [some (.one 27 [.d (.int .i64 0), .d (.int .i64 0)]), some (.vec 3 1 (rows eI fs)), some (.vec 3 1 (rows eI ws))]) (s.1) (s.2.1) (s.2.2.1) (s.2.2.2.1) (s.2.2.2.2)) (fun s => (fun i a tk fs ws => es.length - i) (s.1) (s.2.1) (s.2.2.1) (s.2.2.2.1) (s.2.2.2.2)) hnp (0, 0, 0, [], []) ?_ [some 0, none, none] ?_ ?_
  ·dsimp only
   exact ⟨Nat.zero_le _, by simp [LInv]; omega, by simp, by simp, rfl⟩
  ·dsimp only
   refine ⟨by rfl, ?_, ?_⟩
   ·exact t14_1
   ·exact t14_1
  ·rintro ⟨i, a, tk, fs, ws⟩ hinv N6 h6
   dsimp only at hinv ⊢
   obtain ⟨i1, i2, i3, i4, i5⟩ := hinv
   have j2 := i2
   simp only [LInv] at j2
   obtain ⟨j1, j3, j4, j5, j6, j7⟩ := j2
   refine vc_seq_k fun N7 h7 => ?_
   refine vc_seq_k fun N8 h8 => ?_
   refine vc_regG [] hmix (by kernel_rfl) ?_
   try refine lg_mk ?_
   refine t14_0 ?_
   refine t14_0 ?_
   refine lg_v (by exact t14a3) (by exact t14a1) (by exact t14a2) ?_
   refine t14_2 ?_
   refine lg_nil ?_
   refine h8 _ ?_; clear h8; try clear N8
   refine vc_cond_k (by simp only [w1, w3, eq_self, Nat.reduceEqDiff, reduceIte]; rfl) (fun hb9 => ?_) (fun hb9 => ?_)
   ·try simp only [b_rules, bif_and, bif_or] at hb9
    obtain ⟨⟨k, n⟩, he⟩ : ∃ e, es[i]? = some e := ⟨_, List.getElem?_eq_getElem (by omega)⟩
    rw [runL_cons he] at i5
    simp only at i5
    refine vc_skip ?_
    try simp only [k_rules]
    refine h7 _ ?_; clear h7; try clear N7
    refine vc_seq_k fun N10 h10 => ?_
    refine vc_block ?_
    refine vc_seq_k fun N11 h11 => ?_
    refine vc_regG [] hmix (by kernel_rfl) ?_
    try refine lg_mk ?_
    refine t14_0 ?_
    refine t14_0 ?_
    refine t14_3 ?_
    refine t14_3 ?_
    refine t14_4 ?_
    refine t14_0 ?_
    refine lg_nil ?_
    refine h11 _ ?_; clear h11; try clear N11
    refine vc_seq_k fun N12 h12 => ?_
    refine vc_regG [] hmix (by kernel_rfl) ?_
    try refine lg_mk ?_
    refine t14_0 ?_
    refine t14_0 ?_
    refine t14_3 ?_
    refine t14_3 ?_
    refine t14_4 ?_
    refine t14_0 ?_
    refine lg_nil ?_
    refine h12 _ ?_; clear h12; try clear N12
    refine vc_seq_k fun N13 h13 => ?_
    refine vc_seq_k fun N14 h14 => ?_
    refine vc_regG [] hmix (by kernel_rfl) ?_
    try refine lg_mk ?_
    refine t14_0 ?_
    refine t14_5 ?_
    refine lg_v (by exact t14a6) (by exact t14a1) (by exact t14a2) ?_
    refine lg_nil ?_
    refine h14 _ ?_; clear h14; try clear N14
    refine vc_cond_k (by simp only [w1, w3, eq_self, Nat.reduceEqDiff, reduceIte]; rfl) (fun hb15 => ?_) (fun hb15 => ?_)
    ·try simp only [b_rules, bif_and, bif_or] at hb15
     refine vc_seq_k fun N16 h16 => ?_
     refine vc_regG [] hmix (by kernel_rfl) ?_
     try refine lg_mk ?_
     refine t14_0 ?_
     refine t14_6 ?_
     refine t14_0 ?_
     refine t14_0 ?_
     refine t14_7 ?_
     refine lg_nil ?_
     refine h16 _ ?_; clear h16; try clear N16
     refine vc_ret ?_
     try simp only [k_rules]
     have hcc : stepCode total a fs ws k n = 4 := sc_k (by omega) (by omega) (by omega) (by omega) (by omega) (by omega)
     rw [hcc, if_neg (by omega)] at i5
     have hr : toR total es = (0, 0, 4, (i : Int)) := by unfold toR; rw [i5]
     rw [hr]
     exact t14_8
    ·try simp only [b_rules, bif_and, bif_or] at hb15
     refine vc_skip ?_
     try simp only [k_rules]
     refine h13 _ ?_; clear h13; try clear N13
     refine vc_seq_k fun N17 h17 => ?_
     refine vc_seq_k fun N18 h18 => ?_
     refine vc_regG [] hmix (by kernel_rfl) ?_
     try refine lg_mk ?_
     refine t14_0 ?_
     refine t14_2 ?_
     refine t14_0 ?_
     first | (refine lg_g0 ?_ ?_; focus (simp only [guard_rules, list_rules, opt_bind, fr_rules, eq_self, Nat.reduceEqDiff, reduceIte, bool_rules]; done)) | refine t14_9 ?_
     first | (refine lg_g0 ?_ ?_; focus (simp only [guard_rules, list_rules, opt_bind, fr_rules, eq_self, Nat.reduceEqDiff, reduceIte, bool_rules]; done)) | refine t14_10 ?_
     refine t14_11 ?_
     refine lg_nil ?_
     refine h18 _ ?_; clear h18; try clear N18
     refine vc_cond_k (by simp only [w1, w3, eq_self, Nat.reduceEqDiff, reduceIte]; rfl) (fun hb19 => ?_) (fun hb19 => ?_)
     ·try simp only [b_rules, bif_and, bif_or] at hb19
      refine vc_seq_k fun N20 h20 => ?_
      refine vc_regG [] hmix (by kernel_rfl) ?_
      try refine lg_mk ?_
      refine t14_0 ?_
      refine t14_6 ?_
      refine t14_0 ?_
      refine t14_0 ?_
      refine t14_7 ?_
      refine lg_nil ?_
      refine h20 _ ?_; clear h20; try clear N20
      refine vc_ret ?_
      try simp only [k_rules]
      have hcc : stepCode total a fs ws k n = 5 := (by have hk : k = 1 := (by omega); subst hk; exact sc_1a (by omega))
      rw [hcc, if_neg (by omega)] at i5
      have hr : toR total es = (0, 0, 5, (i : Int)) := by unfold toR; rw [i5]
      rw [hr]
      exact t14_8
     ·try simp only [b_rules, bif_and, bif_or] at hb19
      refine vc_skip ?_
      try simp only [k_rules]
      refine h17 _ ?_; clear h17; try clear N17
      refine vc_seq_k fun N21 h21 => ?_
      refine vc_seq_k fun N22 h22 => ?_
      refine vc_regG [] hmix (by kernel_rfl) ?_
      try refine lg_mk ?_
      refine t14_0 ?_
      refine t14_2 ?_
      refine t14_0 ?_
      first | (refine lg_g0 ?_ ?_; focus (simp only [guard_rules, list_rules, opt_bind, fr_rules, eq_self, Nat.reduceEqDiff, reduceIte, bool_rules]; done)) | refine t14_9 ?_
      first | (refine lg_g0 ?_ ?_; focus (simp only [guard_rules, list_rules, opt_bind, fr_rules, eq_self, Nat.reduceEqDiff, reduceIte, bool_rules]; done)) | refine t14_9 ?_
      first | (refine lg_g0 ?_ ?_; focus (simp only [guard_rules, list_rules, opt_bind, fr_rules, eq_self, Nat.reduceEqDiff, reduceIte, bool_rules]; done)) | refine t14_10 ?_
      refine t14_11 ?_
      refine lg_nil ?_
      refine h22 _ ?_; clear h22; try clear N22
      refine vc_cond_k (by simp only [w1, w3, eq_self, Nat.reduceEqDiff, reduceIte]; rfl) (fun hb23 => ?_) (fun hb23 => ?_)
      ·try simp only [b_rules, bif_and, bif_or] at hb23
       refine vc_seq_k fun N24 h24 => ?_
       refine vc_regG [] hmix (by kernel_rfl) ?_
       try refine lg_mk ?_
       refine t14_0 ?_
       refine t14_6 ?_
       refine t14_0 ?_
       refine t14_0 ?_
       refine t14_7 ?_
       refine lg_nil ?_
       refine h24 _ ?_; clear h24; try clear N24
       refine vc_ret ?_
       try simp only [k_rules]
       have hcc : stepCode total a fs ws k n = 11 := (by have hk : k = 1 := (by omega); have hn : n = 0 := (by omega); subst hk hn; exact sc_1b (by omega))
       rw [hcc, if_neg (by omega)] at i5
       have hr : toR total es = (0, 0, 11, (i : Int)) := by unfold toR; rw [i5]
       rw [hr]
       exact t14_8
      ·try simp only [b_rules, bif_and, bif_or] at hb23
       refine vc_skip ?_
       try simp only [k_rules]
       refine h21 _ ?_; clear h21; try clear N21
       refine vc_seq_k fun N25 h25 => ?_
       refine vc_seq_k fun N26 h26 => ?_
       refine vc_regG [] hmix (by kernel_rfl) ?_
       try refine lg_mk ?_
       refine t14_0 ?_
       refine t14_5 ?_
       refine t14_0 ?_
       first | (refine lg_g0 ?_ ?_; focus (simp only [guard_rules, list_rules, opt_bind, fr_rules, eq_self, Nat.reduceEqDiff, reduceIte, bool_rules]; done)) | refine t14_9 ?_
       first | (refine lg_g0 ?_ ?_; focus (simp only [guard_rules, list_rules, opt_bind, fr_rules, eq_self, Nat.reduceEqDiff, reduceIte, bool_rules]; done)) | refine t14_9 ?_
       first | (refine lg_g0 ?_ ?_; focus (simp only [guard_rules, list_rules, opt_bind, fr_rules, eq_self, Nat.reduceEqDiff, reduceIte, bool_rules]; done)) | refine t14_12 ?_
       first | (refine lg_g0 ?_ ?_; focus (simp only [guard_rules, list_rules, opt_bind, fr_rules, eq_self, Nat.reduceEqDiff, reduceIte, bool_rules]; done)) | refine t14_10 ?_
       first | (refine lg_g0 ?_ ?_; focus (simp only [guard_rules, list_rules, opt_bind, fr_rules, eq_self, Nat.reduceEqDiff, reduceIte, bool_rules]; done)) | refine t14_13 ?_
       first | (refine lg_g0 ?_ ?_; focus (simp only [guard_rules, list_rules, opt_bind, fr_rules, eq_self, Nat.reduceEqDiff, reduceIte, bool_rules]; done)) | refine t14_14 ?_
       refine t14_11 ?_
       refine t14_0 ?_
       first | (refine lg_g0 ?_ ?_; focus (simp only [guard_rules, list_rules, opt_bind, fr_rules, eq_self, Nat.reduceEqDiff, reduceIte, bool_rules]; done)) | refine t14_9 ?_
       first | (refine lg_g0 ?_ ?_; focus (simp only [guard_rules, list_rules, opt_bind, fr_rules, eq_self, Nat.reduceEqDiff, reduceIte, bool_rules]; done)) | refine t14_10 ?_
       first | (refine lg_g0 ?_ ?_; focus (simp only [guard_rules, list_rules, opt_bind, fr_rules, eq_self, Nat.reduceEqDiff, reduceIte, bool_rules]; done)) | refine t14_9 ?_
       first | (refine lg_g0 ?_ ?_; focus (simp only [guard_rules, list_rules, opt_bind, fr_rules, eq_self, Nat.reduceEqDiff, reduceIte, bool_rules]; done)) | refine t14_9 ?_
       first | (refine lg_g0 ?_ ?_; focus (simp only [guard_rules, list_rules, opt_bind, fr_rules, eq_self, Nat.reduceEqDiff, reduceIte, bool_rules]; done)) | refine t14_9 ?_
       first | (refine lg_g0 ?_ ?_; focus (simp only [guard_rules, list_rules, opt_bind, fr_rules, eq_self, Nat.reduceEqDiff, reduceIte, bool_rules]; done)) | refine t14_12 ?_
       first | (refine lg_g0 ?_ ?_; focus (simp only [guard_rules, list_rules, opt_bind, fr_rules, eq_self, Nat.reduceEqDiff, reduceIte, bool_rules]; done)) | refine t14_10 ?_
       first | (refine lg_g0 ?_ ?_; focus (simp only [guard_rules, list_rules, opt_bind, fr_rules, eq_self, Nat.reduceEqDiff, reduceIte, bool_rules]; done)) | refine t14_13 ?_
       first | (refine lg_g0 ?_ ?_; focus (simp only [guard_rules, list_rules, opt_bind, fr_rules, eq_self, Nat.reduceEqDiff, reduceIte, bool_rules]; done)) | refine t14_14 ?_
       first | (refine lg_g0 ?_ ?_; focus (simp only [guard_rules, list_rules, opt_bind, fr_rules, eq_self, Nat.reduceEqDiff, reduceIte, bool_rules]; done)) | refine lg_gv (by exact t14a7) (by exact t14a9) (by exact t14a8) ?_
       refine t14_11 ?_
       refine lg_nil ?_
       refine h26 _ ?_; clear h26; try clear N26
       refine vc_cond_k (by simp only [w1, w3, eq_self, Nat.reduceEqDiff, reduceIte]; rfl) (fun hb27 => ?_) (fun hb27 => ?_)
       ·try simp only [b_rules, bif_and, bif_or] at hb27
        refine vc_seq_k fun N28 h28 => ?_
        refine vc_regG [] hmix (by kernel_rfl) ?_
        try refine lg_mk ?_
        refine t14_0 ?_
        refine t14_6 ?_
        refine t14_0 ?_
        refine t14_0 ?_
        refine t14_7 ?_
        refine lg_nil ?_
        refine h28 _ ?_; clear h28; try clear N28
        refine vc_ret ?_
        try simp only [k_rules]
        have hcc : stepCode total a fs ws k n = 6 := (by rcases (by omega : (k = 2 ∨ k = 3 ∨ k = 4) ∨ (k = 5 ∨ k = 6)) with hk | hk; exact sc_f hk (by simp [okN]; omega); exact sc_w hk (by simp [okN]; omega))
        rw [hcc, if_neg (by omega)] at i5
        have hr : toR total es = (0, 0, 6, (i : Int)) := by unfold toR; rw [i5]
        rw [hr]
        exact t14_8
       ·try simp only [b_rules, bif_and, bif_or] at hb27
        refine vc_skip ?_
        try simp only [k_rules]
        refine h25 _ ?_; clear h25; try clear N25
        refine vc_seq_k fun N29 h29 => ?_
        refine vc_regG [] hmix (by kernel_rfl) ?_
        try refine lg_mk ?_
        refine t14_0 ?_
        refine lg_nil ?_
        refine h29 _ ?_; clear h29; try clear N29
        refine vc_block ?_
        refine vc_seq_k fun N30 h30 => ?_
        refine vc_regG [] hmix (by kernel_rfl) ?_
        try refine lg_mk ?_
        refine t14_2 ?_
        refine t14_0 ?_
        refine lg_nil ?_
        refine h30 _ ?_; clear h30; try clear N30
        refine vc_cond_k (by simp only [w1, w3, eq_self, Nat.reduceEqDiff, reduceIte]; rfl) (fun hb31 => ?_) (fun hb31 => ?_)
        ·try simp only [b_rules, bif_and, bif_or] at hb31
         refine vc_regG [] hmix (by kernel_rfl) ?_
         try refine lg_mk ?_
         refine t14_0 ?_
         refine t14_0 ?_
         refine t14_15 ?_
         refine t14_16 ?_
         refine t14_0 ?_
         refine lg_nil ?_
         refine h10 _ ?_; clear h10; try clear N10
         refine vc_regG [] hmix (by kernel_rfl) ?_
         try refine lg_mk ?_
         refine t14_0 ?_
         refine t14_2 ?_
         refine t14_0 ?_
         refine lg_nil ?_
         obtain rfl : n = 0 := by omega
         obtain rfl : k = 1 := by omega
         have hcc : stepCode total a fs ws 1 0 = 0 := (sc_1c (t := 0) (taken := 0) (by omega)).1
         rw [hcc, if_pos rfl] at i5
         have hv := stepL_inv i2 hcc
         rw [show stepL (a, tk, fs, ws) 1 0 = (a, tk, fs ++ [a], ws) from rfl] at hv i5
         refine h6 _ ⟨(i + 1, a, tk, fs ++ [a], ws), ?_, ?_, [some 0, some 4, some 2], ?_⟩
         ·dsimp only
          have w1_ := hv.2.1
          have w2_ := hv.2.2
          simp only [List.length_append, List.length_cons, List.length_nil] at w1_ w2_ ⊢
          exact ⟨by omega, hv.1, by omega, by omega, i5⟩
         ·dsimp only
          omega
         ·dsimp only
          refine ⟨by rfl, ?_, ?_⟩
          ·exact t14_17
          ·exact t14_17
        ·try simp only [b_rules, bif_and, bif_or] at hb31
         refine vc_seq_k fun N32 h32 => ?_
         refine vc_regG [] hmix (by kernel_rfl) ?_
         try refine lg_mk ?_
         refine t14_2 ?_
         refine t14_0 ?_
         refine lg_nil ?_
         refine h32 _ ?_; clear h32; try clear N32
         refine vc_cond_k (by simp only [w1, w3, eq_self, Nat.reduceEqDiff, reduceIte]; rfl) (fun hb33 => ?_) (fun hb33 => ?_)
         ·try simp only [b_rules, bif_and, bif_or] at hb33
          obtain ⟨m, rfl, hm', x, hx, hg⟩ := okN_ex (show okN fs n = true by simp [okN]; omega)
          refine vc_seq_k fun N34 h34 => ?_
          refine vc_seq_k fun N35 h35 => ?_
          refine vc_regG [] hmix (by kernel_rfl) ?_
          try refine lg_mk ?_
          refine t14_0 ?_
          refine t14_0 ?_
          refine t14_18 ?_
          refine t14_19 ?_
          refine t14_0 ?_
          refine t14_20 ?_
          refine lg_nil ?_
          refine h35 _ ?_; clear h35; try clear N35
          refine vc_cond_k (by simp only [w1, w3, eq_self, Nat.reduceEqDiff, reduceIte]; rfl) (fun hb36 => ?_) (fun hb36 => ?_)
          ·try simp only [b_rules, bif_and, bif_or] at hb36
           refine vc_regG [] hmix (by kernel_rfl) ?_
           try refine lg_mk ?_
           refine t14_0 ?_
           refine t14_2 ?_
           refine t14_0 ?_
           refine lg_nil ?_
           refine h34 _ ?_; clear h34; try clear N34
           refine vc_seq_k fun N37 h37 => ?_
           refine vc_regG [] hmix (by kernel_rfl) ?_
           try refine lg_mk ?_
           refine t14_0 ?_
           refine t14_0 ?_
           refine t14_15 ?_
           refine t14_16 ?_
           refine t14_0 ?_
           refine lg_nil ?_
           refine h37 _ ?_; clear h37; try clear N37
           refine vc_regG [] hmix (by kernel_rfl) ?_
           try refine lg_mk ?_
           refine t14_0 ?_
           refine t14_0 ?_
           refine t14_21 ?_
           refine t14_0 ?_
           refine lg_nil ?_
           refine h10 _ ?_; clear h10; try clear N10
           refine vc_regG [] hmix (by kernel_rfl) ?_
           try refine lg_mk ?_
           refine t14_0 ?_
           refine t14_2 ?_
           refine t14_0 ?_
           refine lg_nil ?_
           have ho : okN fs m = true := by simp [okN]; omega
           obtain rfl : k = 2 := by omega
           have hcc : stepCode total a fs ws 2 (m : Int) = 0 := (sc_2 (t := 0) (taken := 0) ho).1
           rw [hcc, if_pos rfl] at i5
           have hv := stepL_inv i2 hcc
           rw [show stepL (a, tk, fs, ws) 2 (m : Int) = (a, tk + 1, dropN fs m, ws ++ [tk + 1]) by simp [stepL, tookK, hg]; omega] at hv i5
           refine h6 _ ⟨(i + 1, a, tk + 1, dropN fs m, ws ++ [tk + 1]), ?_, ?_, [some 0, some 5, some 4], ?_⟩
           ·dsimp only
            have w1_ := hv.2.1
            have w2_ := hv.2.2
            simp only [List.length_append, List.length_cons, List.length_nil] at w1_ w2_ ⊢
            exact ⟨by omega, hv.1, by omega, by omega, i5⟩
           ·dsimp only
            omega
           ·dsimp only
            refine ⟨by rfl, ?_, ?_⟩
            ·exact t14_17
            ·exact t14_17
          ·try simp only [b_rules, bif_and, bif_or] at hb36
           refine vc_skip ?_
           try simp only [k_rules]
           refine h34 _ ?_; clear h34; try clear N34
           refine vc_seq_k fun N38 h38 => ?_
           refine vc_regG [] hmix (by kernel_rfl) ?_
           try refine lg_mk ?_
           refine t14_0 ?_
           refine t14_0 ?_
           refine t14_15 ?_
           refine t14_16 ?_
           refine t14_0 ?_
           refine lg_nil ?_
           refine h38 _ ?_; clear h38; try clear N38
           refine vc_regG [] hmix (by kernel_rfl) ?_
           try refine lg_mk ?_
           refine t14_0 ?_
           refine t14_0 ?_
           refine t14_21 ?_
           refine t14_0 ?_
           refine lg_nil ?_
           refine h10 _ ?_; clear h10; try clear N10
           refine vc_regG [] hmix (by kernel_rfl) ?_
           try refine lg_mk ?_
           refine t14_0 ?_
           refine t14_2 ?_
           refine t14_0 ?_
           refine lg_nil ?_
           have ho : okN fs m = true := by simp [okN]; omega
           obtain rfl : k = 2 := by omega
           have hcc : stepCode total a fs ws 2 (m : Int) = 0 := (sc_2 (t := 0) (taken := 0) ho).1
           rw [hcc, if_pos rfl] at i5
           have hv := stepL_inv i2 hcc
           rw [show stepL (a, tk, fs, ws) 2 (m : Int) = (a, tk, dropN fs m, ws ++ [tk]) by simp [stepL, tookK, hg]; omega] at hv i5
           refine h6 _ ⟨(i + 1, a, tk, dropN fs m, ws ++ [tk]), ?_, ?_, [some 0, some 5, some 4], ?_⟩
           ·dsimp only
            have w1_ := hv.2.1
            have w2_ := hv.2.2
            simp only [List.length_append, List.length_cons, List.length_nil] at w1_ w2_ ⊢
            exact ⟨by omega, hv.1, by omega, by omega, i5⟩
           ·dsimp only
            omega
           ·dsimp only
            refine ⟨by rfl, ?_, ?_⟩
            ·exact t14_17
            ·exact t14_17
         ·try simp only [b_rules, bif_and, bif_or] at hb33
          refine vc_seq_k fun N39 h39 => ?_
          refine vc_regG [] hmix (by kernel_rfl) ?_
          try refine lg_mk ?_
          refine t14_2 ?_
          refine t14_0 ?_
          refine lg_nil ?_
          refine h39 _ ?_; clear h39; try clear N39
          refine vc_cond_k (by simp only [w1, w3, eq_self, Nat.reduceEqDiff, reduceIte]; rfl) (fun hb40 => ?_) (fun hb40 => ?_)
          ·try simp only [b_rules, bif_and, bif_or] at hb40
           refine vc_regG [] hmix (by kernel_rfl) ?_
           try refine lg_mk ?_
           refine t14_0 ?_
           refine t14_0 ?_
           refine t14_21 ?_
           refine t14_0 ?_
           refine lg_nil ?_
           refine h10 _ ?_; clear h10; try clear N10
           refine vc_regG [] hmix (by kernel_rfl) ?_
           try refine lg_mk ?_
           refine t14_0 ?_
           refine t14_2 ?_
           refine t14_0 ?_
           refine lg_nil ?_
           have ho : okN fs n = true := by simp [okN]; omega
           obtain rfl : k = 3 := by omega
           have hcc : stepCode total a fs ws 3 n = 0 := (sc_3 (t := 0) (taken := 0) ho).1
           rw [hcc, if_pos rfl] at i5
           have hv := stepL_inv i2 hcc
           rw [show stepL (a, tk, fs, ws) 3 n = (a, tk, dropN fs n, ws) from rfl] at hv i5
           refine h6 _ ⟨(i + 1, a, tk, dropN fs n, ws), ?_, ?_, [some 0, some 3, some 2], ?_⟩
           ·dsimp only
            have w1_ := hv.2.1
            have w2_ := hv.2.2
            simp only [List.length_append, List.length_cons, List.length_nil] at w1_ w2_ ⊢
            exact ⟨by omega, hv.1, by omega, by omega, i5⟩
           ·dsimp only
            omega
           ·dsimp only
            refine ⟨by rfl, ?_, ?_⟩
            ·exact t14_17
            ·exact t14_17
          ·try simp only [b_rules, bif_and, bif_or] at hb40
           refine vc_seq_k fun N41 h41 => ?_
           refine vc_regG [] hmix (by kernel_rfl) ?_
           try refine lg_mk ?_
           refine t14_2 ?_
           refine t14_0 ?_
           refine lg_nil ?_
           refine h41 _ ?_; clear h41; try clear N41
           refine vc_cond_k (by simp only [w1, w3, eq_self, Nat.reduceEqDiff, reduceIte]; rfl) (fun hb42 => ?_) (fun hb42 => ?_)
           ·try simp only [b_rules, bif_and, bif_or] at hb42
            obtain ⟨m, rfl, hm', x, hx, hg⟩ := okN_ex (show okN fs n = true by simp [okN]; omega)
            refine vc_regG [] hmix (by kernel_rfl) ?_
            try refine lg_mk ?_
            refine t14_0 ?_
            refine t14_0 ?_
            refine t14_0 ?_
            refine t14_18 ?_
            refine t14_19 ?_
            refine lg_h (by simp only [op_rules, ev_rules, fr_rules, av_rules, rs_rules, eq_self, Nat.reduceEqDiff, reduceIte, bw, aBuildSlice, env_rules, tys, g_run, tiAgg, list_rules, opt_rules, map_rules, rows_get, rows_len, rows_drop, rows_take, rows_app, rows_nil, rows_set, Int.toNat_natCast, Int.reduceToNat, Nat.reduceAdd, Nat.reduceMul, Nat.reduceSub, Nat.reduceLeDiff, Nat.zero_add, Nat.add_zero, true_and, and_true, and_assoc, rect_eI, rect_eB, rect_eU, rect_eS, rect_eL, rect_nil, rect_cons, bytes_is, bytes_str, splice_rules, cell_rules, fill_rules, bnd_rules, or_false, false_or, not_true_eq_false, not_false_eq_true, rect_eE, hx]; rfl) (by exact t14a1) (by exact t14a2) (fun h => Bool.noConfusion (show false = true from h)) ?_
            refine lg_h (by simp only [op_rules, ev_rules, fr_rules, av_rules, rs_rules, eq_self, Nat.reduceEqDiff, reduceIte, bw, aAppend, rowsSrc, or_self, env_rules, tys, g_run, tiAgg, list_rules, opt_rules, map_rules, rows_get, rows_len, rows_drop, rows_take, rows_app, rows_nil, rows_set, Int.toNat_natCast, Int.reduceToNat, Nat.reduceAdd, Nat.reduceMul, Nat.reduceSub, Nat.reduceLeDiff, Nat.zero_add, Nat.add_zero, true_and, and_true, and_assoc, rect_eI, rect_eB, rect_eU, rect_eS, rect_eL, rect_nil, rect_cons, bytes_is, bytes_str, splice_rules, cell_rules, fill_rules, bnd_rules, or_false, false_or, not_true_eq_false, not_false_eq_true, rect_eE, hx]; rfl) (by exact t14a1) (by exact t14a2) (fun h => Bool.noConfusion (show false = true from h)) ?_
            refine t14_0 ?_
            refine lg_nil ?_
            refine h10 _ ?_; clear h10; try clear N10
            refine vc_regG [] hmix (by kernel_rfl) ?_
            try refine lg_mk ?_
            refine t14_0 ?_
            refine t14_2 ?_
            refine t14_0 ?_
            refine lg_nil ?_
            have ho : okN fs m = true := by simp [okN]; omega
            obtain rfl : k = 4 := by omega
            have hcc : stepCode total a fs ws 4 (m : Int) = 0 := (sc_4 (t := 0) (taken := 0) ho).1
            rw [hcc, if_pos rfl] at i5
            have hv := stepL_inv i2 hcc
            rw [show stepL (a, tk, fs, ws) 4 (m : Int) = (a, tk, fs ++ [x], ws) by simp [stepL, hg]] at hv i5
            refine h6 _ ⟨(i + 1, a, tk, fs ++ [x], ws), ?_, ?_, [some 0, some 4, some 2], ?_⟩
            ·dsimp only
             have w1_ := hv.2.1
             have w2_ := hv.2.2
             simp only [List.length_append, List.length_cons, List.length_nil] at w1_ w2_ ⊢
             exact ⟨by omega, hv.1, by omega, by omega, i5⟩
            ·dsimp only
             omega
            ·dsimp only
             refine ⟨by rfl, ?_, ?_⟩
             ·exact t14_17
             ·exact t14_17
           ·try simp only [b_rules, bif_and, bif_or] at hb42
            refine vc_seq_k fun N43 h43 => ?_
            refine vc_regG [] hmix (by kernel_rfl) ?_
            try refine lg_mk ?_
            refine t14_2 ?_
            refine t14_0 ?_
            refine lg_nil ?_
            refine h43 _ ?_; clear h43; try clear N43
            refine vc_cond_k (by simp only [w1, w3, eq_self, Nat.reduceEqDiff, reduceIte]; rfl) (fun hb44 => ?_) (fun hb44 => ?_)
            ·try simp only [b_rules, bif_and, bif_or] at hb44
             obtain ⟨m, rfl, hm', x, hx, hg⟩ := okN_ex (show okN ws n = true by simp [okN]; omega)
             refine vc_seq_k fun N45 h45 => ?_
             refine vc_seq_k fun N46 h46 => ?_
             refine vc_regG [] hmix (by kernel_rfl) ?_
             try refine lg_mk ?_
             refine t14_0 ?_
             refine t14_0 ?_
             refine t14_18 ?_
             refine t14_19 ?_
             refine t14_0 ?_
             refine t14_20 ?_
             refine lg_nil ?_
             refine h46 _ ?_; clear h46; try clear N46
             refine vc_cond_k (by simp only [w1, w3, eq_self, Nat.reduceEqDiff, reduceIte]; rfl) (fun hb47 => ?_) (fun hb47 => ?_)
             ·try simp only [b_rules, bif_and, bif_or] at hb47
              refine vc_regG [] hmix (by kernel_rfl) ?_
              try refine lg_mk ?_
              refine t14_0 ?_
              refine t14_0 ?_
              refine t14_18 ?_
              refine t14_19 ?_
              refine t14_0 ?_
              refine lg_nil ?_
              refine h45 _ ?_; clear h45; try clear N45
              refine vc_regG [] hmix (by kernel_rfl) ?_
              try refine lg_mk ?_
              refine t14_0 ?_
              refine t14_0 ?_
              refine t14_21 ?_
              refine t14_0 ?_
              refine lg_nil ?_
              refine h10 _ ?_; clear h10; try clear N10
              refine vc_regG [] hmix (by kernel_rfl) ?_
              try refine lg_mk ?_
              refine t14_0 ?_
              refine t14_2 ?_
              refine t14_0 ?_
              refine lg_nil ?_
              have ho : okN ws m = true := by simp [okN]; omega
              obtain rfl : k = 5 := by omega
              have hcc : stepCode total a fs ws 5 (m : Int) = 0 := (sc_5 (t := 0) (taken := 0) ho).1
              rw [hcc, if_pos rfl] at i5
              have hv := stepL_inv i2 hcc
              rw [show stepL (a, tk, fs, ws) 5 (m : Int) = (x, tk, fs, dropN ws m) by simp [stepL, hg]; omega] at hv i5
              refine h6 _ ⟨(i + 1, x, tk, fs, dropN ws m), ?_, ?_, [some 0, some 1, some 3], ?_⟩
              ·dsimp only
               have w1_ := hv.2.1
               have w2_ := hv.2.2
               simp only [List.length_append, List.length_cons, List.length_nil] at w1_ w2_ ⊢
               exact ⟨by omega, hv.1, by omega, by omega, i5⟩
              ·dsimp only
               omega
              ·dsimp only
               refine ⟨by rfl, ?_, ?_⟩
               ·exact t14_17
               ·exact t14_17
             ·try simp only [b_rules, bif_and, bif_or] at hb47
              refine vc_skip ?_
              try simp only [k_rules]
              refine h45 _ ?_; clear h45; try clear N45
              refine vc_regG [] hmix (by kernel_rfl) ?_
              try refine lg_mk ?_
              refine t14_0 ?_
              refine t14_0 ?_
              refine t14_21 ?_
              refine t14_0 ?_
              refine lg_nil ?_
              refine h10 _ ?_; clear h10; try clear N10
              refine vc_regG [] hmix (by kernel_rfl) ?_
              try refine lg_mk ?_
              refine t14_0 ?_
              refine t14_2 ?_
              refine t14_0 ?_
              refine lg_nil ?_
              have ho : okN ws m = true := by simp [okN]; omega
              obtain rfl : k = 5 := by omega
              have hcc : stepCode total a fs ws 5 (m : Int) = 0 := (sc_5 (t := 0) (taken := 0) ho).1
              rw [hcc, if_pos rfl] at i5
              have hv := stepL_inv i2 hcc
              rw [show stepL (a, tk, fs, ws) 5 (m : Int) = (a, tk, fs, dropN ws m) by simp [stepL, hg]; omega] at hv i5
              refine h6 _ ⟨(i + 1, a, tk, fs, dropN ws m), ?_, ?_, [some 0, some 1, some 3], ?_⟩
              ·dsimp only
               have w1_ := hv.2.1
               have w2_ := hv.2.2
               simp only [List.length_append, List.length_cons, List.length_nil] at w1_ w2_ ⊢
               exact ⟨by omega, hv.1, by omega, by omega, i5⟩
              ·dsimp only
               omega
              ·dsimp only
               refine ⟨by rfl, ?_, ?_⟩
               ·exact t14_17
               ·exact t14_17
            ·try simp only [b_rules, bif_and, bif_or] at hb44
             refine vc_seq_k fun N48 h48 => ?_
             refine vc_regG [] hmix (by kernel_rfl) ?_
             try refine lg_mk ?_
             refine t14_2 ?_
             refine t14_0 ?_
             refine lg_nil ?_
             refine h48 _ ?_; clear h48; try clear N48
             refine vc_cond_k (by simp only [w1, w3, eq_self, Nat.reduceEqDiff, reduceIte]; rfl) (fun hb49 => ?_) (fun hb49 => ?_)
             ·try simp only [b_rules, bif_and, bif_or] at hb49
              refine vc_regG [] hmix (by kernel_rfl) ?_
              try refine lg_mk ?_
              refine t14_0 ?_
              refine t14_0 ?_
              refine t14_21 ?_
              refine t14_0 ?_
              refine lg_nil ?_
              refine h10 _ ?_; clear h10; try clear N10
              refine vc_regG [] hmix (by kernel_rfl) ?_
              try refine lg_mk ?_
              refine t14_0 ?_
              refine t14_2 ?_
              refine t14_0 ?_
              refine lg_nil ?_
              have ho : okN ws n = true := by simp [okN]; omega
              obtain rfl : k = 6 := by omega
              have hcc : stepCode total a fs ws 6 n = 0 := (sc_6 (t := 0) (taken := 0) ho).1
              rw [hcc, if_pos rfl] at i5
              have hv := stepL_inv i2 hcc
              rw [show stepL (a, tk, fs, ws) 6 n = (a, tk, fs, dropN ws n) from rfl] at hv i5
              refine h6 _ ⟨(i + 1, a, tk, fs, dropN ws n), ?_, ?_, [some 0, some 1, some 3], ?_⟩
              ·dsimp only
               have w1_ := hv.2.1
               have w2_ := hv.2.2
               simp only [List.length_append, List.length_cons, List.length_nil] at w1_ w2_ ⊢
               exact ⟨by omega, hv.1, by omega, by omega, i5⟩
              ·dsimp only
               omega
              ·dsimp only
               refine ⟨by rfl, ?_, ?_⟩
               ·exact t14_17
               ·exact t14_17
             ·try simp only [b_rules, bif_and, bif_or] at hb49
              first | omega | exact absurd trivial hb49 | contradiction | (simp_all; done)
   ·try simp only [b_rules, bif_and, bif_or] at hb9
    refine vc_exit ?_
    simp only [k_rules, Nat.reduceEqDiff, reduceIte, eq_self]
    refine h4 _ ?_; clear h4; try clear N4
    refine vc_seq_k fun N50 h50 => ?_
    refine vc_regG [] hmix (by kernel_rfl) ?_
    try refine lg_mk ?_
    refine t14_0 ?_
    refine t14_0 ?_
    refine lg_v (by simp only [op_rules, ev_rules, fr_rules, av_rules, rs_rules, eq_self, Nat.reduceEqDiff, reduceIte, bw, op_rules2, aBuild, env_rules, tys, g_run, tiAgg, list_rules, opt_rules, map_rules, rows_get, rows_len, rows_drop, rows_take, rows_app, rows_nil, rows_set, Int.toNat_natCast, Int.reduceToNat, Nat.reduceAdd, Nat.reduceMul, Nat.reduceSub, Nat.reduceLeDiff, Nat.zero_add, Nat.add_zero, true_and, and_true, and_assoc, rect_eI, rect_eB, rect_eU, rect_eS, rect_eL, rect_nil, rect_cons, bytes_is, bytes_str, splice_rules, cell_rules, fill_rules, bnd_rules, or_false, false_or, not_true_eq_false, not_false_eq_true, rect_eE]; rfl) (by exact t14a1) (by exact t14a2) ?_
    refine t14_0 ?_
    refine t14_0 ?_
    refine t14_7 ?_
    refine lg_nil ?_
    refine h50 _ ?_; clear h50; try clear N50
    refine vc_ret ?_
    try simp only [k_rules]
    have hr : toR total es = (tk, a, 0, 0) := by
     unfold toR; rw [i5, List.drop_eq_nil_of_le (by omega)]; rfl
    rw [hr]
    exact t14_8
 ·cases hg

def E_transferOf : Env Try.prog := E_run.add 14 (Spec.pure toG) transferOf_meets (by kernel_rfl)

theorem g_transferOf : (E_transferOf.X = T) ∧ (E_transferOf.Γ 11 = some (Spec.pure faultG)) ∧ (E_transferOf.Γ 18 = some (Spec.pure inG)) ∧ (E_transferOf.Γ 16 = some (Spec.pure planOfG)) ∧ (E_transferOf.Γ 20 = some (Spec.pure (cloneG 1 1))) ∧ (E_transferOf.Γ 27 = some (Spec.gen (deleteG 3))) ∧ (E_transferOf.Γ 25 = some (Spec.gen pickG)) ∧ (E_transferOf.Γ 21 = some (Spec.gen stepG)) ∧ (E_transferOf.Γ 19 = some (Spec.pure (chunkG 24))) ∧ (E_transferOf.Γ 9 = some (Spec.pure framesG)) ∧ (E_transferOf.Γ 12 = some (Spec.pure countG)) ∧ (E_transferOf.Γ 13 = some (Spec.pure frameOfG)) ∧ (E_transferOf.Γ 23 = some (Spec.fresh withoutG)) ∧ (E_transferOf.Γ 26 = some (Spec.fresh growG)) ∧ (E_transferOf.Γ 22 = some (Spec.pure concatG)) ∧ (E_transferOf.Γ 10 = some (Spec.pure runG)) ∧ (E_transferOf.Γ 14 = some (Spec.pure toG)) := ⟨rfl, rfl, rfl, rfl, rfl, rfl, rfl, rfl, rfl, rfl, rfl, rfl, rfl, rfl, rfl, rfl, rfl⟩
end Go.Proofs.Ythklbefnmcoojaa
