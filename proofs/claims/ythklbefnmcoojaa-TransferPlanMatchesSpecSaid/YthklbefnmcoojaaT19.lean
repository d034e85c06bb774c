/- Walks, printed by wip/gen/walk.py. -/
import Derived.Test.YthklbefnmcoojaaT18
set_option linter.all false
set_option maxRecDepth 100000
set_option maxHeartbeats 4000000
namespace Go.Proofs.Ythklbefnmcoojaa
open Go Go.Vc Go.RowKit
section
variable [Far] {P : Program} {E : Env P} {W0 : World} {M0 : Nat → Prop} {dr : Bool} {calm : List FuncId} {ops : Array Oper} {K : St → Prop} {o : Op} {d : Option Tmp} {t : TypeId} {p : String} {af : Array Edge} {r : List Oper} {fr : Nat → AV} {H H' : Heap} {n n' : Nat} {q : Prop} {c : AV} {b : Bool} {gd : Nat × Bool}
theorem t19a0 {p : Prop} (h : p := by simp only [op_rules, ev_rules, fr_rules, av_rules, rs_rules, eq_self, Nat.reduceEqDiff, reduceIte, bw]; rfl) : p := h
theorem t19a1 {p : Prop} (h : p := by simp only [nd_rules, nd_slice, ev_rules, fr_rules, av_rules, eq_self, Nat.reduceEqDiff, reduceIte, and_true, true_and, map_rules, List.map_cons, List.map_nil]) : p := h
theorem t19a2 {p : Prop} (h : p := by (first | trivial | omega | assumption | (unfold inI64; omega) | (simp; done) | (simp; omega))) : p := h
theorem t19_0 (hk : AG W0 M0 dr calm E ops K r ⟨putD d c fr, H, n⟩) (h : aOp E fr H n o = .v q c := by exact t19a0) (hn : ndO fr o := by exact t19a1) (hq : q := by exact t19a2) : AG W0 M0 dr calm E ops K (⟨d, o, t, p, af, none⟩ :: r) ⟨fr, H, n⟩ := lg_v h hn hq hk
theorem t19a3 {p : Prop} (h : p := by simp only [op_rules, ev_rules, fr_rules, av_rules, rs_rules, eq_self, Nat.reduceEqDiff, reduceIte, bw, un_rules, ar_rules, Bool.not_not, rect_eE, dE_rows, dec_t, dec_f]; rfl) : p := h
theorem t19_1 (hk : AG W0 M0 dr calm E ops K r ⟨putD d c fr, H, n⟩) (h : aOp E fr H n o = .v q c := by exact t19a3) (hn : ndO fr o := by exact t19a1) (hq : q := by exact t19a2) : AG W0 M0 dr calm E ops K (⟨d, o, t, p, af, none⟩ :: r) ⟨fr, H, n⟩ := lg_v h hn hq hk
theorem t19_2 (hk : AG W0 M0 dr calm E ops K r ⟨putD d c fr, H', n'⟩) (h : aOp E fr H n o = .h q c H' n' := by simp only [call_rule (E := (E_lawRun.at_ 64)) (f := 15) (sp := Spec.pure planG) rfl, op_rules, ev_rules, fr_rules, av_rules, rs_rules, eq_self, Nat.reduceEqDiff, reduceIte, bw, callS, rd_rules, pure_rules, planG, sc_rules, heap_rules, list_rules, opt_rules, map_rules, rows_get, rows_len, rows_drop, rows_take, rows_app, rows_nil, rows_set, Int.toNat_natCast, Int.reduceToNat, Nat.reduceAdd, Nat.reduceMul, Nat.reduceSub, Nat.reduceLeDiff, Nat.zero_add, Nat.add_zero, true_and, and_true, and_assoc, rect_eI, rect_eB, rect_eU, rect_eS, rect_eL, rect_nil, rect_cons, bytes_is, bytes_str, splice_rules, cell_rules, fill_rules, bnd_rules, or_false, false_or, not_true_eq_false, not_false_eq_true, List.mem_cons, List.not_mem_nil, dI_rows, dB_rows, dU_rows, rect_eE, dE_rows, dec_t, dec_f, hr]; rfl) (hn : ndO fr o := by exact t19a1) (hq : q := by exact t19a2) (hl : (dr && growB calm d o) = true → HLe H H' := by exact (fun h => Bool.noConfusion (show false = true from h))) : AG W0 M0 dr calm E ops K (⟨d, o, t, p, af, none⟩ :: r) ⟨fr, H, n⟩ := lg_h h hn hq hl hk
theorem t19_3 (hk : AG W0 M0 dr calm E ops K r ⟨putD d c fr, H, n⟩) (h : aOp E fr H n o = .v q c := by simp only [op_rules, ev_rules, fr_rules, av_rules, rs_rules, eq_self, Nat.reduceEqDiff, reduceIte, bw, op_rules2, aExtract, list_rules, rect_eE, dE_rows, dec_t, dec_f, hr]; rfl) (hn : ndO fr o := by exact t19a1) (hq : q := by exact t19a2) : AG W0 M0 dr calm E ops K (⟨d, o, t, p, af, none⟩ :: r) ⟨fr, H, n⟩ := lg_v h hn hq hk
theorem t19_4 (hk : AG W0 M0 dr calm E ops K r ⟨putD d c fr, H', n'⟩) (h : aOp E fr H n o = .h q c H' n' := by simp only [op_rules, ev_rules, fr_rules, av_rules, rs_rules, eq_self, Nat.reduceEqDiff, reduceIte, bw, aAlloc, env_rules, tys, g_lawRun, tiAgg, list_rules, opt_rules, map_rules, rows_get, rows_len, rows_drop, rows_take, rows_app, rows_nil, rows_set, Int.toNat_natCast, Int.reduceToNat, Nat.reduceAdd, Nat.reduceMul, Nat.reduceSub, Nat.reduceLeDiff, Nat.zero_add, Nat.add_zero, true_and, and_true, and_assoc, rect_eI, rect_eB, rect_eU, rect_eS, rect_eL, rect_nil, rect_cons, bytes_is, bytes_str, splice_rules, cell_rules, fill_rules, bnd_rules, or_false, false_or, not_true_eq_false, not_false_eq_true, rect_eE, dE_rows, dec_t, dec_f, hr]; rfl) (hn : ndO fr o := by exact t19a1) (hq : q := by exact t19a2) (hl : (dr && growB calm d o) = true → HLe H H' := by exact (fun h => Bool.noConfusion (show false = true from h))) : AG W0 M0 dr calm E ops K (⟨d, o, t, p, af, none⟩ :: r) ⟨fr, H, n⟩ := lg_h h hn hq hl hk
theorem t19_5 (hk : AG W0 M0 dr calm E ops K r ⟨putD d c fr, H', n'⟩) (h : aOp E fr H n o = .h q c H' n' := by simp only [op_rules, ev_rules, fr_rules, av_rules, rs_rules, eq_self, Nat.reduceEqDiff, reduceIte, bw, aStore, env_rules, tys, g_lawRun, tiAgg, list_rules, opt_rules, map_rules, rows_get, rows_len, rows_drop, rows_take, rows_app, rows_nil, rows_set, Int.toNat_natCast, Int.reduceToNat, Nat.reduceAdd, Nat.reduceMul, Nat.reduceSub, Nat.reduceLeDiff, Nat.zero_add, Nat.add_zero, true_and, and_true, and_assoc, rect_eI, rect_eB, rect_eU, rect_eS, rect_eL, rect_nil, rect_cons, bytes_is, bytes_str, splice_rules, cell_rules, fill_rules, bnd_rules, or_false, false_or, not_true_eq_false, not_false_eq_true, rect_eE, dE_rows, dec_t, dec_f, hr]; rfl) (hn : ndO fr o := by exact t19a1) (hq : q := by exact t19a2) (hl : (dr && growB calm d o) = true → HLe H H' := by exact (fun h => Bool.noConfusion (show false = true from h))) : AG W0 M0 dr calm E ops K (⟨d, o, t, p, af, none⟩ :: r) ⟨fr, H, n⟩ := lg_h h hn hq hl hk
theorem t19_6 (hk : AG W0 M0 dr calm E ops K r ⟨putD d c fr, H, n⟩) (h : aOp E fr H n o = .v q c := by simp only [op_rules, ev_rules, fr_rules, av_rules, rs_rules, eq_self, Nat.reduceEqDiff, reduceIte, bw, op_rules2, aBuild, env_rules, tys, g_lawRun, tiAgg, list_rules, opt_rules, map_rules, rows_get, rows_len, rows_drop, rows_take, rows_app, rows_nil, rows_set, Int.toNat_natCast, Int.reduceToNat, Nat.reduceAdd, Nat.reduceMul, Nat.reduceSub, Nat.reduceLeDiff, Nat.zero_add, Nat.add_zero, true_and, and_true, and_assoc, rect_eI, rect_eB, rect_eU, rect_eS, rect_eL, rect_nil, rect_cons, bytes_is, bytes_str, splice_rules, cell_rules, fill_rules, bnd_rules, or_false, false_or, not_true_eq_false, not_false_eq_true, rect_eE, dE_rows, dec_t, dec_f]; rfl) (hn : ndO fr o := by exact t19a1) (hq : q := by exact t19a2) : AG W0 M0 dr calm E ops K (⟨d, o, t, p, af, none⟩ :: r) ⟨fr, H, n⟩ := lg_v h hn hq hk
theorem t19_7 (hk : AG W0 M0 dr calm E ops K r ⟨putD d c fr, H', n'⟩) (h : aOp E fr H n o = .h q c H' n' := by simp only [op_rules, ev_rules, fr_rules, av_rules, rs_rules, eq_self, Nat.reduceEqDiff, reduceIte, bw, aAlloc, env_rules, tys, g_lawRun, tiAgg, list_rules, opt_rules, map_rules, rows_get, rows_len, rows_drop, rows_take, rows_app, rows_nil, rows_set, Int.toNat_natCast, Int.reduceToNat, Nat.reduceAdd, Nat.reduceMul, Nat.reduceSub, Nat.reduceLeDiff, Nat.zero_add, Nat.add_zero, true_and, and_true, and_assoc, rect_eI, rect_eB, rect_eU, rect_eS, rect_eL, rect_nil, rect_cons, bytes_is, bytes_str, splice_rules, cell_rules, fill_rules, bnd_rules, or_false, false_or, not_true_eq_false, not_false_eq_true, rect_eE, dE_rows, dec_t, dec_f]; rfl) (hn : ndO fr o := by exact t19a1) (hq : q := by exact t19a2) (hl : (dr && growB calm d o) = true → HLe H H' := by exact (fun h => Bool.noConfusion (show false = true from h))) : AG W0 M0 dr calm E ops K (⟨d, o, t, p, af, none⟩ :: r) ⟨fr, H, n⟩ := lg_h h hn hq hl hk
theorem t19_8 (hk : AG W0 M0 dr calm E ops K r ⟨putD d c fr, H', n'⟩) (h : aOp E fr H n o = .h q c H' n' := by simp only [op_rules, ev_rules, fr_rules, av_rules, rs_rules, eq_self, Nat.reduceEqDiff, reduceIte, bw, aStore, env_rules, tys, g_lawRun, tiAgg, list_rules, opt_rules, map_rules, rows_get, rows_len, rows_drop, rows_take, rows_app, rows_nil, rows_set, Int.toNat_natCast, Int.reduceToNat, Nat.reduceAdd, Nat.reduceMul, Nat.reduceSub, Nat.reduceLeDiff, Nat.zero_add, Nat.add_zero, true_and, and_true, and_assoc, rect_eI, rect_eB, rect_eU, rect_eS, rect_eL, rect_nil, rect_cons, bytes_is, bytes_str, splice_rules, cell_rules, fill_rules, bnd_rules, or_false, false_or, not_true_eq_false, not_false_eq_true, rect_eE, dE_rows, dec_t, dec_f]; rfl) (hn : ndO fr o := by exact t19a1) (hq : q := by exact t19a2) (hl : (dr && growB calm d o) = true → HLe H H' := by exact (fun h => Bool.noConfusion (show false = true from h))) : AG W0 M0 dr calm E ops K (⟨d, o, t, p, af, none⟩ :: r) ⟨fr, H, n⟩ := lg_h h hn hq hl hk
theorem t19a4 {p : Prop} (h : p := by simp only [op_rules, ev_rules, fr_rules, av_rules, rs_rules, eq_self, Nat.reduceEqDiff, reduceIte, bw, op_rules2, aLen, env_rules, tys, g_lawRun, tiAgg, list_rules, opt_rules, map_rules, rows_get, rows_len, rows_drop, rows_take, rows_app, rows_nil, rows_set, Int.toNat_natCast, Int.reduceToNat, Nat.reduceAdd, Nat.reduceMul, Nat.reduceSub, Nat.reduceLeDiff, Nat.zero_add, Nat.add_zero, true_and, and_true, and_assoc, rect_eI, rect_eB, rect_eU, rect_eS, rect_eL, rect_nil, rect_cons, bytes_is, bytes_str, splice_rules, cell_rules, fill_rules, bnd_rules, or_false, false_or, not_true_eq_false, not_false_eq_true, rect_eE, dE_rows, dec_t, dec_f]; rfl) : p := h
theorem t19_9 (hk : AG W0 M0 dr calm E ops K r ⟨putD d c fr, H, n⟩) (h : aOp E fr H n o = .v q c := by exact t19a4) (hn : ndO fr o := by exact t19a1) (hq : q := by exact t19a2) : AG W0 M0 dr calm E ops K (⟨d, o, t, p, af, none⟩ :: r) ⟨fr, H, n⟩ := lg_v h hn hq hk
theorem t19a5 {p : Prop} (h : p := by simp only [op_rules, ev_rules, fr_rules, av_rules, rs_rules, eq_self, Nat.reduceEqDiff, reduceIte, bw, env_rules, tys, g_lawRun, tiAgg, bin_rules, ar_rules, str_rules, eq_rules, bit_rules, Bool.true_and, Bool.and_true, rect_eE, dE_rows, dec_t, dec_f]; rfl) : p := h
theorem t19_10 (hk : AG W0 M0 dr calm E ops K r ⟨putD d c fr, H, n⟩) (h : aOp E fr H n o = .v q c := by exact t19a5) (hn : ndO fr o := by exact t19a1) (hq : q := by exact t19a2) : AG W0 M0 dr calm E ops K (⟨d, o, t, p, af, none⟩ :: r) ⟨fr, H, n⟩ := lg_v h hn hq hk
theorem t19_11 (hk : AG W0 M0 dr calm E ops K r ⟨putD d c fr, H, n⟩) (h : aOp E fr H n o = .v q c := by simp only [call_rule (E := (E_lawRun.at_ 64)) (f := 11) (sp := Spec.pure faultG) rfl, op_rules, ev_rules, fr_rules, av_rules, rs_rules, eq_self, Nat.reduceEqDiff, reduceIte, bw, callS, rd_rules, pure_rules, faultG, sc_rules, heap_rules, list_rules, opt_rules, map_rules, rows_get, rows_len, rows_drop, rows_take, rows_app, rows_nil, rows_set, Int.toNat_natCast, Int.reduceToNat, Nat.reduceAdd, Nat.reduceMul, Nat.reduceSub, Nat.reduceLeDiff, Nat.zero_add, Nat.add_zero, true_and, and_true, and_assoc, rect_eI, rect_eB, rect_eU, rect_eS, rect_eL, rect_nil, rect_cons, bytes_is, bytes_str, splice_rules, cell_rules, fill_rules, bnd_rules, or_false, false_or, not_true_eq_false, not_false_eq_true, List.mem_cons, List.not_mem_nil, dI_rows, dB_rows, dU_rows, rect_eE, dE_rows, dec_t, dec_f]; rfl) (hn : ndO fr o := by exact t19a1) (hq : q := by exact t19a2) : AG W0 M0 dr calm E ops K (⟨d, o, t, p, af, none⟩ :: r) ⟨fr, H, n⟩ := lg_v h hn hq hk
theorem t19_12 (hk : AG W0 M0 dr calm E ops K r ⟨putD d c fr, H, n⟩) (h : aOp E fr H n o = .v q c := by simp only [op_rules, ev_rules, fr_rules, av_rules, rs_rules, eq_self, Nat.reduceEqDiff, reduceIte, bw, op_rules2, aFieldAddr, aField, aIndexAddr, aIndex, aPart, env_rules, tys, g_lawRun, tiAgg, list_rules, opt_rules, map_rules, rows_get, rows_len, rows_drop, rows_take, rows_app, rows_nil, rows_set, Int.toNat_natCast, Int.reduceToNat, Nat.reduceAdd, Nat.reduceMul, Nat.reduceSub, Nat.reduceLeDiff, Nat.zero_add, Nat.add_zero, true_and, and_true, and_assoc, rect_eI, rect_eB, rect_eU, rect_eS, rect_eL, rect_nil, rect_cons, bytes_is, bytes_str, splice_rules, cell_rules, fill_rules, bnd_rules, or_false, false_or, not_true_eq_false, not_false_eq_true, rect_eE, dE_rows, dec_t, dec_f]; rfl) (hn : ndO fr o := by exact t19a1) (hq : q := by exact t19a2) : AG W0 M0 dr calm E ops K (⟨d, o, t, p, af, none⟩ :: r) ⟨fr, H, n⟩ := lg_v h hn hq hk
theorem t19_13 (hk : AG W0 M0 dr calm E ops K r ⟨putD d c fr, H, n⟩) (h : aOp E fr H n o = .v q c := by simp only [op_rules, ev_rules, fr_rules, av_rules, rs_rules, eq_self, Nat.reduceEqDiff, reduceIte, bw, op_rules2, aLoad, loadRow, env_rules, tys, g_lawRun, tiAgg, list_rules, opt_rules, map_rules, rows_get, rows_len, rows_drop, rows_take, rows_app, rows_nil, rows_set, Int.toNat_natCast, Int.reduceToNat, Nat.reduceAdd, Nat.reduceMul, Nat.reduceSub, Nat.reduceLeDiff, Nat.zero_add, Nat.add_zero, true_and, and_true, and_assoc, rect_eI, rect_eB, rect_eU, rect_eS, rect_eL, rect_nil, rect_cons, bytes_is, bytes_str, splice_rules, cell_rules, fill_rules, bnd_rules, or_false, false_or, not_true_eq_false, not_false_eq_true, rect_eE, dE_rows, dec_t, dec_f]; rfl) (hn : ndO fr o := by exact t19a1) (hq : q := by exact t19a2) : AG W0 M0 dr calm E ops K (⟨d, o, t, p, af, none⟩ :: r) ⟨fr, H, n⟩ := lg_v h hn hq hk
theorem t19a6 {p : Prop} (h : p := by simp only [guard_rules, list_rules, opt_bind, fr_rules, eq_self, Nat.reduceEqDiff, reduceIte, bool_rules]; rfl) : p := h
theorem t19a7 {p : Prop} (h : p := by exact (fun hg => ⟨by first | (simp only [nd_rules, nd_slice, ev_rules, fr_rules, av_rules, eq_self, Nat.reduceEqDiff, reduceIte, and_true, true_and, map_rules, List.map_cons, List.map_nil]; done) | (simp only [nd_rules, nd_slice, ev_rules, fr_rules, av_rules, eq_self, Nat.reduceEqDiff, reduceIte, and_true, true_and, map_rules, List.map_cons, List.map_nil]; exact hg) | (simp_all [nd_rules, nd_slice, ev_rules, fr_rules, av_rules, eq_self, Nat.reduceEqDiff, reduceIte, and_true, true_and, map_rules, List.map_cons, List.map_nil]; done), by (try simp only [b_rules, bif_and, bif_or] at hg); (first | trivial | omega | assumption | (unfold inI64; omega) | (simp; done) | (simp; omega))⟩)) : p := h
theorem t19_14 (hk : AG W0 M0 dr calm E ops K r ⟨putD d (.cond b c) fr, H, n⟩) (hg : guardA ops fr (some gd) = some (some b) := by exact t19a6) (h : aOp E fr H n o = .v q c := by exact t19a0) (hq : b = true → ndO fr o ∧ q := by exact t19a7) : AG W0 M0 dr calm E ops K (⟨d, o, t, p, af, some gd⟩ :: r) ⟨fr, H, n⟩ := lg_gv hg h hq hk
theorem t19_15 (hk : AG W0 M0 dr calm E ops K r ⟨putD d (.cond b c) fr, H, n⟩) (hg : guardA ops fr (some gd) = some (some b) := by exact t19a6) (h : aOp E fr H n o = .v q c := by exact t19a4) (hq : b = true → ndO fr o ∧ q := by exact t19a7) : AG W0 M0 dr calm E ops K (⟨d, o, t, p, af, some gd⟩ :: r) ⟨fr, H, n⟩ := lg_gv hg h hq hk
theorem t19_16 (hk : AG W0 M0 dr calm E ops K r ⟨putD d (.cond b c) fr, H, n⟩) (hg : guardA ops fr (some gd) = some (some b) := by exact t19a6) (h : aOp E fr H n o = .v q c := by exact t19a5) (hq : b = true → ndO fr o ∧ q := by exact t19a7) : AG W0 M0 dr calm E ops K (⟨d, o, t, p, af, some gd⟩ :: r) ⟨fr, H, n⟩ := lg_gv hg h hq hk
theorem t19_17 (hk : AG W0 M0 dr calm E ops K r ⟨putD d c fr, H, n⟩) (h : aOp E fr H n o = .v q c := by simp only [op_rules, ev_rules, fr_rules, av_rules, rs_rules, eq_self, Nat.reduceEqDiff, reduceIte, bw, un_rules, bif_and, bif_or, bool_rules]; rfl) (hn : ndO fr o := by exact t19a1) (hq : q := by exact t19a2) : AG W0 M0 dr calm E ops K (⟨d, o, t, p, af, none⟩ :: r) ⟨fr, H, n⟩ := lg_v h hn hq hk
theorem t19_18 (hk : AG W0 M0 dr calm E ops K r ⟨putD d (.cond b c) fr, H, n⟩) (hg : guardA ops fr (some gd) = some (some b) := by exact t19a6) (h : aOp E fr H n o = .v q c := by exact t19a3) (hq : b = true → ndO fr o ∧ q := by exact t19a7) : AG W0 M0 dr calm E ops K (⟨d, o, t, p, af, some gd⟩ :: r) ⟨fr, H, n⟩ := lg_gv hg h hq hk
theorem t19_19 {p : Prop} (h : p := by (simp only [w1, w2, w3, tys, k_rules, eq_self, Nat.reduceEqDiff, Nat.reduceLeDiff, Nat.reduceAdd, Nat.reduceSub, Nat.reduceMul, Int.toNat_natCast, Int.reduceToNat, Int.reduceNeg, List.mem_cons, List.not_mem_nil, or_false, false_or, not_true_eq_false, not_false_eq_true, bif_and, bif_or, reduceIte, true_and, and_true, and_assoc, true_implies, forall_const, implies_true, Bool.true_eq_false, Bool.false_eq_true, false_implies, rows_len, rows_get, rows_drop, rows_take, rows_app, rows_nil, rect_nil, rect_eI, rect_eB, rect_eU, rect_eS, rect_eL, rect_eE, dE_rows, dec_t, dec_f, w4, Try.results4, reduceCtorEq, false_or, or_true, true_or]) <;> (try simp only [w1, w2, w3, tys, k_rules, eq_self, Nat.reduceEqDiff, Nat.reduceLeDiff, Nat.reduceAdd, Nat.reduceSub, Nat.reduceMul, Int.toNat_natCast, Int.reduceToNat, Int.reduceNeg, List.mem_cons, List.not_mem_nil, or_false, false_or, not_true_eq_false, not_false_eq_true, bif_and, bif_or, reduceIte, true_and, and_true, and_assoc, true_implies, forall_const, implies_true, Bool.true_eq_false, Bool.false_eq_true, false_implies, rows_len, rows_get, rows_drop, rows_take, rows_app, rows_nil, rect_nil, rect_eI, rect_eB, rect_eU, rect_eS, rect_eL, rect_eE, dE_rows, dec_t, dec_f, w4, Try.results4, reduceCtorEq, false_or, or_true, true_or]) <;> (repeat' apply And.intro) <;> (first | rfl | exact Or.inl rfl | exact Or.inr rfl | trivial | exact Nat.le_refl _ | omega | (simp; done) | (simp; omega))) : p := h
theorem t19_20 (hk : AG W0 M0 dr calm E ops K r ⟨putD d c fr, H, n⟩) (h : aOp E fr H n o = .v q c := by simp only [op_rules, ev_rules, fr_rules, av_rules, rs_rules, eq_self, Nat.reduceEqDiff, reduceIte, bw, op_rules2, aExtract, list_rules, rect_eE, dE_rows, dec_t, dec_f]; rfl) (hn : ndO fr o := by exact t19a1) (hq : q := by exact t19a2) : AG W0 M0 dr calm E ops K (⟨d, o, t, p, af, none⟩ :: r) ⟨fr, H, n⟩ := lg_v h hn hq hk
theorem t19_21 (hk : AG W0 M0 dr calm E ops K r ⟨putD d c fr, H', n'⟩) (h : aOp E fr H n o = .h q c H' n' := by simp only [call_rule (E := (E_lawPlan.at_ 58)) (f := 10) (sp := Spec.pure runG) rfl, op_rules, ev_rules, fr_rules, av_rules, rs_rules, eq_self, Nat.reduceEqDiff, reduceIte, bw, callS, rd_rules, pure_rules, runG, sc_rules, heap_rules, list_rules, opt_rules, map_rules, rows_get, rows_len, rows_drop, rows_take, rows_app, rows_nil, rows_set, Int.toNat_natCast, Int.reduceToNat, Nat.reduceAdd, Nat.reduceMul, Nat.reduceSub, Nat.reduceLeDiff, Nat.zero_add, Nat.add_zero, true_and, and_true, and_assoc, rect_eI, rect_eB, rect_eU, rect_eS, rect_eL, rect_nil, rect_cons, bytes_is, bytes_str, splice_rules, cell_rules, fill_rules, bnd_rules, or_false, false_or, not_true_eq_false, not_false_eq_true, List.mem_cons, List.not_mem_nil, dI_rows, dB_rows, dU_rows, rect_eE, dE_rows, dec_t, dec_f, hr]; rfl) (hn : ndO fr o := by exact t19a1) (hq : q := by exact t19a2) (hl : (dr && growB calm d o) = true → HLe H H' := by exact (fun h => Bool.noConfusion (show false = true from h))) : AG W0 M0 dr calm E ops K (⟨d, o, t, p, af, none⟩ :: r) ⟨fr, H, n⟩ := lg_h h hn hq hl hk
theorem t19_22 (hk : AG W0 M0 dr calm E ops K r ⟨putD d c fr, H', n'⟩) (h : aOp E fr H n o = .h q c H' n' := by simp only [op_rules, ev_rules, fr_rules, av_rules, rs_rules, eq_self, Nat.reduceEqDiff, reduceIte, bw, aAlloc, env_rules, tys, g_lawPlan, tiAgg, list_rules, opt_rules, map_rules, rows_get, rows_len, rows_drop, rows_take, rows_app, rows_nil, rows_set, Int.toNat_natCast, Int.reduceToNat, Nat.reduceAdd, Nat.reduceMul, Nat.reduceSub, Nat.reduceLeDiff, Nat.zero_add, Nat.add_zero, true_and, and_true, and_assoc, rect_eI, rect_eB, rect_eU, rect_eS, rect_eL, rect_nil, rect_cons, bytes_is, bytes_str, splice_rules, cell_rules, fill_rules, bnd_rules, or_false, false_or, not_true_eq_false, not_false_eq_true, rect_eE, dE_rows, dec_t, dec_f, hr]; rfl) (hn : ndO fr o := by exact t19a1) (hq : q := by exact t19a2) (hl : (dr && growB calm d o) = true → HLe H H' := by exact (fun h => Bool.noConfusion (show false = true from h))) : AG W0 M0 dr calm E ops K (⟨d, o, t, p, af, none⟩ :: r) ⟨fr, H, n⟩ := lg_h h hn hq hl hk
theorem t19_23 (hk : AG W0 M0 dr calm E ops K r ⟨putD d c fr, H', n'⟩) (h : aOp E fr H n o = .h q c H' n' := by simp only [op_rules, ev_rules, fr_rules, av_rules, rs_rules, eq_self, Nat.reduceEqDiff, reduceIte, bw, aStore, env_rules, tys, g_lawPlan, tiAgg, list_rules, opt_rules, map_rules, rows_get, rows_len, rows_drop, rows_take, rows_app, rows_nil, rows_set, Int.toNat_natCast, Int.reduceToNat, Nat.reduceAdd, Nat.reduceMul, Nat.reduceSub, Nat.reduceLeDiff, Nat.zero_add, Nat.add_zero, true_and, and_true, and_assoc, rect_eI, rect_eB, rect_eU, rect_eS, rect_eL, rect_nil, rect_cons, bytes_is, bytes_str, splice_rules, cell_rules, fill_rules, bnd_rules, or_false, false_or, not_true_eq_false, not_false_eq_true, rect_eE, dE_rows, dec_t, dec_f, hr]; rfl) (hn : ndO fr o := by exact t19a1) (hq : q := by exact t19a2) (hl : (dr && growB calm d o) = true → HLe H H' := by exact (fun h => Bool.noConfusion (show false = true from h))) : AG W0 M0 dr calm E ops K (⟨d, o, t, p, af, none⟩ :: r) ⟨fr, H, n⟩ := lg_h h hn hq hl hk
theorem t19_24 (hk : AG W0 M0 dr calm E ops K r ⟨putD d c fr, H, n⟩) (h : aOp E fr H n o = .v q c := by simp only [op_rules, ev_rules, fr_rules, av_rules, rs_rules, eq_self, Nat.reduceEqDiff, reduceIte, bw, op_rules2, aFieldAddr, aField, aIndexAddr, aIndex, aPart, env_rules, tys, g_lawPlan, tiAgg, list_rules, opt_rules, map_rules, rows_get, rows_len, rows_drop, rows_take, rows_app, rows_nil, rows_set, Int.toNat_natCast, Int.reduceToNat, Nat.reduceAdd, Nat.reduceMul, Nat.reduceSub, Nat.reduceLeDiff, Nat.zero_add, Nat.add_zero, true_and, and_true, and_assoc, rect_eI, rect_eB, rect_eU, rect_eS, rect_eL, rect_nil, rect_cons, bytes_is, bytes_str, splice_rules, cell_rules, fill_rules, bnd_rules, or_false, false_or, not_true_eq_false, not_false_eq_true, rect_eE, dE_rows, dec_t, dec_f]; rfl) (hn : ndO fr o := by exact t19a1) (hq : q := by exact t19a2) : AG W0 M0 dr calm E ops K (⟨d, o, t, p, af, none⟩ :: r) ⟨fr, H, n⟩ := lg_v h hn hq hk
theorem t19_25 (hk : AG W0 M0 dr calm E ops K r ⟨putD d c fr, H, n⟩) (h : aOp E fr H n o = .v q c := by simp only [op_rules, ev_rules, fr_rules, av_rules, rs_rules, eq_self, Nat.reduceEqDiff, reduceIte, bw, op_rules2, aLoad, loadRow, env_rules, tys, g_lawPlan, tiAgg, list_rules, opt_rules, map_rules, rows_get, rows_len, rows_drop, rows_take, rows_app, rows_nil, rows_set, Int.toNat_natCast, Int.reduceToNat, Nat.reduceAdd, Nat.reduceMul, Nat.reduceSub, Nat.reduceLeDiff, Nat.zero_add, Nat.add_zero, true_and, and_true, and_assoc, rect_eI, rect_eB, rect_eU, rect_eS, rect_eL, rect_nil, rect_cons, bytes_is, bytes_str, splice_rules, cell_rules, fill_rules, bnd_rules, or_false, false_or, not_true_eq_false, not_false_eq_true, rect_eE, dE_rows, dec_t, dec_f]; rfl) (hn : ndO fr o := by exact t19a1) (hq : q := by exact t19a2) : AG W0 M0 dr calm E ops K (⟨d, o, t, p, af, none⟩ :: r) ⟨fr, H, n⟩ := lg_v h hn hq hk
theorem t19_26 (hk : AG W0 M0 dr calm E ops K r ⟨putD d c fr, H, n⟩) (h : aOp E fr H n o = .v q c := by simp only [op_rules, ev_rules, fr_rules, av_rules, rs_rules, eq_self, Nat.reduceEqDiff, reduceIte, bw, env_rules, tys, g_lawPlan, tiAgg, bin_rules, ar_rules, str_rules, eq_rules, bit_rules, Bool.true_and, Bool.and_true, rect_eE, dE_rows, dec_t, dec_f]; rfl) (hn : ndO fr o := by exact t19a1) (hq : q := by exact t19a2) : AG W0 M0 dr calm E ops K (⟨d, o, t, p, af, none⟩ :: r) ⟨fr, H, n⟩ := lg_v h hn hq hk
theorem t19_27 (hk : AG W0 M0 dr calm E ops K r ⟨putD d c fr, H, n⟩) (h : aOp E fr H n o = .v q c := by simp only [op_rules, ev_rules, fr_rules, av_rules, rs_rules, eq_self, Nat.reduceEqDiff, reduceIte, bw, op_rules2, aLen, env_rules, tys, g_lawPlan, tiAgg, list_rules, opt_rules, map_rules, rows_get, rows_len, rows_drop, rows_take, rows_app, rows_nil, rows_set, Int.toNat_natCast, Int.reduceToNat, Nat.reduceAdd, Nat.reduceMul, Nat.reduceSub, Nat.reduceLeDiff, Nat.zero_add, Nat.add_zero, true_and, and_true, and_assoc, rect_eI, rect_eB, rect_eU, rect_eS, rect_eL, rect_nil, rect_cons, bytes_is, bytes_str, splice_rules, cell_rules, fill_rules, bnd_rules, or_false, false_or, not_true_eq_false, not_false_eq_true, rect_eE, dE_rows, dec_t, dec_f]; rfl) (hn : ndO fr o := by exact t19a1) (hq : q := by exact t19a2) : AG W0 M0 dr calm E ops K (⟨d, o, t, p, af, none⟩ :: r) ⟨fr, H, n⟩ := lg_v h hn hq hk
theorem t19_28 {p : Prop} (h : p := by (simp only [w1, w2, w3, tys, k_rules, eq_self, Nat.reduceEqDiff, Nat.reduceLeDiff, Nat.reduceAdd, Nat.reduceSub, Nat.reduceMul, Int.toNat_natCast, Int.reduceToNat, Int.reduceNeg, List.mem_cons, List.not_mem_nil, or_false, false_or, not_true_eq_false, not_false_eq_true, bif_and, bif_or, reduceIte, true_and, and_true, and_assoc, true_implies, forall_const, implies_true, Bool.true_eq_false, Bool.false_eq_true, false_implies, rows_len, rows_get, rows_drop, rows_take, rows_app, rows_nil, rect_nil, rect_eI, rect_eB, rect_eU, rect_eS, rect_eL, rect_eE, dE_rows, dec_t, dec_f, w4, Try.results5, reduceCtorEq, false_or, or_true, true_or]) <;> (try simp only [w1, w2, w3, tys, k_rules, eq_self, Nat.reduceEqDiff, Nat.reduceLeDiff, Nat.reduceAdd, Nat.reduceSub, Nat.reduceMul, Int.toNat_natCast, Int.reduceToNat, Int.reduceNeg, List.mem_cons, List.not_mem_nil, or_false, false_or, not_true_eq_false, not_false_eq_true, bif_and, bif_or, reduceIte, true_and, and_true, and_assoc, true_implies, forall_const, implies_true, Bool.true_eq_false, Bool.false_eq_true, false_implies, rows_len, rows_get, rows_drop, rows_take, rows_app, rows_nil, rect_nil, rect_eI, rect_eB, rect_eU, rect_eS, rect_eL, rect_eE, dE_rows, dec_t, dec_f, w4, Try.results5, reduceCtorEq, false_or, or_true, true_or]) <;> (repeat' apply And.intro) <;> (first | rfl | exact Or.inl rfl | exact Or.inr rfl | trivial | exact Nat.le_refl _ | omega | (simp; done) | (simp; omega))) : p := h
theorem t19a8 {p : Prop} (h : p := by simp only [op_rules, ev_rules, fr_rules, av_rules, rs_rules, eq_self, Nat.reduceEqDiff, reduceIte, bw, op_rules2, aLen, env_rules, tys, g_lawPlan, tiAgg, list_rules, opt_rules, map_rules, rows_get, rows_len, rows_drop, rows_take, rows_app, rows_nil, rows_set, Int.toNat_natCast, Int.reduceToNat, Nat.reduceAdd, Nat.reduceMul, Nat.reduceSub, Nat.reduceLeDiff, Nat.zero_add, Nat.add_zero, true_and, and_true, and_assoc, rect_eI, rect_eB, rect_eU, rect_eS, rect_eL, rect_nil, rect_cons, bytes_is, bytes_str, splice_rules, cell_rules, fill_rules, bnd_rules, or_false, false_or, not_true_eq_false, not_false_eq_true, rect_eE, dE_rows, dec_t, dec_f, hbt]; rfl) : p := h
theorem t19_29 (hk : AG W0 M0 dr calm E ops K r ⟨putD d c fr, H, n⟩) (h : aOp E fr H n o = .v q c := by exact t19a8) (hn : ndO fr o := by exact t19a1) (hq : q := by exact t19a2) : AG W0 M0 dr calm E ops K (⟨d, o, t, p, af, none⟩ :: r) ⟨fr, H, n⟩ := lg_v h hn hq hk
theorem t19a9 {p : Prop} (h : p := by simp only [op_rules, ev_rules, fr_rules, av_rules, rs_rules, eq_self, Nat.reduceEqDiff, reduceIte, bw, env_rules, tys, g_lawPlan, tiAgg, bin_rules, ar_rules, str_rules, eq_rules, bit_rules, Bool.true_and, Bool.and_true, rect_eE, dE_rows, dec_t, dec_f, hbt]; rfl) : p := h
theorem t19a10 {p : Prop} (h : p := by simp only [guard_rules, list_rules, opt_bind, fr_rules, eq_self, Nat.reduceEqDiff, reduceIte, bool_rules, hbt]; rfl) : p := h
theorem t19_30 (hk : AG W0 M0 dr calm E ops K r ⟨putD d (.cond b c) fr, H, n⟩) (hg : guardA ops fr (some gd) = some (some b) := by exact t19a10) (h : aOp E fr H n o = .v q c := by exact t19a0) (hq : b = true → ndO fr o ∧ q := by exact t19a7) : AG W0 M0 dr calm E ops K (⟨d, o, t, p, af, some gd⟩ :: r) ⟨fr, H, n⟩ := lg_gv hg h hq hk
theorem t19_31 (hk : AG W0 M0 dr calm E ops K r ⟨putD d (.cond b c) fr, H, n⟩) (hg : guardA ops fr (some gd) = some (some b) := by exact t19a10) (h : aOp E fr H n o = .v q c := by simp only [op_rules, ev_rules, fr_rules, av_rules, rs_rules, eq_self, Nat.reduceEqDiff, reduceIte, bw, env_rules, tys, g_lawPlan, tiAgg, aConv, ar_rules, list_rules, opt_rules, map_rules, rows_get, rows_len, rows_drop, rows_take, rows_app, rows_nil, rows_set, Int.toNat_natCast, Int.reduceToNat, Nat.reduceAdd, Nat.reduceMul, Nat.reduceSub, Nat.reduceLeDiff, Nat.zero_add, Nat.add_zero, true_and, and_true, and_assoc, rect_eI, rect_eB, rect_eU, rect_eS, rect_eL, rect_nil, rect_cons, bytes_is, bytes_str, splice_rules, cell_rules, fill_rules, bnd_rules, or_false, false_or, not_true_eq_false, not_false_eq_true, rect_eE, dE_rows, dec_t, dec_f, hbt]; rfl) (hq : b = true → ndO fr o ∧ q := by exact t19a7) : AG W0 M0 dr calm E ops K (⟨d, o, t, p, af, some gd⟩ :: r) ⟨fr, H, n⟩ := lg_gv hg h hq hk
theorem t19_32 (hk : AG W0 M0 dr calm E ops K r ⟨putD d (.cond b c) fr, H, n⟩) (hg : guardA ops fr (some gd) = some (some b) := by exact t19a10) (h : aOp E fr H n o = .v q c := by exact t19a8) (hq : b = true → ndO fr o ∧ q := by exact t19a7) : AG W0 M0 dr calm E ops K (⟨d, o, t, p, af, some gd⟩ :: r) ⟨fr, H, n⟩ := lg_gv hg h hq hk
theorem t19_33 (hk : AG W0 M0 dr calm E ops K r ⟨putD d (.cond b c) fr, H, n⟩) (hg : guardA ops fr (some gd) = some (some b) := by exact t19a10) (h : aOp E fr H n o = .v q c := by exact t19a9) (hq : b = true → ndO fr o ∧ q := by exact t19a7) : AG W0 M0 dr calm E ops K (⟨d, o, t, p, af, some gd⟩ :: r) ⟨fr, H, n⟩ := lg_gv hg h hq hk
end
/-- A run, by cases, with the bytes named. -/
theorem run_cases' (l : List UInt8) (es : List Ev) : (∃ c i, c ≠ 0 ∧ runR l es = ([], 0, c, i)) ∨
    (l.length ≤ 4096 ∧ es.length ≤ 200 ∧ ∃ (a tk : Nat) (b : List UInt8) (s : LS), a ≤ tk ∧ tk ≤ (framesOf l).length ∧ s.1 = a ∧ s.2.1 = tk ∧ runL ((framesOf l).length : Nat) (0, 0, [], []) es 0 = .inr s ∧ runR l es = (b, (a : Int), 0, 0) ∧ b = l.take (16 * tk) ∧ b.length = min (16 * tk) l.length ∧ l.take b.length = b) := by
  rcases run_cases l es with ⟨g4, hr⟩ | ⟨g4, g5, hr⟩ | ⟨g4, g5, c, ci, hc, hr, ht⟩ | ⟨g4, g5, a, tk, s, hat, htn, e1, e2, e3, hr, ht⟩
  · exact .inl ⟨_, _, by omega, hr⟩
  · exact .inl ⟨_, _, by omega, hr⟩
  · exact .inl ⟨_, _, hc, hr⟩
  · refine .inr ⟨g4, g5, a, tk, _, s, hat, htn, e1, e2, e3, hr, rfl, by rw [List.length_take], ?_⟩
    rw [List.take_eq_take_iff, List.length_take]; omega
theorem grows_b {l : List UInt8} {t t' : Nat} (h : t' ≤ t) : (l.take (16 * t')).length ≤ (l.take (16 * t)).length ∧ (l.take (16 * t)).take (l.take (16 * t')).length = l.take (16 * t') := by
  refine ⟨by rw [List.length_take, List.length_take]; omega, ?_⟩
  rw [List.take_take, List.take_eq_take_iff, List.length_take]; omega
theorem plan_cases (l : List UInt8) (ls : List Bool) : (4096 < l.length ∧ planR l ls = ([], false, 2, -1)) ∨ (l.length ≤ 4096 ∧ 100 < ls.length ∧ planR l ls = ([], false, 2, -2)) ∨ (l.length ≤ 4096 ∧ ls.length ≤ 100 ∧ planR l ls = ((plan ls ((l.length + 15) / 16) 200).1, (plan ls ((l.length + 15) / 16) 200).2, 0, 0)) := by
  rcases Nat.lt_or_ge 4096 l.length with h | h
  · exact .inl ⟨h, by unfold planR; rw [if_neg (by omega)]⟩
  rcases Nat.lt_or_ge 100 ls.length with h' | h'
  · exact .inr (.inl ⟨h, h', by unfold planR; rw [if_pos h, if_neg (by omega)]⟩)
  · exact .inr (.inr ⟨h, h', by unfold planR; rw [if_pos h, if_pos h', framesOf_len]⟩)

theorem del_cases (l : List UInt8) (ls : List Bool) : (∃ c i, c ≠ 0 ∧ planR l ls = ([], false, c, i)) ∨
    (l.length ≤ 4096 ∧ ∃ (ps : List Ev) (m : Nat) (b : List UInt8), planR l ls = (ps, false, 0, 0) ∧ ps.length ≤ 200 ∧ m ≤ (framesOf l).length ∧ runR l ps = (b, (m : Int), 0, 0) ∧ b.length ≤ l.length ∧ l.take b.length = b) ∨
    (l.length ≤ 4096 ∧ ∃ ps : List Ev, planR l ls = (ps, true, 0, 0) ∧ ps.length ≤ 200 ∧ runR l ps = (l, (((l.length + 15) / 16 : Nat) : Int), 0, 0)) := by
  rcases plan_cases l ls with ⟨g4, hr⟩ | ⟨g4, g5, hr⟩ | ⟨g4, g5, -⟩
  · exact .inl ⟨_, _, by omega, hr⟩
  · exact .inl ⟨_, _, by omega, hr⟩
  · obtain ⟨ps, d, m, hr, hpl, hmn, hrun, hd⟩ := plan_delivers l ls g4 g5
    cases d with
    | false => exact .inr (.inl ⟨g4, ps, m, _, hr, hpl, hmn, hrun, by rw [List.length_take]; omega, by rw [List.take_eq_take_iff, List.length_take]; omega⟩)
    | true => obtain ⟨h1, h2⟩ := hd rfl; rw [h1, h2] at hrun; exact .inr (.inr ⟨g4, ps, hr, hpl, hrun⟩)

theorem dec_t [h : Decidable True] : @decide True h = true := decide_eq_true trivial
theorem dec_f [h : Decidable False] : @decide False h = false := decide_eq_false id

theorem lawPlan_meets : Meets Try.prog 4 (Spec.pure lawBG) := by
 refine meets_fun (E_lawRun.at_ 64) Try.func4 rfl rfl rfl ?_
 intro args p r hg hp
 unfold lawBG at hg
 split at hg
 ·rename_i xs bs
  simp only [Option.some.injEq, Prod.mk.injEq] at hg
  obtain ⟨rfl, rfl⟩ := hg
  obtain ⟨hx, hy, hl, hm⟩ := hp
  generalize dU xs = l at *
  generalize dB bs = lost at *
  subst hx hy
  have hfl := framesOf_len l
  refine ⟨by rfl, ?_⟩
  intro F W0 hnp hmk
  refine vc_seq_k fun N1 h1 => ?_
  refine vc_regG [] hmix (by kernel_rfl) ?_
  try refine lg_mk ?_
  refine t19_0 ?_
  refine lg_nil ?_
  refine h1 _ ?_; clear h1; try clear N1
  refine vc_seq_k fun N2 h2 => ?_
  refine vc_seq_k fun N3 h3 => ?_
  refine vc_regG [] hmix (by kernel_rfl) ?_
  try refine lg_mk ?_
  refine lg_v (by simp only [call_rule (E := (E_lawRun.at_ 64)) (f := 8) (sp := Spec.pure exampleG) rfl, op_rules, ev_rules, fr_rules, av_rules, rs_rules, eq_self, Nat.reduceEqDiff, reduceIte, bw, callS, rd_rules, pure_rules, exampleG, sc_rules, heap_rules, list_rules, opt_rules, map_rules, rows_get, rows_len, rows_drop, rows_take, rows_app, rows_nil, rows_set, Int.toNat_natCast, Int.reduceToNat, Nat.reduceAdd, Nat.reduceMul, Nat.reduceSub, Nat.reduceLeDiff, Nat.zero_add, Nat.add_zero, true_and, and_true, and_assoc, rect_eI, rect_eB, rect_eU, rect_eS, rect_eL, rect_nil, rect_cons, bytes_is, bytes_str, splice_rules, cell_rules, fill_rules, bnd_rules, or_false, false_or, not_true_eq_false, not_false_eq_true, List.mem_cons, List.not_mem_nil, dI_rows, dB_rows, dU_rows, rect_eE, dE_rows, dec_t, dec_f]; rfl) (by exact t19a1) (by exact t19a2) ?_
  refine t19_1 ?_
  refine lg_nil ?_
  refine h3 _ ?_; clear h3; try clear N3
  refine vc_cond_k (by simp only [w1, w3, eq_self, Nat.reduceEqDiff, reduceIte]; rfl) (fun hb4 => ?_) (fun hb4 => ?_)
  ·try simp only [b_rules, bif_and, bif_or] at hb4
   first | omega | exact absurd trivial hb4 | contradiction | (simp_all; done)
  ·try simp only [b_rules, bif_and, bif_or] at hb4
   refine vc_skip ?_
   try simp only [k_rules]
   refine h2 _ ?_; clear h2; try clear N2
   refine vc_seq_k fun N5 h5 => ?_
   rcases plan_cases l lost with ⟨g4, hr⟩ | ⟨g4, g5, hr⟩ | ⟨g4, g5, hr⟩
   ·refine vc_regG [] hmix (by kernel_rfl) ?_
    try refine lg_mk ?_
    refine t19_0 ?_
    refine t19_0 ?_
    refine t19_2 ?_
    refine t19_0 ?_
    refine t19_3 ?_
    refine t19_3 ?_
    refine t19_3 ?_
    refine t19_4 ?_
    refine t19_0 ?_
    refine t19_0 ?_
    refine t19_5 ?_
    refine lg_nil ?_
    refine h5 _ ?_; clear h5; try clear N5
    refine vc_seq_k fun N6 h6 => ?_
    refine vc_regG [] hmix (by kernel_rfl) ?_
    try refine lg_mk ?_
    refine t19_6 ?_
    refine t19_7 ?_
    refine t19_8 ?_
    refine lg_nil ?_
    refine h6 _ ?_; clear h6; try clear N6
    refine vc_seq_k fun N7 h7 => ?_
    refine vc_seq_k fun N8 h8 => ?_
    refine vc_regG [] hmix (by kernel_rfl) ?_
    try refine lg_mk ?_
    refine t19_0 ?_
    refine t19_9 ?_
    refine t19_10 ?_
    refine lg_nil ?_
    refine h8 _ ?_; clear h8; try clear N8
    refine vc_cond_k (by simp only [w1, w3, eq_self, Nat.reduceEqDiff, reduceIte]; rfl) (fun hb9 => ?_) (fun hb9 => ?_)
    ·try simp only [b_rules, bif_and, bif_or] at hb9
     refine vc_regG [] hmix (by kernel_rfl) ?_
     try refine lg_mk ?_
     refine t19_11 ?_
     refine t19_8 ?_
     refine lg_nil ?_
     refine h7 _ ?_; clear h7; try clear N7
     refine vc_seq_k fun N10 h10 => ?_
     refine vc_seq_k fun N11 h11 => ?_
     refine vc_regG [] hmix (by kernel_rfl) ?_
     try refine lg_mk ?_
     refine t19_12 ?_
     refine t19_13 ?_
     refine t19_10 ?_
     refine lg_nil ?_
     refine h11 _ ?_; clear h11; try clear N11
     refine vc_cond_k (by simp only [w1, w3, eq_self, Nat.reduceEqDiff, reduceIte]; rfl) (fun hb12 => ?_) (fun hb12 => ?_)
     ·try simp only [b_rules, bif_and, bif_or] at hb12
      refine vc_seq_k fun N13 h13 => ?_
      refine vc_regG [] hmix (by kernel_rfl) ?_
      try refine lg_mk ?_
      refine t19_13 ?_
      refine t19_13 ?_
      refine t19_10 ?_
      refine t19_0 ?_
      first | (refine lg_g0 ?_ ?_; focus (simp only [guard_rules, list_rules, opt_bind, fr_rules, eq_self, Nat.reduceEqDiff, reduceIte, bool_rules]; done)) | refine t19_14 ?_
      first | (refine lg_g0 ?_ ?_; focus (simp only [guard_rules, list_rules, opt_bind, fr_rules, eq_self, Nat.reduceEqDiff, reduceIte, bool_rules]; done)) | refine t19_15 ?_
      first | (refine lg_g0 ?_ ?_; focus (simp only [guard_rules, list_rules, opt_bind, fr_rules, eq_self, Nat.reduceEqDiff, reduceIte, bool_rules]; done)) | refine t19_16 ?_
      refine t19_17 ?_
      refine t19_0 ?_
      first | (refine lg_g0 ?_ ?_; focus (simp only [guard_rules, list_rules, opt_bind, fr_rules, eq_self, Nat.reduceEqDiff, reduceIte, bool_rules]; done)) | refine t19_14 ?_
      first | (refine lg_g0 ?_ ?_; focus (simp only [guard_rules, list_rules, opt_bind, fr_rules, eq_self, Nat.reduceEqDiff, reduceIte, bool_rules]; done)) | refine t19_18 ?_
      refine t19_17 ?_
      refine t19_0 ?_
      refine lg_nil ?_
      refine h13 _ ?_; clear h13; try clear N13
      refine vc_ret ?_
      try simp only [k_rules]
      exact t19_19
     ·try simp only [b_rules, bif_and, bif_or] at hb12
      first | omega | exact absurd trivial hb12 | contradiction | (simp_all; done)
    ·try simp only [b_rules, bif_and, bif_or] at hb9
     first | omega | exact absurd trivial hb9 | contradiction | (simp_all; done)
   ·refine vc_regG [] hmix (by kernel_rfl) ?_
    try refine lg_mk ?_
    refine t19_0 ?_
    refine t19_0 ?_
    refine t19_2 ?_
    refine t19_0 ?_
    refine t19_3 ?_
    refine t19_3 ?_
    refine t19_3 ?_
    refine t19_4 ?_
    refine t19_0 ?_
    refine t19_0 ?_
    refine t19_5 ?_
    refine lg_nil ?_
    refine h5 _ ?_; clear h5; try clear N5
    refine vc_seq_k fun N14 h14 => ?_
    refine vc_regG [] hmix (by kernel_rfl) ?_
    try refine lg_mk ?_
    refine t19_6 ?_
    refine t19_7 ?_
    refine t19_8 ?_
    refine lg_nil ?_
    refine h14 _ ?_; clear h14; try clear N14
    refine vc_seq_k fun N15 h15 => ?_
    refine vc_seq_k fun N16 h16 => ?_
    refine vc_regG [] hmix (by kernel_rfl) ?_
    try refine lg_mk ?_
    refine t19_0 ?_
    refine t19_9 ?_
    refine t19_10 ?_
    refine lg_nil ?_
    refine h16 _ ?_; clear h16; try clear N16
    refine vc_cond_k (by simp only [w1, w3, eq_self, Nat.reduceEqDiff, reduceIte]; rfl) (fun hb17 => ?_) (fun hb17 => ?_)
    ·try simp only [b_rules, bif_and, bif_or] at hb17
     first | omega | exact absurd trivial hb17 | contradiction | (simp_all; done)
    ·try simp only [b_rules, bif_and, bif_or] at hb17
     refine vc_seq_k fun N18 h18 => ?_
     refine vc_regG [] hmix (by kernel_rfl) ?_
     try refine lg_mk ?_
     refine t19_0 ?_
     refine t19_9 ?_
     refine t19_10 ?_
     refine lg_nil ?_
     refine h18 _ ?_; clear h18; try clear N18
     refine vc_cond_k (by simp only [w1, w3, eq_self, Nat.reduceEqDiff, reduceIte]; rfl) (fun hb19 => ?_) (fun hb19 => ?_)
     ·try simp only [b_rules, bif_and, bif_or] at hb19
      refine vc_regG [] hmix (by kernel_rfl) ?_
      try refine lg_mk ?_
      refine t19_11 ?_
      refine t19_8 ?_
      refine lg_nil ?_
      refine h15 _ ?_; clear h15; try clear N15
      refine vc_seq_k fun N20 h20 => ?_
      refine vc_seq_k fun N21 h21 => ?_
      refine vc_regG [] hmix (by kernel_rfl) ?_
      try refine lg_mk ?_
      refine t19_12 ?_
      refine t19_13 ?_
      refine t19_10 ?_
      refine lg_nil ?_
      refine h21 _ ?_; clear h21; try clear N21
      refine vc_cond_k (by simp only [w1, w3, eq_self, Nat.reduceEqDiff, reduceIte]; rfl) (fun hb22 => ?_) (fun hb22 => ?_)
      ·try simp only [b_rules, bif_and, bif_or] at hb22
       refine vc_seq_k fun N23 h23 => ?_
       refine vc_regG [] hmix (by kernel_rfl) ?_
       try refine lg_mk ?_
       refine t19_13 ?_
       refine t19_13 ?_
       refine t19_10 ?_
       refine t19_0 ?_
       first | (refine lg_g0 ?_ ?_; focus (simp only [guard_rules, list_rules, opt_bind, fr_rules, eq_self, Nat.reduceEqDiff, reduceIte, bool_rules]; done)) | refine t19_14 ?_
       first | (refine lg_g0 ?_ ?_; focus (simp only [guard_rules, list_rules, opt_bind, fr_rules, eq_self, Nat.reduceEqDiff, reduceIte, bool_rules]; done)) | refine t19_15 ?_
       first | (refine lg_g0 ?_ ?_; focus (simp only [guard_rules, list_rules, opt_bind, fr_rules, eq_self, Nat.reduceEqDiff, reduceIte, bool_rules]; done)) | refine t19_16 ?_
       refine t19_17 ?_
       refine t19_0 ?_
       first | (refine lg_g0 ?_ ?_; focus (simp only [guard_rules, list_rules, opt_bind, fr_rules, eq_self, Nat.reduceEqDiff, reduceIte, bool_rules]; done)) | refine t19_14 ?_
       first | (refine lg_g0 ?_ ?_; focus (simp only [guard_rules, list_rules, opt_bind, fr_rules, eq_self, Nat.reduceEqDiff, reduceIte, bool_rules]; done)) | refine t19_18 ?_
       refine t19_17 ?_
       refine t19_0 ?_
       refine lg_nil ?_
       refine h23 _ ?_; clear h23; try clear N23
       refine vc_ret ?_
       try simp only [k_rules]
       exact t19_19
      ·try simp only [b_rules, bif_and, bif_or] at hb22
       first | omega | exact absurd trivial hb22 | contradiction | (simp_all; done)
     ·try simp only [b_rules, bif_and, bif_or] at hb19
      first | omega | exact absurd trivial hb19 | contradiction | (simp_all; done)
   ·have hpl := plan_len lost ((l.length + 15) / 16) 200
    refine vc_regG [] hmix (by kernel_rfl) ?_
    try refine lg_mk ?_
    refine t19_0 ?_
    refine t19_0 ?_
    refine t19_2 ?_
    refine t19_0 ?_
    refine t19_3 ?_
    refine t19_3 ?_
    refine t19_3 ?_
    refine t19_4 ?_
    refine t19_0 ?_
    refine t19_0 ?_
    refine t19_5 ?_
    refine lg_nil ?_
    refine h5 _ ?_; clear h5; try clear N5
    refine vc_seq_k fun N24 h24 => ?_
    refine vc_regG [] hmix (by kernel_rfl) ?_
    try refine lg_mk ?_
    refine t19_6 ?_
    refine t19_7 ?_
    refine t19_8 ?_
    refine lg_nil ?_
    refine h24 _ ?_; clear h24; try clear N24
    refine vc_seq_k fun N25 h25 => ?_
    refine vc_seq_k fun N26 h26 => ?_
    refine vc_regG [] hmix (by kernel_rfl) ?_
    try refine lg_mk ?_
    refine t19_0 ?_
    refine t19_9 ?_
    refine t19_10 ?_
    refine lg_nil ?_
    refine h26 _ ?_; clear h26; try clear N26
    refine vc_cond_k (by simp only [w1, w3, eq_self, Nat.reduceEqDiff, reduceIte]; rfl) (fun hb27 => ?_) (fun hb27 => ?_)
    ·try simp only [b_rules, bif_and, bif_or] at hb27
     first | omega | exact absurd trivial hb27 | contradiction | (simp_all; done)
    ·try simp only [b_rules, bif_and, bif_or] at hb27
     refine vc_seq_k fun N28 h28 => ?_
     refine vc_regG [] hmix (by kernel_rfl) ?_
     try refine lg_mk ?_
     refine t19_0 ?_
     refine t19_9 ?_
     refine t19_10 ?_
     refine lg_nil ?_
     refine h28 _ ?_; clear h28; try clear N28
     refine vc_cond_k (by simp only [w1, w3, eq_self, Nat.reduceEqDiff, reduceIte]; rfl) (fun hb29 => ?_) (fun hb29 => ?_)
     ·try simp only [b_rules, bif_and, bif_or] at hb29
      first | omega | exact absurd trivial hb29 | contradiction | (simp_all; done)
     ·try simp only [b_rules, bif_and, bif_or] at hb29
      refine vc_skip ?_
      try simp only [k_rules]
      refine h25 _ ?_; clear h25; try clear N25
      refine vc_seq_k fun N30 h30 => ?_
      refine vc_seq_k fun N31 h31 => ?_
      refine vc_regG [] hmix (by kernel_rfl) ?_
      try refine lg_mk ?_
      refine t19_12 ?_
      refine t19_13 ?_
      refine t19_10 ?_
      refine lg_nil ?_
      refine h31 _ ?_; clear h31; try clear N31
      refine vc_cond_k (by simp only [w1, w3, eq_self, Nat.reduceEqDiff, reduceIte]; rfl) (fun hb32 => ?_) (fun hb32 => ?_)
      ·try simp only [b_rules, bif_and, bif_or] at hb32
       first | omega | exact absurd trivial hb32 | contradiction | (simp_all; done)
      ·try simp only [b_rules, bif_and, bif_or] at hb32
       refine vc_skip ?_
       try simp only [k_rules]
       refine h30 _ ?_; clear h30; try clear N30
       refine vc_seq_k fun N33 h33 => ?_
       refine vc_regG [] hmix (by kernel_rfl) ?_
       try refine lg_mk ?_
       refine t19_0 ?_
       refine lg_v (by simp only [call_rule (E := (E_lawRun.at_ 64)) (f := 12) (sp := Spec.pure countG) rfl, op_rules, ev_rules, fr_rules, av_rules, rs_rules, eq_self, Nat.reduceEqDiff, reduceIte, bw, callS, rd_rules, pure_rules, countG, sc_rules, heap_rules, list_rules, opt_rules, map_rules, rows_get, rows_len, rows_drop, rows_take, rows_app, rows_nil, rows_set, Int.toNat_natCast, Int.reduceToNat, Nat.reduceAdd, Nat.reduceMul, Nat.reduceSub, Nat.reduceLeDiff, Nat.zero_add, Nat.add_zero, true_and, and_true, and_assoc, rect_eI, rect_eB, rect_eU, rect_eS, rect_eL, rect_nil, rect_cons, bytes_is, bytes_str, splice_rules, cell_rules, fill_rules, bnd_rules, or_false, false_or, not_true_eq_false, not_false_eq_true, List.mem_cons, List.not_mem_nil, dI_rows, dB_rows, dU_rows, rect_eE, dE_rows, dec_t, dec_f]; rfl) (by exact t19a1) (by exact t19a2) ?_
       refine t19_0 ?_
       refine lg_h (by simp only [call_rule (E := (E_lawRun.at_ 64)) (f := 16) (sp := Spec.pure planOfG) rfl, op_rules, ev_rules, fr_rules, av_rules, rs_rules, eq_self, Nat.reduceEqDiff, reduceIte, bw, callS, rd_rules, pure_rules, planOfG, sc_rules, heap_rules, list_rules, opt_rules, map_rules, rows_get, rows_len, rows_drop, rows_take, rows_app, rows_nil, rows_set, Int.toNat_natCast, Int.reduceToNat, Nat.reduceAdd, Nat.reduceMul, Nat.reduceSub, Nat.reduceLeDiff, Nat.zero_add, Nat.add_zero, true_and, and_true, and_assoc, rect_eI, rect_eB, rect_eU, rect_eS, rect_eL, rect_nil, rect_cons, bytes_is, bytes_str, splice_rules, cell_rules, fill_rules, bnd_rules, or_false, false_or, not_true_eq_false, not_false_eq_true, List.mem_cons, List.not_mem_nil, dI_rows, dB_rows, dU_rows, rect_eE, dE_rows, dec_t, dec_f]; rfl) (by exact t19a1) (by exact t19a2) (fun h => Bool.noConfusion (show false = true from h)) ?_
       refine t19_0 ?_
       refine t19_20 ?_
       refine t19_20 ?_
       refine t19_0 ?_
       refine t19_0 ?_
       refine lg_nil ?_
       refine h33 _ ?_; clear h33; try clear N33
       refine vc_seq_k fun N34 h34 => ?_
       refine vc_regG [] hmix (by kernel_rfl) ?_
       try refine lg_mk ?_
       refine t19_12 ?_
       refine t19_13 ?_
       refine t19_10 ?_
       refine t19_0 ?_
       first | (refine lg_g0 ?_ ?_; focus (simp only [guard_rules, list_rules, opt_bind, fr_rules, eq_self, Nat.reduceEqDiff, reduceIte, bool_rules]; done)) | refine t19_14 ?_
       first | (refine lg_g0 ?_ ?_; focus (simp only [guard_rules, list_rules, opt_bind, fr_rules, eq_self, Nat.reduceEqDiff, reduceIte, bool_rules]; done)) | refine t19_14 ?_
       first | (refine lg_g0 ?_ ?_; focus (simp only [guard_rules, list_rules, opt_bind, fr_rules, eq_self, Nat.reduceEqDiff, reduceIte, bool_rules]; done)) | refine t19_16 ?_
       refine t19_17 ?_
       refine t19_0 ?_
       first | (refine lg_g0 ?_ ?_; focus (simp only [guard_rules, list_rules, opt_bind, fr_rules, eq_self, Nat.reduceEqDiff, reduceIte, bool_rules]; done)) | refine t19_14 ?_
       first | (refine lg_g0 ?_ ?_; focus (simp only [guard_rules, list_rules, opt_bind, fr_rules, eq_self, Nat.reduceEqDiff, reduceIte, bool_rules]; done)) | refine t19_14 ?_
       first | (refine lg_g0 ?_ ?_; focus (simp only [guard_rules, list_rules, opt_bind, fr_rules, eq_self, Nat.reduceEqDiff, reduceIte, bool_rules]; done)) | refine lg_gv (by exact t19a6) (by simp only [call_rule (E := (E_lawRun.at_ 64)) (f := 17) (sp := Spec.pure eventsG) rfl, op_rules, ev_rules, fr_rules, av_rules, rs_rules, eq_self, Nat.reduceEqDiff, reduceIte, bw, callS, rd_rules, pure_rules, eventsG, sc_rules, heap_rules, list_rules, opt_rules, map_rules, rows_get, rows_len, rows_drop, rows_take, rows_app, rows_nil, rows_set, Int.toNat_natCast, Int.reduceToNat, Nat.reduceAdd, Nat.reduceMul, Nat.reduceSub, Nat.reduceLeDiff, Nat.zero_add, Nat.add_zero, true_and, and_true, and_assoc, rect_eI, rect_eB, rect_eU, rect_eS, rect_eL, rect_nil, rect_cons, bytes_is, bytes_str, splice_rules, cell_rules, fill_rules, bnd_rules, or_false, false_or, not_true_eq_false, not_false_eq_true, List.mem_cons, List.not_mem_nil, dI_rows, dB_rows, dU_rows, rect_eE, dE_rows, dec_t, dec_f]; rfl) (by exact t19a7) ?_
       refine t19_17 ?_
       refine t19_0 ?_
       refine lg_nil ?_
       refine h34 _ ?_; clear h34; try clear N34
       refine vc_ret ?_
       try simp only [k_rules]
       exact t19_19
 ·cases hg

def E_lawPlan : Env Try.prog := E_lawRun.add 4 (Spec.pure lawBG) lawPlan_meets (by kernel_rfl)

theorem g_lawPlan : (E_lawPlan.X = T) ∧ (E_lawPlan.Γ 11 = some (Spec.pure faultG)) ∧ (E_lawPlan.Γ 18 = some (Spec.pure inG)) ∧ (E_lawPlan.Γ 16 = some (Spec.pure planOfG)) ∧ (E_lawPlan.Γ 20 = some (Spec.pure (cloneG 1 1))) ∧ (E_lawPlan.Γ 27 = some (Spec.gen (deleteG 3))) ∧ (E_lawPlan.Γ 25 = some (Spec.gen pickG)) ∧ (E_lawPlan.Γ 21 = some (Spec.gen stepG)) ∧ (E_lawPlan.Γ 19 = some (Spec.pure (chunkG 24))) ∧ (E_lawPlan.Γ 9 = some (Spec.pure framesG)) ∧ (E_lawPlan.Γ 12 = some (Spec.pure countG)) ∧ (E_lawPlan.Γ 13 = some (Spec.pure frameOfG)) ∧ (E_lawPlan.Γ 23 = some (Spec.fresh withoutG)) ∧ (E_lawPlan.Γ 26 = some (Spec.fresh growG)) ∧ (E_lawPlan.Γ 22 = some (Spec.pure concatG)) ∧ (E_lawPlan.Γ 10 = some (Spec.pure runG)) ∧ (E_lawPlan.Γ 14 = some (Spec.pure toG)) ∧ (E_lawPlan.Γ 17 = some (Spec.pure eventsG)) ∧ (E_lawPlan.Γ 15 = some (Spec.pure planG)) ∧ (E_lawPlan.Γ 8 = some (Spec.pure exampleG)) ∧ (E_lawPlan.Γ 3 = some (Spec.pure lawEG)) ∧ (E_lawPlan.Γ 4 = some (Spec.pure lawBG)) := ⟨rfl, rfl, rfl, rfl, rfl, rfl, rfl, rfl, rfl, rfl, rfl, rfl, rfl, rfl, rfl, rfl, rfl, rfl, rfl, rfl, rfl, rfl⟩

theorem lawPrefix_meets : Meets Try.prog 5 (Spec.pure lawEG) := by
 refine meets_fun (E_lawPlan.at_ 58) Try.func5 rfl rfl rfl ?_
 intro args p r hg hp
 unfold lawEG at hg
 split at hg
 ·rename_i xs es
  simp only [Option.some.injEq, Prod.mk.injEq] at hg
  obtain ⟨rfl, rfl⟩ := hg
  obtain ⟨hx, hy, hl, hm⟩ := hp
  generalize dU xs = l at *
  generalize dE es = es at *
  subst hx hy
  have hfl := framesOf_len l
  refine ⟨by rfl, ?_⟩
  intro F W0 hnp hmk
  refine vc_seq_k fun N1 h1 => ?_
  refine vc_regG [] hmix (by kernel_rfl) ?_
  try refine lg_mk ?_
  refine t19_0 ?_
  refine lg_nil ?_
  refine h1 _ ?_; clear h1; try clear N1
  refine vc_seq_k fun N2 h2 => ?_
  refine vc_seq_k fun N3 h3 => ?_
  refine vc_regG [] hmix (by kernel_rfl) ?_
  try refine lg_mk ?_
  refine lg_v (by simp only [call_rule (E := (E_lawPlan.at_ 58)) (f := 8) (sp := Spec.pure exampleG) rfl, op_rules, ev_rules, fr_rules, av_rules, rs_rules, eq_self, Nat.reduceEqDiff, reduceIte, bw, callS, rd_rules, pure_rules, exampleG, sc_rules, heap_rules, list_rules, opt_rules, map_rules, rows_get, rows_len, rows_drop, rows_take, rows_app, rows_nil, rows_set, Int.toNat_natCast, Int.reduceToNat, Nat.reduceAdd, Nat.reduceMul, Nat.reduceSub, Nat.reduceLeDiff, Nat.zero_add, Nat.add_zero, true_and, and_true, and_assoc, rect_eI, rect_eB, rect_eU, rect_eS, rect_eL, rect_nil, rect_cons, bytes_is, bytes_str, splice_rules, cell_rules, fill_rules, bnd_rules, or_false, false_or, not_true_eq_false, not_false_eq_true, List.mem_cons, List.not_mem_nil, dI_rows, dB_rows, dU_rows, rect_eE, dE_rows, dec_t, dec_f]; rfl) (by exact t19a1) (by exact t19a2) ?_
  refine t19_1 ?_
  refine lg_nil ?_
  refine h3 _ ?_; clear h3; try clear N3
  refine vc_cond_k (by simp only [w1, w3, eq_self, Nat.reduceEqDiff, reduceIte]; rfl) (fun hb4 => ?_) (fun hb4 => ?_)
  ·try simp only [b_rules, bif_and, bif_or] at hb4
   first | omega | exact absurd trivial hb4 | contradiction | (simp_all; done)
  ·try simp only [b_rules, bif_and, bif_or] at hb4
   refine vc_skip ?_
   try simp only [k_rules]
   refine h2 _ ?_; clear h2; try clear N2
   refine vc_seq_k fun N5 h5 => ?_
   rcases run_cases' l es with ⟨c, ci, hc, hr⟩ | ⟨g4, g5, a, tk, b, s, hat, htn, e1, e2, e3, hr, hbe, hbl, hbt⟩
   ·refine vc_regG [] hmix (by kernel_rfl) ?_
    try refine lg_mk ?_
    refine t19_0 ?_
    refine t19_0 ?_
    refine t19_21 ?_
    refine t19_0 ?_
    refine t19_3 ?_
    refine t19_3 ?_
    refine t19_3 ?_
    refine t19_22 ?_
    refine t19_0 ?_
    refine t19_0 ?_
    refine t19_23 ?_
    refine lg_nil ?_
    refine h5 _ ?_; clear h5; try clear N5
    refine vc_seq_k fun N6 h6 => ?_
    refine vc_seq_k fun N7 h7 => ?_
    refine vc_regG [] hmix (by kernel_rfl) ?_
    try refine lg_mk ?_
    refine t19_24 ?_
    refine t19_25 ?_
    refine t19_26 ?_
    refine lg_nil ?_
    refine h7 _ ?_; clear h7; try clear N7
    refine vc_cond_k (by simp only [w1, w3, eq_self, Nat.reduceEqDiff, reduceIte]; rfl) (fun hb8 => ?_) (fun hb8 => ?_)
    ·try simp only [b_rules, bif_and, bif_or] at hb8
     refine vc_seq_k fun N9 h9 => ?_
     refine vc_regG [] hmix (by kernel_rfl) ?_
     try refine lg_mk ?_
     refine t19_0 ?_
     refine t19_27 ?_
     refine t19_0 ?_
     refine t19_26 ?_
     refine t19_26 ?_
     refine t19_0 ?_
     refine lg_nil ?_
     refine h9 _ ?_; clear h9; try clear N9
     refine vc_ret ?_
     try simp only [k_rules]
     exact t19_28
    ·try simp only [b_rules, bif_and, bif_or] at hb8
     first | omega | exact absurd trivial hb8 | contradiction | (simp_all; done)
   ·refine vc_regG [] hmix (by kernel_rfl) ?_
    try refine lg_mk ?_
    refine t19_0 ?_
    refine t19_0 ?_
    refine t19_21 ?_
    refine t19_0 ?_
    refine t19_3 ?_
    refine t19_3 ?_
    refine t19_3 ?_
    refine t19_22 ?_
    refine t19_0 ?_
    refine t19_0 ?_
    refine t19_23 ?_
    refine lg_nil ?_
    refine h5 _ ?_; clear h5; try clear N5
    refine vc_seq_k fun N10 h10 => ?_
    refine vc_seq_k fun N11 h11 => ?_
    refine vc_regG [] hmix (by kernel_rfl) ?_
    try refine lg_mk ?_
    refine t19_24 ?_
    refine t19_25 ?_
    refine t19_26 ?_
    refine lg_nil ?_
    refine h11 _ ?_; clear h11; try clear N11
    refine vc_cond_k (by simp only [w1, w3, eq_self, Nat.reduceEqDiff, reduceIte]; rfl) (fun hb12 => ?_) (fun hb12 => ?_)
    ·try simp only [b_rules, bif_and, bif_or] at hb12
     first | omega | exact absurd trivial hb12 | contradiction | (simp_all; done)
    ·try simp only [b_rules, bif_and, bif_or] at hb12
     refine vc_skip ?_
     try simp only [k_rules]
     refine h10 _ ?_; clear h10; try clear N10
     refine vc_seq_k fun N13 h13 => ?_
     refine vc_seq_k fun N14 h14 => ?_
     refine vc_regG [] hmix (by kernel_rfl) ?_
     try refine lg_mk ?_
     refine t19_0 ?_
     refine t19_29 ?_
     refine t19_0 ?_
     refine t19_29 ?_
     refine lg_v (by exact t19a9) (by exact t19a1) (by exact t19a2) ?_
     refine t19_0 ?_
     first | (refine lg_g0 ?_ ?_; focus (simp only [guard_rules, list_rules, opt_bind, fr_rules, eq_self, Nat.reduceEqDiff, reduceIte, bool_rules, hbt]; done)) | refine t19_30 ?_
     first | (refine lg_g0 ?_ ?_; focus (simp only [guard_rules, list_rules, opt_bind, fr_rules, eq_self, Nat.reduceEqDiff, reduceIte, bool_rules, hbt]; done)) | refine t19_31 ?_
     first | (refine lg_g0 ?_ ?_; focus (simp only [guard_rules, list_rules, opt_bind, fr_rules, eq_self, Nat.reduceEqDiff, reduceIte, bool_rules, hbt]; done)) | refine t19_30 ?_
     first | (refine lg_g0 ?_ ?_; focus (simp only [guard_rules, list_rules, opt_bind, fr_rules, eq_self, Nat.reduceEqDiff, reduceIte, bool_rules, hbt]; done)) | refine t19_30 ?_
     first | (refine lg_g0 ?_ ?_; focus (simp only [guard_rules, list_rules, opt_bind, fr_rules, eq_self, Nat.reduceEqDiff, reduceIte, bool_rules, hbt]; done)) | refine t19_32 ?_
     first | (refine lg_g0 ?_ ?_; focus (simp only [guard_rules, list_rules, opt_bind, fr_rules, eq_self, Nat.reduceEqDiff, reduceIte, bool_rules, hbt]; done)) | refine lg_gv (by exact t19a10) (by simp only [op_rules, ev_rules, fr_rules, av_rules, rs_rules, eq_self, Nat.reduceEqDiff, reduceIte, bw, op_rules2, aSlice, env_rules, tys, g_lawPlan, tiAgg, list_rules, opt_rules, map_rules, rows_get, rows_len, rows_drop, rows_take, rows_app, rows_nil, rows_set, Int.toNat_natCast, Int.reduceToNat, Nat.reduceAdd, Nat.reduceMul, Nat.reduceSub, Nat.reduceLeDiff, Nat.zero_add, Nat.add_zero, true_and, and_true, and_assoc, rect_eI, rect_eB, rect_eU, rect_eS, rect_eL, rect_nil, rect_cons, bytes_is, bytes_str, splice_rules, cell_rules, fill_rules, bnd_rules, or_false, false_or, not_true_eq_false, not_false_eq_true, rect_eE, dE_rows, dec_t, dec_f, hbt]; rfl) (by exact t19a7) ?_
     first | (refine lg_g0 ?_ ?_; focus (simp only [guard_rules, list_rules, opt_bind, fr_rules, eq_self, Nat.reduceEqDiff, reduceIte, bool_rules, hbt]; done)) | refine t19_31 ?_
     first | (refine lg_g0 ?_ ?_; focus (simp only [guard_rules, list_rules, opt_bind, fr_rules, eq_self, Nat.reduceEqDiff, reduceIte, bool_rules, hbt]; done)) | refine t19_33 ?_
     refine t19_17 ?_
     refine t19_0 ?_
     first | (refine lg_g0 ?_ ?_; focus (simp only [guard_rules, list_rules, opt_bind, fr_rules, eq_self, Nat.reduceEqDiff, reduceIte, bool_rules, hbt]; done)) | refine t19_30 ?_
     first | (refine lg_g0 ?_ ?_; focus (simp only [guard_rules, list_rules, opt_bind, fr_rules, eq_self, Nat.reduceEqDiff, reduceIte, bool_rules, hbt]; done)) | refine t19_33 ?_
     refine t19_17 ?_
     refine t19_0 ?_
     first | (refine lg_g0 ?_ ?_; focus (simp only [guard_rules, list_rules, opt_bind, fr_rules, eq_self, Nat.reduceEqDiff, reduceIte, bool_rules, hbt]; done)) | refine t19_30 ?_
     first | (refine lg_g0 ?_ ?_; focus (simp only [guard_rules, list_rules, opt_bind, fr_rules, eq_self, Nat.reduceEqDiff, reduceIte, bool_rules, hbt]; done)) | refine t19_30 ?_
     first | (refine lg_g0 ?_ ?_; focus (simp only [guard_rules, list_rules, opt_bind, fr_rules, eq_self, Nat.reduceEqDiff, reduceIte, bool_rules, hbt]; done)) | refine t19_32 ?_
     first | (refine lg_g0 ?_ ?_; focus (simp only [guard_rules, list_rules, opt_bind, fr_rules, eq_self, Nat.reduceEqDiff, reduceIte, bool_rules, hbt]; done)) | refine t19_33 ?_
     refine t19_17 ?_
     refine lg_nil ?_
     refine h14 _ ?_; clear h14; try clear N14
     refine vc_cond_k (by simp only [w1, w3, eq_self, Nat.reduceEqDiff, reduceIte]; rfl) (fun hb15 => ?_) (fun hb15 => ?_)
     ·try simp only [b_rules, bif_and, bif_or] at hb15
      (try simp [hbt] at hb15) <;> omega
     ·try simp only [b_rules, bif_and, bif_or] at hb15
      refine vc_skip ?_
      try simp only [k_rules]
      refine h13 _ ?_; clear h13; try clear N13
      refine vc_seq_k fun N16 h16 => ?_
      refine vc_regG [] hmix (by kernel_rfl) ?_
      try refine lg_mk ?_
      refine t19_0 ?_
      refine t19_27 ?_
      refine t19_0 ?_
      refine t19_27 ?_
      refine t19_0 ?_
      refine t19_26 ?_
      refine lg_v (by simp only [op_rules, ev_rules, fr_rules, av_rules, rs_rules, eq_self, Nat.reduceEqDiff, reduceIte, bw, mm_rules, rect_eE, dE_rows, dec_t, dec_f]; rfl) (by exact t19a1) (by exact t19a2) ?_
      refine t19_26 ?_
      refine t19_0 ?_
      refine lg_nil ?_
      refine h16 _ ?_; clear h16; try clear N16
      refine vc_ret ?_
      try simp only [k_rules]
      exact t19_28
 ·cases hg

def E_lawPrefix : Env Try.prog := E_lawPlan.add 5 (Spec.pure lawEG) lawPrefix_meets (by kernel_rfl)

theorem g_lawPrefix : (E_lawPrefix.X = T) ∧ (E_lawPrefix.Γ 11 = some (Spec.pure faultG)) ∧ (E_lawPrefix.Γ 18 = some (Spec.pure inG)) ∧ (E_lawPrefix.Γ 16 = some (Spec.pure planOfG)) ∧ (E_lawPrefix.Γ 20 = some (Spec.pure (cloneG 1 1))) ∧ (E_lawPrefix.Γ 27 = some (Spec.gen (deleteG 3))) ∧ (E_lawPrefix.Γ 25 = some (Spec.gen pickG)) ∧ (E_lawPrefix.Γ 21 = some (Spec.gen stepG)) ∧ (E_lawPrefix.Γ 19 = some (Spec.pure (chunkG 24))) ∧ (E_lawPrefix.Γ 9 = some (Spec.pure framesG)) ∧ (E_lawPrefix.Γ 12 = some (Spec.pure countG)) ∧ (E_lawPrefix.Γ 13 = some (Spec.pure frameOfG)) ∧ (E_lawPrefix.Γ 23 = some (Spec.fresh withoutG)) ∧ (E_lawPrefix.Γ 26 = some (Spec.fresh growG)) ∧ (E_lawPrefix.Γ 22 = some (Spec.pure concatG)) ∧ (E_lawPrefix.Γ 10 = some (Spec.pure runG)) ∧ (E_lawPrefix.Γ 14 = some (Spec.pure toG)) ∧ (E_lawPrefix.Γ 17 = some (Spec.pure eventsG)) ∧ (E_lawPrefix.Γ 15 = some (Spec.pure planG)) ∧ (E_lawPrefix.Γ 8 = some (Spec.pure exampleG)) ∧ (E_lawPrefix.Γ 3 = some (Spec.pure lawEG)) ∧ (E_lawPrefix.Γ 4 = some (Spec.pure lawBG)) ∧ (E_lawPrefix.Γ 5 = some (Spec.pure lawEG)) := ⟨rfl, rfl, rfl, rfl, rfl, rfl, rfl, rfl, rfl, rfl, rfl, rfl, rfl, rfl, rfl, rfl, rfl, rfl, rfl, rfl, rfl, rfl, rfl⟩
end Go.Proofs.Ythklbefnmcoojaa
