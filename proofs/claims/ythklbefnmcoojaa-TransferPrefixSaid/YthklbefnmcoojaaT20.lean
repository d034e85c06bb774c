/- Walks, printed by wip/gen/walk.py. -/
import Derived.Test.YthklbefnmcoojaaT19
set_option linter.all false
set_option maxRecDepth 100000
set_option maxHeartbeats 4000000
namespace Go.Proofs.Ythklbefnmcoojaa
open Go Go.Vc Go.RowKit
section
variable [Far] {P : Program} {E : Env P} {W0 : World} {M0 : Nat → Prop} {dr : Bool} {calm : List FuncId} {ops : Array Oper} {K : St → Prop} {o : Op} {d : Option Tmp} {t : TypeId} {p : String} {af : Array Edge} {r : List Oper} {fr : Nat → AV} {H H' : Heap} {n n' : Nat} {q : Prop} {c : AV} {b : Bool} {gd : Nat × Bool}
theorem t20a0 {p : Prop} (h : p := by simp only [op_rules, ev_rules, fr_rules, av_rules, rs_rules, eq_self, Nat.reduceEqDiff, reduceIte, bw]; rfl) : p := h
theorem t20a1 {p : Prop} (h : p := by simp only [nd_rules, nd_slice, ev_rules, fr_rules, av_rules, eq_self, Nat.reduceEqDiff, reduceIte, and_true, true_and, map_rules, List.map_cons, List.map_nil]) : p := h
theorem t20a2 {p : Prop} (h : p := by (first | trivial | omega | assumption | (unfold inI64; omega) | (simp; done) | (simp; omega))) : p := h
theorem t20_0 (hk : AG W0 M0 dr calm E ops K r ⟨putD d c fr, H, n⟩) (h : aOp E fr H n o = .v q c := by exact t20a0) (hn : ndO fr o := by exact t20a1) (hq : q := by exact t20a2) : AG W0 M0 dr calm E ops K (⟨d, o, t, p, af, none⟩ :: r) ⟨fr, H, n⟩ := lg_v h hn hq hk
theorem t20a3 {p : Prop} (h : p := by simp only [op_rules, ev_rules, fr_rules, av_rules, rs_rules, eq_self, Nat.reduceEqDiff, reduceIte, bw, un_rules, ar_rules, Bool.not_not, rect_eE, dE_rows, dec_t, dec_f]; rfl) : p := h
theorem t20_1 (hk : AG W0 M0 dr calm E ops K r ⟨putD d c fr, H, n⟩) (h : aOp E fr H n o = .v q c := by exact t20a3) (hn : ndO fr o := by exact t20a1) (hq : q := by exact t20a2) : AG W0 M0 dr calm E ops K (⟨d, o, t, p, af, none⟩ :: r) ⟨fr, H, n⟩ := lg_v h hn hq hk
theorem t20_2 (hk : AG W0 M0 dr calm E ops K r ⟨putD d c fr, H', n'⟩) (h : aOp E fr H n o = .h q c H' n' := by simp only [call_rule (E := (E_lawPrefix.at_ 76)) (f := 10) (sp := Spec.pure runG) rfl, op_rules, ev_rules, fr_rules, av_rules, rs_rules, eq_self, Nat.reduceEqDiff, reduceIte, bw, callS, rd_rules, pure_rules, runG, sc_rules, heap_rules, list_rules, opt_rules, map_rules, rows_get, rows_len, rows_drop, rows_take, rows_app, rows_nil, rows_set, Int.toNat_natCast, Int.reduceToNat, Nat.reduceAdd, Nat.reduceMul, Nat.reduceSub, Nat.reduceLeDiff, Nat.zero_add, Nat.add_zero, true_and, and_true, and_assoc, rect_eI, rect_eB, rect_eU, rect_eS, rect_eL, rect_nil, rect_cons, bytes_is, bytes_str, splice_rules, cell_rules, fill_rules, bnd_rules, or_false, false_or, not_true_eq_false, not_false_eq_true, List.mem_cons, List.not_mem_nil, dI_rows, dB_rows, dU_rows, rect_eE, dE_rows, dec_t, dec_f, hr]; rfl) (hn : ndO fr o := by exact t20a1) (hq : q := by exact t20a2) (hl : (dr && growB calm d o) = true → HLe H H' := by exact (fun h => Bool.noConfusion (show false = true from h))) : AG W0 M0 dr calm E ops K (⟨d, o, t, p, af, none⟩ :: r) ⟨fr, H, n⟩ := lg_h h hn hq hl hk
theorem t20_3 (hk : AG W0 M0 dr calm E ops K r ⟨putD d c fr, H, n⟩) (h : aOp E fr H n o = .v q c := by simp only [op_rules, ev_rules, fr_rules, av_rules, rs_rules, eq_self, Nat.reduceEqDiff, reduceIte, bw, op_rules2, aExtract, list_rules, rect_eE, dE_rows, dec_t, dec_f, hr]; rfl) (hn : ndO fr o := by exact t20a1) (hq : q := by exact t20a2) : AG W0 M0 dr calm E ops K (⟨d, o, t, p, af, none⟩ :: r) ⟨fr, H, n⟩ := lg_v h hn hq hk
theorem t20_4 (hk : AG W0 M0 dr calm E ops K r ⟨putD d c fr, H', n'⟩) (h : aOp E fr H n o = .h q c H' n' := by simp only [op_rules, ev_rules, fr_rules, av_rules, rs_rules, eq_self, Nat.reduceEqDiff, reduceIte, bw, aAlloc, env_rules, tys, g_lawPrefix, tiAgg, list_rules, opt_rules, map_rules, rows_get, rows_len, rows_drop, rows_take, rows_app, rows_nil, rows_set, Int.toNat_natCast, Int.reduceToNat, Nat.reduceAdd, Nat.reduceMul, Nat.reduceSub, Nat.reduceLeDiff, Nat.zero_add, Nat.add_zero, true_and, and_true, and_assoc, rect_eI, rect_eB, rect_eU, rect_eS, rect_eL, rect_nil, rect_cons, bytes_is, bytes_str, splice_rules, cell_rules, fill_rules, bnd_rules, or_false, false_or, not_true_eq_false, not_false_eq_true, rect_eE, dE_rows, dec_t, dec_f, hr]; rfl) (hn : ndO fr o := by exact t20a1) (hq : q := by exact t20a2) (hl : (dr && growB calm d o) = true → HLe H H' := by exact (fun h => Bool.noConfusion (show false = true from h))) : AG W0 M0 dr calm E ops K (⟨d, o, t, p, af, none⟩ :: r) ⟨fr, H, n⟩ := lg_h h hn hq hl hk
theorem t20_5 (hk : AG W0 M0 dr calm E ops K r ⟨putD d c fr, H', n'⟩) (h : aOp E fr H n o = .h q c H' n' := by simp only [op_rules, ev_rules, fr_rules, av_rules, rs_rules, eq_self, Nat.reduceEqDiff, reduceIte, bw, aStore, env_rules, tys, g_lawPrefix, tiAgg, list_rules, opt_rules, map_rules, rows_get, rows_len, rows_drop, rows_take, rows_app, rows_nil, rows_set, Int.toNat_natCast, Int.reduceToNat, Nat.reduceAdd, Nat.reduceMul, Nat.reduceSub, Nat.reduceLeDiff, Nat.zero_add, Nat.add_zero, true_and, and_true, and_assoc, rect_eI, rect_eB, rect_eU, rect_eS, rect_eL, rect_nil, rect_cons, bytes_is, bytes_str, splice_rules, cell_rules, fill_rules, bnd_rules, or_false, false_or, not_true_eq_false, not_false_eq_true, rect_eE, dE_rows, dec_t, dec_f, hr]; rfl) (hn : ndO fr o := by exact t20a1) (hq : q := by exact t20a2) (hl : (dr && growB calm d o) = true → HLe H H' := by exact (fun h => Bool.noConfusion (show false = true from h))) : AG W0 M0 dr calm E ops K (⟨d, o, t, p, af, none⟩ :: r) ⟨fr, H, n⟩ := lg_h h hn hq hl hk
theorem t20_6 (hk : AG W0 M0 dr calm E ops K r ⟨putD d c fr, H, n⟩) (h : aOp E fr H n o = .v q c := by simp only [op_rules, ev_rules, fr_rules, av_rules, rs_rules, eq_self, Nat.reduceEqDiff, reduceIte, bw, op_rules2, aFieldAddr, aField, aIndexAddr, aIndex, aPart, env_rules, tys, g_lawPrefix, tiAgg, list_rules, opt_rules, map_rules, rows_get, rows_len, rows_drop, rows_take, rows_app, rows_nil, rows_set, Int.toNat_natCast, Int.reduceToNat, Nat.reduceAdd, Nat.reduceMul, Nat.reduceSub, Nat.reduceLeDiff, Nat.zero_add, Nat.add_zero, true_and, and_true, and_assoc, rect_eI, rect_eB, rect_eU, rect_eS, rect_eL, rect_nil, rect_cons, bytes_is, bytes_str, splice_rules, cell_rules, fill_rules, bnd_rules, or_false, false_or, not_true_eq_false, not_false_eq_true, rect_eE, dE_rows, dec_t, dec_f]; rfl) (hn : ndO fr o := by exact t20a1) (hq : q := by exact t20a2) : AG W0 M0 dr calm E ops K (⟨d, o, t, p, af, none⟩ :: r) ⟨fr, H, n⟩ := lg_v h hn hq hk
theorem t20_7 (hk : AG W0 M0 dr calm E ops K r ⟨putD d c fr, H, n⟩) (h : aOp E fr H n o = .v q c := by simp only [op_rules, ev_rules, fr_rules, av_rules, rs_rules, eq_self, Nat.reduceEqDiff, reduceIte, bw, op_rules2, aLoad, loadRow, env_rules, tys, g_lawPrefix, tiAgg, list_rules, opt_rules, map_rules, rows_get, rows_len, rows_drop, rows_take, rows_app, rows_nil, rows_set, Int.toNat_natCast, Int.reduceToNat, Nat.reduceAdd, Nat.reduceMul, Nat.reduceSub, Nat.reduceLeDiff, Nat.zero_add, Nat.add_zero, true_and, and_true, and_assoc, rect_eI, rect_eB, rect_eU, rect_eS, rect_eL, rect_nil, rect_cons, bytes_is, bytes_str, splice_rules, cell_rules, fill_rules, bnd_rules, or_false, false_or, not_true_eq_false, not_false_eq_true, rect_eE, dE_rows, dec_t, dec_f]; rfl) (hn : ndO fr o := by exact t20a1) (hq : q := by exact t20a2) : AG W0 M0 dr calm E ops K (⟨d, o, t, p, af, none⟩ :: r) ⟨fr, H, n⟩ := lg_v h hn hq hk
theorem t20a4 {p : Prop} (h : p := by simp only [op_rules, ev_rules, fr_rules, av_rules, rs_rules, eq_self, Nat.reduceEqDiff, reduceIte, bw, env_rules, tys, g_lawPrefix, tiAgg, bin_rules, ar_rules, str_rules, eq_rules, bit_rules, Bool.true_and, Bool.and_true, rect_eE, dE_rows, dec_t, dec_f]; rfl) : p := h
theorem t20_8 (hk : AG W0 M0 dr calm E ops K r ⟨putD d c fr, H, n⟩) (h : aOp E fr H n o = .v q c := by exact t20a4) (hn : ndO fr o := by exact t20a1) (hq : q := by exact t20a2) : AG W0 M0 dr calm E ops K (⟨d, o, t, p, af, none⟩ :: r) ⟨fr, H, n⟩ := lg_v h hn hq hk
theorem t20a5 {p : Prop} (h : p := by simp only [guard_rules, list_rules, opt_bind, fr_rules, eq_self, Nat.reduceEqDiff, reduceIte, bool_rules]; rfl) : p := h
theorem t20a6 {p : Prop} (h : p := by exact (fun hg => ⟨by first | (simp only [nd_rules, nd_slice, ev_rules, fr_rules, av_rules, eq_self, Nat.reduceEqDiff, reduceIte, and_true, true_and, map_rules, List.map_cons, List.map_nil]; done) | (simp only [nd_rules, nd_slice, ev_rules, fr_rules, av_rules, eq_self, Nat.reduceEqDiff, reduceIte, and_true, true_and, map_rules, List.map_cons, List.map_nil]; exact hg) | (simp_all [nd_rules, nd_slice, ev_rules, fr_rules, av_rules, eq_self, Nat.reduceEqDiff, reduceIte, and_true, true_and, map_rules, List.map_cons, List.map_nil]; done), by (try simp only [b_rules, bif_and, bif_or] at hg); (first | trivial | omega | assumption | (unfold inI64; omega) | (simp; done) | (simp; omega))⟩)) : p := h
theorem t20_9 (hk : AG W0 M0 dr calm E ops K r ⟨putD d (.cond b c) fr, H, n⟩) (hg : guardA ops fr (some gd) = some (some b) := by exact t20a5) (h : aOp E fr H n o = .v q c := by exact t20a0) (hq : b = true → ndO fr o ∧ q := by exact t20a6) : AG W0 M0 dr calm E ops K (⟨d, o, t, p, af, some gd⟩ :: r) ⟨fr, H, n⟩ := lg_gv hg h hq hk
theorem t20_10 (hk : AG W0 M0 dr calm E ops K r ⟨putD d (.cond b c) fr, H, n⟩) (hg : guardA ops fr (some gd) = some (some b) := by exact t20a5) (h : aOp E fr H n o = .v q c := by simp only [op_rules, ev_rules, fr_rules, av_rules, rs_rules, eq_self, Nat.reduceEqDiff, reduceIte, bw, op_rules2, aLen, env_rules, tys, g_lawPrefix, tiAgg, list_rules, opt_rules, map_rules, rows_get, rows_len, rows_drop, rows_take, rows_app, rows_nil, rows_set, Int.toNat_natCast, Int.reduceToNat, Nat.reduceAdd, Nat.reduceMul, Nat.reduceSub, Nat.reduceLeDiff, Nat.zero_add, Nat.add_zero, true_and, and_true, and_assoc, rect_eI, rect_eB, rect_eU, rect_eS, rect_eL, rect_nil, rect_cons, bytes_is, bytes_str, splice_rules, cell_rules, fill_rules, bnd_rules, or_false, false_or, not_true_eq_false, not_false_eq_true, rect_eE, dE_rows, dec_t, dec_f]; rfl) (hq : b = true → ndO fr o ∧ q := by exact t20a6) : AG W0 M0 dr calm E ops K (⟨d, o, t, p, af, some gd⟩ :: r) ⟨fr, H, n⟩ := lg_gv hg h hq hk
theorem t20_11 (hk : AG W0 M0 dr calm E ops K r ⟨putD d (.cond b c) fr, H, n⟩) (hg : guardA ops fr (some gd) = some (some b) := by exact t20a5) (h : aOp E fr H n o = .v q c := by simp only [call_rule (E := (E_lawPrefix.at_ 76)) (f := 18) (sp := Spec.pure inG) rfl, op_rules, ev_rules, fr_rules, av_rules, rs_rules, eq_self, Nat.reduceEqDiff, reduceIte, bw, callS, rd_rules, pure_rules, inG, sc_rules, heap_rules, list_rules, opt_rules, map_rules, rows_get, rows_len, rows_drop, rows_take, rows_app, rows_nil, rows_set, Int.toNat_natCast, Int.reduceToNat, Nat.reduceAdd, Nat.reduceMul, Nat.reduceSub, Nat.reduceLeDiff, Nat.zero_add, Nat.add_zero, true_and, and_true, and_assoc, rect_eI, rect_eB, rect_eU, rect_eS, rect_eL, rect_nil, rect_cons, bytes_is, bytes_str, splice_rules, cell_rules, fill_rules, bnd_rules, or_false, false_or, not_true_eq_false, not_false_eq_true, List.mem_cons, List.not_mem_nil, dI_rows, dB_rows, dU_rows, rect_eE, dE_rows, dec_t, dec_f]; rfl) (hq : b = true → ndO fr o ∧ q := by exact t20a6) : AG W0 M0 dr calm E ops K (⟨d, o, t, p, af, some gd⟩ :: r) ⟨fr, H, n⟩ := lg_gv hg h hq hk
theorem t20_12 (hk : AG W0 M0 dr calm E ops K r ⟨putD d (.cond b c) fr, H, n⟩) (hg : guardA ops fr (some gd) = some (some b) := by exact t20a5) (h : aOp E fr H n o = .v q c := by exact t20a3) (hq : b = true → ndO fr o ∧ q := by exact t20a6) : AG W0 M0 dr calm E ops K (⟨d, o, t, p, af, some gd⟩ :: r) ⟨fr, H, n⟩ := lg_gv hg h hq hk
theorem t20a7 {p : Prop} (h : p := by simp only [op_rules, ev_rules, fr_rules, av_rules, rs_rules, eq_self, Nat.reduceEqDiff, reduceIte, bw, un_rules, bif_and, bif_or, bool_rules]; rfl) : p := h
theorem t20_13 (hk : AG W0 M0 dr calm E ops K r ⟨putD d c fr, H, n⟩) (h : aOp E fr H n o = .v q c := by exact t20a7) (hn : ndO fr o := by exact t20a1) (hq : q := by exact t20a2) : AG W0 M0 dr calm E ops K (⟨d, o, t, p, af, none⟩ :: r) ⟨fr, H, n⟩ := lg_v h hn hq hk
theorem t20_14 (hk : AG W0 M0 dr calm E ops K r ⟨putD d (.cond b c) fr, H, n⟩) (hg : guardA ops fr (some gd) = some (some b) := by exact t20a5) (h : aOp E fr H n o = .v q c := by exact t20a4) (hq : b = true → ndO fr o ∧ q := by exact t20a6) : AG W0 M0 dr calm E ops K (⟨d, o, t, p, af, some gd⟩ :: r) ⟨fr, H, n⟩ := lg_gv hg h hq hk
theorem t20_15 {p : Prop} (h : p := by (simp only [w1, w2, w3, tys, k_rules, eq_self, Nat.reduceEqDiff, Nat.reduceLeDiff, Nat.reduceAdd, Nat.reduceSub, Nat.reduceMul, Int.toNat_natCast, Int.reduceToNat, Int.reduceNeg, List.mem_cons, List.not_mem_nil, or_false, false_or, not_true_eq_false, not_false_eq_true, bif_and, bif_or, reduceIte, true_and, and_true, and_assoc, true_implies, forall_const, implies_true, Bool.true_eq_false, Bool.false_eq_true, false_implies, rows_len, rows_get, rows_drop, rows_take, rows_app, rows_nil, rect_nil, rect_eI, rect_eB, rect_eU, rect_eS, rect_eL, rect_eE, dE_rows, dec_t, dec_f, w4, Try.results6, reduceCtorEq, false_or, or_true, true_or]) <;> (try simp only [w1, w2, w3, tys, k_rules, eq_self, Nat.reduceEqDiff, Nat.reduceLeDiff, Nat.reduceAdd, Nat.reduceSub, Nat.reduceMul, Int.toNat_natCast, Int.reduceToNat, Int.reduceNeg, List.mem_cons, List.not_mem_nil, or_false, false_or, not_true_eq_false, not_false_eq_true, bif_and, bif_or, reduceIte, true_and, and_true, and_assoc, true_implies, forall_const, implies_true, Bool.true_eq_false, Bool.false_eq_true, false_implies, rows_len, rows_get, rows_drop, rows_take, rows_app, rows_nil, rect_nil, rect_eI, rect_eB, rect_eU, rect_eS, rect_eL, rect_eE, dE_rows, dec_t, dec_f, w4, Try.results6, reduceCtorEq, false_or, or_true, true_or]) <;> (repeat' apply And.intro) <;> (first | rfl | exact Or.inl rfl | exact Or.inr rfl | trivial | exact Nat.le_refl _ | omega | (simp; done) | (simp; omega))) : p := h
theorem t20_16 (hk : AG W0 M0 dr calm E ops K r ⟨putD d c fr, H, n⟩) (h : aOp E fr H n o = .v q c := by simp only [op_rules, ev_rules, fr_rules, av_rules, rs_rules, eq_self, Nat.reduceEqDiff, reduceIte, bw, op_rules2, aExtract, list_rules, rect_eE, dE_rows, dec_t, dec_f, hr', Nat.sub_zero, List.drop_zero]; rfl) (hn : ndO fr o := by exact t20a1) (hq : q := by exact t20a2) : AG W0 M0 dr calm E ops K (⟨d, o, t, p, af, none⟩ :: r) ⟨fr, H, n⟩ := lg_v h hn hq hk
theorem t20a8 {p : Prop} (h : p := by simp only [op_rules, ev_rules, fr_rules, av_rules, rs_rules, eq_self, Nat.reduceEqDiff, reduceIte, bw, env_rules, tys, g_lawPrefix, tiAgg, bin_rules, ar_rules, str_rules, eq_rules, bit_rules, Bool.true_and, Bool.and_true, rect_eE, dE_rows, dec_t, dec_f, hcb]; rfl) : p := h
theorem t20a9 {p : Prop} (h : p := by simp only [guard_rules, list_rules, opt_bind, fr_rules, eq_self, Nat.reduceEqDiff, reduceIte, bool_rules, hcb]; rfl) : p := h
theorem t20_17 (hk : AG W0 M0 dr calm E ops K r ⟨putD d (.cond b c) fr, H, n⟩) (hg : guardA ops fr (some gd) = some (some b) := by exact t20a9) (h : aOp E fr H n o = .v q c := by exact t20a0) (hq : b = true → ndO fr o ∧ q := by exact t20a6) : AG W0 M0 dr calm E ops K (⟨d, o, t, p, af, some gd⟩ :: r) ⟨fr, H, n⟩ := lg_gv hg h hq hk
theorem t20_18 (hk : AG W0 M0 dr calm E ops K r ⟨putD d (.cond b c) fr, H, n⟩) (hg : guardA ops fr (some gd) = some (some b) := by exact t20a9) (h : aOp E fr H n o = .v q c := by exact t20a8) (hq : b = true → ndO fr o ∧ q := by exact t20a6) : AG W0 M0 dr calm E ops K (⟨d, o, t, p, af, some gd⟩ :: r) ⟨fr, H, n⟩ := lg_gv hg h hq hk
theorem t20_19 (hk : AG W0 M0 dr calm E ops K r ⟨putD d (.cond b c) fr, H, n⟩) (hg : guardA ops fr (some gd) = some (some b) := by exact t20a9) (h : aOp E fr H n o = .v q c := by simp only [op_rules, ev_rules, fr_rules, av_rules, rs_rules, eq_self, Nat.reduceEqDiff, reduceIte, bw, op_rules2, aLen, env_rules, tys, g_lawPrefix, tiAgg, list_rules, opt_rules, map_rules, rows_get, rows_len, rows_drop, rows_take, rows_app, rows_nil, rows_set, Int.toNat_natCast, Int.reduceToNat, Nat.reduceAdd, Nat.reduceMul, Nat.reduceSub, Nat.reduceLeDiff, Nat.zero_add, Nat.add_zero, true_and, and_true, and_assoc, rect_eI, rect_eB, rect_eU, rect_eS, rect_eL, rect_nil, rect_cons, bytes_is, bytes_str, splice_rules, cell_rules, fill_rules, bnd_rules, or_false, false_or, not_true_eq_false, not_false_eq_true, rect_eE, dE_rows, dec_t, dec_f, hcb]; rfl) (hq : b = true → ndO fr o ∧ q := by exact t20a6) : AG W0 M0 dr calm E ops K (⟨d, o, t, p, af, some gd⟩ :: r) ⟨fr, H, n⟩ := lg_gv hg h hq hk
theorem t20_20 (hk : AG W0 M0 dr calm E ops K r ⟨putD d (.cond b c) fr, H, n⟩) (hg : guardA ops fr (some gd) = some (some b) := by exact t20a9) (h : aOp E fr H n o = .v q c := by simp only [op_rules, ev_rules, fr_rules, av_rules, rs_rules, eq_self, Nat.reduceEqDiff, reduceIte, bw, env_rules, tys, g_lawPrefix, tiAgg, aConv, ar_rules, list_rules, opt_rules, map_rules, rows_get, rows_len, rows_drop, rows_take, rows_app, rows_nil, rows_set, Int.toNat_natCast, Int.reduceToNat, Nat.reduceAdd, Nat.reduceMul, Nat.reduceSub, Nat.reduceLeDiff, Nat.zero_add, Nat.add_zero, true_and, and_true, and_assoc, rect_eI, rect_eB, rect_eU, rect_eS, rect_eL, rect_nil, rect_cons, bytes_is, bytes_str, splice_rules, cell_rules, fill_rules, bnd_rules, or_false, false_or, not_true_eq_false, not_false_eq_true, rect_eE, dE_rows, dec_t, dec_f, hcb]; rfl) (hq : b = true → ndO fr o ∧ q := by exact t20a6) : AG W0 M0 dr calm E ops K (⟨d, o, t, p, af, some gd⟩ :: r) ⟨fr, H, n⟩ := lg_gv hg h hq hk
theorem t20_21 (hk : AG W0 M0 dr calm E ops K r ⟨putD d c fr, H', n'⟩) (h : aOp E fr H n o = .h q c H' n' := by simp only [call_rule (E := (E_lawGrows.at_ 72)) (f := 15) (sp := Spec.pure planG) rfl, op_rules, ev_rules, fr_rules, av_rules, rs_rules, eq_self, Nat.reduceEqDiff, reduceIte, bw, callS, rd_rules, pure_rules, planG, sc_rules, heap_rules, list_rules, opt_rules, map_rules, rows_get, rows_len, rows_drop, rows_take, rows_app, rows_nil, rows_set, Int.toNat_natCast, Int.reduceToNat, Nat.reduceAdd, Nat.reduceMul, Nat.reduceSub, Nat.reduceLeDiff, Nat.zero_add, Nat.add_zero, true_and, and_true, and_assoc, rect_eI, rect_eB, rect_eU, rect_eS, rect_eL, rect_nil, rect_cons, bytes_is, bytes_str, splice_rules, cell_rules, fill_rules, bnd_rules, or_false, false_or, not_true_eq_false, not_false_eq_true, List.mem_cons, List.not_mem_nil, dI_rows, dB_rows, dU_rows, rect_eE, dE_rows, dec_t, dec_f, hr]; rfl) (hn : ndO fr o := by exact t20a1) (hq : q := by exact t20a2) (hl : (dr && growB calm d o) = true → HLe H H' := by exact (fun h => Bool.noConfusion (show false = true from h))) : AG W0 M0 dr calm E ops K (⟨d, o, t, p, af, none⟩ :: r) ⟨fr, H, n⟩ := lg_h h hn hq hl hk
theorem t20_22 (hk : AG W0 M0 dr calm E ops K r ⟨putD d c fr, H', n'⟩) (h : aOp E fr H n o = .h q c H' n' := by simp only [op_rules, ev_rules, fr_rules, av_rules, rs_rules, eq_self, Nat.reduceEqDiff, reduceIte, bw, aAlloc, env_rules, tys, g_lawGrows, tiAgg, list_rules, opt_rules, map_rules, rows_get, rows_len, rows_drop, rows_take, rows_app, rows_nil, rows_set, Int.toNat_natCast, Int.reduceToNat, Nat.reduceAdd, Nat.reduceMul, Nat.reduceSub, Nat.reduceLeDiff, Nat.zero_add, Nat.add_zero, true_and, and_true, and_assoc, rect_eI, rect_eB, rect_eU, rect_eS, rect_eL, rect_nil, rect_cons, bytes_is, bytes_str, splice_rules, cell_rules, fill_rules, bnd_rules, or_false, false_or, not_true_eq_false, not_false_eq_true, rect_eE, dE_rows, dec_t, dec_f, hr]; rfl) (hn : ndO fr o := by exact t20a1) (hq : q := by exact t20a2) (hl : (dr && growB calm d o) = true → HLe H H' := by exact (fun h => Bool.noConfusion (show false = true from h))) : AG W0 M0 dr calm E ops K (⟨d, o, t, p, af, none⟩ :: r) ⟨fr, H, n⟩ := lg_h h hn hq hl hk
theorem t20_23 (hk : AG W0 M0 dr calm E ops K r ⟨putD d c fr, H', n'⟩) (h : aOp E fr H n o = .h q c H' n' := by simp only [op_rules, ev_rules, fr_rules, av_rules, rs_rules, eq_self, Nat.reduceEqDiff, reduceIte, bw, aStore, env_rules, tys, g_lawGrows, tiAgg, list_rules, opt_rules, map_rules, rows_get, rows_len, rows_drop, rows_take, rows_app, rows_nil, rows_set, Int.toNat_natCast, Int.reduceToNat, Nat.reduceAdd, Nat.reduceMul, Nat.reduceSub, Nat.reduceLeDiff, Nat.zero_add, Nat.add_zero, true_and, and_true, and_assoc, rect_eI, rect_eB, rect_eU, rect_eS, rect_eL, rect_nil, rect_cons, bytes_is, bytes_str, splice_rules, cell_rules, fill_rules, bnd_rules, or_false, false_or, not_true_eq_false, not_false_eq_true, rect_eE, dE_rows, dec_t, dec_f, hr]; rfl) (hn : ndO fr o := by exact t20a1) (hq : q := by exact t20a2) (hl : (dr && growB calm d o) = true → HLe H H' := by exact (fun h => Bool.noConfusion (show false = true from h))) : AG W0 M0 dr calm E ops K (⟨d, o, t, p, af, none⟩ :: r) ⟨fr, H, n⟩ := lg_h h hn hq hl hk
theorem t20_24 (hk : AG W0 M0 dr calm E ops K r ⟨putD d c fr, H, n⟩) (h : aOp E fr H n o = .v q c := by simp only [op_rules, ev_rules, fr_rules, av_rules, rs_rules, eq_self, Nat.reduceEqDiff, reduceIte, bw, op_rules2, aFieldAddr, aField, aIndexAddr, aIndex, aPart, env_rules, tys, g_lawGrows, tiAgg, list_rules, opt_rules, map_rules, rows_get, rows_len, rows_drop, rows_take, rows_app, rows_nil, rows_set, Int.toNat_natCast, Int.reduceToNat, Nat.reduceAdd, Nat.reduceMul, Nat.reduceSub, Nat.reduceLeDiff, Nat.zero_add, Nat.add_zero, true_and, and_true, and_assoc, rect_eI, rect_eB, rect_eU, rect_eS, rect_eL, rect_nil, rect_cons, bytes_is, bytes_str, splice_rules, cell_rules, fill_rules, bnd_rules, or_false, false_or, not_true_eq_false, not_false_eq_true, rect_eE, dE_rows, dec_t, dec_f]; rfl) (hn : ndO fr o := by exact t20a1) (hq : q := by exact t20a2) : AG W0 M0 dr calm E ops K (⟨d, o, t, p, af, none⟩ :: r) ⟨fr, H, n⟩ := lg_v h hn hq hk
theorem t20_25 (hk : AG W0 M0 dr calm E ops K r ⟨putD d c fr, H, n⟩) (h : aOp E fr H n o = .v q c := by simp only [op_rules, ev_rules, fr_rules, av_rules, rs_rules, eq_self, Nat.reduceEqDiff, reduceIte, bw, op_rules2, aLoad, loadRow, env_rules, tys, g_lawGrows, tiAgg, list_rules, opt_rules, map_rules, rows_get, rows_len, rows_drop, rows_take, rows_app, rows_nil, rows_set, Int.toNat_natCast, Int.reduceToNat, Nat.reduceAdd, Nat.reduceMul, Nat.reduceSub, Nat.reduceLeDiff, Nat.zero_add, Nat.add_zero, true_and, and_true, and_assoc, rect_eI, rect_eB, rect_eU, rect_eS, rect_eL, rect_nil, rect_cons, bytes_is, bytes_str, splice_rules, cell_rules, fill_rules, bnd_rules, or_false, false_or, not_true_eq_false, not_false_eq_true, rect_eE, dE_rows, dec_t, dec_f]; rfl) (hn : ndO fr o := by exact t20a1) (hq : q := by exact t20a2) : AG W0 M0 dr calm E ops K (⟨d, o, t, p, af, none⟩ :: r) ⟨fr, H, n⟩ := lg_v h hn hq hk
theorem t20a10 {p : Prop} (h : p := by simp only [op_rules, ev_rules, fr_rules, av_rules, rs_rules, eq_self, Nat.reduceEqDiff, reduceIte, bw, env_rules, tys, g_lawGrows, tiAgg, bin_rules, ar_rules, str_rules, eq_rules, bit_rules, Bool.true_and, Bool.and_true, rect_eE, dE_rows, dec_t, dec_f]; rfl) : p := h
theorem t20_26 (hk : AG W0 M0 dr calm E ops K r ⟨putD d c fr, H, n⟩) (h : aOp E fr H n o = .v q c := by exact t20a10) (hn : ndO fr o := by exact t20a1) (hq : q := by exact t20a2) : AG W0 M0 dr calm E ops K (⟨d, o, t, p, af, none⟩ :: r) ⟨fr, H, n⟩ := lg_v h hn hq hk
theorem t20a11 {p : Prop} (h : p := by simp only [op_rules, ev_rules, fr_rules, av_rules, rs_rules, eq_self, Nat.reduceEqDiff, reduceIte, bw, op_rules2, aLen, env_rules, tys, g_lawGrows, tiAgg, list_rules, opt_rules, map_rules, rows_get, rows_len, rows_drop, rows_take, rows_app, rows_nil, rows_set, Int.toNat_natCast, Int.reduceToNat, Nat.reduceAdd, Nat.reduceMul, Nat.reduceSub, Nat.reduceLeDiff, Nat.zero_add, Nat.add_zero, true_and, and_true, and_assoc, rect_eI, rect_eB, rect_eU, rect_eS, rect_eL, rect_nil, rect_cons, bytes_is, bytes_str, splice_rules, cell_rules, fill_rules, bnd_rules, or_false, false_or, not_true_eq_false, not_false_eq_true, rect_eE, dE_rows, dec_t, dec_f]; rfl) : p := h
theorem t20_27 {p : Prop} (h : p := by (simp only [w1, w2, w3, tys, k_rules, eq_self, Nat.reduceEqDiff, Nat.reduceLeDiff, Nat.reduceAdd, Nat.reduceSub, Nat.reduceMul, Int.toNat_natCast, Int.reduceToNat, Int.reduceNeg, List.mem_cons, List.not_mem_nil, or_false, false_or, not_true_eq_false, not_false_eq_true, bif_and, bif_or, reduceIte, true_and, and_true, and_assoc, true_implies, forall_const, implies_true, Bool.true_eq_false, Bool.false_eq_true, false_implies, rows_len, rows_get, rows_drop, rows_take, rows_app, rows_nil, rect_nil, rect_eI, rect_eB, rect_eU, rect_eS, rect_eL, rect_eE, dE_rows, dec_t, dec_f, w4, Try.results7, reduceCtorEq, false_or, or_true, true_or]) <;> (try simp only [w1, w2, w3, tys, k_rules, eq_self, Nat.reduceEqDiff, Nat.reduceLeDiff, Nat.reduceAdd, Nat.reduceSub, Nat.reduceMul, Int.toNat_natCast, Int.reduceToNat, Int.reduceNeg, List.mem_cons, List.not_mem_nil, or_false, false_or, not_true_eq_false, not_false_eq_true, bif_and, bif_or, reduceIte, true_and, and_true, and_assoc, true_implies, forall_const, implies_true, Bool.true_eq_false, Bool.false_eq_true, false_implies, rows_len, rows_get, rows_drop, rows_take, rows_app, rows_nil, rect_nil, rect_eI, rect_eB, rect_eU, rect_eS, rect_eL, rect_eE, dE_rows, dec_t, dec_f, w4, Try.results7, reduceCtorEq, false_or, or_true, true_or]) <;> (repeat' apply And.intro) <;> (first | rfl | exact Or.inl rfl | exact Or.inr rfl | trivial | exact Nat.le_refl _ | omega | (simp; done) | (simp; omega))) : p := h
theorem t20_28 (hk : AG W0 M0 dr calm E ops K r ⟨putD d c fr, H', n'⟩) (h : aOp E fr H n o = .h q c H' n' := by simp only [call_rule (E := (E_lawGrows.at_ 72)) (f := 10) (sp := Spec.pure runG) rfl, op_rules, ev_rules, fr_rules, av_rules, rs_rules, eq_self, Nat.reduceEqDiff, reduceIte, bw, callS, rd_rules, pure_rules, runG, sc_rules, heap_rules, list_rules, opt_rules, map_rules, rows_get, rows_len, rows_drop, rows_take, rows_app, rows_nil, rows_set, Int.toNat_natCast, Int.reduceToNat, Nat.reduceAdd, Nat.reduceMul, Nat.reduceSub, Nat.reduceLeDiff, Nat.zero_add, Nat.add_zero, true_and, and_true, and_assoc, rect_eI, rect_eB, rect_eU, rect_eS, rect_eL, rect_nil, rect_cons, bytes_is, bytes_str, splice_rules, cell_rules, fill_rules, bnd_rules, or_false, false_or, not_true_eq_false, not_false_eq_true, List.mem_cons, List.not_mem_nil, dI_rows, dB_rows, dU_rows, rect_eE, dE_rows, dec_t, dec_f, hrun]; rfl) (hn : ndO fr o := by exact t20a1) (hq : q := by exact t20a2) (hl : (dr && growB calm d o) = true → HLe H H' := by exact (fun h => Bool.noConfusion (show false = true from h))) : AG W0 M0 dr calm E ops K (⟨d, o, t, p, af, none⟩ :: r) ⟨fr, H, n⟩ := lg_h h hn hq hl hk
theorem t20_29 (hk : AG W0 M0 dr calm E ops K r ⟨putD d c fr, H, n⟩) (h : aOp E fr H n o = .v q c := by simp only [op_rules, ev_rules, fr_rules, av_rules, rs_rules, eq_self, Nat.reduceEqDiff, reduceIte, bw, op_rules2, aExtract, list_rules, rect_eE, dE_rows, dec_t, dec_f, hrun]; rfl) (hn : ndO fr o := by exact t20a1) (hq : q := by exact t20a2) : AG W0 M0 dr calm E ops K (⟨d, o, t, p, af, none⟩ :: r) ⟨fr, H, n⟩ := lg_v h hn hq hk
theorem t20_30 (hk : AG W0 M0 dr calm E ops K r ⟨putD d c fr, H', n'⟩) (h : aOp E fr H n o = .h q c H' n' := by simp only [op_rules, ev_rules, fr_rules, av_rules, rs_rules, eq_self, Nat.reduceEqDiff, reduceIte, bw, aAlloc, env_rules, tys, g_lawGrows, tiAgg, list_rules, opt_rules, map_rules, rows_get, rows_len, rows_drop, rows_take, rows_app, rows_nil, rows_set, Int.toNat_natCast, Int.reduceToNat, Nat.reduceAdd, Nat.reduceMul, Nat.reduceSub, Nat.reduceLeDiff, Nat.zero_add, Nat.add_zero, true_and, and_true, and_assoc, rect_eI, rect_eB, rect_eU, rect_eS, rect_eL, rect_nil, rect_cons, bytes_is, bytes_str, splice_rules, cell_rules, fill_rules, bnd_rules, or_false, false_or, not_true_eq_false, not_false_eq_true, rect_eE, dE_rows, dec_t, dec_f, hrun]; rfl) (hn : ndO fr o := by exact t20a1) (hq : q := by exact t20a2) (hl : (dr && growB calm d o) = true → HLe H H' := by exact (fun h => Bool.noConfusion (show false = true from h))) : AG W0 M0 dr calm E ops K (⟨d, o, t, p, af, none⟩ :: r) ⟨fr, H, n⟩ := lg_h h hn hq hl hk
theorem t20_31 (hk : AG W0 M0 dr calm E ops K r ⟨putD d c fr, H', n'⟩) (h : aOp E fr H n o = .h q c H' n' := by simp only [op_rules, ev_rules, fr_rules, av_rules, rs_rules, eq_self, Nat.reduceEqDiff, reduceIte, bw, aStore, env_rules, tys, g_lawGrows, tiAgg, list_rules, opt_rules, map_rules, rows_get, rows_len, rows_drop, rows_take, rows_app, rows_nil, rows_set, Int.toNat_natCast, Int.reduceToNat, Nat.reduceAdd, Nat.reduceMul, Nat.reduceSub, Nat.reduceLeDiff, Nat.zero_add, Nat.add_zero, true_and, and_true, and_assoc, rect_eI, rect_eB, rect_eU, rect_eS, rect_eL, rect_nil, rect_cons, bytes_is, bytes_str, splice_rules, cell_rules, fill_rules, bnd_rules, or_false, false_or, not_true_eq_false, not_false_eq_true, rect_eE, dE_rows, dec_t, dec_f, hrun]; rfl) (hn : ndO fr o := by exact t20a1) (hq : q := by exact t20a2) (hl : (dr && growB calm d o) = true → HLe H H' := by exact (fun h => Bool.noConfusion (show false = true from h))) : AG W0 M0 dr calm E ops K (⟨d, o, t, p, af, none⟩ :: r) ⟨fr, H, n⟩ := lg_h h hn hq hl hk
theorem t20_32 (hk : AG W0 M0 dr calm E ops K r ⟨putD d c fr, H, n⟩) (h : aOp E fr H n o = .v q c := by simp only [op_rules, ev_rules, fr_rules, av_rules, rs_rules, eq_self, Nat.reduceEqDiff, reduceIte, bw, op_rules2, aFieldAddr, aField, aIndexAddr, aIndex, aPart, env_rules, tys, g_lawGrows, tiAgg, list_rules, opt_rules, map_rules, rows_get, rows_len, rows_drop, rows_take, rows_app, rows_nil, rows_set, Int.toNat_natCast, Int.reduceToNat, Nat.reduceAdd, Nat.reduceMul, Nat.reduceSub, Nat.reduceLeDiff, Nat.zero_add, Nat.add_zero, true_and, and_true, and_assoc, rect_eI, rect_eB, rect_eU, rect_eS, rect_eL, rect_nil, rect_cons, bytes_is, bytes_str, splice_rules, cell_rules, fill_rules, bnd_rules, or_false, false_or, not_true_eq_false, not_false_eq_true, rect_eE, dE_rows, dec_t, dec_f, hbt]; rfl) (hn : ndO fr o := by exact t20a1) (hq : q := by exact t20a2) : AG W0 M0 dr calm E ops K (⟨d, o, t, p, af, none⟩ :: r) ⟨fr, H, n⟩ := lg_v h hn hq hk
theorem t20_33 (hk : AG W0 M0 dr calm E ops K r ⟨putD d c fr, H, n⟩) (h : aOp E fr H n o = .v q c := by simp only [op_rules, ev_rules, fr_rules, av_rules, rs_rules, eq_self, Nat.reduceEqDiff, reduceIte, bw, op_rules2, aLoad, loadRow, env_rules, tys, g_lawGrows, tiAgg, list_rules, opt_rules, map_rules, rows_get, rows_len, rows_drop, rows_take, rows_app, rows_nil, rows_set, Int.toNat_natCast, Int.reduceToNat, Nat.reduceAdd, Nat.reduceMul, Nat.reduceSub, Nat.reduceLeDiff, Nat.zero_add, Nat.add_zero, true_and, and_true, and_assoc, rect_eI, rect_eB, rect_eU, rect_eS, rect_eL, rect_nil, rect_cons, bytes_is, bytes_str, splice_rules, cell_rules, fill_rules, bnd_rules, or_false, false_or, not_true_eq_false, not_false_eq_true, rect_eE, dE_rows, dec_t, dec_f, hbt]; rfl) (hn : ndO fr o := by exact t20a1) (hq : q := by exact t20a2) : AG W0 M0 dr calm E ops K (⟨d, o, t, p, af, none⟩ :: r) ⟨fr, H, n⟩ := lg_v h hn hq hk
theorem t20a12 {p : Prop} (h : p := by simp only [op_rules, ev_rules, fr_rules, av_rules, rs_rules, eq_self, Nat.reduceEqDiff, reduceIte, bw, env_rules, tys, g_lawGrows, tiAgg, bin_rules, ar_rules, str_rules, eq_rules, bit_rules, Bool.true_and, Bool.and_true, rect_eE, dE_rows, dec_t, dec_f, hbt]; rfl) : p := h
theorem t20_34 (hk : AG W0 M0 dr calm E ops K r ⟨putD d c fr, H, n⟩) (h : aOp E fr H n o = .v q c := by exact t20a12) (hn : ndO fr o := by exact t20a1) (hq : q := by exact t20a2) : AG W0 M0 dr calm E ops K (⟨d, o, t, p, af, none⟩ :: r) ⟨fr, H, n⟩ := lg_v h hn hq hk
theorem t20a13 {p : Prop} (h : p := by simp only [guard_rules, list_rules, opt_bind, fr_rules, eq_self, Nat.reduceEqDiff, reduceIte, bool_rules, hbt]; rfl) : p := h
theorem t20_35 (hk : AG W0 M0 dr calm E ops K r ⟨putD d (.cond b c) fr, H, n⟩) (hg : guardA ops fr (some gd) = some (some b) := by exact t20a13) (h : aOp E fr H n o = .v q c := by exact t20a0) (hq : b = true → ndO fr o ∧ q := by exact t20a6) : AG W0 M0 dr calm E ops K (⟨d, o, t, p, af, some gd⟩ :: r) ⟨fr, H, n⟩ := lg_gv hg h hq hk
theorem t20_36 (hk : AG W0 M0 dr calm E ops K r ⟨putD d (.cond b c) fr, H, n⟩) (hg : guardA ops fr (some gd) = some (some b) := by exact t20a13) (h : aOp E fr H n o = .v q c := by simp only [op_rules, ev_rules, fr_rules, av_rules, rs_rules, eq_self, Nat.reduceEqDiff, reduceIte, bw, op_rules2, aLen, env_rules, tys, g_lawGrows, tiAgg, list_rules, opt_rules, map_rules, rows_get, rows_len, rows_drop, rows_take, rows_app, rows_nil, rows_set, Int.toNat_natCast, Int.reduceToNat, Nat.reduceAdd, Nat.reduceMul, Nat.reduceSub, Nat.reduceLeDiff, Nat.zero_add, Nat.add_zero, true_and, and_true, and_assoc, rect_eI, rect_eB, rect_eU, rect_eS, rect_eL, rect_nil, rect_cons, bytes_is, bytes_str, splice_rules, cell_rules, fill_rules, bnd_rules, or_false, false_or, not_true_eq_false, not_false_eq_true, rect_eE, dE_rows, dec_t, dec_f, hbt]; rfl) (hq : b = true → ndO fr o ∧ q := by exact t20a6) : AG W0 M0 dr calm E ops K (⟨d, o, t, p, af, some gd⟩ :: r) ⟨fr, H, n⟩ := lg_gv hg h hq hk
theorem t20_37 (hk : AG W0 M0 dr calm E ops K r ⟨putD d (.cond b c) fr, H, n⟩) (hg : guardA ops fr (some gd) = some (some b) := by exact t20a13) (h : aOp E fr H n o = .v q c := by exact t20a12) (hq : b = true → ndO fr o ∧ q := by exact t20a6) : AG W0 M0 dr calm E ops K (⟨d, o, t, p, af, some gd⟩ :: r) ⟨fr, H, n⟩ := lg_gv hg h hq hk
theorem t20_38 (hk : AG W0 M0 dr calm E ops K r ⟨putD d (.cond b c) fr, H, n⟩) (hg : guardA ops fr (some gd) = some (some b) := by exact t20a13) (h : aOp E fr H n o = .v q c := by simp only [op_rules, ev_rules, fr_rules, av_rules, rs_rules, eq_self, Nat.reduceEqDiff, reduceIte, bw, env_rules, tys, g_lawGrows, tiAgg, aConv, ar_rules, list_rules, opt_rules, map_rules, rows_get, rows_len, rows_drop, rows_take, rows_app, rows_nil, rows_set, Int.toNat_natCast, Int.reduceToNat, Nat.reduceAdd, Nat.reduceMul, Nat.reduceSub, Nat.reduceLeDiff, Nat.zero_add, Nat.add_zero, true_and, and_true, and_assoc, rect_eI, rect_eB, rect_eU, rect_eS, rect_eL, rect_nil, rect_cons, bytes_is, bytes_str, splice_rules, cell_rules, fill_rules, bnd_rules, or_false, false_or, not_true_eq_false, not_false_eq_true, rect_eE, dE_rows, dec_t, dec_f, hbt]; rfl) (hq : b = true → ndO fr o ∧ q := by exact t20a6) : AG W0 M0 dr calm E ops K (⟨d, o, t, p, af, some gd⟩ :: r) ⟨fr, H, n⟩ := lg_gv hg h hq hk
theorem t20_39 (hk : AG W0 M0 dr calm E ops K r ⟨putD d (.cond b c) fr, H, n⟩) (hg : guardA ops fr (some gd) = some (some b) := by exact t20a13) (h : aOp E fr H n o = .v q c := by simp only [op_rules, ev_rules, fr_rules, av_rules, rs_rules, eq_self, Nat.reduceEqDiff, reduceIte, bw, op_rules2, aSlice, env_rules, tys, g_lawGrows, tiAgg, list_rules, opt_rules, map_rules, rows_get, rows_len, rows_drop, rows_take, rows_app, rows_nil, rows_set, Int.toNat_natCast, Int.reduceToNat, Nat.reduceAdd, Nat.reduceMul, Nat.reduceSub, Nat.reduceLeDiff, Nat.zero_add, Nat.add_zero, true_and, and_true, and_assoc, rect_eI, rect_eB, rect_eU, rect_eS, rect_eL, rect_nil, rect_cons, bytes_is, bytes_str, splice_rules, cell_rules, fill_rules, bnd_rules, or_false, false_or, not_true_eq_false, not_false_eq_true, rect_eE, dE_rows, dec_t, dec_f, hbt]; rfl) (hq : b = true → ndO fr o ∧ q := by exact t20a6) : AG W0 M0 dr calm E ops K (⟨d, o, t, p, af, some gd⟩ :: r) ⟨fr, H, n⟩ := lg_gv hg h hq hk
theorem t20_40 (hk : AG W0 M0 dr calm E ops K r ⟨putD d (.cond b c) fr, H, n⟩) (hg : guardA ops fr (some gd) = some (some b) := by exact t20a5) (h : aOp E fr H n o = .v q c := by exact t20a11) (hq : b = true → ndO fr o ∧ q := by exact t20a6) : AG W0 M0 dr calm E ops K (⟨d, o, t, p, af, some gd⟩ :: r) ⟨fr, H, n⟩ := lg_gv hg h hq hk
theorem t20_41 (hk : AG W0 M0 dr calm E ops K r ⟨putD d (.cond b c) fr, H, n⟩) (hg : guardA ops fr (some gd) = some (some b) := by exact t20a5) (h : aOp E fr H n o = .v q c := by exact t20a10) (hq : b = true → ndO fr o ∧ q := by exact t20a6) : AG W0 M0 dr calm E ops K (⟨d, o, t, p, af, some gd⟩ :: r) ⟨fr, H, n⟩ := lg_gv hg h hq hk
theorem t20_42 (hk : AG W0 M0 dr calm E ops K r ⟨putD d (.cond b c) fr, H, n⟩) (hg : guardA ops fr (some gd) = some (some b) := by exact t20a5) (h : aOp E fr H n o = .v q c := by simp only [call_rule (E := (E_lawGrows.at_ 72)) (f := 12) (sp := Spec.pure countG) rfl, op_rules, ev_rules, fr_rules, av_rules, rs_rules, eq_self, Nat.reduceEqDiff, reduceIte, bw, callS, rd_rules, pure_rules, countG, sc_rules, heap_rules, list_rules, opt_rules, map_rules, rows_get, rows_len, rows_drop, rows_take, rows_app, rows_nil, rows_set, Int.toNat_natCast, Int.reduceToNat, Nat.reduceAdd, Nat.reduceMul, Nat.reduceSub, Nat.reduceLeDiff, Nat.zero_add, Nat.add_zero, true_and, and_true, and_assoc, rect_eI, rect_eB, rect_eU, rect_eS, rect_eL, rect_nil, rect_cons, bytes_is, bytes_str, splice_rules, cell_rules, fill_rules, bnd_rules, or_false, false_or, not_true_eq_false, not_false_eq_true, List.mem_cons, List.not_mem_nil, dI_rows, dB_rows, dU_rows, rect_eE, dE_rows, dec_t, dec_f]; rfl) (hq : b = true → ndO fr o ∧ q := by exact t20a6) : AG W0 M0 dr calm E ops K (⟨d, o, t, p, af, some gd⟩ :: r) ⟨fr, H, n⟩ := lg_gv hg h hq hk
theorem t20_43 (hk : AG W0 M0 dr calm E ops K r ⟨putD d (.cond b c) fr, H, n⟩) (hg : guardA ops fr (some gd) = some (some b) := by exact t20a5) (h : aOp E fr H n o = .v q c := by exact t20a7) (hq : b = true → ndO fr o ∧ q := by exact t20a6) : AG W0 M0 dr calm E ops K (⟨d, o, t, p, af, some gd⟩ :: r) ⟨fr, H, n⟩ := lg_gv hg h hq hk
end
theorem lawGrows_meets : Meets Try.prog 6 (Spec.pure lawEkG) := by
 refine meets_fun (E_lawPrefix.at_ 76) Try.func6 rfl rfl rfl ?_
 intro args p r hg hp
 unfold lawEkG at hg
 split at hg
 ·rename_i xs es k
  simp only [Option.some.injEq, Prod.mk.injEq] at hg
  obtain ⟨rfl, rfl⟩ := hg
  obtain ⟨hx, hy, hl, hm, hk⟩ := hp
  generalize dU xs = l at *
  generalize dE es = es at *
  subst hx hy
  have hfl := framesOf_len l
  refine ⟨by rfl, ?_⟩
  intro F W0 hnp hmk
  refine vc_seq_k fun N1 h1 => ?_
  refine vc_regG [] hmix (by kernel_rfl) ?_
  try refine lg_mk ?_
  refine t20_0 ?_
  refine lg_nil ?_
  refine h1 _ ?_; clear h1; try clear N1
  refine vc_seq_k fun N2 h2 => ?_
  refine vc_seq_k fun N3 h3 => ?_
  refine vc_regG [] hmix (by kernel_rfl) ?_
  try refine lg_mk ?_
  refine lg_v (by simp only [call_rule (E := (E_lawPrefix.at_ 76)) (f := 8) (sp := Spec.pure exampleG) rfl, op_rules, ev_rules, fr_rules, av_rules, rs_rules, eq_self, Nat.reduceEqDiff, reduceIte, bw, callS, rd_rules, pure_rules, exampleG, sc_rules, heap_rules, list_rules, opt_rules, map_rules, rows_get, rows_len, rows_drop, rows_take, rows_app, rows_nil, rows_set, Int.toNat_natCast, Int.reduceToNat, Nat.reduceAdd, Nat.reduceMul, Nat.reduceSub, Nat.reduceLeDiff, Nat.zero_add, Nat.add_zero, true_and, and_true, and_assoc, rect_eI, rect_eB, rect_eU, rect_eS, rect_eL, rect_nil, rect_cons, bytes_is, bytes_str, splice_rules, cell_rules, fill_rules, bnd_rules, or_false, false_or, not_true_eq_false, not_false_eq_true, List.mem_cons, List.not_mem_nil, dI_rows, dB_rows, dU_rows, rect_eE, dE_rows, dec_t, dec_f]; rfl) (by exact t20a1) (by exact t20a2) ?_
  refine t20_1 ?_
  refine lg_nil ?_
  refine h3 _ ?_; clear h3; try clear N3
  refine vc_cond_k (by simp only [w1, w3, eq_self, Nat.reduceEqDiff, reduceIte]; rfl) (fun hb4 => ?_) (fun hb4 => ?_)
  ·try simp only [b_rules, bif_and, bif_or] at hb4
   first | omega | exact absurd trivial hb4 | contradiction | (simp_all; done)
  ·try simp only [b_rules, bif_and, bif_or] at hb4
   refine vc_skip ?_
   try simp only [k_rules]
   refine h2 _ ?_; clear h2; try clear N2
   refine vc_seq_k fun N5 h5 => ?_
   rcases run_cases' l es with ⟨c, ci, hc, hr⟩ | ⟨g4, g5, a, tk, b, s, hat, htn, e1, e2, e3, hr, hbe, hbl, hbt⟩
   ·refine vc_regG [] hmix (by kernel_rfl) ?_
    try refine lg_mk ?_
    refine t20_0 ?_
    refine t20_0 ?_
    refine t20_2 ?_
    refine t20_0 ?_
    refine t20_3 ?_
    refine t20_3 ?_
    refine t20_3 ?_
    refine t20_4 ?_
    refine t20_0 ?_
    refine t20_0 ?_
    refine t20_5 ?_
    refine lg_nil ?_
    refine h5 _ ?_; clear h5; try clear N5
    refine vc_seq_k fun N6 h6 => ?_
    refine vc_seq_k fun N7 h7 => ?_
    refine vc_regG [] hmix (by kernel_rfl) ?_
    try refine lg_mk ?_
    refine t20_6 ?_
    refine t20_7 ?_
    refine t20_8 ?_
    refine t20_0 ?_
    first | (refine lg_g0 ?_ ?_; focus (simp only [guard_rules, list_rules, opt_bind, fr_rules, eq_self, Nat.reduceEqDiff, reduceIte, bool_rules]; done)) | refine t20_9 ?_
    first | (refine lg_g0 ?_ ?_; focus (simp only [guard_rules, list_rules, opt_bind, fr_rules, eq_self, Nat.reduceEqDiff, reduceIte, bool_rules]; done)) | refine t20_9 ?_
    first | (refine lg_g0 ?_ ?_; focus (simp only [guard_rules, list_rules, opt_bind, fr_rules, eq_self, Nat.reduceEqDiff, reduceIte, bool_rules]; done)) | refine t20_10 ?_
    first | (refine lg_g0 ?_ ?_; focus (simp only [guard_rules, list_rules, opt_bind, fr_rules, eq_self, Nat.reduceEqDiff, reduceIte, bool_rules]; done)) | refine t20_11 ?_
    first | (refine lg_g0 ?_ ?_; focus (simp only [guard_rules, list_rules, opt_bind, fr_rules, eq_self, Nat.reduceEqDiff, reduceIte, bool_rules]; done)) | refine t20_12 ?_
    refine t20_13 ?_
    refine lg_nil ?_
    refine h7 _ ?_; clear h7; try clear N7
    refine vc_cond_k (by simp only [w1, w3, eq_self, Nat.reduceEqDiff, reduceIte]; rfl) (fun hb8 => ?_) (fun hb8 => ?_)
    ·try simp only [b_rules, bif_and, bif_or] at hb8
     refine vc_seq_k fun N9 h9 => ?_
     refine vc_regG [] hmix (by kernel_rfl) ?_
     try refine lg_mk ?_
     refine t20_6 ?_
     refine t20_7 ?_
     refine t20_8 ?_
     refine t20_0 ?_
     first | (refine lg_g0 ?_ ?_; focus (simp only [guard_rules, list_rules, opt_bind, fr_rules, eq_self, Nat.reduceEqDiff, reduceIte, bool_rules]; done)) | refine t20_9 ?_
     first | (refine lg_g0 ?_ ?_; focus (simp only [guard_rules, list_rules, opt_bind, fr_rules, eq_self, Nat.reduceEqDiff, reduceIte, bool_rules]; done)) | refine t20_10 ?_
     first | (refine lg_g0 ?_ ?_; focus (simp only [guard_rules, list_rules, opt_bind, fr_rules, eq_self, Nat.reduceEqDiff, reduceIte, bool_rules]; done)) | refine t20_9 ?_
     first | (refine lg_g0 ?_ ?_; focus (simp only [guard_rules, list_rules, opt_bind, fr_rules, eq_self, Nat.reduceEqDiff, reduceIte, bool_rules]; done)) | refine t20_14 ?_
     first | (refine lg_g0 ?_ ?_; focus (simp only [guard_rules, list_rules, opt_bind, fr_rules, eq_self, Nat.reduceEqDiff, reduceIte, bool_rules]; done)) | refine t20_14 ?_
     refine t20_13 ?_
     refine t20_0 ?_
     refine lg_nil ?_
     refine h9 _ ?_; clear h9; try clear N9
     refine vc_ret ?_
     try simp only [k_rules]
     exact t20_15
    ·try simp only [b_rules, bif_and, bif_or] at hb8
     first | omega | exact absurd trivial hb8 | contradiction | (simp_all; done)
   ·refine vc_regG [] hmix (by kernel_rfl) ?_
    try refine lg_mk ?_
    refine t20_0 ?_
    refine t20_0 ?_
    refine t20_2 ?_
    refine t20_0 ?_
    refine t20_3 ?_
    refine t20_3 ?_
    refine t20_3 ?_
    refine t20_4 ?_
    refine t20_0 ?_
    refine t20_0 ?_
    refine t20_5 ?_
    refine lg_nil ?_
    refine h5 _ ?_; clear h5; try clear N5
    refine vc_seq_k fun N10 h10 => ?_
    refine vc_seq_k fun N11 h11 => ?_
    refine vc_regG [] hmix (by kernel_rfl) ?_
    try refine lg_mk ?_
    refine t20_6 ?_
    refine t20_7 ?_
    refine t20_8 ?_
    refine t20_0 ?_
    first | (refine lg_g0 ?_ ?_; focus (simp only [guard_rules, list_rules, opt_bind, fr_rules, eq_self, Nat.reduceEqDiff, reduceIte, bool_rules]; done)) | refine t20_9 ?_
    first | (refine lg_g0 ?_ ?_; focus (simp only [guard_rules, list_rules, opt_bind, fr_rules, eq_self, Nat.reduceEqDiff, reduceIte, bool_rules]; done)) | refine t20_9 ?_
    first | (refine lg_g0 ?_ ?_; focus (simp only [guard_rules, list_rules, opt_bind, fr_rules, eq_self, Nat.reduceEqDiff, reduceIte, bool_rules]; done)) | refine t20_10 ?_
    first | (refine lg_g0 ?_ ?_; focus (simp only [guard_rules, list_rules, opt_bind, fr_rules, eq_self, Nat.reduceEqDiff, reduceIte, bool_rules]; done)) | refine t20_11 ?_
    first | (refine lg_g0 ?_ ?_; focus (simp only [guard_rules, list_rules, opt_bind, fr_rules, eq_self, Nat.reduceEqDiff, reduceIte, bool_rules]; done)) | refine t20_12 ?_
    refine t20_13 ?_
    refine lg_nil ?_
    refine h11 _ ?_; clear h11; try clear N11
    refine vc_cond_k (by simp only [w1, w3, eq_self, Nat.reduceEqDiff, reduceIte]; rfl) (fun hb12 => ?_) (fun hb12 => ?_)
    ·try simp only [b_rules, bif_and, bif_or] at hb12
     refine vc_seq_k fun N13 h13 => ?_
     refine vc_regG [] hmix (by kernel_rfl) ?_
     try refine lg_mk ?_
     refine t20_6 ?_
     refine t20_7 ?_
     refine t20_8 ?_
     refine t20_0 ?_
     first | (refine lg_g0 ?_ ?_; focus (simp only [guard_rules, list_rules, opt_bind, fr_rules, eq_self, Nat.reduceEqDiff, reduceIte, bool_rules]; done)) | refine t20_9 ?_
     first | (refine lg_g0 ?_ ?_; focus (simp only [guard_rules, list_rules, opt_bind, fr_rules, eq_self, Nat.reduceEqDiff, reduceIte, bool_rules]; done)) | refine t20_10 ?_
     first | (refine lg_g0 ?_ ?_; focus (simp only [guard_rules, list_rules, opt_bind, fr_rules, eq_self, Nat.reduceEqDiff, reduceIte, bool_rules]; done)) | refine t20_9 ?_
     first | (refine lg_g0 ?_ ?_; focus (simp only [guard_rules, list_rules, opt_bind, fr_rules, eq_self, Nat.reduceEqDiff, reduceIte, bool_rules]; done)) | refine t20_14 ?_
     first | (refine lg_g0 ?_ ?_; focus (simp only [guard_rules, list_rules, opt_bind, fr_rules, eq_self, Nat.reduceEqDiff, reduceIte, bool_rules]; done)) | refine t20_14 ?_
     refine t20_13 ?_
     refine t20_0 ?_
     refine lg_nil ?_
     refine h13 _ ?_; clear h13; try clear N13
     refine vc_ret ?_
     try simp only [k_rules]
     exact t20_15
    ·try simp only [b_rules, bif_and, bif_or] at hb12
     obtain ⟨k, rfl⟩ := Int.eq_ofNat_of_zero_le (by omega : 0 ≤ k)
     obtain ⟨a', tk', ha', htk', hr'⟩ := run_grows (k := k) g4 g5 e1 e2 e3
     obtain ⟨hcl, hcb⟩ := grows_b (l := l) htk'
     rw [← hbe] at hcl hcb
     obtain ⟨c, hce⟩ : ∃ c, c = l.take (16 * tk') := ⟨_, rfl⟩
     rw [← hce] at hcl hcb hr'
     refine vc_skip ?_
     try simp only [k_rules]
     refine h10 _ ?_; clear h10; try clear N10
     refine vc_seq_k fun N14 h14 => ?_
     refine vc_regG [] hmix (by kernel_rfl) ?_
     try refine lg_mk ?_
     refine t20_0 ?_
     refine t20_0 ?_
     refine t20_0 ?_
     refine lg_v (by simp only [op_rules, ev_rules, fr_rules, av_rules, rs_rules, eq_self, Nat.reduceEqDiff, reduceIte, bw, op_rules2, aSlice, env_rules, tys, g_lawPrefix, tiAgg, list_rules, opt_rules, map_rules, rows_get, rows_len, rows_drop, rows_take, rows_app, rows_nil, rows_set, Int.toNat_natCast, Int.reduceToNat, Nat.reduceAdd, Nat.reduceMul, Nat.reduceSub, Nat.reduceLeDiff, Nat.zero_add, Nat.add_zero, true_and, and_true, and_assoc, rect_eI, rect_eB, rect_eU, rect_eS, rect_eL, rect_nil, rect_cons, bytes_is, bytes_str, splice_rules, cell_rules, fill_rules, bnd_rules, or_false, false_or, not_true_eq_false, not_false_eq_true, rect_eE, dE_rows, dec_t, dec_f, hr', Nat.sub_zero, List.drop_zero]; rfl) (by exact t20a1) (by exact t20a2) ?_
     refine lg_h (by simp only [call_rule (E := (E_lawPrefix.at_ 76)) (f := 10) (sp := Spec.pure runG) rfl, op_rules, ev_rules, fr_rules, av_rules, rs_rules, eq_self, Nat.reduceEqDiff, reduceIte, bw, callS, rd_rules, pure_rules, runG, sc_rules, heap_rules, list_rules, opt_rules, map_rules, rows_get, rows_len, rows_drop, rows_take, rows_app, rows_nil, rows_set, Int.toNat_natCast, Int.reduceToNat, Nat.reduceAdd, Nat.reduceMul, Nat.reduceSub, Nat.reduceLeDiff, Nat.zero_add, Nat.add_zero, true_and, and_true, and_assoc, rect_eI, rect_eB, rect_eU, rect_eS, rect_eL, rect_nil, rect_cons, bytes_is, bytes_str, splice_rules, cell_rules, fill_rules, bnd_rules, or_false, false_or, not_true_eq_false, not_false_eq_true, List.mem_cons, List.not_mem_nil, dI_rows, dB_rows, dU_rows, rect_eE, dE_rows, dec_t, dec_f, hr', Nat.sub_zero, List.drop_zero]; rfl) (by exact t20a1) (by exact t20a2) (fun h => Bool.noConfusion (show false = true from h)) ?_
     refine t20_0 ?_
     refine t20_16 ?_
     refine t20_16 ?_
     refine t20_16 ?_
     refine lg_h (by simp only [op_rules, ev_rules, fr_rules, av_rules, rs_rules, eq_self, Nat.reduceEqDiff, reduceIte, bw, aAlloc, env_rules, tys, g_lawPrefix, tiAgg, list_rules, opt_rules, map_rules, rows_get, rows_len, rows_drop, rows_take, rows_app, rows_nil, rows_set, Int.toNat_natCast, Int.reduceToNat, Nat.reduceAdd, Nat.reduceMul, Nat.reduceSub, Nat.reduceLeDiff, Nat.zero_add, Nat.add_zero, true_and, and_true, and_assoc, rect_eI, rect_eB, rect_eU, rect_eS, rect_eL, rect_nil, rect_cons, bytes_is, bytes_str, splice_rules, cell_rules, fill_rules, bnd_rules, or_false, false_or, not_true_eq_false, not_false_eq_true, rect_eE, dE_rows, dec_t, dec_f, hr', Nat.sub_zero, List.drop_zero]; rfl) (by exact t20a1) (by exact t20a2) (fun h => Bool.noConfusion (show false = true from h)) ?_
     refine t20_0 ?_
     refine t20_0 ?_
     refine lg_h (by simp only [op_rules, ev_rules, fr_rules, av_rules, rs_rules, eq_self, Nat.reduceEqDiff, reduceIte, bw, aStore, env_rules, tys, g_lawPrefix, tiAgg, list_rules, opt_rules, map_rules, rows_get, rows_len, rows_drop, rows_take, rows_app, rows_nil, rows_set, Int.toNat_natCast, Int.reduceToNat, Nat.reduceAdd, Nat.reduceMul, Nat.reduceSub, Nat.reduceLeDiff, Nat.zero_add, Nat.add_zero, true_and, and_true, and_assoc, rect_eI, rect_eB, rect_eU, rect_eS, rect_eL, rect_nil, rect_cons, bytes_is, bytes_str, splice_rules, cell_rules, fill_rules, bnd_rules, or_false, false_or, not_true_eq_false, not_false_eq_true, rect_eE, dE_rows, dec_t, dec_f, hr', Nat.sub_zero, List.drop_zero]; rfl) (by exact t20a1) (by exact t20a2) (fun h => Bool.noConfusion (show false = true from h)) ?_
     refine lg_nil ?_
     refine h14 _ ?_; clear h14; try clear N14
     refine vc_seq_k fun N15 h15 => ?_
     refine vc_regG [] hmix (by kernel_rfl) ?_
     try refine lg_mk ?_
     refine lg_v (by simp only [op_rules, ev_rules, fr_rules, av_rules, rs_rules, eq_self, Nat.reduceEqDiff, reduceIte, bw, op_rules2, aFieldAddr, aField, aIndexAddr, aIndex, aPart, env_rules, tys, g_lawPrefix, tiAgg, list_rules, opt_rules, map_rules, rows_get, rows_len, rows_drop, rows_take, rows_app, rows_nil, rows_set, Int.toNat_natCast, Int.reduceToNat, Nat.reduceAdd, Nat.reduceMul, Nat.reduceSub, Nat.reduceLeDiff, Nat.zero_add, Nat.add_zero, true_and, and_true, and_assoc, rect_eI, rect_eB, rect_eU, rect_eS, rect_eL, rect_nil, rect_cons, bytes_is, bytes_str, splice_rules, cell_rules, fill_rules, bnd_rules, or_false, false_or, not_true_eq_false, not_false_eq_true, rect_eE, dE_rows, dec_t, dec_f, hcb]; rfl) (by exact t20a1) (by exact t20a2) ?_
     refine lg_v (by simp only [op_rules, ev_rules, fr_rules, av_rules, rs_rules, eq_self, Nat.reduceEqDiff, reduceIte, bw, op_rules2, aLoad, loadRow, env_rules, tys, g_lawPrefix, tiAgg, list_rules, opt_rules, map_rules, rows_get, rows_len, rows_drop, rows_take, rows_app, rows_nil, rows_set, Int.toNat_natCast, Int.reduceToNat, Nat.reduceAdd, Nat.reduceMul, Nat.reduceSub, Nat.reduceLeDiff, Nat.zero_add, Nat.add_zero, true_and, and_true, and_assoc, rect_eI, rect_eB, rect_eU, rect_eS, rect_eL, rect_nil, rect_cons, bytes_is, bytes_str, splice_rules, cell_rules, fill_rules, bnd_rules, or_false, false_or, not_true_eq_false, not_false_eq_true, rect_eE, dE_rows, dec_t, dec_f, hcb]; rfl) (by exact t20a1) (by exact t20a2) ?_
     refine lg_v (by exact t20a8) (by exact t20a1) (by exact t20a2) ?_
     refine t20_0 ?_
     first | (refine lg_g0 ?_ ?_; focus (simp only [guard_rules, list_rules, opt_bind, fr_rules, eq_self, Nat.reduceEqDiff, reduceIte, bool_rules, hcb]; done)) | refine t20_17 ?_
     first | (refine lg_g0 ?_ ?_; focus (simp only [guard_rules, list_rules, opt_bind, fr_rules, eq_self, Nat.reduceEqDiff, reduceIte, bool_rules, hcb]; done)) | refine t20_17 ?_
     first | (refine lg_g0 ?_ ?_; focus (simp only [guard_rules, list_rules, opt_bind, fr_rules, eq_self, Nat.reduceEqDiff, reduceIte, bool_rules, hcb]; done)) | refine t20_18 ?_
     refine t20_13 ?_
     refine t20_0 ?_
     first | (refine lg_g0 ?_ ?_; focus (simp only [guard_rules, list_rules, opt_bind, fr_rules, eq_self, Nat.reduceEqDiff, reduceIte, bool_rules, hcb]; done)) | refine t20_17 ?_
     first | (refine lg_g0 ?_ ?_; focus (simp only [guard_rules, list_rules, opt_bind, fr_rules, eq_self, Nat.reduceEqDiff, reduceIte, bool_rules, hcb]; done)) | refine t20_19 ?_
     first | (refine lg_g0 ?_ ?_; focus (simp only [guard_rules, list_rules, opt_bind, fr_rules, eq_self, Nat.reduceEqDiff, reduceIte, bool_rules, hcb]; done)) | refine t20_17 ?_
     first | (refine lg_g0 ?_ ?_; focus (simp only [guard_rules, list_rules, opt_bind, fr_rules, eq_self, Nat.reduceEqDiff, reduceIte, bool_rules, hcb]; done)) | refine t20_19 ?_
     first | (refine lg_g0 ?_ ?_; focus (simp only [guard_rules, list_rules, opt_bind, fr_rules, eq_self, Nat.reduceEqDiff, reduceIte, bool_rules, hcb]; done)) | refine t20_18 ?_
     refine t20_13 ?_
     refine t20_0 ?_
     first | (refine lg_g0 ?_ ?_; focus (simp only [guard_rules, list_rules, opt_bind, fr_rules, eq_self, Nat.reduceEqDiff, reduceIte, bool_rules, hcb]; done)) | refine t20_17 ?_
     first | (refine lg_g0 ?_ ?_; focus (simp only [guard_rules, list_rules, opt_bind, fr_rules, eq_self, Nat.reduceEqDiff, reduceIte, bool_rules, hcb]; done)) | refine t20_20 ?_
     first | (refine lg_g0 ?_ ?_; focus (simp only [guard_rules, list_rules, opt_bind, fr_rules, eq_self, Nat.reduceEqDiff, reduceIte, bool_rules, hcb]; done)) | refine t20_17 ?_
     first | (refine lg_g0 ?_ ?_; focus (simp only [guard_rules, list_rules, opt_bind, fr_rules, eq_self, Nat.reduceEqDiff, reduceIte, bool_rules, hcb]; done)) | refine t20_17 ?_
     first | (refine lg_g0 ?_ ?_; focus (simp only [guard_rules, list_rules, opt_bind, fr_rules, eq_self, Nat.reduceEqDiff, reduceIte, bool_rules, hcb]; done)) | refine t20_19 ?_
     first | (refine lg_g0 ?_ ?_; focus (simp only [guard_rules, list_rules, opt_bind, fr_rules, eq_self, Nat.reduceEqDiff, reduceIte, bool_rules, hcb]; done)) | refine lg_gv (by exact t20a9) (by simp only [op_rules, ev_rules, fr_rules, av_rules, rs_rules, eq_self, Nat.reduceEqDiff, reduceIte, bw, op_rules2, aSlice, env_rules, tys, g_lawPrefix, tiAgg, list_rules, opt_rules, map_rules, rows_get, rows_len, rows_drop, rows_take, rows_app, rows_nil, rows_set, Int.toNat_natCast, Int.reduceToNat, Nat.reduceAdd, Nat.reduceMul, Nat.reduceSub, Nat.reduceLeDiff, Nat.zero_add, Nat.add_zero, true_and, and_true, and_assoc, rect_eI, rect_eB, rect_eU, rect_eS, rect_eL, rect_nil, rect_cons, bytes_is, bytes_str, splice_rules, cell_rules, fill_rules, bnd_rules, or_false, false_or, not_true_eq_false, not_false_eq_true, rect_eE, dE_rows, dec_t, dec_f, hcb]; rfl) (by exact t20a6) ?_
     first | (refine lg_g0 ?_ ?_; focus (simp only [guard_rules, list_rules, opt_bind, fr_rules, eq_self, Nat.reduceEqDiff, reduceIte, bool_rules, hcb]; done)) | refine t20_20 ?_
     first | (refine lg_g0 ?_ ?_; focus (simp only [guard_rules, list_rules, opt_bind, fr_rules, eq_self, Nat.reduceEqDiff, reduceIte, bool_rules, hcb]; done)) | refine t20_18 ?_
     refine t20_13 ?_
     refine t20_0 ?_
     refine lg_nil ?_
     refine h15 _ ?_; clear h15; try clear N15
     refine vc_ret ?_
     try simp only [k_rules]
     (simp only [w1, w2, w3, tys, k_rules, eq_self, Nat.reduceEqDiff, Nat.reduceLeDiff, Nat.reduceAdd, Nat.reduceSub, Nat.reduceMul, Int.toNat_natCast, Int.reduceToNat, Int.reduceNeg, List.mem_cons, List.not_mem_nil, or_false, false_or, not_true_eq_false, not_false_eq_true, bif_and, bif_or, reduceIte, true_and, and_true, and_assoc, true_implies, forall_const, implies_true, Bool.true_eq_false, Bool.false_eq_true, false_implies, rows_len, rows_get, rows_drop, rows_take, rows_app, rows_nil, rect_nil, rect_eI, rect_eB, rect_eU, rect_eS, rect_eL, rect_eE, dE_rows, dec_t, dec_f, w4, Try.results6, reduceCtorEq, false_or, or_true, true_or]) <;> (try simp only [w1, w2, w3, tys, k_rules, eq_self, Nat.reduceEqDiff, Nat.reduceLeDiff, Nat.reduceAdd, Nat.reduceSub, Nat.reduceMul, Int.toNat_natCast, Int.reduceToNat, Int.reduceNeg, List.mem_cons, List.not_mem_nil, or_false, false_or, not_true_eq_false, not_false_eq_true, bif_and, bif_or, reduceIte, true_and, and_true, and_assoc, true_implies, forall_const, implies_true, Bool.true_eq_false, Bool.false_eq_true, false_implies, rows_len, rows_get, rows_drop, rows_take, rows_app, rows_nil, rect_nil, rect_eI, rect_eB, rect_eU, rect_eS, rect_eL, rect_eE, dE_rows, dec_t, dec_f, w4, Try.results6, reduceCtorEq, false_or, or_true, true_or]) <;> (repeat' apply And.intro) <;> (first | rfl | exact Or.inl rfl | exact Or.inr rfl | trivial | exact Nat.le_refl _ | omega | (simp; done) | (simp; omega) | (left; rw [Nat.sub_zero, hcb]; simp; omega))
 ·cases hg

def E_lawGrows : Env Try.prog := E_lawPrefix.add 6 (Spec.pure lawEkG) lawGrows_meets (by kernel_rfl)

theorem g_lawGrows : (E_lawGrows.X = T) ∧ (E_lawGrows.Γ 11 = some (Spec.pure faultG)) ∧ (E_lawGrows.Γ 18 = some (Spec.pure inG)) ∧ (E_lawGrows.Γ 16 = some (Spec.pure planOfG)) ∧ (E_lawGrows.Γ 20 = some (Spec.pure (cloneG 1 1))) ∧ (E_lawGrows.Γ 27 = some (Spec.gen (deleteG 3))) ∧ (E_lawGrows.Γ 25 = some (Spec.gen pickG)) ∧ (E_lawGrows.Γ 21 = some (Spec.gen stepG)) ∧ (E_lawGrows.Γ 19 = some (Spec.pure (chunkG 24))) ∧ (E_lawGrows.Γ 9 = some (Spec.pure framesG)) ∧ (E_lawGrows.Γ 12 = some (Spec.pure countG)) ∧ (E_lawGrows.Γ 13 = some (Spec.pure frameOfG)) ∧ (E_lawGrows.Γ 23 = some (Spec.fresh withoutG)) ∧ (E_lawGrows.Γ 26 = some (Spec.fresh growG)) ∧ (E_lawGrows.Γ 22 = some (Spec.pure concatG)) ∧ (E_lawGrows.Γ 10 = some (Spec.pure runG)) ∧ (E_lawGrows.Γ 14 = some (Spec.pure toG)) ∧ (E_lawGrows.Γ 17 = some (Spec.pure eventsG)) ∧ (E_lawGrows.Γ 15 = some (Spec.pure planG)) ∧ (E_lawGrows.Γ 8 = some (Spec.pure exampleG)) ∧ (E_lawGrows.Γ 3 = some (Spec.pure lawEG)) ∧ (E_lawGrows.Γ 4 = some (Spec.pure lawBG)) ∧ (E_lawGrows.Γ 5 = some (Spec.pure lawEG)) ∧ (E_lawGrows.Γ 6 = some (Spec.pure lawEkG)) := ⟨rfl, rfl, rfl, rfl, rfl, rfl, rfl, rfl, rfl, rfl, rfl, rfl, rfl, rfl, rfl, rfl, rfl, rfl, rfl, rfl, rfl, rfl, rfl, rfl⟩

theorem lawDelivers_meets : Meets Try.prog 7 (Spec.pure lawBG) := by
 refine meets_fun (E_lawGrows.at_ 72) Try.func7 rfl rfl rfl ?_
 intro args p r hg hp
 unfold lawBG at hg
 split at hg
 ·rename_i xs bs
  simp only [Option.some.injEq, Prod.mk.injEq] at hg
  obtain ⟨rfl, rfl⟩ := hg
  obtain ⟨hx, hy, hl, hm⟩ := hp
  generalize dU xs = l at *
  generalize dB bs = lost at *
  subst hx hy
  have hfl := framesOf_len l
  refine ⟨by rfl, ?_⟩
  intro F W0 hnp hmk
  refine vc_seq_k fun N1 h1 => ?_
  refine vc_regG [] hmix (by kernel_rfl) ?_
  try refine lg_mk ?_
  refine t20_0 ?_
  refine lg_nil ?_
  refine h1 _ ?_; clear h1; try clear N1
  refine vc_seq_k fun N2 h2 => ?_
  refine vc_seq_k fun N3 h3 => ?_
  refine vc_regG [] hmix (by kernel_rfl) ?_
  try refine lg_mk ?_
  refine lg_v (by simp only [call_rule (E := (E_lawGrows.at_ 72)) (f := 8) (sp := Spec.pure exampleG) rfl, op_rules, ev_rules, fr_rules, av_rules, rs_rules, eq_self, Nat.reduceEqDiff, reduceIte, bw, callS, rd_rules, pure_rules, exampleG, sc_rules, heap_rules, list_rules, opt_rules, map_rules, rows_get, rows_len, rows_drop, rows_take, rows_app, rows_nil, rows_set, Int.toNat_natCast, Int.reduceToNat, Nat.reduceAdd, Nat.reduceMul, Nat.reduceSub, Nat.reduceLeDiff, Nat.zero_add, Nat.add_zero, true_and, and_true, and_assoc, rect_eI, rect_eB, rect_eU, rect_eS, rect_eL, rect_nil, rect_cons, bytes_is, bytes_str, splice_rules, cell_rules, fill_rules, bnd_rules, or_false, false_or, not_true_eq_false, not_false_eq_true, List.mem_cons, List.not_mem_nil, dI_rows, dB_rows, dU_rows, rect_eE, dE_rows, dec_t, dec_f]; rfl) (by exact t20a1) (by exact t20a2) ?_
  refine t20_1 ?_
  refine lg_nil ?_
  refine h3 _ ?_; clear h3; try clear N3
  refine vc_cond_k (by simp only [w1, w3, eq_self, Nat.reduceEqDiff, reduceIte]; rfl) (fun hb4 => ?_) (fun hb4 => ?_)
  ·try simp only [b_rules, bif_and, bif_or] at hb4
   first | omega | exact absurd trivial hb4 | contradiction | (simp_all; done)
  ·try simp only [b_rules, bif_and, bif_or] at hb4
   refine vc_skip ?_
   try simp only [k_rules]
   refine h2 _ ?_; clear h2; try clear N2
   refine vc_seq_k fun N5 h5 => ?_
   rcases del_cases l lost with ⟨c, ci, hc, hr⟩ | ⟨g4, ps, m, b, hr, hpl, hmn, hrun, hbl, hbt⟩ | ⟨g4, ps, hr, hpl, hrun⟩
   ·refine vc_regG [] hmix (by kernel_rfl) ?_
    try refine lg_mk ?_
    refine t20_0 ?_
    refine t20_0 ?_
    refine t20_21 ?_
    refine t20_0 ?_
    refine t20_3 ?_
    refine t20_3 ?_
    refine t20_3 ?_
    refine t20_22 ?_
    refine t20_0 ?_
    refine t20_0 ?_
    refine t20_23 ?_
    refine lg_nil ?_
    refine h5 _ ?_; clear h5; try clear N5
    refine vc_seq_k fun N6 h6 => ?_
    refine vc_seq_k fun N7 h7 => ?_
    refine vc_regG [] hmix (by kernel_rfl) ?_
    try refine lg_mk ?_
    refine t20_24 ?_
    refine t20_25 ?_
    refine t20_26 ?_
    refine lg_nil ?_
    refine h7 _ ?_; clear h7; try clear N7
    refine vc_cond_k (by simp only [w1, w3, eq_self, Nat.reduceEqDiff, reduceIte]; rfl) (fun hb8 => ?_) (fun hb8 => ?_)
    ·try simp only [b_rules, bif_and, bif_or] at hb8
     refine vc_seq_k fun N9 h9 => ?_
     refine vc_regG [] hmix (by kernel_rfl) ?_
     try refine lg_mk ?_
     refine t20_0 ?_
     refine lg_v (by exact t20a11) (by exact t20a1) (by exact t20a2) ?_
     refine t20_26 ?_
     refine t20_0 ?_
     first | (refine lg_g0 ?_ ?_; focus (simp only [guard_rules, list_rules, opt_bind, fr_rules, eq_self, Nat.reduceEqDiff, reduceIte, bool_rules]; done)) | refine t20_9 ?_
     first | (refine lg_g0 ?_ ?_; focus (simp only [guard_rules, list_rules, opt_bind, fr_rules, eq_self, Nat.reduceEqDiff, reduceIte, bool_rules]; done)) | refine t20_12 ?_
     refine t20_13 ?_
     refine t20_0 ?_
     refine lg_nil ?_
     refine h9 _ ?_; clear h9; try clear N9
     refine vc_ret ?_
     try simp only [k_rules]
     exact t20_27
    ·try simp only [b_rules, bif_and, bif_or] at hb8
     first | omega | exact absurd trivial hb8 | contradiction | (simp_all; done)
   ·refine vc_regG [] hmix (by kernel_rfl) ?_
    try refine lg_mk ?_
    refine t20_0 ?_
    refine t20_0 ?_
    refine t20_21 ?_
    refine t20_0 ?_
    refine t20_3 ?_
    refine t20_3 ?_
    refine t20_3 ?_
    refine t20_22 ?_
    refine t20_0 ?_
    refine t20_0 ?_
    refine t20_23 ?_
    refine lg_nil ?_
    refine h5 _ ?_; clear h5; try clear N5
    refine vc_seq_k fun N10 h10 => ?_
    refine vc_seq_k fun N11 h11 => ?_
    refine vc_regG [] hmix (by kernel_rfl) ?_
    try refine lg_mk ?_
    refine t20_24 ?_
    refine t20_25 ?_
    refine t20_26 ?_
    refine lg_nil ?_
    refine h11 _ ?_; clear h11; try clear N11
    refine vc_cond_k (by simp only [w1, w3, eq_self, Nat.reduceEqDiff, reduceIte]; rfl) (fun hb12 => ?_) (fun hb12 => ?_)
    ·try simp only [b_rules, bif_and, bif_or] at hb12
     first | omega | exact absurd trivial hb12 | contradiction | (simp_all; done)
    ·try simp only [b_rules, bif_and, bif_or] at hb12
     refine vc_skip ?_
     try simp only [k_rules]
     refine h10 _ ?_; clear h10; try clear N10
     refine vc_seq_k fun N13 h13 => ?_
     refine vc_regG [] hmix (by kernel_rfl) ?_
     try refine lg_mk ?_
     refine t20_0 ?_
     refine t20_0 ?_
     refine t20_28 ?_
     refine t20_0 ?_
     refine t20_29 ?_
     refine t20_29 ?_
     refine t20_29 ?_
     refine t20_30 ?_
     refine t20_0 ?_
     refine t20_0 ?_
     refine t20_31 ?_
     refine lg_nil ?_
     refine h13 _ ?_; clear h13; try clear N13
     refine vc_seq_k fun N14 h14 => ?_
     refine vc_seq_k fun N15 h15 => ?_
     refine vc_regG [] hmix (by kernel_rfl) ?_
     try refine lg_mk ?_
     refine t20_32 ?_
     refine t20_33 ?_
     refine t20_34 ?_
     refine t20_0 ?_
     first | (refine lg_g0 ?_ ?_; focus (simp only [guard_rules, list_rules, opt_bind, fr_rules, eq_self, Nat.reduceEqDiff, reduceIte, bool_rules, hbt]; done)) | refine t20_35 ?_
     first | (refine lg_g0 ?_ ?_; focus (simp only [guard_rules, list_rules, opt_bind, fr_rules, eq_self, Nat.reduceEqDiff, reduceIte, bool_rules, hbt]; done)) | refine t20_36 ?_
     first | (refine lg_g0 ?_ ?_; focus (simp only [guard_rules, list_rules, opt_bind, fr_rules, eq_self, Nat.reduceEqDiff, reduceIte, bool_rules, hbt]; done)) | refine t20_35 ?_
     first | (refine lg_g0 ?_ ?_; focus (simp only [guard_rules, list_rules, opt_bind, fr_rules, eq_self, Nat.reduceEqDiff, reduceIte, bool_rules, hbt]; done)) | refine t20_36 ?_
     first | (refine lg_g0 ?_ ?_; focus (simp only [guard_rules, list_rules, opt_bind, fr_rules, eq_self, Nat.reduceEqDiff, reduceIte, bool_rules, hbt]; done)) | refine t20_37 ?_
     refine t20_13 ?_
     refine t20_0 ?_
     first | (refine lg_g0 ?_ ?_; focus (simp only [guard_rules, list_rules, opt_bind, fr_rules, eq_self, Nat.reduceEqDiff, reduceIte, bool_rules, hbt]; done)) | refine t20_35 ?_
     first | (refine lg_g0 ?_ ?_; focus (simp only [guard_rules, list_rules, opt_bind, fr_rules, eq_self, Nat.reduceEqDiff, reduceIte, bool_rules, hbt]; done)) | refine t20_38 ?_
     first | (refine lg_g0 ?_ ?_; focus (simp only [guard_rules, list_rules, opt_bind, fr_rules, eq_self, Nat.reduceEqDiff, reduceIte, bool_rules, hbt]; done)) | refine t20_35 ?_
     first | (refine lg_g0 ?_ ?_; focus (simp only [guard_rules, list_rules, opt_bind, fr_rules, eq_self, Nat.reduceEqDiff, reduceIte, bool_rules, hbt]; done)) | refine t20_35 ?_
     first | (refine lg_g0 ?_ ?_; focus (simp only [guard_rules, list_rules, opt_bind, fr_rules, eq_self, Nat.reduceEqDiff, reduceIte, bool_rules, hbt]; done)) | refine t20_36 ?_
     first | (refine lg_g0 ?_ ?_; focus (simp only [guard_rules, list_rules, opt_bind, fr_rules, eq_self, Nat.reduceEqDiff, reduceIte, bool_rules, hbt]; done)) | refine t20_39 ?_
     first | (refine lg_g0 ?_ ?_; focus (simp only [guard_rules, list_rules, opt_bind, fr_rules, eq_self, Nat.reduceEqDiff, reduceIte, bool_rules, hbt]; done)) | refine t20_38 ?_
     first | (refine lg_g0 ?_ ?_; focus (simp only [guard_rules, list_rules, opt_bind, fr_rules, eq_self, Nat.reduceEqDiff, reduceIte, bool_rules, hbt]; done)) | refine t20_37 ?_
     refine t20_13 ?_
     refine lg_nil ?_
     refine h15 _ ?_; clear h15; try clear N15
     refine vc_cond_k (by simp only [w1, w3, eq_self, Nat.reduceEqDiff, reduceIte]; rfl) (fun hb16 => ?_) (fun hb16 => ?_)
     ·try simp only [b_rules, bif_and, bif_or] at hb16
      (try simp [hbt] at hb16) <;> omega
     ·try simp only [b_rules, bif_and, bif_or] at hb16
      refine vc_skip ?_
      try simp only [k_rules]
      refine h14 _ ?_; clear h14; try clear N14
      refine vc_seq_k fun N17 h17 => ?_
      refine vc_regG [] hmix (by kernel_rfl) ?_
      try refine lg_mk ?_
      refine t20_0 ?_
      refine t20_1 ?_
      refine t20_0 ?_
      first | (refine lg_g0 ?_ ?_; focus (simp only [guard_rules, list_rules, opt_bind, fr_rules, eq_self, Nat.reduceEqDiff, reduceIte, bool_rules]; done)) | refine t20_9 ?_
      first | (refine lg_g0 ?_ ?_; focus (simp only [guard_rules, list_rules, opt_bind, fr_rules, eq_self, Nat.reduceEqDiff, reduceIte, bool_rules]; done)) | refine t20_40 ?_
      first | (refine lg_g0 ?_ ?_; focus (simp only [guard_rules, list_rules, opt_bind, fr_rules, eq_self, Nat.reduceEqDiff, reduceIte, bool_rules]; done)) | refine t20_9 ?_
      first | (refine lg_g0 ?_ ?_; focus (simp only [guard_rules, list_rules, opt_bind, fr_rules, eq_self, Nat.reduceEqDiff, reduceIte, bool_rules]; done)) | refine t20_40 ?_
      first | (refine lg_g0 ?_ ?_; focus (simp only [guard_rules, list_rules, opt_bind, fr_rules, eq_self, Nat.reduceEqDiff, reduceIte, bool_rules]; done)) | refine t20_41 ?_
      first | (refine lg_g0 ?_ ?_; focus (simp only [guard_rules, list_rules, opt_bind, fr_rules, eq_self, Nat.reduceEqDiff, reduceIte, bool_rules]; done)) | refine t20_9 ?_
      first | (refine lg_g0 ?_ ?_; focus (simp only [guard_rules, list_rules, opt_bind, fr_rules, eq_self, Nat.reduceEqDiff, reduceIte, bool_rules]; done)) | refine t20_9 ?_
      first | (refine lg_g0 ?_ ?_; focus (simp only [guard_rules, list_rules, opt_bind, fr_rules, eq_self, Nat.reduceEqDiff, reduceIte, bool_rules]; done)) | refine t20_9 ?_
      first | (refine lg_g0 ?_ ?_; focus (simp only [guard_rules, list_rules, opt_bind, fr_rules, eq_self, Nat.reduceEqDiff, reduceIte, bool_rules]; done)) | refine t20_42 ?_
      first | (refine lg_g0 ?_ ?_; focus (simp only [guard_rules, list_rules, opt_bind, fr_rules, eq_self, Nat.reduceEqDiff, reduceIte, bool_rules]; done)) | refine t20_41 ?_
      first | (refine lg_g0 ?_ ?_; focus (simp only [guard_rules, list_rules, opt_bind, fr_rules, eq_self, Nat.reduceEqDiff, reduceIte, bool_rules]; done)) | refine t20_43 ?_
      refine t20_13 ?_
      refine t20_0 ?_
      refine lg_nil ?_
      refine h17 _ ?_; clear h17; try clear N17
      refine vc_ret ?_
      try simp only [k_rules]
      exact t20_27
   ·have hbt : l.take l.length = l := List.take_length
    have hbl : l.length ≤ l.length := Nat.le_refl _
    refine vc_regG [] hmix (by kernel_rfl) ?_
    try refine lg_mk ?_
    refine t20_0 ?_
    refine t20_0 ?_
    refine t20_21 ?_
    refine t20_0 ?_
    refine t20_3 ?_
    refine t20_3 ?_
    refine t20_3 ?_
    refine t20_22 ?_
    refine t20_0 ?_
    refine t20_0 ?_
    refine t20_23 ?_
    refine lg_nil ?_
    refine h5 _ ?_; clear h5; try clear N5
    refine vc_seq_k fun N18 h18 => ?_
    refine vc_seq_k fun N19 h19 => ?_
    refine vc_regG [] hmix (by kernel_rfl) ?_
    try refine lg_mk ?_
    refine t20_24 ?_
    refine t20_25 ?_
    refine t20_26 ?_
    refine lg_nil ?_
    refine h19 _ ?_; clear h19; try clear N19
    refine vc_cond_k (by simp only [w1, w3, eq_self, Nat.reduceEqDiff, reduceIte]; rfl) (fun hb20 => ?_) (fun hb20 => ?_)
    ·try simp only [b_rules, bif_and, bif_or] at hb20
     first | omega | exact absurd trivial hb20 | contradiction | (simp_all; done)
    ·try simp only [b_rules, bif_and, bif_or] at hb20
     refine vc_skip ?_
     try simp only [k_rules]
     refine h18 _ ?_; clear h18; try clear N18
     refine vc_seq_k fun N21 h21 => ?_
     refine vc_regG [] hmix (by kernel_rfl) ?_
     try refine lg_mk ?_
     refine t20_0 ?_
     refine t20_0 ?_
     refine t20_28 ?_
     refine t20_0 ?_
     refine t20_29 ?_
     refine t20_29 ?_
     refine t20_29 ?_
     refine t20_30 ?_
     refine t20_0 ?_
     refine t20_0 ?_
     refine t20_31 ?_
     refine lg_nil ?_
     refine h21 _ ?_; clear h21; try clear N21
     refine vc_seq_k fun N22 h22 => ?_
     refine vc_seq_k fun N23 h23 => ?_
     refine vc_regG [] hmix (by kernel_rfl) ?_
     try refine lg_mk ?_
     refine t20_32 ?_
     refine t20_33 ?_
     refine t20_34 ?_
     refine t20_0 ?_
     first | (refine lg_g0 ?_ ?_; focus (simp only [guard_rules, list_rules, opt_bind, fr_rules, eq_self, Nat.reduceEqDiff, reduceIte, bool_rules, hbt]; done)) | refine t20_35 ?_
     first | (refine lg_g0 ?_ ?_; focus (simp only [guard_rules, list_rules, opt_bind, fr_rules, eq_self, Nat.reduceEqDiff, reduceIte, bool_rules, hbt]; done)) | refine t20_36 ?_
     first | (refine lg_g0 ?_ ?_; focus (simp only [guard_rules, list_rules, opt_bind, fr_rules, eq_self, Nat.reduceEqDiff, reduceIte, bool_rules, hbt]; done)) | refine t20_35 ?_
     first | (refine lg_g0 ?_ ?_; focus (simp only [guard_rules, list_rules, opt_bind, fr_rules, eq_self, Nat.reduceEqDiff, reduceIte, bool_rules, hbt]; done)) | refine t20_36 ?_
     first | (refine lg_g0 ?_ ?_; focus (simp only [guard_rules, list_rules, opt_bind, fr_rules, eq_self, Nat.reduceEqDiff, reduceIte, bool_rules, hbt]; done)) | refine t20_37 ?_
     refine t20_13 ?_
     refine t20_0 ?_
     first | (refine lg_g0 ?_ ?_; focus (simp only [guard_rules, list_rules, opt_bind, fr_rules, eq_self, Nat.reduceEqDiff, reduceIte, bool_rules, hbt]; done)) | refine t20_35 ?_
     first | (refine lg_g0 ?_ ?_; focus (simp only [guard_rules, list_rules, opt_bind, fr_rules, eq_self, Nat.reduceEqDiff, reduceIte, bool_rules, hbt]; done)) | refine t20_38 ?_
     first | (refine lg_g0 ?_ ?_; focus (simp only [guard_rules, list_rules, opt_bind, fr_rules, eq_self, Nat.reduceEqDiff, reduceIte, bool_rules, hbt]; done)) | refine t20_35 ?_
     first | (refine lg_g0 ?_ ?_; focus (simp only [guard_rules, list_rules, opt_bind, fr_rules, eq_self, Nat.reduceEqDiff, reduceIte, bool_rules, hbt]; done)) | refine t20_35 ?_
     first | (refine lg_g0 ?_ ?_; focus (simp only [guard_rules, list_rules, opt_bind, fr_rules, eq_self, Nat.reduceEqDiff, reduceIte, bool_rules, hbt]; done)) | refine t20_36 ?_
     first | (refine lg_g0 ?_ ?_; focus (simp only [guard_rules, list_rules, opt_bind, fr_rules, eq_self, Nat.reduceEqDiff, reduceIte, bool_rules, hbt]; done)) | refine t20_39 ?_
     first | (refine lg_g0 ?_ ?_; focus (simp only [guard_rules, list_rules, opt_bind, fr_rules, eq_self, Nat.reduceEqDiff, reduceIte, bool_rules, hbt]; done)) | refine t20_38 ?_
     first | (refine lg_g0 ?_ ?_; focus (simp only [guard_rules, list_rules, opt_bind, fr_rules, eq_self, Nat.reduceEqDiff, reduceIte, bool_rules, hbt]; done)) | refine t20_37 ?_
     refine t20_13 ?_
     refine lg_nil ?_
     refine h23 _ ?_; clear h23; try clear N23
     refine vc_cond_k (by simp only [w1, w3, eq_self, Nat.reduceEqDiff, reduceIte]; rfl) (fun hb24 => ?_) (fun hb24 => ?_)
     ·try simp only [b_rules, bif_and, bif_or] at hb24
      (try simp [hbt] at hb24) <;> omega
     ·try simp only [b_rules, bif_and, bif_or] at hb24
      refine vc_skip ?_
      try simp only [k_rules]
      refine h22 _ ?_; clear h22; try clear N22
      refine vc_seq_k fun N25 h25 => ?_
      refine vc_regG [] hmix (by kernel_rfl) ?_
      try refine lg_mk ?_
      refine t20_0 ?_
      refine t20_1 ?_
      refine t20_0 ?_
      first | (refine lg_g0 ?_ ?_; focus (simp only [guard_rules, list_rules, opt_bind, fr_rules, eq_self, Nat.reduceEqDiff, reduceIte, bool_rules]; done)) | refine t20_9 ?_
      first | (refine lg_g0 ?_ ?_; focus (simp only [guard_rules, list_rules, opt_bind, fr_rules, eq_self, Nat.reduceEqDiff, reduceIte, bool_rules]; done)) | refine t20_40 ?_
      first | (refine lg_g0 ?_ ?_; focus (simp only [guard_rules, list_rules, opt_bind, fr_rules, eq_self, Nat.reduceEqDiff, reduceIte, bool_rules]; done)) | refine t20_9 ?_
      first | (refine lg_g0 ?_ ?_; focus (simp only [guard_rules, list_rules, opt_bind, fr_rules, eq_self, Nat.reduceEqDiff, reduceIte, bool_rules]; done)) | refine t20_40 ?_
      first | (refine lg_g0 ?_ ?_; focus (simp only [guard_rules, list_rules, opt_bind, fr_rules, eq_self, Nat.reduceEqDiff, reduceIte, bool_rules]; done)) | refine t20_41 ?_
      first | (refine lg_g0 ?_ ?_; focus (simp only [guard_rules, list_rules, opt_bind, fr_rules, eq_self, Nat.reduceEqDiff, reduceIte, bool_rules]; done)) | refine t20_9 ?_
      first | (refine lg_g0 ?_ ?_; focus (simp only [guard_rules, list_rules, opt_bind, fr_rules, eq_self, Nat.reduceEqDiff, reduceIte, bool_rules]; done)) | refine t20_9 ?_
      first | (refine lg_g0 ?_ ?_; focus (simp only [guard_rules, list_rules, opt_bind, fr_rules, eq_self, Nat.reduceEqDiff, reduceIte, bool_rules]; done)) | refine t20_9 ?_
      first | (refine lg_g0 ?_ ?_; focus (simp only [guard_rules, list_rules, opt_bind, fr_rules, eq_self, Nat.reduceEqDiff, reduceIte, bool_rules]; done)) | refine t20_42 ?_
      first | (refine lg_g0 ?_ ?_; focus (simp only [guard_rules, list_rules, opt_bind, fr_rules, eq_self, Nat.reduceEqDiff, reduceIte, bool_rules]; done)) | refine t20_41 ?_
      first | (refine lg_g0 ?_ ?_; focus (simp only [guard_rules, list_rules, opt_bind, fr_rules, eq_self, Nat.reduceEqDiff, reduceIte, bool_rules]; done)) | refine t20_43 ?_
      refine t20_13 ?_
      refine t20_0 ?_
      refine lg_nil ?_
      refine h25 _ ?_; clear h25; try clear N25
      refine vc_ret ?_
      try simp only [k_rules]
      exact t20_27
 ·cases hg

def E_lawDelivers : Env Try.prog := E_lawGrows.add 7 (Spec.pure lawBG) lawDelivers_meets (by kernel_rfl)

theorem g_lawDelivers : (E_lawDelivers.X = T) ∧ (E_lawDelivers.Γ 11 = some (Spec.pure faultG)) ∧ (E_lawDelivers.Γ 18 = some (Spec.pure inG)) ∧ (E_lawDelivers.Γ 16 = some (Spec.pure planOfG)) ∧ (E_lawDelivers.Γ 20 = some (Spec.pure (cloneG 1 1))) ∧ (E_lawDelivers.Γ 27 = some (Spec.gen (deleteG 3))) ∧ (E_lawDelivers.Γ 25 = some (Spec.gen pickG)) ∧ (E_lawDelivers.Γ 21 = some (Spec.gen stepG)) ∧ (E_lawDelivers.Γ 19 = some (Spec.pure (chunkG 24))) ∧ (E_lawDelivers.Γ 9 = some (Spec.pure framesG)) ∧ (E_lawDelivers.Γ 12 = some (Spec.pure countG)) ∧ (E_lawDelivers.Γ 13 = some (Spec.pure frameOfG)) ∧ (E_lawDelivers.Γ 23 = some (Spec.fresh withoutG)) ∧ (E_lawDelivers.Γ 26 = some (Spec.fresh growG)) ∧ (E_lawDelivers.Γ 22 = some (Spec.pure concatG)) ∧ (E_lawDelivers.Γ 10 = some (Spec.pure runG)) ∧ (E_lawDelivers.Γ 14 = some (Spec.pure toG)) ∧ (E_lawDelivers.Γ 17 = some (Spec.pure eventsG)) ∧ (E_lawDelivers.Γ 15 = some (Spec.pure planG)) ∧ (E_lawDelivers.Γ 8 = some (Spec.pure exampleG)) ∧ (E_lawDelivers.Γ 3 = some (Spec.pure lawEG)) ∧ (E_lawDelivers.Γ 4 = some (Spec.pure lawBG)) ∧ (E_lawDelivers.Γ 5 = some (Spec.pure lawEG)) ∧ (E_lawDelivers.Γ 6 = some (Spec.pure lawEkG)) ∧ (E_lawDelivers.Γ 7 = some (Spec.pure lawBG)) := ⟨rfl, rfl, rfl, rfl, rfl, rfl, rfl, rfl, rfl, rfl, rfl, rfl, rfl, rfl, rfl, rfl, rfl, rfl, rfl, rfl, rfl, rfl, rfl, rfl, rfl⟩
end Go.Proofs.Ythklbefnmcoojaa
