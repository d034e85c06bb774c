/- Walks, printed by wip/gen/walk.py. -/
import Derived.Test.YthklbefnmcoojaaT12
set_option linter.all false
set_option maxRecDepth 100000
set_option maxHeartbeats 4000000
namespace Go.Proofs.Ythklbefnmcoojaa
open Go Go.Vc Go.RowKit
section
variable [Far] {P : Program} {E : Env P} {W0 : World} {M0 : Nat → Prop} {dr : Bool} {calm : List FuncId} {ops : Array Oper} {K : St → Prop} {o : Op} {d : Option Tmp} {t : TypeId} {p : String} {af : Array Edge} {r : List Oper} {fr : Nat → AV} {H H' : Heap} {n n' : Nat} {q : Prop} {c : AV} {b : Bool} {gd : Nat × Bool}
theorem t13a0 {p : Prop} (h : p := by simp only [nd_rules, nd_slice, ev_rules, fr_rules, av_rules, eq_self, Nat.reduceEqDiff, reduceIte, and_true, true_and, map_rules, List.map_cons, List.map_nil]) : p := h
theorem t13a1 {p : Prop} (h : p := by (first | trivial | omega | assumption | (unfold inI64; omega) | (simp; done) | (simp; omega))) : p := h
theorem t13_0 (hk : AG W0 M0 dr calm E ops K r ⟨putD d c fr, H, n⟩) (h : aOp E fr H n o = .v q c := by simp only [op_rules, ev_rules, fr_rules, av_rules, rs_rules, eq_self, Nat.reduceEqDiff, reduceIte, bw]; rfl) (hn : ndO fr o := by exact t13a0) (hq : q := by exact t13a1) : AG W0 M0 dr calm E ops K (⟨d, o, t, p, af, none⟩ :: r) ⟨fr, H, n⟩ := lg_v h hn hq hk
theorem t13_1 (hk : AG W0 M0 dr calm E ops K r ⟨putD d c fr, H', n'⟩) (h : aOp E fr H n o = .h q c H' n' := by simp only [op_rules, ev_rules, fr_rules, av_rules, rs_rules, eq_self, Nat.reduceEqDiff, reduceIte, bw, aAlloc, env_rules, tys, g_concatU, tiAgg, list_rules, opt_rules, map_rules, rows_get, rows_len, rows_drop, rows_take, rows_app, rows_nil, rows_set, Int.toNat_natCast, Int.reduceToNat, Nat.reduceAdd, Nat.reduceMul, Nat.reduceSub, Nat.reduceLeDiff, Nat.zero_add, Nat.add_zero, true_and, and_true, and_assoc, rect_eI, rect_eB, rect_eU, rect_eS, rect_eL, rect_nil, rect_cons, bytes_is, bytes_str, splice_rules, cell_rules, fill_rules, bnd_rules, or_false, false_or, not_true_eq_false, not_false_eq_true, rect_eE, hnil]; rfl) (hn : ndO fr o := by exact t13a0) (hq : q := by exact t13a1) (hl : (dr && growB calm d o) = true → HLe H H' := by exact (fun h => Bool.noConfusion (show false = true from h))) : AG W0 M0 dr calm E ops K (⟨d, o, t, p, af, none⟩ :: r) ⟨fr, H, n⟩ := lg_h h hn hq hl hk
theorem t13_2 (hk : AG W0 M0 dr calm E ops K r ⟨putD d c fr, H', n'⟩) (h : aOp E fr H n o = .h q c H' n' := by simp only [call_rule (E := (E_concatU.at_ 51)) (f := 9) (sp := Spec.pure framesG) rfl, op_rules, ev_rules, fr_rules, av_rules, rs_rules, eq_self, Nat.reduceEqDiff, reduceIte, bw, callS, rd_rules, pure_rules, framesG, sc_rules, heap_rules, list_rules, opt_rules, map_rules, rows_get, rows_len, rows_drop, rows_take, rows_app, rows_nil, rows_set, Int.toNat_natCast, Int.reduceToNat, Nat.reduceAdd, Nat.reduceMul, Nat.reduceSub, Nat.reduceLeDiff, Nat.zero_add, Nat.add_zero, true_and, and_true, and_assoc, rect_eI, rect_eB, rect_eU, rect_eS, rect_eL, rect_nil, rect_cons, bytes_is, bytes_str, splice_rules, cell_rules, fill_rules, bnd_rules, or_false, false_or, not_true_eq_false, not_false_eq_true, List.mem_cons, List.not_mem_nil, dI_rows, dB_rows, dU_rows, rect_eE, hnil, hq, if_true, if_false, ite_true, ite_false]; rfl) (hn : ndO fr o := by exact t13a0) (hq : q := by exact t13a1) (hl : (dr && growB calm d o) = true → HLe H H' := by exact (fun h => Bool.noConfusion (show false = true from h))) : AG W0 M0 dr calm E ops K (⟨d, o, t, p, af, none⟩ :: r) ⟨fr, H, n⟩ := lg_h h hn hq hl hk
theorem t13_3 (hk : AG W0 M0 dr calm E ops K r ⟨putD d c fr, H, n⟩) (h : aOp E fr H n o = .v q c := by simp only [op_rules, ev_rules, fr_rules, av_rules, rs_rules, eq_self, Nat.reduceEqDiff, reduceIte, bw, op_rules2, aExtract, list_rules, rect_eE, hnil, hq, if_true, if_false, ite_true, ite_false]; rfl) (hn : ndO fr o := by exact t13a0) (hq : q := by exact t13a1) : AG W0 M0 dr calm E ops K (⟨d, o, t, p, af, none⟩ :: r) ⟨fr, H, n⟩ := lg_v h hn hq hk
theorem t13_4 (hk : AG W0 M0 dr calm E ops K r ⟨putD d c fr, H', n'⟩) (h : aOp E fr H n o = .h q c H' n' := by simp only [op_rules, ev_rules, fr_rules, av_rules, rs_rules, eq_self, Nat.reduceEqDiff, reduceIte, bw, aStore, env_rules, tys, g_concatU, tiAgg, list_rules, opt_rules, map_rules, rows_get, rows_len, rows_drop, rows_take, rows_app, rows_nil, rows_set, Int.toNat_natCast, Int.reduceToNat, Nat.reduceAdd, Nat.reduceMul, Nat.reduceSub, Nat.reduceLeDiff, Nat.zero_add, Nat.add_zero, true_and, and_true, and_assoc, rect_eI, rect_eB, rect_eU, rect_eS, rect_eL, rect_nil, rect_cons, bytes_is, bytes_str, splice_rules, cell_rules, fill_rules, bnd_rules, or_false, false_or, not_true_eq_false, not_false_eq_true, rect_eE, hnil, hq, if_true, if_false, ite_true, ite_false]; rfl) (hn : ndO fr o := by exact t13a0) (hq : q := by exact t13a1) (hl : (dr && growB calm d o) = true → HLe H H' := by exact (fun h => Bool.noConfusion (show false = true from h))) : AG W0 M0 dr calm E ops K (⟨d, o, t, p, af, none⟩ :: r) ⟨fr, H, n⟩ := lg_h h hn hq hl hk
theorem t13_5 (hk : AG W0 M0 dr calm E ops K r ⟨putD d c fr, H, n⟩) (h : aOp E fr H n o = .v q c := by simp only [op_rules, ev_rules, fr_rules, av_rules, rs_rules, eq_self, Nat.reduceEqDiff, reduceIte, bw, op_rules2, aLoad, loadRow, env_rules, tys, g_concatU, tiAgg, list_rules, opt_rules, map_rules, rows_get, rows_len, rows_drop, rows_take, rows_app, rows_nil, rows_set, Int.toNat_natCast, Int.reduceToNat, Nat.reduceAdd, Nat.reduceMul, Nat.reduceSub, Nat.reduceLeDiff, Nat.zero_add, Nat.add_zero, true_and, and_true, and_assoc, rect_eI, rect_eB, rect_eU, rect_eS, rect_eL, rect_nil, rect_cons, bytes_is, bytes_str, splice_rules, cell_rules, fill_rules, bnd_rules, or_false, false_or, not_true_eq_false, not_false_eq_true, rect_eE, hnil]; rfl) (hn : ndO fr o := by exact t13a0) (hq : q := by exact t13a1) : AG W0 M0 dr calm E ops K (⟨d, o, t, p, af, none⟩ :: r) ⟨fr, H, n⟩ := lg_v h hn hq hk
theorem t13_6 (hk : AG W0 M0 dr calm E ops K r ⟨putD d c fr, H, n⟩) (h : aOp E fr H n o = .v q c := by simp only [op_rules, ev_rules, fr_rules, av_rules, rs_rules, eq_self, Nat.reduceEqDiff, reduceIte, bw, op_rules2, aBuild, env_rules, tys, g_concatU, tiAgg, list_rules, opt_rules, map_rules, rows_get, rows_len, rows_drop, rows_take, rows_app, rows_nil, rows_set, Int.toNat_natCast, Int.reduceToNat, Nat.reduceAdd, Nat.reduceMul, Nat.reduceSub, Nat.reduceLeDiff, Nat.zero_add, Nat.add_zero, true_and, and_true, and_assoc, rect_eI, rect_eB, rect_eU, rect_eS, rect_eL, rect_nil, rect_cons, bytes_is, bytes_str, splice_rules, cell_rules, fill_rules, bnd_rules, or_false, false_or, not_true_eq_false, not_false_eq_true, rect_eE, hnil]; rfl) (hn : ndO fr o := by exact t13a0) (hq : q := by exact t13a1) : AG W0 M0 dr calm E ops K (⟨d, o, t, p, af, none⟩ :: r) ⟨fr, H, n⟩ := lg_v h hn hq hk
theorem t13_7 (hk : AG W0 M0 dr calm E ops K r ⟨putD d c fr, H, n⟩) (h : aOp E fr H n o = .v q c := by simp only [op_rules, ev_rules, fr_rules, av_rules, rs_rules, eq_self, Nat.reduceEqDiff, reduceIte, bw, env_rules, tys, g_concatU, tiAgg, bin_rules, ar_rules, str_rules, eq_rules, bit_rules, Bool.true_and, Bool.and_true, rect_eE, hnil]; rfl) (hn : ndO fr o := by exact t13a0) (hq : q := by exact t13a1) : AG W0 M0 dr calm E ops K (⟨d, o, t, p, af, none⟩ :: r) ⟨fr, H, n⟩ := lg_v h hn hq hk
theorem t13a2 {p : Prop} (h : p := by simp only [op_rules, ev_rules, fr_rules, av_rules, rs_rules, eq_self, Nat.reduceEqDiff, reduceIte, bw, aStore, env_rules, tys, g_concatU, tiAgg, list_rules, opt_rules, map_rules, rows_get, rows_len, rows_drop, rows_take, rows_app, rows_nil, rows_set, Int.toNat_natCast, Int.reduceToNat, Nat.reduceAdd, Nat.reduceMul, Nat.reduceSub, Nat.reduceLeDiff, Nat.zero_add, Nat.add_zero, true_and, and_true, and_assoc, rect_eI, rect_eB, rect_eU, rect_eS, rect_eL, rect_nil, rect_cons, bytes_is, bytes_str, splice_rules, cell_rules, fill_rules, bnd_rules, or_false, false_or, not_true_eq_false, not_false_eq_true, rect_eE, hnil]; rfl) : p := h
theorem t13a3 {p : Prop} (h : p := by first | exact (fun h => Bool.noConfusion (show false = true from h)) | exact hle_refl _ _ _ _ _ | exact hle_getB _ _ _ _ (by simp only [le_rules, eq_self, and_true, true_and])) : p := h
theorem t13_8 (hk : AG W0 M0 dr calm E ops K r ⟨putD d c fr, H', n'⟩) (h : aOp E fr H n o = .h q c H' n' := by exact t13a2) (hn : ndO fr o := by exact t13a0) (hq : q := by exact t13a1) (hl : (dr && growB calm d o) = true → HLe H H' := by exact t13a3) : AG W0 M0 dr calm E ops K (⟨d, o, t, p, af, none⟩ :: r) ⟨fr, H, n⟩ := lg_h h hn hq hl hk
theorem t13_9 {p : Prop} (h : p := by (simp only [w1, w2, w3, tys, k_rules, eq_self, Nat.reduceEqDiff, Nat.reduceLeDiff, Nat.reduceAdd, Nat.reduceSub, Nat.reduceMul, Int.toNat_natCast, Int.reduceToNat, Int.reduceNeg, List.mem_cons, List.not_mem_nil, or_false, false_or, not_true_eq_false, not_false_eq_true, bif_and, bif_or, reduceIte, true_and, and_true, and_assoc, true_implies, forall_const, implies_true, Bool.true_eq_false, Bool.false_eq_true, false_implies, rows_len, rows_get, rows_drop, rows_take, rows_app, rows_nil, rect_nil, rect_eI, rect_eB, rect_eU, rect_eS, rect_eL, rect_eE, hnil, w4, Try.results10, reduceCtorEq, false_or, or_true, true_or]) <;> (try simp only [w1, w2, w3, tys, k_rules, eq_self, Nat.reduceEqDiff, Nat.reduceLeDiff, Nat.reduceAdd, Nat.reduceSub, Nat.reduceMul, Int.toNat_natCast, Int.reduceToNat, Int.reduceNeg, List.mem_cons, List.not_mem_nil, or_false, false_or, not_true_eq_false, not_false_eq_true, bif_and, bif_or, reduceIte, true_and, and_true, and_assoc, true_implies, forall_const, implies_true, Bool.true_eq_false, Bool.false_eq_true, false_implies, rows_len, rows_get, rows_drop, rows_take, rows_app, rows_nil, rect_nil, rect_eI, rect_eB, rect_eU, rect_eS, rect_eL, rect_eE, hnil, w4, Try.results10, reduceCtorEq, false_or, or_true, true_or]) <;> (repeat' apply And.intro) <;> (first | rfl | (rw [dUU_rows]; exact Or.inl rfl) | exact Or.inl rfl | exact Or.inr rfl | trivial | exact Nat.le_refl _ | omega | (simp; done))) : p := h
theorem t13_10 (hk : AG W0 M0 dr calm E ops K r ⟨putD d c fr, H, n⟩) (h : aOp E fr H n o = .v q c := by simp only [op_rules, ev_rules, fr_rules, av_rules, rs_rules, eq_self, Nat.reduceEqDiff, reduceIte, bw, op_rules2, aLen, env_rules, tys, g_concatU, tiAgg, list_rules, opt_rules, map_rules, rows_get, rows_len, rows_drop, rows_take, rows_app, rows_nil, rows_set, Int.toNat_natCast, Int.reduceToNat, Nat.reduceAdd, Nat.reduceMul, Nat.reduceSub, Nat.reduceLeDiff, Nat.zero_add, Nat.add_zero, true_and, and_true, and_assoc, rect_eI, rect_eB, rect_eU, rect_eS, rect_eL, rect_nil, rect_cons, bytes_is, bytes_str, splice_rules, cell_rules, fill_rules, bnd_rules, or_false, false_or, not_true_eq_false, not_false_eq_true, rect_eE, hnil]; rfl) (hn : ndO fr o := by exact t13a0) (hq : q := by exact t13a1) : AG W0 M0 dr calm E ops K (⟨d, o, t, p, af, none⟩ :: r) ⟨fr, H, n⟩ := lg_v h hn hq hk
theorem t13_11 (hk : AG W0 M0 dr calm E ops K r ⟨putD d c fr, H', n'⟩) (h : aOp E fr H n o = .h q c H' n' := by exact t13a2) (hn : ndO fr o := by exact t13a0) (hq : q := by exact t13a1) (hl : (dr && growB calm d o) = true → HLe H H' := by exact (fun h => Bool.noConfusion (show false = true from h))) : AG W0 M0 dr calm E ops K (⟨d, o, t, p, af, none⟩ :: r) ⟨fr, H, n⟩ := lg_h h hn hq hl hk
theorem t13_12 {p : Prop} (h : p := by (simp only [w1, w2, w3, tys, k_rules, eq_self, Nat.reduceEqDiff, Nat.reduceLeDiff, Nat.reduceAdd, Nat.reduceSub, Nat.reduceMul, Int.toNat_natCast, Int.reduceToNat, Int.reduceNeg, List.mem_cons, List.not_mem_nil, or_false, false_or, not_true_eq_false, not_false_eq_true, bif_and, bif_or, reduceIte, true_and, and_true, and_assoc, true_implies, forall_const, implies_true, Bool.true_eq_false, Bool.false_eq_true, false_implies, rows_len, rows_get, rows_drop, rows_take, rows_app, rows_nil, rect_nil, rect_eI, rect_eB, rect_eU, rect_eS, rect_eL, rect_eE, hnil, w4]) <;> (repeat' apply And.intro) <;> (first | rfl | exact Or.inr rfl | exact Or.inl rfl | trivial | omega | assumption | (simp; done) | (simp; omega))) : p := h
theorem t13_13 (hk : AG W0 M0 dr calm E ops K r ⟨putD d c fr, H, n⟩) (h : aOp E fr H n o = .v q c := by simp only [op_rules, ev_rules, fr_rules, av_rules, rs_rules, eq_self, Nat.reduceEqDiff, reduceIte, bw, op_rules2, aLoad, loadRow, env_rules, tys, g_concatU, tiAgg, list_rules, opt_rules, map_rules, rows_get, rows_len, rows_drop, rows_take, rows_app, rows_nil, rows_set, Int.toNat_natCast, Int.reduceToNat, Nat.reduceAdd, Nat.reduceMul, Nat.reduceSub, Nat.reduceLeDiff, Nat.zero_add, Nat.add_zero, true_and, and_true, and_assoc, rect_eI, rect_eB, rect_eU, rect_eS, rect_eL, rect_nil, rect_cons, bytes_is, bytes_str, splice_rules, cell_rules, fill_rules, bnd_rules, or_false, false_or, not_true_eq_false, not_false_eq_true, rect_eE, hnil, hc, eb, linkB, intsB, eE, dI_rows]; rfl) (hn : ndO fr o := by exact t13a0) (hq : q := by exact t13a1) : AG W0 M0 dr calm E ops K (⟨d, o, t, p, af, none⟩ :: r) ⟨fr, H, n⟩ := lg_v h hn hq hk
theorem t13_14 (hk : AG W0 M0 dr calm E ops K r ⟨putD d c fr, H', n'⟩) (h : aOp E fr H n o = .h q c H' n' := by simp only [call_rule (E := (E_concatU.at_ 51)) (f := 21) (sp := Spec.gen stepG) rfl, op_rules, ev_rules, fr_rules, av_rules, rs_rules, eq_self, Nat.reduceEqDiff, reduceIte, bw, callS, rd_rules, pure_rules, stepG, sc_rules, heap_rules, list_rules, opt_rules, map_rules, rows_get, rows_len, rows_drop, rows_take, rows_app, rows_nil, rows_set, Int.toNat_natCast, Int.reduceToNat, Nat.reduceAdd, Nat.reduceMul, Nat.reduceSub, Nat.reduceLeDiff, Nat.zero_add, Nat.add_zero, true_and, and_true, and_assoc, rect_eI, rect_eB, rect_eU, rect_eS, rect_eL, rect_nil, rect_cons, bytes_is, bytes_str, splice_rules, cell_rules, fill_rules, bnd_rules, or_false, false_or, not_true_eq_false, not_false_eq_true, List.mem_cons, List.not_mem_nil, dI_rows, dB_rows, dU_rows, gen_rules, gw, gen_heap, gen_heap0, allSome, Nat.reduceAdd, Nat.reduceSub, Nat.reduceLT, Nat.reduceLeDiff, if_true, if_false, ite_self, List.mem_append, true_implies, Option.bind_some, rect_eE, hnil, hc, eb, linkB, intsB, eE, dI_rows]; rfl) (hn : ndO fr o := by exact t13a0) (hq : q := by (first | ((repeat' apply And.intro) <;> first | rfl | trivial | omega | (simp [dI_rows]; done) | (simp [dI_rows]; omega)) | (first | trivial | omega | assumption | (unfold inI64; omega) | (simp; done) | (simp; omega)))) (hl : (dr && growB calm d o) = true → HLe H H' := by exact (fun h => Bool.noConfusion (show false = true from h))) : AG W0 M0 dr calm E ops K (⟨d, o, t, p, af, none⟩ :: r) ⟨fr, H, n⟩ := lg_h h hn hq hl hk
theorem t13_15 (hk : AG W0 M0 dr calm E ops K r ⟨putD d c fr, H, n⟩) (h : aOp E fr H n o = .v q c := by simp only [op_rules, ev_rules, fr_rules, av_rules, rs_rules, eq_self, Nat.reduceEqDiff, reduceIte, bw, op_rules2, aFieldAddr, aField, aIndexAddr, aIndex, aPart, env_rules, tys, g_concatU, tiAgg, list_rules, opt_rules, map_rules, rows_get, rows_len, rows_drop, rows_take, rows_app, rows_nil, rows_set, Int.toNat_natCast, Int.reduceToNat, Nat.reduceAdd, Nat.reduceMul, Nat.reduceSub, Nat.reduceLeDiff, Nat.zero_add, Nat.add_zero, true_and, and_true, and_assoc, rect_eI, rect_eB, rect_eU, rect_eS, rect_eL, rect_nil, rect_cons, bytes_is, bytes_str, splice_rules, cell_rules, fill_rules, bnd_rules, or_false, false_or, not_true_eq_false, not_false_eq_true, rect_eE, hnil]; rfl) (hn : ndO fr o := by exact t13a0) (hq : q := by exact t13a1) : AG W0 M0 dr calm E ops K (⟨d, o, t, p, af, none⟩ :: r) ⟨fr, H, n⟩ := lg_v h hn hq hk
end
/-- What step leaves, by cases; the boxes as they then lie. -/
theorem step_outs {t : TypeId} {total a tk : Int} {fs ws : List Int} {k n : Int} :
    (stepCode total a fs ws k n ≠ 0 ∧ stepBf t total a tk fs ws k n = [linkB t total a tk 1 2 fs.length ws.length, intsB fs, intsB ws]) ∨
    (stepCode total a fs ws k n = 0 ∧ ∃ fs', stepL (a, tk, fs, ws) k n = (a, tk, fs', ws) ∧ stepBf t total a tk fs ws k n = [linkB t total a tk 3 2 fs'.length ws.length, none, intsB ws, intsB fs']) ∨
    (stepCode total a fs ws k n = 0 ∧ ∃ tk' fs' ws', stepL (a, tk, fs, ws) k n = (a, tk', fs', ws') ∧ stepBf t total a tk fs ws k n = [linkB t total a tk' 1 3 fs'.length ws'.length, intsB fs', none, intsB ws']) ∨
    (stepCode total a fs ws k n = 0 ∧ ∃ a' fs' ws', stepL (a, tk, fs, ws) k n = (a', tk, fs', ws') ∧ stepBf t total a tk fs ws k n = [linkB t total a' tk 1 2 fs'.length ws'.length, intsB fs', intsB ws']) := by
  by_cases h : stepCode total a fs ws k n = 0
  · right
    rcases stepCode_cases h with ⟨rfl, rfl, ha⟩ | ⟨hk | hk | hk, ho⟩ | ⟨hk | hk, ho⟩
    · exact .inl ⟨h, _, rfl, by rw [(sc_1c ha).2]; simp⟩
    · subst hk; exact .inr (.inl ⟨h, _, _, _, rfl, by rw [(sc_2 ho).2]; simp⟩)
    · subst hk; exact .inr (.inr ⟨h, _, _, _, rfl, (sc_3 ho).2⟩)
    · subst hk; exact .inl ⟨h, _, rfl, by rw [(sc_4 ho).2]; simp⟩
    · subst hk; exact .inr (.inr ⟨h, _, _, _, rfl, (sc_5 ho).2⟩)
    · subst hk; exact .inr (.inr ⟨h, _, _, _, rfl, (sc_6 ho).2⟩)
  · exact .inl ⟨h, by unfold stepBf; rw [if_pos h]⟩
theorem framesOf_take (l : List UInt8) (k : Nat) : ((framesOf l).take k).flatten = l.take (16 * k) := by
  induction k with
  | zero => simp
  | succ k ih =>
    rw [List.take_add_one, List.flatten_append, ih]
    by_cases hk : k < (l.length + 15) / 16
    · have hc : (framesOf l)[k]? = some ((l.drop (16 * k)).take 16) := by simp [framesOf, List.getElem?_range hk]
      rw [hc, show 16 * (k + 1) = 16 * k + 16 by omega, List.take_add]; simp
    · have hc : (framesOf l)[k]? = none := List.getElem?_eq_none (by rw [framesOf_len]; omega)
      rw [hc, List.take_of_length_le (by omega : l.length ≤ 16 * k), List.take_of_length_le (by omega : l.length ≤ 16 * (k + 1))]; simp
theorem runL_cons {total : Int} {s : LS} {es : List Ev} {i : Nat} {e : Ev} (he : es[i]? = some e) : runL total s (es.drop i) i = if stepCode total s.1 s.2.2.1 s.2.2.2 e.1 e.2 = 0 then runL total (stepL s e.1 e.2) (es.drop (i + 1)) (i + 1) else .inl (stepCode total s.1 s.2.2.1 s.2.2.2 e.1 e.2, i) := by
  obtain ⟨h1, h2⟩ := List.getElem?_eq_some_iff.1 he
  rw [List.drop_eq_getElem_cons h1, runL, h2]

theorem run_meets : Meets Try.prog 10 (Spec.pure runG) := by
 refine meets_fun (E_concatU.at_ 51) Try.func10 rfl rfl rfl ?_
 intro args p r hg hp
 unfold runG at hg
 split at hg
 ·rename_i xs es
  simp only [Option.some.injEq, Prod.mk.injEq] at hg
  obtain ⟨rfl, rfl⟩ := hg
  obtain ⟨hx, hy, hl, hm⟩ := hp
  generalize dU xs = l at *
  generalize dE es = es at *
  subst hx hy
  have hnil : True := trivial
  refine ⟨by rfl, ?_⟩
  intro F W0 hnp hmk
  refine vc_seq_k fun N1 h1 => ?_
  refine vc_regG [22] hmix (by kernel_rfl) ?_
  try refine lg_mk ?_
  refine t13_0 ?_
  refine t13_0 ?_
  refine t13_1 ?_
  refine lg_nil ?_
  refine h1 _ ?_; clear h1; try clear N1
  refine vc_seq_k fun N2 h2 => ?_
  rcases Nat.lt_or_ge 4096 l.length with h4 | h4
  ·have hq : (l.length ≤ 4096) = False := eq_false (by omega)
   refine vc_regG [22] hmix (by kernel_rfl) ?_
   try refine lg_mk ?_
   refine t13_0 ?_
   refine t13_2 ?_
   refine t13_0 ?_
   refine t13_3 ?_
   refine t13_3 ?_
   refine t13_0 ?_
   refine t13_4 ?_
   refine lg_nil ?_
   refine h2 _ ?_; clear h2; try clear N2
   refine vc_seq_k fun N3 h3 => ?_
   refine vc_seq_k fun N4 h4 => ?_
   refine vc_regG [22] hmix (by kernel_rfl) ?_
   try refine lg_mk ?_
   refine t13_5 ?_
   refine t13_6 ?_
   refine t13_7 ?_
   refine lg_nil ?_
   refine h4 _ ?_; clear h4; try clear N4
   refine vc_cond_k (by simp only [w1, w3, eq_self, Nat.reduceEqDiff, reduceIte]; rfl) (fun hb5 => ?_) (fun hb5 => ?_)
   ·try simp only [b_rules, bif_and, bif_or] at hb5
    refine vc_seq_k fun N6 h6 => ?_
    refine vc_regG [22] hmix (by kernel_rfl) ?_
    try refine lg_mk ?_
    refine t13_5 ?_
    refine t13_0 ?_
    refine t13_0 ?_
    refine t13_8 ?_
    refine lg_nil ?_
    refine h6 _ ?_; clear h6; try clear N6
    refine vc_ret ?_
    try simp only [k_rules]
    have hr : runR l es = ([], 0, 2, -1) := by simp [runR, hq]
    rw [hr]
    exact t13_9
   ·try simp only [b_rules, bif_and, bif_or] at hb5
    first | omega | exact absurd trivial hb5 | contradiction | (simp_all; done)
  ·have hq : (l.length ≤ 4096) = True := eq_true (by omega)
   refine vc_regG [22] hmix (by kernel_rfl) ?_
   try refine lg_mk ?_
   refine t13_0 ?_
   refine t13_2 ?_
   refine t13_0 ?_
   refine t13_3 ?_
   refine t13_3 ?_
   refine t13_0 ?_
   refine t13_4 ?_
   refine lg_nil ?_
   refine h2 _ ?_; clear h2; try clear N2
   refine vc_seq_k fun N7 h7 => ?_
   refine vc_seq_k fun N8 h8 => ?_
   refine vc_regG [22] hmix (by kernel_rfl) ?_
   try refine lg_mk ?_
   refine t13_5 ?_
   refine t13_6 ?_
   refine t13_7 ?_
   refine lg_nil ?_
   refine h8 _ ?_; clear h8; try clear N8
   refine vc_cond_k (by simp only [w1, w3, eq_self, Nat.reduceEqDiff, reduceIte]; rfl) (fun hb9 => ?_) (fun hb9 => ?_)
   ·try simp only [b_rules, bif_and, bif_or] at hb9
    first | omega | exact absurd trivial hb9 | contradiction | (simp_all; done)
   ·try simp only [b_rules, bif_and, bif_or] at hb9
    refine vc_skip ?_
    try simp only [k_rules]
    refine h7 _ ?_; clear h7; try clear N7
    refine vc_seq_k fun N10 h10 => ?_
    refine vc_seq_k fun N11 h11 => ?_
    refine vc_regG [22] hmix (by kernel_rfl) ?_
    try refine lg_mk ?_
    refine t13_0 ?_
    refine t13_10 ?_
    refine t13_7 ?_
    refine lg_nil ?_
    refine h11 _ ?_; clear h11; try clear N11
    refine vc_cond_k (by simp only [w1, w3, eq_self, Nat.reduceEqDiff, reduceIte]; rfl) (fun hb12 => ?_) (fun hb12 => ?_)
    ·try simp only [b_rules, bif_and, bif_or] at hb12
     refine vc_seq_k fun N13 h13 => ?_
     refine vc_regG [22] hmix (by kernel_rfl) ?_
     try refine lg_mk ?_
     refine t13_6 ?_
     refine t13_0 ?_
     refine t13_0 ?_
     refine t13_11 ?_
     refine lg_nil ?_
     refine h13 _ ?_; clear h13; try clear N13
     refine vc_ret ?_
     try simp only [k_rules]
     have hr : runR l es = ([], 0, 2, -2) := by
      unfold runR; rw [if_pos (by omega), if_neg (by omega)]
     rw [hr]
     exact t13_9
    ·try simp only [b_rules, bif_and, bif_or] at hb12
     refine vc_skip ?_
     try simp only [k_rules]
     refine h10 _ ?_; clear h10; try clear N10
     refine vc_seq_k fun N14 h14 => ?_
     refine vc_regG [22] hmix (by kernel_rfl) ?_
     try refine lg_mk ?_
     refine t13_0 ?_
     refine t13_10 ?_
     refine t13_6 ?_
     refine t13_1 ?_
     refine t13_11 ?_
     refine lg_nil ?_
     refine h14 _ ?_; clear h14; try clear N14
     refine vc_seq_k fun N15 h15 => ?_
     refine vc_seq_k fun N16 h16 => ?_
     refine vc_regG [22] hmix (by kernel_rfl) ?_
     try refine lg_mk ?_
     refine t13_0 ?_
     refine t13_10 ?_
     refine t13_0 ?_
     refine lg_nil ?_
     refine h16 _ ?_; clear h16; try clear N16
     refine vc_block ?_
     refine vc_loop_mk (σ := Nat × Int × Int × List Int × List Int) (fun s => (fun i a tk fs ws => i ≤ es.length ∧ LInv ((framesOf l).length : Nat) (a, tk, fs, ws) ∧ fs.length ≤ i ∧ ws.length ≤ i ∧ runL ((framesOf l).length : Nat) (0, 0, [], []) es 0 = runL ((framesOf l).length : Nat) (a, tk, fs, ws) (es.drop i) i) (s.1) (s.2.1) (s.2.2.1) (s.2.2.2.1) (s.2.2.2.2))
      (fun s => (fun i a tk fs ws => [(6, .ptr 0 0 0), (7, .d (.sl (rows (eL eU) (framesOf l)))), (8, .ptr 1 0 0), (28, .d (.sl (rows eE es))), (29, .d (.int .i64 (es.length : Nat))), (30, .d (.int .i64 (i : Nat)))]) (s.1) (s.2.1) (s.2.2.1) (s.2.2.2.1) (s.2.2.2.2))
      (fun s => (fun i a tk fs ws => [some (.one 27 [.d (.int .i64 0), .d (.int .i64 0)]), some (.one 55 [.d (.int .i64 ((framesOf l).length : Nat)), .d (.int .i64 a), .d (.int .i64 tk), .sl 2 0 fs.length, .sl 3 0 ws.length]), some (.vec 3 1 (rows eI fs)), some (.vec 3 1 (rows eI ws))]) (s.1) (s.2.1) (s.2.2.1) (s.2.2.2.1) (s.2.2.2.2)) (fun s => (fun i a tk fs ws => es.length - i) (s.1) (s.2.1) (s.2.2.1) (s.2.2.2.1) (s.2.2.2.2)) hnp (0, 0, 0, [], []) ?_ [some 0, some 1, none, none] ?_ ?_
     ·dsimp only
      exact ⟨Nat.zero_le _, by simp [LInv], by simp, by simp, rfl⟩
     ·dsimp only
      refine ⟨by rfl, ?_, ?_⟩
      ·exact t13_12
      ·exact t13_12
     ·rintro ⟨i, a, tk, fs, ws⟩ hinv N17 h17
      dsimp only at hinv ⊢
      obtain ⟨i1, i2, i3, i4, i5⟩ := hinv
      have j2 := i2
      simp only [LInv] at j2
      obtain ⟨j1, j3, j4, j5, j6, j7⟩ := j2
      have hfl := framesOf_len l
      refine vc_seq_k fun N18 h18 => ?_
      refine vc_regG [22] hmix (by kernel_rfl) ?_
      try refine lg_mk ?_
      refine t13_7 ?_
      refine lg_nil ?_
      refine h18 _ ?_; clear h18; try clear N18
      refine vc_seq_k fun N19 h19 => ?_
      refine vc_cond_k (by simp only [w1, w3, eq_self, Nat.reduceEqDiff, reduceIte]; rfl) (fun hb20 => ?_) (fun hb20 => ?_)
      ·try simp only [b_rules, bif_and, bif_or] at hb20
       obtain ⟨e, he⟩ : ∃ e, es[i]? = some e := ⟨_, List.getElem?_eq_getElem (by omega)⟩
       rw [runL_cons he] at i5
       refine vc_skip ?_
       try simp only [k_rules]
       refine h19 _ ?_; clear h19; try clear N19
       refine vc_seq_k fun N21 h21 => ?_
       refine vc_block ?_
       refine vc_seq_k fun N22 h22 => ?_
       refine vc_regG [22] hmix (by kernel_rfl) ?_
       try refine lg_mk ?_
       refine t13_0 ?_
       refine lg_v (by simp only [op_rules, ev_rules, fr_rules, av_rules, rs_rules, eq_self, Nat.reduceEqDiff, reduceIte, bw, op_rules2, aFieldAddr, aField, aIndexAddr, aIndex, aPart, env_rules, tys, g_concatU, tiAgg, list_rules, opt_rules, map_rules, rows_get, rows_len, rows_drop, rows_take, rows_app, rows_nil, rows_set, Int.toNat_natCast, Int.reduceToNat, Nat.reduceAdd, Nat.reduceMul, Nat.reduceSub, Nat.reduceLeDiff, Nat.zero_add, Nat.add_zero, true_and, and_true, and_assoc, rect_eI, rect_eB, rect_eU, rect_eS, rect_eL, rect_nil, rect_cons, bytes_is, bytes_str, splice_rules, cell_rules, fill_rules, bnd_rules, or_false, false_or, not_true_eq_false, not_false_eq_true, rect_eE, hnil, he, eE]; rfl) (by exact t13a0) (by exact t13a1) ?_
       refine lg_v (by simp only [op_rules, ev_rules, fr_rules, av_rules, rs_rules, eq_self, Nat.reduceEqDiff, reduceIte, bw, op_rules2, aLoad, loadRow, env_rules, tys, g_concatU, tiAgg, list_rules, opt_rules, map_rules, rows_get, rows_len, rows_drop, rows_take, rows_app, rows_nil, rows_set, Int.toNat_natCast, Int.reduceToNat, Nat.reduceAdd, Nat.reduceMul, Nat.reduceSub, Nat.reduceLeDiff, Nat.zero_add, Nat.add_zero, true_and, and_true, and_assoc, rect_eI, rect_eB, rect_eU, rect_eS, rect_eL, rect_nil, rect_cons, bytes_is, bytes_str, splice_rules, cell_rules, fill_rules, bnd_rules, or_false, false_or, not_true_eq_false, not_false_eq_true, rect_eE, hnil, he, eE]; rfl) (by exact t13a0) (by exact t13a1) ?_
       refine lg_h (by simp only [op_rules, ev_rules, fr_rules, av_rules, rs_rules, eq_self, Nat.reduceEqDiff, reduceIte, bw, aAlloc, env_rules, tys, g_concatU, tiAgg, list_rules, opt_rules, map_rules, rows_get, rows_len, rows_drop, rows_take, rows_app, rows_nil, rows_set, Int.toNat_natCast, Int.reduceToNat, Nat.reduceAdd, Nat.reduceMul, Nat.reduceSub, Nat.reduceLeDiff, Nat.zero_add, Nat.add_zero, true_and, and_true, and_assoc, rect_eI, rect_eB, rect_eU, rect_eS, rect_eL, rect_nil, rect_cons, bytes_is, bytes_str, splice_rules, cell_rules, fill_rules, bnd_rules, or_false, false_or, not_true_eq_false, not_false_eq_true, rect_eE, hnil, he, eE]; rfl) (by exact t13a0) (by exact t13a1) (fun h => Bool.noConfusion (show false = true from h)) ?_
       refine t13_0 ?_
       refine lg_h (by simp only [op_rules, ev_rules, fr_rules, av_rules, rs_rules, eq_self, Nat.reduceEqDiff, reduceIte, bw, aStore, env_rules, tys, g_concatU, tiAgg, list_rules, opt_rules, map_rules, rows_get, rows_len, rows_drop, rows_take, rows_app, rows_nil, rows_set, Int.toNat_natCast, Int.reduceToNat, Nat.reduceAdd, Nat.reduceMul, Nat.reduceSub, Nat.reduceLeDiff, Nat.zero_add, Nat.add_zero, true_and, and_true, and_assoc, rect_eI, rect_eB, rect_eU, rect_eS, rect_eL, rect_nil, rect_cons, bytes_is, bytes_str, splice_rules, cell_rules, fill_rules, bnd_rules, or_false, false_or, not_true_eq_false, not_false_eq_true, rect_eE, hnil, he, eE]; rfl) (by exact t13a0) (by exact t13a1) (fun h => Bool.noConfusion (show false = true from h)) ?_
       refine lg_nil ?_
       refine h22 _ ?_; clear h22; try clear N22
       refine vc_seq_k fun N23 h23 => ?_
       rcases step_outs (t := 55) (total := ((framesOf l).length : Nat)) (a := a) (tk := tk) (fs := fs) (ws := ws) (k := e.1) (n := e.2) with ⟨hc, eb⟩ | ⟨hc, fs', hs, eb⟩ | ⟨hc, tk', fs', ws', hs, eb⟩ | ⟨hc, a', fs', ws', hs, eb⟩
       ·rw [if_neg hc] at i5
        refine vc_regG [22] hmix (by kernel_rfl) ?_
        try refine lg_mk ?_
        refine t13_13 ?_
        refine t13_14 ?_
        refine t13_0 ?_
        refine lg_nil ?_
        refine h23 _ ?_; clear h23; try clear N23
        refine vc_seq_k fun N24 h24 => ?_
        refine vc_regG [22] hmix (by kernel_rfl) ?_
        try refine lg_mk ?_
        refine t13_0 ?_
        refine t13_7 ?_
        refine lg_nil ?_
        refine h24 _ ?_; clear h24; try clear N24
        refine vc_cond_k (by simp only [w1, w3, eq_self, Nat.reduceEqDiff, reduceIte]; rfl) (fun hb25 => ?_) (fun hb25 => ?_)
        ·try simp only [b_rules, bif_and, bif_or] at hb25
         refine vc_seq_k fun N26 h26 => ?_
         refine vc_regG [22] hmix (by kernel_rfl) ?_
         try refine lg_mk ?_
         refine t13_0 ?_
         refine t13_0 ?_
         refine t13_6 ?_
         refine t13_0 ?_
         refine t13_0 ?_
         refine t13_11 ?_
         refine lg_nil ?_
         refine h26 _ ?_; clear h26; try clear N26
         refine vc_ret ?_
         try simp only [k_rules]
         have hr : runR l es = ([], 0, stepCode ((framesOf l).length : Nat) a fs ws e.1 e.2, (i : Int)) := by
          unfold runR; rw [if_pos (by omega), if_pos (by omega), i5]
         rw [hr]
         exact t13_9
        ·try simp only [b_rules, bif_and, bif_or] at hb25
         first | omega | exact absurd trivial hb25 | contradiction | (simp_all; done)
       ·rw [if_pos hc, hs] at i5
        have hv := stepL_inv i2 hc
        rw [hs] at hv
        refine vc_regG [22] hmix (by kernel_rfl) ?_
        try refine lg_mk ?_
        refine t13_13 ?_
        refine t13_14 ?_
        refine t13_0 ?_
        refine lg_nil ?_
        refine h23 _ ?_; clear h23; try clear N23
        refine vc_seq_k fun N27 h27 => ?_
        refine vc_regG [22] hmix (by kernel_rfl) ?_
        try refine lg_mk ?_
        refine t13_0 ?_
        refine t13_7 ?_
        refine lg_nil ?_
        refine h27 _ ?_; clear h27; try clear N27
        refine vc_cond_k (by simp only [w1, w3, eq_self, Nat.reduceEqDiff, reduceIte]; rfl) (fun hb28 => ?_) (fun hb28 => ?_)
        ·try simp only [b_rules, bif_and, bif_or] at hb28
         first | omega | exact absurd trivial hb28 | contradiction | (simp_all; done)
        ·try simp only [b_rules, bif_and, bif_or] at hb28
         refine vc_skip ?_
         try simp only [k_rules]
         refine h21 _ ?_; clear h21; try clear N21
         refine vc_regG [22] hmix (by kernel_rfl) ?_
         try refine lg_mk ?_
         refine t13_7 ?_
         refine t13_0 ?_
         refine lg_nil ?_
         refine h17 _ ⟨(i + 1, a, tk, fs', ws), ?_, ?_, [some 0, some 1, some 5, some 3], ?_⟩
         ·dsimp only
          exact ⟨by omega, hv.1, by have := hv.2.1; simp at this; omega, by have := hv.2.2; simp at this; omega, i5⟩
         ·dsimp only
          omega
         ·dsimp only
          refine ⟨by rfl, ?_, ?_⟩
          ·exact t13_12
          ·exact t13_12
       ·rw [if_pos hc, hs] at i5
        have hv := stepL_inv i2 hc
        rw [hs] at hv
        refine vc_regG [22] hmix (by kernel_rfl) ?_
        try refine lg_mk ?_
        refine t13_13 ?_
        refine t13_14 ?_
        refine t13_0 ?_
        refine lg_nil ?_
        refine h23 _ ?_; clear h23; try clear N23
        refine vc_seq_k fun N29 h29 => ?_
        refine vc_regG [22] hmix (by kernel_rfl) ?_
        try refine lg_mk ?_
        refine t13_0 ?_
        refine t13_7 ?_
        refine lg_nil ?_
        refine h29 _ ?_; clear h29; try clear N29
        refine vc_cond_k (by simp only [w1, w3, eq_self, Nat.reduceEqDiff, reduceIte]; rfl) (fun hb30 => ?_) (fun hb30 => ?_)
        ·try simp only [b_rules, bif_and, bif_or] at hb30
         first | omega | exact absurd trivial hb30 | contradiction | (simp_all; done)
        ·try simp only [b_rules, bif_and, bif_or] at hb30
         refine vc_skip ?_
         try simp only [k_rules]
         refine h21 _ ?_; clear h21; try clear N21
         refine vc_regG [22] hmix (by kernel_rfl) ?_
         try refine lg_mk ?_
         refine t13_7 ?_
         refine t13_0 ?_
         refine lg_nil ?_
         refine h17 _ ⟨(i + 1, a, tk', fs', ws'), ?_, ?_, [some 0, some 1, some 2, some 5], ?_⟩
         ·dsimp only
          exact ⟨by omega, hv.1, by have := hv.2.1; simp at this; omega, by have := hv.2.2; simp at this; omega, i5⟩
         ·dsimp only
          omega
         ·dsimp only
          refine ⟨by rfl, ?_, ?_⟩
          ·exact t13_12
          ·exact t13_12
       ·rw [if_pos hc, hs] at i5
        have hv := stepL_inv i2 hc
        rw [hs] at hv
        refine vc_regG [22] hmix (by kernel_rfl) ?_
        try refine lg_mk ?_
        refine t13_13 ?_
        refine t13_14 ?_
        refine t13_0 ?_
        refine lg_nil ?_
        refine h23 _ ?_; clear h23; try clear N23
        refine vc_seq_k fun N31 h31 => ?_
        refine vc_regG [22] hmix (by kernel_rfl) ?_
        try refine lg_mk ?_
        refine t13_0 ?_
        refine t13_7 ?_
        refine lg_nil ?_
        refine h31 _ ?_; clear h31; try clear N31
        refine vc_cond_k (by simp only [w1, w3, eq_self, Nat.reduceEqDiff, reduceIte]; rfl) (fun hb32 => ?_) (fun hb32 => ?_)
        ·try simp only [b_rules, bif_and, bif_or] at hb32
         first | omega | exact absurd trivial hb32 | contradiction | (simp_all; done)
        ·try simp only [b_rules, bif_and, bif_or] at hb32
         refine vc_skip ?_
         try simp only [k_rules]
         refine h21 _ ?_; clear h21; try clear N21
         refine vc_regG [22] hmix (by kernel_rfl) ?_
         try refine lg_mk ?_
         refine t13_7 ?_
         refine t13_0 ?_
         refine lg_nil ?_
         refine h17 _ ⟨(i + 1, a', tk, fs', ws'), ?_, ?_, [some 0, some 1, some 2, some 3], ?_⟩
         ·dsimp only
          exact ⟨by omega, hv.1, by have := hv.2.1; simp at this; omega, by have := hv.2.2; simp at this; omega, i5⟩
         ·dsimp only
          omega
         ·dsimp only
          refine ⟨by rfl, ?_, ?_⟩
          ·exact t13_12
          ·exact t13_12
      ·try simp only [b_rules, bif_and, bif_or] at hb20
       refine vc_exit ?_
       simp only [k_rules, Nat.reduceEqDiff, reduceIte, eq_self]
       refine h15 _ ?_; clear h15; try clear N15
       refine vc_seq_k fun N33 h33 => ?_
       refine vc_regO [22] [0, 1, 2, 3, 5, 6, 7, 4, 8, 9, 10] hmix (by kernel_rfl) ?_
       simp only [pick_rules, list_rules]
       try refine lg_mk ?_
       refine t13_0 ?_
       refine t13_15 ?_
       refine t13_5 ?_
       refine lg_v (by simp only [op_rules, ev_rules, fr_rules, av_rules, rs_rules, eq_self, Nat.reduceEqDiff, reduceIte, bw, op_rules2, aSlice, env_rules, tys, g_concatU, tiAgg, list_rules, opt_rules, map_rules, rows_get, rows_len, rows_drop, rows_take, rows_app, rows_nil, rows_set, Int.toNat_natCast, Int.reduceToNat, Nat.reduceAdd, Nat.reduceMul, Nat.reduceSub, Nat.reduceLeDiff, Nat.zero_add, Nat.add_zero, true_and, and_true, and_assoc, rect_eI, rect_eB, rect_eU, rect_eS, rect_eL, rect_nil, rect_cons, bytes_is, bytes_str, splice_rules, cell_rules, fill_rules, bnd_rules, or_false, false_or, not_true_eq_false, not_false_eq_true, rect_eE, hnil]; rfl) (by exact t13a0) (by exact t13a1) ?_
       refine t13_15 ?_
       refine t13_5 ?_
       refine t13_6 ?_
       refine lg_h (by simp only [call_rule (E := (E_concatU.at_ 51)) (f := 22) (sp := Spec.pure concatG) rfl, op_rules, ev_rules, fr_rules, av_rules, rs_rules, eq_self, Nat.reduceEqDiff, reduceIte, bw, callS, rd_rules, pure_rules, concatG, sc_rules, heap_rules, list_rules, opt_rules, map_rules, rows_get, rows_len, rows_drop, rows_take, rows_app, rows_nil, rows_set, Int.toNat_natCast, Int.reduceToNat, Nat.reduceAdd, Nat.reduceMul, Nat.reduceSub, Nat.reduceLeDiff, Nat.zero_add, Nat.add_zero, true_and, and_true, and_assoc, rect_eI, rect_eB, rect_eU, rect_eS, rect_eL, rect_nil, rect_cons, bytes_is, bytes_str, splice_rules, cell_rules, fill_rules, bnd_rules, or_false, false_or, not_true_eq_false, not_false_eq_true, List.mem_cons, List.not_mem_nil, dI_rows, dB_rows, dU_rows, rect_eE, hnil]; rfl) (by exact t13a0) (by (first | (rw [dUU_rows, Nat.sub_zero, framesOf_take]; refine ⟨?_, ?_⟩ <;> simp [framesOf_len] <;> omega) | (first | trivial | omega | assumption | (unfold inI64; omega) | (simp; done) | (simp; omega)))) (by exact t13a3) ?_
       refine t13_0 ?_
       refine t13_0 ?_
       refine t13_8 ?_
       refine lg_nil ?_
       refine h33 _ ?_; clear h33; try clear N33
       refine vc_ret ?_
       try simp only [k_rules]
       have hr : runR l es = (((framesOf l).take tk.toNat).flatten, a, 0, 0) := by
        unfold runR; rw [if_pos (by omega), if_pos (by omega), i5, List.drop_eq_nil_of_le (by omega)]; rfl
       rw [hr]
       exact t13_9
 ·cases hg

def E_run : Env Try.prog := E_concatU.add 10 (Spec.pure runG) run_meets (by kernel_rfl)

theorem g_run : (E_run.X = T) ∧ (E_run.Γ 11 = some (Spec.pure faultG)) ∧ (E_run.Γ 18 = some (Spec.pure inG)) ∧ (E_run.Γ 16 = some (Spec.pure planOfG)) ∧ (E_run.Γ 20 = some (Spec.pure (cloneG 1 1))) ∧ (E_run.Γ 27 = some (Spec.gen (deleteG 3))) ∧ (E_run.Γ 25 = some (Spec.gen pickG)) ∧ (E_run.Γ 21 = some (Spec.gen stepG)) ∧ (E_run.Γ 19 = some (Spec.pure (chunkG 24))) ∧ (E_run.Γ 9 = some (Spec.pure framesG)) ∧ (E_run.Γ 12 = some (Spec.pure countG)) ∧ (E_run.Γ 13 = some (Spec.pure frameOfG)) ∧ (E_run.Γ 23 = some (Spec.fresh withoutG)) ∧ (E_run.Γ 26 = some (Spec.fresh growG)) ∧ (E_run.Γ 22 = some (Spec.pure concatG)) ∧ (E_run.Γ 10 = some (Spec.pure runG)) := ⟨rfl, rfl, rfl, rfl, rfl, rfl, rfl, rfl, rfl, rfl, rfl, rfl, rfl, rfl, rfl, rfl⟩
end Go.Proofs.Ythklbefnmcoojaa
