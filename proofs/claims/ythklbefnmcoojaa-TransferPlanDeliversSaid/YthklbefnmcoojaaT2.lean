/- Walks, printed by wip/gen/walk.py. -/
import Derived.Test.YthklbefnmcoojaaTy
import Derived.Test.YthklbefnmcoojaaVc29
set_option linter.all false
set_option maxRecDepth 100000
set_option maxHeartbeats 4000000
namespace Go.Proofs.Ythklbefnmcoojaa
open Go Go.Vc Go.RowKit
section
variable [Far] {P : Program} {E : Env P} {W0 : World} {M0 : Nat → Prop} {dr : Bool} {calm : List FuncId} {ops : Array Oper} {K : St → Prop} {o : Op} {d : Option Tmp} {t : TypeId} {p : String} {af : Array Edge} {r : List Oper} {fr : Nat → AV} {H H' : Heap} {n n' : Nat} {q : Prop} {c : AV} {b : Bool} {gd : Nat × Bool}
theorem t2a0 {p : Prop} (h : p := by simp only [nd_rules, nd_slice, ev_rules, fr_rules, av_rules, eq_self, Nat.reduceEqDiff, reduceIte, and_true, true_and, map_rules, List.map_cons, List.map_nil]) : p := h
theorem t2a1 {p : Prop} (h : p := by (first | trivial | omega | assumption | (unfold inI64; omega) | (simp; done) | (simp; omega))) : p := h
theorem t2a2 {p : Prop} (h : p := by simp only [op_rules, ev_rules, fr_rules, av_rules, rs_rules, eq_self, Nat.reduceEqDiff, reduceIte, bw]; rfl) : p := h
theorem t2_0 (hk : AG W0 M0 dr calm E ops K r ⟨putD d c fr, H, n⟩) (h : aOp E fr H n o = .v q c := by exact t2a2) (hn : ndO fr o := by exact t2a0) (hq : q := by exact t2a1) : AG W0 M0 dr calm E ops K (⟨d, o, t, p, af, none⟩ :: r) ⟨fr, H, n⟩ := lg_v h hn hq hk
theorem t2a3 {p : Prop} (h : p := by simp only [op_rules, ev_rules, fr_rules, av_rules, rs_rules, eq_self, Nat.reduceEqDiff, reduceIte, bw, env_rules, tys, g_fault, tiAgg, bin_rules, ar_rules, str_rules, eq_rules, bit_rules, Bool.true_and, Bool.and_true]; rfl) : p := h
theorem t2a4 {p : Prop} (h : p := by simp only [guard_rules, list_rules, opt_bind, fr_rules, eq_self, Nat.reduceEqDiff, reduceIte, bool_rules]; rfl) : p := h
theorem t2a5 {p : Prop} (h : p := by exact (fun hg => ⟨by first | (simp only [nd_rules, nd_slice, ev_rules, fr_rules, av_rules, eq_self, Nat.reduceEqDiff, reduceIte, and_true, true_and, map_rules, List.map_cons, List.map_nil]; done) | (simp only [nd_rules, nd_slice, ev_rules, fr_rules, av_rules, eq_self, Nat.reduceEqDiff, reduceIte, and_true, true_and, map_rules, List.map_cons, List.map_nil]; exact hg) | (simp_all [nd_rules, nd_slice, ev_rules, fr_rules, av_rules, eq_self, Nat.reduceEqDiff, reduceIte, and_true, true_and, map_rules, List.map_cons, List.map_nil]; done), by (try simp only [b_rules, bif_and, bif_or] at hg); (first | trivial | omega | assumption | (unfold inI64; omega) | (simp; done) | (simp; omega))⟩)) : p := h
theorem t2_1 (hk : AG W0 M0 dr calm E ops K r ⟨putD d (.cond b c) fr, H, n⟩) (hg : guardA ops fr (some gd) = some (some b) := by exact t2a4) (h : aOp E fr H n o = .v q c := by exact t2a2) (hq : b = true → ndO fr o ∧ q := by exact t2a5) : AG W0 M0 dr calm E ops K (⟨d, o, t, p, af, some gd⟩ :: r) ⟨fr, H, n⟩ := lg_gv hg h hq hk
theorem t2_2 (hk : AG W0 M0 dr calm E ops K r ⟨putD d c fr, H, n⟩) (h : aOp E fr H n o = .v q c := by simp only [op_rules, ev_rules, fr_rules, av_rules, rs_rules, eq_self, Nat.reduceEqDiff, reduceIte, bw, un_rules, bif_and, bif_or, bool_rules]; rfl) (hn : ndO fr o := by exact t2a0) (hq : q := by exact t2a1) : AG W0 M0 dr calm E ops K (⟨d, o, t, p, af, none⟩ :: r) ⟨fr, H, n⟩ := lg_v h hn hq hk
theorem t2_3 {p : Prop} (h : p := by (simp only [w1, w2, w3, tys, k_rules, eq_self, Nat.reduceEqDiff, Nat.reduceLeDiff, Nat.reduceAdd, Nat.reduceSub, Nat.reduceMul, Int.toNat_natCast, Int.reduceToNat, Int.reduceNeg, List.mem_cons, List.not_mem_nil, or_false, false_or, not_true_eq_false, not_false_eq_true, bif_and, bif_or, reduceIte, true_and, and_true, and_assoc, true_implies, forall_const, implies_true, Bool.true_eq_false, Bool.false_eq_true, false_implies, rows_len, rows_get, rows_drop, rows_take, rows_app, rows_nil, rect_nil, rect_eI, rect_eB, rect_eU, rect_eS, rect_eL, rect_eE, w4]) <;> (repeat' apply And.intro) <;> (first | rfl | exact Or.inr rfl | exact Or.inl rfl | trivial | omega | assumption | (simp; done) | (simp; omega))) : p := h
theorem t2_4 (hk : AG W0 M0 dr calm E ops K r ⟨putD d c fr, H, n⟩) (h : aOp E fr H n o = .v q c := by simp only [op_rules, ev_rules, fr_rules, av_rules, rs_rules, eq_self, Nat.reduceEqDiff, reduceIte, bw, env_rules, tys, g_in, tiAgg, bin_rules, ar_rules, str_rules, eq_rules, bit_rules, Bool.true_and, Bool.and_true, rect_eE]; rfl) (hn : ndO fr o := by exact t2a0) (hq : q := by exact t2a1) : AG W0 M0 dr calm E ops K (⟨d, o, t, p, af, none⟩ :: r) ⟨fr, H, n⟩ := lg_v h hn hq hk
theorem t2_5 (hk : AG W0 M0 dr calm E ops K r ⟨putD d c fr, H, n⟩) (h : aOp E fr H n o = .v q c := by simp only [op_rules, ev_rules, fr_rules, av_rules, rs_rules, eq_self, Nat.reduceEqDiff, reduceIte, bw, op_rules2, aLen, env_rules, tys, g_in, tiAgg, list_rules, opt_rules, map_rules, rows_get, rows_len, rows_drop, rows_take, rows_app, rows_nil, rows_set, Int.toNat_natCast, Int.reduceToNat, Nat.reduceAdd, Nat.reduceMul, Nat.reduceSub, Nat.reduceLeDiff, Nat.zero_add, Nat.add_zero, true_and, and_true, and_assoc, rect_eI, rect_eB, rect_eU, rect_eS, rect_eL, rect_nil, rect_cons, bytes_is, bytes_str, splice_rules, cell_rules, fill_rules, bnd_rules, or_false, false_or, not_true_eq_false, not_false_eq_true, rect_eE, hkb, hk']; rfl) (hn : ndO fr o := by exact t2a0) (hq : q := by exact t2a1) : AG W0 M0 dr calm E ops K (⟨d, o, t, p, af, none⟩ :: r) ⟨fr, H, n⟩ := lg_v h hn hq hk
theorem t2_6 (hk : AG W0 M0 dr calm E ops K r ⟨putD d c fr, H, n⟩) (h : aOp E fr H n o = .v q c := by simp only [op_rules, ev_rules, fr_rules, av_rules, rs_rules, eq_self, Nat.reduceEqDiff, reduceIte, bw, env_rules, tys, g_in, tiAgg, bin_rules, ar_rules, str_rules, eq_rules, bit_rules, Bool.true_and, Bool.and_true, rect_eE, hkb, hk']; rfl) (hn : ndO fr o := by exact t2a0) (hq : q := by exact t2a1) : AG W0 M0 dr calm E ops K (⟨d, o, t, p, af, none⟩ :: r) ⟨fr, H, n⟩ := lg_v h hn hq hk
theorem t2a6 {p : Prop} (h : p := by simp only [guard_rules, list_rules, opt_bind, fr_rules, eq_self, Nat.reduceEqDiff, reduceIte, bool_rules, hkb, hk']; rfl) : p := h
theorem t2_7 (hk : AG W0 M0 dr calm E ops K r ⟨putD d (.cond b c) fr, H, n⟩) (hg : guardA ops fr (some gd) = some (some b) := by exact t2a6) (h : aOp E fr H n o = .v q c := by exact t2a2) (hq : b = true → ndO fr o ∧ q := by exact t2a5) : AG W0 M0 dr calm E ops K (⟨d, o, t, p, af, some gd⟩ :: r) ⟨fr, H, n⟩ := lg_gv hg h hq hk
theorem t2_8 (hk : AG W0 M0 dr calm E ops K r ⟨putD d (.cond b c) fr, H, n⟩) (hg : guardA ops fr (some gd) = some (some b) := by exact t2a6) (h : aOp E fr H n o = .v q c := by simp only [op_rules, ev_rules, fr_rules, av_rules, rs_rules, eq_self, Nat.reduceEqDiff, reduceIte, bw, op_rules2, aFieldAddr, aField, aIndexAddr, aIndex, aPart, env_rules, tys, g_in, tiAgg, list_rules, opt_rules, map_rules, rows_get, rows_len, rows_drop, rows_take, rows_app, rows_nil, rows_set, Int.toNat_natCast, Int.reduceToNat, Nat.reduceAdd, Nat.reduceMul, Nat.reduceSub, Nat.reduceLeDiff, Nat.zero_add, Nat.add_zero, true_and, and_true, and_assoc, rect_eI, rect_eB, rect_eU, rect_eS, rect_eL, rect_nil, rect_cons, bytes_is, bytes_str, splice_rules, cell_rules, fill_rules, bnd_rules, or_false, false_or, not_true_eq_false, not_false_eq_true, rect_eE, hkb, hk']; rfl) (hq : b = true → ndO fr o ∧ q := by exact t2a5) : AG W0 M0 dr calm E ops K (⟨d, o, t, p, af, some gd⟩ :: r) ⟨fr, H, n⟩ := lg_gv hg h hq hk
theorem t2_9 (hk : AG W0 M0 dr calm E ops K r ⟨putD d (.cond b c) fr, H, n⟩) (hg : guardA ops fr (some gd) = some (some b) := by exact t2a6) (h : aOp E fr H n o = .v q c := by simp only [op_rules, ev_rules, fr_rules, av_rules, rs_rules, eq_self, Nat.reduceEqDiff, reduceIte, bw, op_rules2, aLoad, loadRow, env_rules, tys, g_in, tiAgg, list_rules, opt_rules, map_rules, rows_get, rows_len, rows_drop, rows_take, rows_app, rows_nil, rows_set, Int.toNat_natCast, Int.reduceToNat, Nat.reduceAdd, Nat.reduceMul, Nat.reduceSub, Nat.reduceLeDiff, Nat.zero_add, Nat.add_zero, true_and, and_true, and_assoc, rect_eI, rect_eB, rect_eU, rect_eS, rect_eL, rect_nil, rect_cons, bytes_is, bytes_str, splice_rules, cell_rules, fill_rules, bnd_rules, or_false, false_or, not_true_eq_false, not_false_eq_true, rect_eE, hkb, hk']; rfl) (hq : b = true → ndO fr o ∧ q := by exact t2a5) : AG W0 M0 dr calm E ops K (⟨d, o, t, p, af, some gd⟩ :: r) ⟨fr, H, n⟩ := lg_gv hg h hq hk
theorem t2_10 (hk : AG W0 M0 dr calm E ops K r ⟨putD d c fr, H, n⟩) (h : aOp E fr H n o = .v q c := by simp only [op_rules, ev_rules, fr_rules, av_rules, rs_rules, eq_self, Nat.reduceEqDiff, reduceIte, bw, op_rules2, aLen, env_rules, tys, g_in, tiAgg, list_rules, opt_rules, map_rules, rows_get, rows_len, rows_drop, rows_take, rows_app, rows_nil, rows_set, Int.toNat_natCast, Int.reduceToNat, Nat.reduceAdd, Nat.reduceMul, Nat.reduceSub, Nat.reduceLeDiff, Nat.zero_add, Nat.add_zero, true_and, and_true, and_assoc, rect_eI, rect_eB, rect_eU, rect_eS, rect_eL, rect_nil, rect_cons, bytes_is, bytes_str, splice_rules, cell_rules, fill_rules, bnd_rules, or_false, false_or, not_true_eq_false, not_false_eq_true, rect_eE]; rfl) (hn : ndO fr o := by exact t2a0) (hq : q := by exact t2a1) : AG W0 M0 dr calm E ops K (⟨d, o, t, p, af, none⟩ :: r) ⟨fr, H, n⟩ := lg_v h hn hq hk
theorem t2_11 {p : Prop} (h : p := by (simp only [w1, w2, w3, tys, k_rules, eq_self, Nat.reduceEqDiff, Nat.reduceLeDiff, Nat.reduceAdd, Nat.reduceSub, Nat.reduceMul, Int.toNat_natCast, Int.reduceToNat, Int.reduceNeg, List.mem_cons, List.not_mem_nil, or_false, false_or, not_true_eq_false, not_false_eq_true, bif_and, bif_or, reduceIte, true_and, and_true, and_assoc, true_implies, forall_const, implies_true, Bool.true_eq_false, Bool.false_eq_true, false_implies, rows_len, rows_get, rows_drop, rows_take, rows_app, rows_nil, rect_nil, rect_eI, rect_eB, rect_eU, rect_eS, rect_eL, rect_eE, w4, Try.results16, reduceCtorEq, false_or, or_true, true_or]) <;> (try simp only [w1, w2, w3, tys, k_rules, eq_self, Nat.reduceEqDiff, Nat.reduceLeDiff, Nat.reduceAdd, Nat.reduceSub, Nat.reduceMul, Int.toNat_natCast, Int.reduceToNat, Int.reduceNeg, List.mem_cons, List.not_mem_nil, or_false, false_or, not_true_eq_false, not_false_eq_true, bif_and, bif_or, reduceIte, true_and, and_true, and_assoc, true_implies, forall_const, implies_true, Bool.true_eq_false, Bool.false_eq_true, false_implies, rows_len, rows_get, rows_drop, rows_take, rows_app, rows_nil, rect_nil, rect_eI, rect_eB, rect_eU, rect_eS, rect_eL, rect_eE, w4, Try.results16, reduceCtorEq, false_or, or_true, true_or]) <;> (repeat' apply And.intro) <;> (first | (left; simp [i4]; done) | (simp [i4, eE]; done))) : p := h
theorem t2_12 (hk : AG W0 M0 dr calm E ops K r ⟨putD d c fr, H, n⟩) (h : aOp E fr H n o = .v q c := by simp only [op_rules, ev_rules, fr_rules, av_rules, rs_rules, eq_self, Nat.reduceEqDiff, reduceIte, bw, op_rules2, aBuild, env_rules, tys, g_in, tiAgg, list_rules, opt_rules, map_rules, rows_get, rows_len, rows_drop, rows_take, rows_app, rows_nil, rows_set, Int.toNat_natCast, Int.reduceToNat, Nat.reduceAdd, Nat.reduceMul, Nat.reduceSub, Nat.reduceLeDiff, Nat.zero_add, Nat.add_zero, true_and, and_true, and_assoc, rect_eI, rect_eB, rect_eU, rect_eS, rect_eL, rect_nil, rect_cons, bytes_is, bytes_str, splice_rules, cell_rules, fill_rules, bnd_rules, or_false, false_or, not_true_eq_false, not_false_eq_true, rect_eE]; rfl) (hn : ndO fr o := by exact t2a0) (hq : q := by exact t2a1) : AG W0 M0 dr calm E ops K (⟨d, o, t, p, af, none⟩ :: r) ⟨fr, H, n⟩ := lg_v h hn hq hk
theorem t2_13 (hk : AG W0 M0 dr calm E ops K r ⟨putD d c fr, H', n'⟩) (h : aOp E fr H n o = .h q c H' n' := by simp only [op_rules, ev_rules, fr_rules, av_rules, rs_rules, eq_self, Nat.reduceEqDiff, reduceIte, bw, aBuildSlice, env_rules, tys, g_in, tiAgg, list_rules, opt_rules, map_rules, rows_get, rows_len, rows_drop, rows_take, rows_app, rows_nil, rows_set, Int.toNat_natCast, Int.reduceToNat, Nat.reduceAdd, Nat.reduceMul, Nat.reduceSub, Nat.reduceLeDiff, Nat.zero_add, Nat.add_zero, true_and, and_true, and_assoc, rect_eI, rect_eB, rect_eU, rect_eS, rect_eL, rect_nil, rect_cons, bytes_is, bytes_str, splice_rules, cell_rules, fill_rules, bnd_rules, or_false, false_or, not_true_eq_false, not_false_eq_true, rect_eE]; rfl) (hn : ndO fr o := by exact t2a0) (hq : q := by exact t2a1) (hl : (dr && growB calm d o) = true → HLe H H' := by exact (fun h => Bool.noConfusion (show false = true from h))) : AG W0 M0 dr calm E ops K (⟨d, o, t, p, af, none⟩ :: r) ⟨fr, H, n⟩ := lg_h h hn hq hl hk
theorem t2_14 (hk : AG W0 M0 dr calm E ops K r ⟨putD d c fr, H', n'⟩) (h : aOp E fr H n o = .h q c H' n' := by simp only [op_rules, ev_rules, fr_rules, av_rules, rs_rules, eq_self, Nat.reduceEqDiff, reduceIte, bw, aAppend, rowsSrc, or_self, env_rules, tys, g_in, tiAgg, list_rules, opt_rules, map_rules, rows_get, rows_len, rows_drop, rows_take, rows_app, rows_nil, rows_set, Int.toNat_natCast, Int.reduceToNat, Nat.reduceAdd, Nat.reduceMul, Nat.reduceSub, Nat.reduceLeDiff, Nat.zero_add, Nat.add_zero, true_and, and_true, and_assoc, rect_eI, rect_eB, rect_eU, rect_eS, rect_eL, rect_nil, rect_cons, bytes_is, bytes_str, splice_rules, cell_rules, fill_rules, bnd_rules, or_false, false_or, not_true_eq_false, not_false_eq_true, rect_eE]; rfl) (hn : ndO fr o := by exact t2a0) (hq : q := by exact t2a1) (hl : (dr && growB calm d o) = true → HLe H H' := by exact (fun h => Bool.noConfusion (show false = true from h))) : AG W0 M0 dr calm E ops K (⟨d, o, t, p, af, none⟩ :: r) ⟨fr, H, n⟩ := lg_h h hn hq hl hk
theorem t2_15 {p : Prop} (h : p := by (simp only [w1, w2, w3, tys, k_rules, eq_self, Nat.reduceEqDiff, Nat.reduceLeDiff, Nat.reduceAdd, Nat.reduceSub, Nat.reduceMul, Int.toNat_natCast, Int.reduceToNat, Int.reduceNeg, List.mem_cons, List.not_mem_nil, or_false, false_or, not_true_eq_false, not_false_eq_true, bif_and, bif_or, reduceIte, true_and, and_true, and_assoc, true_implies, forall_const, implies_true, Bool.true_eq_false, Bool.false_eq_true, false_implies, rows_len, rows_get, rows_drop, rows_take, rows_app, rows_nil, rect_nil, rect_eI, rect_eB, rect_eU, rect_eS, rect_eL, rect_eE, w4]) <;> (repeat' apply And.intro) <;> (first | (simp [rows, eE]; done) | (first | rfl | exact Or.inr rfl | exact Or.inl rfl | trivial | omega | assumption | (simp; done) | (simp; omega)))) : p := h
end
abbrev Ev := Int × Int
def eE (e : Ev) : List D := [.int .i64 e.1, .int .i64 e.2]
theorem rect_eE (l : List Ev) : Rect 2 (rows eE l) := rows_rect (f := eE) (fun _ => rfl) l
def faultG : List AV → Option (Prop × AV)
  | [.d (.int .i64 c), .d (.int .i64 i)] => some (True, .agg [.d (.int .i64 c), .d (.int .i64 i)])
  | _ => none

theorem fault_meets : Meets Try.prog 11 (Spec.pure faultG) := by
 refine meets_fun ((Env.empty T).at_ 8) Try.func11 rfl rfl rfl ?_
 intro args p r hg hp
 unfold faultG at hg
 split at hg
 ·rename_i c i
  simp only [Option.some.injEq, Prod.mk.injEq] at hg
  obtain ⟨rfl, rfl⟩ := hg
  refine ⟨by rfl, ?_⟩
  intro F W0 hnp hmk
  refine vc_seq_k fun N1 h1 => ?_
  refine vc_regG [] hmix (by kernel_rfl) ?_
  try refine lg_mk ?_
  refine lg_h (by simp only [op_rules, ev_rules, fr_rules, av_rules, rs_rules, eq_self, Nat.reduceEqDiff, reduceIte, bw, aAlloc, env_rules, tys, envx_rules, tiAgg, list_rules, opt_rules, map_rules, rows_get, rows_len, rows_drop, rows_take, rows_app, rows_nil, rows_set, Int.toNat_natCast, Int.reduceToNat, Nat.reduceAdd, Nat.reduceMul, Nat.reduceSub, Nat.reduceLeDiff, Nat.zero_add, Nat.add_zero, true_and, and_true, and_assoc, rect_eI, rect_eB, rect_eU, rect_eS, rect_eL, rect_nil, rect_cons, bytes_is, bytes_str, splice_rules, cell_rules, fill_rules, bnd_rules, or_false, false_or, not_true_eq_false, not_false_eq_true]; rfl) (by exact t2a0) (by exact t2a1) (fun h => Bool.noConfusion (show false = true from h)) ?_
  refine lg_nil ?_
  refine h1 _ ?_; clear h1; try clear N1
  refine vc_seq_k fun N2 h2 => ?_
  refine vc_regG [] hmix (by kernel_rfl) ?_
  try refine lg_mk ?_
  refine t2_0 ?_
  refine t2_0 ?_
  refine lg_v (by simp only [op_rules, ev_rules, fr_rules, av_rules, rs_rules, eq_self, Nat.reduceEqDiff, reduceIte, bw, op_rules2, aBuild, env_rules, tys, envx_rules, tiAgg, list_rules, opt_rules, map_rules, rows_get, rows_len, rows_drop, rows_take, rows_app, rows_nil, rows_set, Int.toNat_natCast, Int.reduceToNat, Nat.reduceAdd, Nat.reduceMul, Nat.reduceSub, Nat.reduceLeDiff, Nat.zero_add, Nat.add_zero, true_and, and_true, and_assoc, rect_eI, rect_eB, rect_eU, rect_eS, rect_eL, rect_nil, rect_cons, bytes_is, bytes_str, splice_rules, cell_rules, fill_rules, bnd_rules, or_false, false_or, not_true_eq_false, not_false_eq_true]; rfl) (by exact t2a0) (by exact t2a1) ?_
  refine lg_h (by simp only [op_rules, ev_rules, fr_rules, av_rules, rs_rules, eq_self, Nat.reduceEqDiff, reduceIte, bw, aStore, env_rules, tys, envx_rules, tiAgg, list_rules, opt_rules, map_rules, rows_get, rows_len, rows_drop, rows_take, rows_app, rows_nil, rows_set, Int.toNat_natCast, Int.reduceToNat, Nat.reduceAdd, Nat.reduceMul, Nat.reduceSub, Nat.reduceLeDiff, Nat.zero_add, Nat.add_zero, true_and, and_true, and_assoc, rect_eI, rect_eB, rect_eU, rect_eS, rect_eL, rect_nil, rect_cons, bytes_is, bytes_str, splice_rules, cell_rules, fill_rules, bnd_rules, or_false, false_or, not_true_eq_false, not_false_eq_true]; rfl) (by exact t2a0) (by exact t2a1) (fun h => Bool.noConfusion (show false = true from h)) ?_
  refine lg_nil ?_
  refine h2 _ ?_; clear h2; try clear N2
  refine vc_ret ?_
  try simp only [k_rules]
  (simp only [w1, w2, w3, tys, k_rules, eq_self, Nat.reduceEqDiff, Nat.reduceLeDiff, Nat.reduceAdd, Nat.reduceSub, Nat.reduceMul, Int.toNat_natCast, Int.reduceToNat, Int.reduceNeg, List.mem_cons, List.not_mem_nil, or_false, false_or, not_true_eq_false, not_false_eq_true, bif_and, bif_or, reduceIte, true_and, and_true, and_assoc, true_implies, forall_const, implies_true, Bool.true_eq_false, Bool.false_eq_true, false_implies, rows_len, rows_get, rows_drop, rows_take, rows_app, rows_nil, rect_nil, rect_eI, rect_eB, rect_eU, rect_eS, rect_eL, w4, Try.results11, reduceCtorEq, false_or, or_true, true_or]) <;> (try simp only [w1, w2, w3, tys, k_rules, eq_self, Nat.reduceEqDiff, Nat.reduceLeDiff, Nat.reduceAdd, Nat.reduceSub, Nat.reduceMul, Int.toNat_natCast, Int.reduceToNat, Int.reduceNeg, List.mem_cons, List.not_mem_nil, or_false, false_or, not_true_eq_false, not_false_eq_true, bif_and, bif_or, reduceIte, true_and, and_true, and_assoc, true_implies, forall_const, implies_true, Bool.true_eq_false, Bool.false_eq_true, false_implies, rows_len, rows_get, rows_drop, rows_take, rows_app, rows_nil, rect_nil, rect_eI, rect_eB, rect_eU, rect_eS, rect_eL, w4, Try.results11, reduceCtorEq, false_or, or_true, true_or]) <;> (repeat' apply And.intro) <;> (first | rfl | exact Or.inr rfl | exact Or.inl rfl | trivial | omega | assumption | (simp; done) | (simp; omega))
 ·cases hg

def E_fault : Env Try.prog := (Env.empty T).add 11 (Spec.pure faultG) fault_meets (by kernel_rfl)

theorem g_fault : (E_fault.X = T) ∧ (E_fault.Γ 11 = some (Spec.pure faultG)) := ⟨rfl, rfl⟩

def inG : List AV → Option (Prop × AV)
  | [.d (.int .i64 n), .d (.int .i64 lo), .d (.int .i64 hi)] => some (True, .d (.bool (decide (lo ≤ n) && decide (n ≤ hi))))
  | _ => none

theorem in_meets : Meets Try.prog 18 (Spec.pure inG) := by
 refine meets_fun (E_fault.at_ 15) Try.func18 rfl rfl rfl ?_
 intro args p r hg hp
 unfold inG at hg
 split at hg
 ·rename_i n lo hi
  simp only [Option.some.injEq, Prod.mk.injEq] at hg
  obtain ⟨rfl, rfl⟩ := hg
  refine ⟨by rfl, ?_⟩
  intro F W0 hnp hmk
  refine vc_seq_k fun N1 h1 => ?_
  refine vc_regG [] hmix (by kernel_rfl) ?_
  try refine lg_mk ?_
  refine t2_0 ?_
  refine lg_nil ?_
  refine h1 _ ?_; clear h1; try clear N1
  refine vc_seq_k fun N2 h2 => ?_
  refine vc_regG [] hmix (by kernel_rfl) ?_
  try refine lg_mk ?_
  refine t2_0 ?_
  refine t2_0 ?_
  refine lg_v (by exact t2a3) (by exact t2a0) (by exact t2a1) ?_
  refine t2_0 ?_
  first | (refine lg_g0 ?_ ?_; focus (simp only [guard_rules, list_rules, opt_bind, fr_rules, eq_self, Nat.reduceEqDiff, reduceIte, bool_rules]; done)) | refine t2_1 ?_
  first | (refine lg_g0 ?_ ?_; focus (simp only [guard_rules, list_rules, opt_bind, fr_rules, eq_self, Nat.reduceEqDiff, reduceIte, bool_rules]; done)) | refine t2_1 ?_
  first | (refine lg_g0 ?_ ?_; focus (simp only [guard_rules, list_rules, opt_bind, fr_rules, eq_self, Nat.reduceEqDiff, reduceIte, bool_rules]; done)) | refine lg_gv (by exact t2a4) (by exact t2a3) (by exact t2a5) ?_
  refine t2_2 ?_
  refine t2_0 ?_
  refine lg_nil ?_
  refine h2 _ ?_; clear h2; try clear N2
  refine vc_ret ?_
  try simp only [k_rules]
  (simp only [w1, w2, w3, tys, k_rules, eq_self, Nat.reduceEqDiff, Nat.reduceLeDiff, Nat.reduceAdd, Nat.reduceSub, Nat.reduceMul, Int.toNat_natCast, Int.reduceToNat, Int.reduceNeg, List.mem_cons, List.not_mem_nil, or_false, false_or, not_true_eq_false, not_false_eq_true, bif_and, bif_or, reduceIte, true_and, and_true, and_assoc, true_implies, forall_const, implies_true, Bool.true_eq_false, Bool.false_eq_true, false_implies, rows_len, rows_get, rows_drop, rows_take, rows_app, rows_nil, rect_nil, rect_eI, rect_eB, rect_eU, rect_eS, rect_eL, w4, Try.results18, reduceCtorEq, false_or, or_true, true_or]) <;> (try simp only [w1, w2, w3, tys, k_rules, eq_self, Nat.reduceEqDiff, Nat.reduceLeDiff, Nat.reduceAdd, Nat.reduceSub, Nat.reduceMul, Int.toNat_natCast, Int.reduceToNat, Int.reduceNeg, List.mem_cons, List.not_mem_nil, or_false, false_or, not_true_eq_false, not_false_eq_true, bif_and, bif_or, reduceIte, true_and, and_true, and_assoc, true_implies, forall_const, implies_true, Bool.true_eq_false, Bool.false_eq_true, false_implies, rows_len, rows_get, rows_drop, rows_take, rows_app, rows_nil, rect_nil, rect_eI, rect_eB, rect_eU, rect_eS, rect_eL, w4, Try.results18, reduceCtorEq, false_or, or_true, true_or]) <;> (repeat' apply And.intro) <;> (first | rfl | exact Or.inr rfl | exact Or.inl rfl | trivial | omega | assumption | (simp; done) | (simp; omega))
 ·cases hg

def E_in : Env Try.prog := E_fault.add 18 (Spec.pure inG) in_meets (by kernel_rfl)

theorem g_in : (E_in.X = T) ∧ (E_in.Γ 11 = some (Spec.pure faultG)) ∧ (E_in.Γ 18 = some (Spec.pure inG)) := ⟨rfl, rfl, rfl⟩

/-- The events of a plan, out of what is left: losses, frames, room. -/
def plan : List Bool → Nat → Nat → List Ev × Bool
  | _, 0, _ => ([], true)
  | true :: r, left + 1, room => if room < 2 then ([], false) else ((1, 0) :: (3, 0) :: (plan r (left + 1) (room - 2)).1, (plan r (left + 1) (room - 2)).2)
  | false :: r, left + 1, room => if room < 3 then ([], false) else ((1, 0) :: (2, 0) :: (5, 0) :: (plan r left (room - 3)).1, (plan r left (room - 3)).2)
  | [], left + 1, room => if room < 3 then ([], false) else ((1, 0) :: (2, 0) :: (5, 0) :: (plan [] left (room - 3)).1, (plan [] left (room - 3)).2)

def planOfG : List AV → Option (Prop × AV)
  | [.d (.int .i64 n), .d (.sl xs)] => some (xs = rows eB (dB xs) ∧ xs.length ≤ 9223372036854775807 ∧ inI64 n, .tup [.d (.sl (rows eE (plan (dB xs) n.toNat 200).1)), .d (.bool (plan (dB xs) n.toNat 200).2)])
  | _ => none
theorem drop_cons {l : List Bool} {k : Nat} {b : Bool} (h : l[k]? = some b) : l.drop k = b :: l.drop (k + 1) := by
  obtain ⟨h1, h2⟩ := List.getElem?_eq_some_iff.1 h
  rw [← h2]; exact List.drop_eq_getElem_cons h1

theorem plan_zero (l : List Bool) (r : Nat) : plan l 0 r = ([], true) := by cases l <;> simp [plan]
theorem plan_t {l : List Bool} {k left room : Nat} (h : l[k]? = some true) (hl : 0 < left) : plan (l.drop k) left room = if room < 2 then ([], false) else ((1, 0) :: (3, 0) :: (plan (l.drop (k + 1)) left (room - 2)).1, (plan (l.drop (k + 1)) left (room - 2)).2) := by
  rw [drop_cons h]
  cases left with
  | zero => omega
  | succ left => rw [plan]
theorem plan_f {l : List Bool} {k left room : Nat} (h : l[k]? = some false ∨ l[k]? = none) (hl : 0 < left) : plan (l.drop k) left room = if room < 3 then ([], false) else ((1, 0) :: (2, 0) :: (5, 0) :: (plan (l.drop (k + 1)) (left - 1) (room - 3)).1, (plan (l.drop (k + 1)) (left - 1) (room - 3)).2) := by
  cases left with
  | zero => omega
  | succ left =>
    rcases h with h | h
    · rw [drop_cons h, plan]; rfl
    · have hk : l.length ≤ k := by simpa using h
      rw [List.drop_eq_nil_of_le hk, List.drop_eq_nil_of_le (by omega), plan]; rfl

theorem planOf_meets : Meets Try.prog 16 (Spec.pure planOfG) := by
 refine meets_fun (E_in.at_ 46) Try.func16 rfl rfl rfl ?_
 intro args p r hg hp
 unfold planOfG at hg
 split at hg
 ·rename_i n xs
  simp only [Option.some.injEq, Prod.mk.injEq] at hg
  obtain ⟨rfl, rfl⟩ := hg
  obtain ⟨hx, hlen, hn⟩ := hp
  generalize dB xs = lost at hx ⊢
  subst hx
  rw [rows_len] at hlen
  unfold inI64 at hn
  refine ⟨by rfl, ?_⟩
  intro F W0 hnp hmk
  refine vc_seq_k fun N1 h1 => ?_
  refine vc_regG [] hmix (by kernel_rfl) ?_
  try refine lg_mk ?_
  refine t2_0 ?_
  refine t2_0 ?_
  refine lg_nil ?_
  refine h1 _ ?_; clear h1; try clear N1
  refine vc_seq_k fun N2 h2 => ?_
  refine vc_regG [] hmix (by kernel_rfl) ?_
  try refine lg_mk ?_
  refine t2_0 ?_
  refine lg_nil ?_
  refine h2 _ ?_; clear h2; try clear N2
  refine vc_seq_k fun N3 h3 => ?_
  refine vc_regG [] hmix (by kernel_rfl) ?_
  try refine lg_mk ?_
  refine t2_0 ?_
  refine lg_nil ?_
  refine h3 _ ?_; clear h3; try clear N3
  refine vc_seq_k fun N4 h4 => ?_
  refine vc_seq_k fun N5 h5 => ?_
  refine vc_regG [] hmix (by kernel_rfl) ?_
  try refine lg_mk ?_
  refine t2_0 ?_
  refine lg_nil ?_
  refine h5 _ ?_; clear h5; try clear N5
  refine vc_block ?_
  refine vc_loop_mk (σ := Nat × Nat × List Ev) (fun s => (fun k sent out => sent ≤ n.toNat ∧ out.length ≤ 200 ∧ k ≤ out.length ∧ (plan lost n.toNat 200) = (out ++ (plan (lost.drop k) (n.toNat - sent) (200 - out.length)).1, (plan (lost.drop k) (n.toNat - sent) (200 - out.length)).2)) (s.1) (s.2.1) (s.2.2))
   (fun s => (fun k sent out => [(0, .d (.int .i64 n)), (1, .d (.sl (rows eB lost))), (4, .d .nils), (5, .d (.bool false)), (6, .sl 0 0 out.length), (7, .d (.int .i64 k)), (8, .d (.int .i64 sent))]) (s.1) (s.2.1) (s.2.2))
   (fun s => (fun k sent out => [some (.vec 48 2 (rows eE out))]) (s.1) (s.2.1) (s.2.2)) (fun s => (fun k sent out => 200 - out.length) (s.1) (s.2.1) (s.2.2)) hnp (0, 0, []) ?_ [none] ?_ ?_
  ·dsimp only
   simp
  ·dsimp only
   refine ⟨by rfl, ?_, ?_⟩
   ·exact t2_3
   ·exact t2_3
  ·rintro ⟨k, sent, out⟩ hinv N6 h6
   dsimp only at hinv ⊢
   obtain ⟨i2, i3, i5, i4⟩ := hinv
   refine vc_seq_k fun N7 h7 => ?_
   refine vc_seq_k fun N8 h8 => ?_
   refine vc_regG [] hmix (by kernel_rfl) ?_
   try refine lg_mk ?_
   refine t2_0 ?_
   refine t2_0 ?_
   refine t2_4 ?_
   refine lg_nil ?_
   refine h8 _ ?_; clear h8; try clear N8
   refine vc_cond_k (by simp only [w1, w3, eq_self, Nat.reduceEqDiff, reduceIte]; rfl) (fun hb9 => ?_) (fun hb9 => ?_)
   ·try simp only [b_rules, bif_and, bif_or] at hb9
    refine vc_skip ?_
    try simp only [k_rules]
    refine h7 _ ?_; clear h7; try clear N7
    refine vc_seq_k fun N10 h10 => ?_
    refine vc_block ?_
    refine vc_seq_k fun N11 h11 => ?_
    refine vc_seq_k fun N12 h12 => ?_
    rcases Nat.lt_or_ge k lost.length with hk | hk
    ·obtain ⟨b, hkb⟩ : ∃ b, lost[k]? = some b := ⟨_, List.getElem?_eq_getElem hk⟩
     have hk' : decide ((k : Int) < (lost.length : Int)) = true := by simp; omega
     refine vc_regG [] hmix (by kernel_rfl) ?_
     try refine lg_mk ?_
     refine t2_0 ?_
     refine t2_0 ?_
     refine t2_5 ?_
     refine t2_6 ?_
     refine t2_0 ?_
     first | (refine lg_g0 ?_ ?_; focus (simp only [guard_rules, list_rules, opt_bind, fr_rules, eq_self, Nat.reduceEqDiff, reduceIte, bool_rules, hkb, hk']; done)) | refine t2_7 ?_
     first | (refine lg_g0 ?_ ?_; focus (simp only [guard_rules, list_rules, opt_bind, fr_rules, eq_self, Nat.reduceEqDiff, reduceIte, bool_rules, hkb, hk']; done)) | refine t2_7 ?_
     first | (refine lg_g0 ?_ ?_; focus (simp only [guard_rules, list_rules, opt_bind, fr_rules, eq_self, Nat.reduceEqDiff, reduceIte, bool_rules, hkb, hk']; done)) | refine t2_8 ?_
     first | (refine lg_g0 ?_ ?_; focus (simp only [guard_rules, list_rules, opt_bind, fr_rules, eq_self, Nat.reduceEqDiff, reduceIte, bool_rules, hkb, hk']; done)) | refine t2_9 ?_
     refine t2_2 ?_
     refine lg_nil ?_
     refine h12 _ ?_; clear h12; try clear N12
     refine vc_cond_k (by simp only [w1, w3, eq_self, Nat.reduceEqDiff, reduceIte]; rfl) (fun hb13 => ?_) (fun hb13 => ?_)
     ·try simp only [b_rules, bif_and, bif_or] at hb13
      subst hb13
      rw [plan_t hkb (by omega)] at i4
      refine vc_seq_k fun N14 h14 => ?_
      refine vc_seq_k fun N15 h15 => ?_
      refine vc_regG [] hmix (by kernel_rfl) ?_
      try refine lg_mk ?_
      refine t2_0 ?_
      refine t2_10 ?_
      refine t2_4 ?_
      refine lg_nil ?_
      refine h15 _ ?_; clear h15; try clear N15
      refine vc_cond_k (by simp only [w1, w3, eq_self, Nat.reduceEqDiff, reduceIte]; rfl) (fun hb16 => ?_) (fun hb16 => ?_)
      ·try simp only [b_rules, bif_and, bif_or] at hb16
       refine vc_seq_k fun N17 h17 => ?_
       refine vc_regG [] hmix (by kernel_rfl) ?_
       try refine lg_mk ?_
       refine t2_0 ?_
       refine t2_0 ?_
       refine t2_0 ?_
       refine lg_nil ?_
       refine h17 _ ?_; clear h17; try clear N17
       refine vc_ret ?_
       try simp only [k_rules]
       rw [if_pos (by omega)] at i4
       exact t2_11
      ·try simp only [b_rules, bif_and, bif_or] at hb16
       refine vc_skip ?_
       try simp only [k_rules]
       refine h14 _ ?_; clear h14; try clear N14
       refine vc_seq_k fun N18 h18 => ?_
       refine vc_regG [] hmix (by kernel_rfl) ?_
       try refine lg_mk ?_
       refine t2_0 ?_
       refine t2_12 ?_
       refine t2_12 ?_
       refine t2_13 ?_
       refine t2_14 ?_
       refine t2_0 ?_
       refine lg_nil ?_
       refine h18 _ ?_; clear h18; try clear N18
       refine vc_exit ?_
       simp only [k_rules, Nat.reduceEqDiff, reduceIte, eq_self]
       refine h10 _ ?_; clear h10; try clear N10
       refine vc_regG [] hmix (by kernel_rfl) ?_
       try refine lg_mk ?_
       refine t2_0 ?_
       refine t2_4 ?_
       refine t2_0 ?_
       refine lg_nil ?_
       rw [if_neg (by omega)] at i4
       refine h6 _ ⟨(k + 1, sent, out ++ [(1, 0), (3, 0)]), ?_, ?_, [some 2], ?_⟩
       ·dsimp only
        refine ⟨by omega, by simp; omega, by simp; omega, ?_⟩
        rw [i4, Nat.sub_sub]
        simp [Nat.sub_sub]
       ·dsimp only
        simp; omega
       ·dsimp only
        refine ⟨by rfl, ?_, ?_⟩
        ·exact t2_15
        ·exact t2_15
     ·try simp only [b_rules, bif_and, bif_or] at hb13
      subst hb13
      rw [plan_f (.inl hkb) (by omega)] at i4
      refine vc_skip ?_
      try simp only [k_rules]
      refine h11 _ ?_; clear h11; try clear N11
      refine vc_seq_k fun N19 h19 => ?_
      refine vc_seq_k fun N20 h20 => ?_
      refine vc_regG [] hmix (by kernel_rfl) ?_
      try refine lg_mk ?_
      refine t2_0 ?_
      refine t2_10 ?_
      refine t2_4 ?_
      refine lg_nil ?_
      refine h20 _ ?_; clear h20; try clear N20
      refine vc_cond_k (by simp only [w1, w3, eq_self, Nat.reduceEqDiff, reduceIte]; rfl) (fun hb21 => ?_) (fun hb21 => ?_)
      ·try simp only [b_rules, bif_and, bif_or] at hb21
       refine vc_seq_k fun N22 h22 => ?_
       refine vc_regG [] hmix (by kernel_rfl) ?_
       try refine lg_mk ?_
       refine t2_0 ?_
       refine t2_0 ?_
       refine t2_0 ?_
       refine lg_nil ?_
       refine h22 _ ?_; clear h22; try clear N22
       refine vc_ret ?_
       try simp only [k_rules]
       rw [if_pos (by omega)] at i4
       exact t2_11
      ·try simp only [b_rules, bif_and, bif_or] at hb21
       refine vc_skip ?_
       try simp only [k_rules]
       refine h19 _ ?_; clear h19; try clear N19
       refine vc_seq_k fun N23 h23 => ?_
       refine vc_regG [] hmix (by kernel_rfl) ?_
       try refine lg_mk ?_
       refine t2_0 ?_
       refine t2_12 ?_
       refine t2_12 ?_
       refine t2_12 ?_
       refine t2_13 ?_
       refine t2_14 ?_
       refine t2_0 ?_
       refine lg_nil ?_
       refine h23 _ ?_; clear h23; try clear N23
       refine vc_regG [] hmix (by kernel_rfl) ?_
       try refine lg_mk ?_
       refine t2_0 ?_
       refine t2_4 ?_
       refine t2_0 ?_
       refine lg_nil ?_
       refine h10 _ ?_; clear h10; try clear N10
       refine vc_regG [] hmix (by kernel_rfl) ?_
       try refine lg_mk ?_
       refine t2_0 ?_
       refine t2_4 ?_
       refine t2_0 ?_
       refine lg_nil ?_
       rw [if_neg (by omega)] at i4
       refine h6 _ ⟨(k + 1, sent + 1, out ++ [(1, 0), (2, 0), (5, 0)]), ?_, ?_, [some 2], ?_⟩
       ·dsimp only
        refine ⟨by omega, by simp; omega, by simp; omega, ?_⟩
        rw [i4, Nat.sub_sub]
        simp [Nat.sub_sub]
       ·dsimp only
        simp; omega
       ·dsimp only
        refine ⟨by rfl, ?_, ?_⟩
        ·exact t2_15
        ·exact t2_15
    ·have hkb : lost[k]? = none := List.getElem?_eq_none hk
     have hk' : decide ((k : Int) < (lost.length : Int)) = false := by simp; omega
     refine vc_regG [] hmix (by kernel_rfl) ?_
     try refine lg_mk ?_
     refine t2_0 ?_
     refine t2_0 ?_
     refine t2_5 ?_
     refine t2_6 ?_
     refine t2_0 ?_
     first | (refine lg_g0 ?_ ?_; focus (simp only [guard_rules, list_rules, opt_bind, fr_rules, eq_self, Nat.reduceEqDiff, reduceIte, bool_rules, hkb, hk']; done)) | refine t2_7 ?_
     first | (refine lg_g0 ?_ ?_; focus (simp only [guard_rules, list_rules, opt_bind, fr_rules, eq_self, Nat.reduceEqDiff, reduceIte, bool_rules, hkb, hk']; done)) | refine t2_7 ?_
     first | (refine lg_g0 ?_ ?_; focus (simp only [guard_rules, list_rules, opt_bind, fr_rules, eq_self, Nat.reduceEqDiff, reduceIte, bool_rules, hkb, hk']; done)) | refine t2_8 ?_
     first | (refine lg_g0 ?_ ?_; focus (simp only [guard_rules, list_rules, opt_bind, fr_rules, eq_self, Nat.reduceEqDiff, reduceIte, bool_rules, hkb, hk']; done)) | refine t2_9 ?_
     refine t2_2 ?_
     refine lg_nil ?_
     refine h12 _ ?_; clear h12; try clear N12
     refine vc_cond_k (by simp only [w1, w3, eq_self, Nat.reduceEqDiff, reduceIte]; rfl) (fun hb24 => ?_) (fun hb24 => ?_)
     ·try simp only [b_rules, bif_and, bif_or] at hb24
      cases hb24
     ·try simp only [b_rules, bif_and, bif_or] at hb24
      rw [plan_f (.inr hkb) (by omega)] at i4
      refine vc_skip ?_
      try simp only [k_rules]
      refine h11 _ ?_; clear h11; try clear N11
      refine vc_seq_k fun N25 h25 => ?_
      refine vc_seq_k fun N26 h26 => ?_
      refine vc_regG [] hmix (by kernel_rfl) ?_
      try refine lg_mk ?_
      refine t2_0 ?_
      refine t2_10 ?_
      refine t2_4 ?_
      refine lg_nil ?_
      refine h26 _ ?_; clear h26; try clear N26
      refine vc_cond_k (by simp only [w1, w3, eq_self, Nat.reduceEqDiff, reduceIte]; rfl) (fun hb27 => ?_) (fun hb27 => ?_)
      ·try simp only [b_rules, bif_and, bif_or] at hb27
       refine vc_seq_k fun N28 h28 => ?_
       refine vc_regG [] hmix (by kernel_rfl) ?_
       try refine lg_mk ?_
       refine t2_0 ?_
       refine t2_0 ?_
       refine t2_0 ?_
       refine lg_nil ?_
       refine h28 _ ?_; clear h28; try clear N28
       refine vc_ret ?_
       try simp only [k_rules]
       rw [if_pos (by omega)] at i4
       exact t2_11
      ·try simp only [b_rules, bif_and, bif_or] at hb27
       refine vc_skip ?_
       try simp only [k_rules]
       refine h25 _ ?_; clear h25; try clear N25
       refine vc_seq_k fun N29 h29 => ?_
       refine vc_regG [] hmix (by kernel_rfl) ?_
       try refine lg_mk ?_
       refine t2_0 ?_
       refine t2_12 ?_
       refine t2_12 ?_
       refine t2_12 ?_
       refine t2_13 ?_
       refine t2_14 ?_
       refine t2_0 ?_
       refine lg_nil ?_
       refine h29 _ ?_; clear h29; try clear N29
       refine vc_regG [] hmix (by kernel_rfl) ?_
       try refine lg_mk ?_
       refine t2_0 ?_
       refine t2_4 ?_
       refine t2_0 ?_
       refine lg_nil ?_
       refine h10 _ ?_; clear h10; try clear N10
       refine vc_regG [] hmix (by kernel_rfl) ?_
       try refine lg_mk ?_
       refine t2_0 ?_
       refine t2_4 ?_
       refine t2_0 ?_
       refine lg_nil ?_
       rw [if_neg (by omega)] at i4
       refine h6 _ ⟨(k + 1, sent + 1, out ++ [(1, 0), (2, 0), (5, 0)]), ?_, ?_, [some 2], ?_⟩
       ·dsimp only
        refine ⟨by omega, by simp; omega, by simp; omega, ?_⟩
        rw [i4, Nat.sub_sub]
        simp [Nat.sub_sub]
       ·dsimp only
        simp; omega
       ·dsimp only
        refine ⟨by rfl, ?_, ?_⟩
        ·exact t2_15
        ·exact t2_15
   ·try simp only [b_rules, bif_and, bif_or] at hb9
    refine vc_exit ?_
    simp only [k_rules, Nat.reduceEqDiff, reduceIte, eq_self]
    refine h4 _ ?_; clear h4; try clear N4
    refine vc_seq_k fun N30 h30 => ?_
    refine vc_regG [] hmix (by kernel_rfl) ?_
    try refine lg_mk ?_
    refine t2_0 ?_
    refine t2_0 ?_
    refine t2_0 ?_
    refine lg_nil ?_
    refine h30 _ ?_; clear h30; try clear N30
    refine vc_ret ?_
    try simp only [k_rules]
    have e0 : n.toNat - sent = 0 := by omega
    rw [e0, plan_zero] at i4
    exact t2_11
 ·cases hg

def E_planOf : Env Try.prog := E_in.add 16 (Spec.pure planOfG) planOf_meets (by kernel_rfl)

theorem g_planOf : (E_planOf.X = T) ∧ (E_planOf.Γ 11 = some (Spec.pure faultG)) ∧ (E_planOf.Γ 18 = some (Spec.pure inG)) ∧ (E_planOf.Γ 16 = some (Spec.pure planOfG)) := ⟨rfl, rfl, rfl, rfl⟩
end Go.Proofs.Ythklbefnmcoojaa
