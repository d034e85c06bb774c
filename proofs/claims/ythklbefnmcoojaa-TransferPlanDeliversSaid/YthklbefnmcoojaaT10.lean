/- Walks, printed by wip/gen/walk.py. -/
import Derived.Test.YthklbefnmcoojaaT9
import Derived.Test.YthklbefnmcoojaaVc31
set_option linter.all false
set_option maxRecDepth 100000
set_option maxHeartbeats 4000000
namespace Go.Proofs.Ythklbefnmcoojaa
open Go Go.Vc Go.RowKit
section
variable [Far] {P : Program} {E : Env P} {W0 : World} {M0 : Nat → Prop} {dr : Bool} {calm : List FuncId} {ops : Array Oper} {K : St → Prop} {o : Op} {d : Option Tmp} {t : TypeId} {p : String} {af : Array Edge} {r : List Oper} {fr : Nat → AV} {H H' : Heap} {n n' : Nat} {q : Prop} {c : AV} {b : Bool} {gd : Nat × Bool}
theorem t10a0 {p : Prop} (h : p := by simp only [nd_rules, nd_slice, ev_rules, fr_rules, av_rules, eq_self, Nat.reduceEqDiff, reduceIte, and_true, true_and, map_rules, List.map_cons, List.map_nil]) : p := h
theorem t10a1 {p : Prop} (h : p := by (first | trivial | omega | assumption | (unfold inI64; omega) | (simp; done) | (simp; omega))) : p := h
theorem t10_0 (hk : AG W0 M0 dr calm E ops K r ⟨putD d c fr, H, n⟩) (h : aOp E fr H n o = .v q c := by simp only [op_rules, ev_rules, fr_rules, av_rules, rs_rules, eq_self, Nat.reduceEqDiff, reduceIte, bw]; rfl) (hn : ndO fr o := by exact t10a0) (hq : q := by exact t10a1) : AG W0 M0 dr calm E ops K (⟨d, o, t, p, af, none⟩ :: r) ⟨fr, H, n⟩ := lg_v h hn hq hk
theorem t10a2 {p : Prop} (h : p := by simp only [op_rules, ev_rules, fr_rules, av_rules, rs_rules, eq_self, Nat.reduceEqDiff, reduceIte, bw, env_rules, tys, g_frames, tiAgg, bin_rules, ar_rules, str_rules, eq_rules, bit_rules, Bool.true_and, Bool.and_true]; rfl) : p := h
theorem t10_1 (hk : AG W0 M0 dr calm E ops K r ⟨putD d c fr, H, n⟩) (h : aOp E fr H n o = .v q c := by exact t10a2) (hn : ndO fr o := by exact t10a0) (hq : q := by exact t10a1) : AG W0 M0 dr calm E ops K (⟨d, o, t, p, af, none⟩ :: r) ⟨fr, H, n⟩ := lg_v h hn hq hk
theorem t10_2 (hk : AG W0 M0 dr calm E ops K r ⟨putD d c fr, H, n⟩) (h : aOp E fr H n o = .v q c := by simp only [op_rules, ev_rules, fr_rules, av_rules, rs_rules, eq_self, Nat.reduceEqDiff, reduceIte, bw, env_rules, tys, g_count, tiAgg, bin_rules, ar_rules, str_rules, eq_rules, bit_rules, Bool.true_and, Bool.and_true]; rfl) (hn : ndO fr o := by exact t10a0) (hq : q := by exact t10a1) : AG W0 M0 dr calm E ops K (⟨d, o, t, p, af, none⟩ :: r) ⟨fr, H, n⟩ := lg_v h hn hq hk
theorem t10_3 (hk : AG W0 M0 dr calm E ops K r ⟨putD d c fr, H, n⟩) (h : aOp E fr H n o = .v q c := by simp only [op_rules, ev_rules, fr_rules, av_rules, rs_rules, eq_self, Nat.reduceEqDiff, reduceIte, bw, op_rules2, aSlice, env_rules, tys, g_frameOf, tiAgg, list_rules, opt_rules, map_rules, rows_get, rows_len, rows_drop, rows_take, rows_app, rows_nil, rows_set, Int.toNat_natCast, Int.reduceToNat, Nat.reduceAdd, Nat.reduceMul, Nat.reduceSub, Nat.reduceLeDiff, Nat.zero_add, Nat.add_zero, true_and, and_true, and_assoc, rect_eI, rect_eB, rect_eU, rect_eS, rect_eL, rect_nil, rect_cons, bytes_is, bytes_str, splice_rules, cell_rules, fill_rules, bnd_rules, or_false, false_or, not_true_eq_false, not_false_eq_true]; rfl) (hn : ndO fr o := by exact t10a0) (hq : q := by exact t10a1) : AG W0 M0 dr calm E ops K (⟨d, o, t, p, af, none⟩ :: r) ⟨fr, H, n⟩ := lg_v h hn hq hk
theorem t10_4 (hk : AG W0 M0 dr calm E ops K r ⟨putD d c fr, H', n'⟩) (h : aOp E fr H n o = .h q c H' n' := by simp only [op_rules, ev_rules, fr_rules, av_rules, rs_rules, eq_self, Nat.reduceEqDiff, reduceIte, bw, aAppend, rowsSrc, or_self, env_rules, tys, g_frameOf, tiAgg, list_rules, opt_rules, map_rules, rows_get, rows_len, rows_drop, rows_take, rows_app, rows_nil, rows_set, Int.toNat_natCast, Int.reduceToNat, Nat.reduceAdd, Nat.reduceMul, Nat.reduceSub, Nat.reduceLeDiff, Nat.zero_add, Nat.add_zero, true_and, and_true, and_assoc, rect_eI, rect_eB, rect_eU, rect_eS, rect_eL, rect_nil, rect_cons, bytes_is, bytes_str, splice_rules, cell_rules, fill_rules, bnd_rules, or_false, false_or, not_true_eq_false, not_false_eq_true]; rfl) (hn : ndO fr o := by exact t10a0) (hq : q := by exact t10a1) (hl : (dr && growB calm d o) = true → HLe H H' := by first | exact (fun h => Bool.noConfusion (show false = true from h)) | exact hle_refl _ _ _ _ _ | exact hle_getB _ _ _ _ (by simp only [le_rules, eq_self, and_true, true_and])) : AG W0 M0 dr calm E ops K (⟨d, o, t, p, af, none⟩ :: r) ⟨fr, H, n⟩ := lg_h h hn hq hl hk
theorem t10_5 {p : Prop} (h : p := by (try simp only [w1, w2, w3, tys, k_rules, eq_self, Nat.reduceEqDiff, Nat.reduceLeDiff, Nat.reduceAdd, Nat.reduceSub, Nat.reduceMul, Int.toNat_natCast, Int.reduceToNat, Int.reduceNeg, List.mem_cons, List.not_mem_nil, or_false, false_or, not_true_eq_false, not_false_eq_true, bif_and, bif_or, reduceIte, true_and, and_true, and_assoc, true_implies, forall_const, implies_true, Bool.true_eq_false, Bool.false_eq_true, false_implies, rows_len, rows_get, rows_drop, rows_take, rows_app, rows_nil, rect_nil, rect_eI, rect_eB, rect_eU, rect_eS, rect_eL, w4, Try.results23, reduceCtorEq, false_or, or_true, true_or]) <;> (repeat' apply And.intro) <;> (first | rfl | exact Or.inl rfl | trivial | omega | (simp; done) | (rw [Nat.sub_zero, List.take_length, e3, e4, e5]; done) | (rw [Nat.sub_zero, e3, e4, e5, List.length_append]; done) | (simp [List.eraseIdx_eq_take_drop_succ]; omega))) : p := h
end
def countG : List AV → Option (Prop × AV)
  | [.d (.sl xs)] => some (xs.length ≤ 1000000000, .d (.int .i64 (((xs.length + 15) / 16 : Nat) : Int)))
  | _ => none
theorem tdiv16 (n : Nat) : ((n : Int) + 16 - 1).tdiv 16 = (((n + 15) / 16 : Nat) : Int) := by
  rw [show (n : Int) + 16 - 1 = ((n + 15 : Nat) : Int) by omega]
  rfl
def frameOfG : List AV → Option (Prop × AV)
  | [.d (.sl xs), .d (.int .i64 i)] => some (Rect 1 xs ∧ xs.length ≤ 1000000000 ∧ 0 ≤ i ∧ 16 * i ≤ xs.length, .d (.sl ((xs.drop (16 * i.toNat)).take 16)))
  | _ => none
/-- without: the row without one element, in a block of its own. -/
def withoutG : GFun
  | [.d (.sl xs), .d (.int .i64 n)], [] => some (xs = rows eI (dI xs) ∧ 0 ≤ n ∧ n < (dI xs).length ∧ (dI xs).length ≤ 1000000000, .sl 0 0 ((dI xs).eraseIdx n.toNat).length, [some (.vec 3 1 (rows eI ((dI xs).eraseIdx n.toNat)))])
  | _, _ => none

theorem count_meets : Meets Try.prog 12 (Spec.pure countG) := by
 refine meets_fun (E_frames.at_ 8) Try.func12 rfl rfl rfl ?_
 intro args p r hg hp
 unfold countG at hg
 split at hg
 ·rename_i xs
  simp only [Option.some.injEq, Prod.mk.injEq] at hg
  obtain ⟨rfl, rfl⟩ := hg
  refine ⟨by rfl, ?_⟩
  intro F W0 hnp hmk
  refine vc_seq_k fun N1 h1 => ?_
  refine vc_regG [] hmix (by kernel_rfl) ?_
  try refine lg_mk ?_
  refine t10_0 ?_
  refine lg_nil ?_
  refine h1 _ ?_; clear h1; try clear N1
  refine vc_seq_k fun N2 h2 => ?_
  refine vc_regG [] hmix (by kernel_rfl) ?_
  try refine lg_mk ?_
  refine t10_0 ?_
  refine lg_v (by simp only [op_rules, ev_rules, fr_rules, av_rules, rs_rules, eq_self, Nat.reduceEqDiff, reduceIte, bw, op_rules2, aLen, env_rules, tys, g_frames, tiAgg, list_rules, opt_rules, map_rules, rows_get, rows_len, rows_drop, rows_take, rows_app, rows_nil, rows_set, Int.toNat_natCast, Int.reduceToNat, Nat.reduceAdd, Nat.reduceMul, Nat.reduceSub, Nat.reduceLeDiff, Nat.zero_add, Nat.add_zero, true_and, and_true, and_assoc, rect_eI, rect_eB, rect_eU, rect_eS, rect_eL, rect_nil, rect_cons, bytes_is, bytes_str, splice_rules, cell_rules, fill_rules, bnd_rules, or_false, false_or, not_true_eq_false, not_false_eq_true]; rfl) (by exact t10a0) (by exact t10a1) ?_
  refine t10_1 ?_
  refine t10_1 ?_
  refine lg_v (by exact t10a2) (by exact t10a0) (by (first | (refine ⟨by decide, ?_⟩; rw [tdiv16]; unfold inI64; omega) | (first | trivial | omega | assumption | (unfold inI64; omega) | (simp; done) | (simp; omega)))) ?_
  refine t10_0 ?_
  refine lg_nil ?_
  refine h2 _ ?_; clear h2; try clear N2
  refine vc_ret ?_
  try simp only [k_rules]
  (simp only [w1, w2, w3, tys, k_rules, eq_self, Nat.reduceEqDiff, Nat.reduceLeDiff, Nat.reduceAdd, Nat.reduceSub, Nat.reduceMul, Int.toNat_natCast, Int.reduceToNat, Int.reduceNeg, List.mem_cons, List.not_mem_nil, or_false, false_or, not_true_eq_false, not_false_eq_true, bif_and, bif_or, reduceIte, true_and, and_true, and_assoc, true_implies, forall_const, implies_true, Bool.true_eq_false, Bool.false_eq_true, false_implies, rows_len, rows_get, rows_drop, rows_take, rows_app, rows_nil, rect_nil, rect_eI, rect_eB, rect_eU, rect_eS, rect_eL, w4, Try.results12, reduceCtorEq, false_or, or_true, true_or]) <;> (try simp only [w1, w2, w3, tys, k_rules, eq_self, Nat.reduceEqDiff, Nat.reduceLeDiff, Nat.reduceAdd, Nat.reduceSub, Nat.reduceMul, Int.toNat_natCast, Int.reduceToNat, Int.reduceNeg, List.mem_cons, List.not_mem_nil, or_false, false_or, not_true_eq_false, not_false_eq_true, bif_and, bif_or, reduceIte, true_and, and_true, and_assoc, true_implies, forall_const, implies_true, Bool.true_eq_false, Bool.false_eq_true, false_implies, rows_len, rows_get, rows_drop, rows_take, rows_app, rows_nil, rect_nil, rect_eI, rect_eB, rect_eU, rect_eS, rect_eL, w4, Try.results12, reduceCtorEq, false_or, or_true, true_or]) <;> (repeat' apply And.intro) <;> (first | rfl | exact Or.inl rfl | trivial | (left; rw [tdiv16]; done) | omega | (simp; done))
 ·cases hg

def E_count : Env Try.prog := E_frames.add 12 (Spec.pure countG) count_meets (by kernel_rfl)

theorem g_count : (E_count.X = T) ∧ (E_count.Γ 11 = some (Spec.pure faultG)) ∧ (E_count.Γ 18 = some (Spec.pure inG)) ∧ (E_count.Γ 16 = some (Spec.pure planOfG)) ∧ (E_count.Γ 20 = some (Spec.pure (cloneG 1 1))) ∧ (E_count.Γ 27 = some (Spec.gen (deleteG 3))) ∧ (E_count.Γ 25 = some (Spec.gen pickG)) ∧ (E_count.Γ 21 = some (Spec.gen stepG)) ∧ (E_count.Γ 19 = some (Spec.pure (chunkG 24))) ∧ (E_count.Γ 9 = some (Spec.pure framesG)) ∧ (E_count.Γ 12 = some (Spec.pure countG)) := ⟨rfl, rfl, rfl, rfl, rfl, rfl, rfl, rfl, rfl, rfl, rfl⟩

theorem frameOf_meets : Meets Try.prog 13 (Spec.pure frameOfG) := by
 refine meets_fun (E_count.at_ 15) Try.func13 rfl rfl rfl ?_
 intro args p r hg hp
 unfold frameOfG at hg
 split at hg
 ·rename_i xs i
  simp only [Option.some.injEq, Prod.mk.injEq] at hg
  obtain ⟨rfl, rfl⟩ := hg
  obtain ⟨hr, hl, h0, hi⟩ := hp
  obtain ⟨i, rfl⟩ := Int.eq_ofNat_of_zero_le h0
  have e1 : (16 * (i : Int)).toNat = 16 * i := by omega
  have e2 : (xs.drop (16 * i)).take ((min (xs.length : Int) (16 * (i : Int) + 16)).toNat - 16 * i) = (xs.drop (16 * i)).take 16 := by
   rw [List.take_eq_take_iff, List.length_drop]; omega
  refine ⟨by rfl, ?_⟩
  intro F W0 hnp hmk
  refine vc_seq_k fun N1 h1 => ?_
  refine vc_regG [] hmix (by kernel_rfl) ?_
  try refine lg_mk ?_
  refine t10_0 ?_
  refine lg_nil ?_
  refine h1 _ ?_; clear h1; try clear N1
  refine vc_seq_k fun N2 h2 => ?_
  refine vc_regG [] hmix (by kernel_rfl) ?_
  try refine lg_mk ?_
  refine t10_0 ?_
  refine t10_0 ?_
  refine t10_2 ?_
  refine t10_0 ?_
  refine lg_v (by simp only [op_rules, ev_rules, fr_rules, av_rules, rs_rules, eq_self, Nat.reduceEqDiff, reduceIte, bw, op_rules2, aLen, env_rules, tys, g_count, tiAgg, list_rules, opt_rules, map_rules, rows_get, rows_len, rows_drop, rows_take, rows_app, rows_nil, rows_set, Int.toNat_natCast, Int.reduceToNat, Nat.reduceAdd, Nat.reduceMul, Nat.reduceSub, Nat.reduceLeDiff, Nat.zero_add, Nat.add_zero, true_and, and_true, and_assoc, rect_eI, rect_eB, rect_eU, rect_eS, rect_eL, rect_nil, rect_cons, bytes_is, bytes_str, splice_rules, cell_rules, fill_rules, bnd_rules, or_false, false_or, not_true_eq_false, not_false_eq_true]; rfl) (by exact t10a0) (by exact t10a1) ?_
  refine t10_0 ?_
  refine t10_2 ?_
  refine t10_2 ?_
  refine lg_v (by simp only [op_rules, ev_rules, fr_rules, av_rules, rs_rules, eq_self, Nat.reduceEqDiff, reduceIte, bw, mm_rules]; rfl) (by exact t10a0) (by exact t10a1) ?_
  refine lg_v (by simp only [op_rules, ev_rules, fr_rules, av_rules, rs_rules, eq_self, Nat.reduceEqDiff, reduceIte, bw, op_rules2, aSlice, env_rules, tys, g_count, tiAgg, list_rules, opt_rules, map_rules, rows_get, rows_len, rows_drop, rows_take, rows_app, rows_nil, rows_set, Int.toNat_natCast, Int.reduceToNat, Nat.reduceAdd, Nat.reduceMul, Nat.reduceSub, Nat.reduceLeDiff, Nat.zero_add, Nat.add_zero, true_and, and_true, and_assoc, rect_eI, rect_eB, rect_eU, rect_eS, rect_eL, rect_nil, rect_cons, bytes_is, bytes_str, splice_rules, cell_rules, fill_rules, bnd_rules, or_false, false_or, not_true_eq_false, not_false_eq_true]; rfl) (by exact t10a0) (by (first | ((repeat' apply And.intro) <;> first | exact hr | omega) | (first | trivial | omega | assumption | (unfold inI64; omega) | (simp; done) | (simp; omega)))) ?_
  refine t10_0 ?_
  refine lg_nil ?_
  refine h2 _ ?_; clear h2; try clear N2
  refine vc_ret ?_
  try simp only [k_rules]
  (simp only [w1, w2, w3, tys, k_rules, eq_self, Nat.reduceEqDiff, Nat.reduceLeDiff, Nat.reduceAdd, Nat.reduceSub, Nat.reduceMul, Int.toNat_natCast, Int.reduceToNat, Int.reduceNeg, List.mem_cons, List.not_mem_nil, or_false, false_or, not_true_eq_false, not_false_eq_true, bif_and, bif_or, reduceIte, true_and, and_true, and_assoc, true_implies, forall_const, implies_true, Bool.true_eq_false, Bool.false_eq_true, false_implies, rows_len, rows_get, rows_drop, rows_take, rows_app, rows_nil, rect_nil, rect_eI, rect_eB, rect_eU, rect_eS, rect_eL, w4, Try.results13, reduceCtorEq, false_or, or_true, true_or]) <;> (try simp only [w1, w2, w3, tys, k_rules, eq_self, Nat.reduceEqDiff, Nat.reduceLeDiff, Nat.reduceAdd, Nat.reduceSub, Nat.reduceMul, Int.toNat_natCast, Int.reduceToNat, Int.reduceNeg, List.mem_cons, List.not_mem_nil, or_false, false_or, not_true_eq_false, not_false_eq_true, bif_and, bif_or, reduceIte, true_and, and_true, and_assoc, true_implies, forall_const, implies_true, Bool.true_eq_false, Bool.false_eq_true, false_implies, rows_len, rows_get, rows_drop, rows_take, rows_app, rows_nil, rect_nil, rect_eI, rect_eB, rect_eU, rect_eS, rect_eL, w4, Try.results13, reduceCtorEq, false_or, or_true, true_or]) <;> (repeat' apply And.intro) <;> (first | rfl | (left; rw [e1, e2]; done) | exact Or.inl rfl | trivial | omega | (simp; done))
 ·cases hg

def E_frameOf : Env Try.prog := E_count.add 13 (Spec.pure frameOfG) frameOf_meets (by kernel_rfl)

theorem g_frameOf : (E_frameOf.X = T) ∧ (E_frameOf.Γ 11 = some (Spec.pure faultG)) ∧ (E_frameOf.Γ 18 = some (Spec.pure inG)) ∧ (E_frameOf.Γ 16 = some (Spec.pure planOfG)) ∧ (E_frameOf.Γ 20 = some (Spec.pure (cloneG 1 1))) ∧ (E_frameOf.Γ 27 = some (Spec.gen (deleteG 3))) ∧ (E_frameOf.Γ 25 = some (Spec.gen pickG)) ∧ (E_frameOf.Γ 21 = some (Spec.gen stepG)) ∧ (E_frameOf.Γ 19 = some (Spec.pure (chunkG 24))) ∧ (E_frameOf.Γ 9 = some (Spec.pure framesG)) ∧ (E_frameOf.Γ 12 = some (Spec.pure countG)) ∧ (E_frameOf.Γ 13 = some (Spec.pure frameOfG)) := ⟨rfl, rfl, rfl, rfl, rfl, rfl, rfl, rfl, rfl, rfl, rfl, rfl⟩

theorem without_meets : Meets Try.prog 23 (Spec.fresh withoutG) := by
 refine meets_fresh (E_frameOf.at_ 14) Try.func23 rfl rfl rfl ?_
 intro args bl p r bf hg hp
 unfold withoutG at hg
 split at hg
 ·rename_i xs n
  simp only [Option.some.injEq, Prod.mk.injEq] at hg
  obtain ⟨rfl, rfl, rfl⟩ := hg
  obtain ⟨hx, h0, hn, hl⟩ := hp
  obtain ⟨n, rfl⟩ := Int.eq_ofNat_of_zero_le h0
  generalize dI xs = l at *
  subst hx
  have e3 : ((n : Int) + 1).toNat = n + 1 := by omega
  have e4 : (l.drop (n + 1)).take (l.length - (n + 1)) = l.drop (n + 1) := List.take_of_length_le (by simp)
  have e5 : l.eraseIdx n = l.take n ++ l.drop (n + 1) := List.eraseIdx_eq_take_drop_succ ..
  refine ⟨Nat.le_of_ble_eq_true rfl, ?_⟩
  intro F W0 M0 hnp hmk
  have hnp : Far.np = 0 := hnp
  refine vc_seq_k fun N1 h1 => ?_
  refine vc_regG [] hmix (by kernel_rfl) ?_
  try refine lg_mk ?_
  refine t10_0 ?_
  refine lg_nil ?_
  refine h1 _ ?_; clear h1; try clear N1
  refine vc_seq_k fun N2 h2 => ?_
  refine vc_regO [1000008] [0, 1, 2, 4, 5, 6, 7, 3, 8, 9] hmix (by kernel_rfl) ?_
  simp only [pick_rules, list_rules]
  try refine lg_mk ?_
  refine t10_0 ?_
  refine t10_0 ?_
  refine t10_3 ?_
  refine t10_0 ?_
  refine t10_0 ?_
  refine lg_v (by simp only [op_rules, ev_rules, fr_rules, av_rules, rs_rules, eq_self, Nat.reduceEqDiff, reduceIte, bw, env_rules, tys, g_frameOf, tiAgg, bin_rules, ar_rules, str_rules, eq_rules, bit_rules, Bool.true_and, Bool.and_true]; rfl) (by exact t10a0) (by exact t10a1) ?_
  refine t10_3 ?_
  refine t10_4 ?_
  refine t10_4 ?_
  refine t10_0 ?_
  refine lg_nil ?_
  refine h2 _ ?_; clear h2; try clear N2
  refine vc_ret ?_
  try simp only [k_rules]
  simp only [w1, w2, w3, tys, k_rules, eq_self, Nat.reduceEqDiff, Nat.reduceLeDiff, Nat.reduceAdd, Nat.reduceSub, Nat.reduceMul, Int.toNat_natCast, Int.reduceToNat, Int.reduceNeg, List.mem_cons, List.not_mem_nil, or_false, false_or, not_true_eq_false, not_false_eq_true, bif_and, bif_or, reduceIte, true_and, and_true, and_assoc, true_implies, forall_const, implies_true, Bool.true_eq_false, Bool.false_eq_true, false_implies, rows_len, rows_get, rows_drop, rows_take, rows_app, rows_nil, rect_nil, rect_eI, rect_eB, rect_eU, rect_eS, rect_eL, w4, Try.results23, reduceCtorEq, false_or, or_true, true_or]
  refine ⟨[some 1], by rfl, ?_, ?_⟩
  ·exact t10_5
  ·exact t10_5
 ·cases hg

def E_without : Env Try.prog := E_frameOf.add 23 (Spec.fresh withoutG) without_meets (by kernel_rfl)

theorem g_without : (E_without.X = T) ∧ (E_without.Γ 11 = some (Spec.pure faultG)) ∧ (E_without.Γ 18 = some (Spec.pure inG)) ∧ (E_without.Γ 16 = some (Spec.pure planOfG)) ∧ (E_without.Γ 20 = some (Spec.pure (cloneG 1 1))) ∧ (E_without.Γ 27 = some (Spec.gen (deleteG 3))) ∧ (E_without.Γ 25 = some (Spec.gen pickG)) ∧ (E_without.Γ 21 = some (Spec.gen stepG)) ∧ (E_without.Γ 19 = some (Spec.pure (chunkG 24))) ∧ (E_without.Γ 9 = some (Spec.pure framesG)) ∧ (E_without.Γ 12 = some (Spec.pure countG)) ∧ (E_without.Γ 13 = some (Spec.pure frameOfG)) ∧ (E_without.Γ 23 = some (Spec.fresh withoutG)) := ⟨rfl, rfl, rfl, rfl, rfl, rfl, rfl, rfl, rfl, rfl, rfl, rfl, rfl⟩
end Go.Proofs.Ythklbefnmcoojaa
