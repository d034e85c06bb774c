/- Walks, printed by wip/gen/walk.py. -/
import Derived.Test.YthklbefnmcoojaaT5
set_option linter.all false
set_option maxRecDepth 100000
set_option maxHeartbeats 4000000
namespace Go.Proofs.Ythklbefnmcoojaa
open Go Go.Vc Go.RowKit
section
variable [Far] {P : Program} {E : Env P} {W0 : World} {M0 : Nat → Prop} {dr : Bool} {calm : List FuncId} {ops : Array Oper} {K : St → Prop} {o : Op} {d : Option Tmp} {t : TypeId} {p : String} {af : Array Edge} {r : List Oper} {fr : Nat → AV} {H H' : Heap} {n n' : Nat} {q : Prop} {c : AV} {b : Bool} {gd : Nat × Bool}
theorem t6a0 {p : Prop} (h : p := by simp only [nd_rules, nd_slice, ev_rules, fr_rules, av_rules, eq_self, Nat.reduceEqDiff, reduceIte, and_true, true_and, map_rules, List.map_cons, List.map_nil]) : p := h
theorem t6a1 {p : Prop} (h : p := by (first | trivial | omega | assumption | (unfold inI64; omega) | (simp; done) | (simp; omega))) : p := h
theorem t6a2 {p : Prop} (h : p := by simp only [op_rules, ev_rules, fr_rules, av_rules, rs_rules, eq_self, Nat.reduceEqDiff, reduceIte, bw]; rfl) : p := h
theorem t6_0 (hk : AG W0 M0 dr calm E ops K r ⟨putD d c fr, H, n⟩) (h : aOp E fr H n o = .v q c := by exact t6a2) (hn : ndO fr o := by exact t6a0) (hq : q := by exact t6a1) : AG W0 M0 dr calm E ops K (⟨d, o, t, p, af, none⟩ :: r) ⟨fr, H, n⟩ := lg_v h hn hq hk
theorem t6a3 {p : Prop} (h : p := by simp only [op_rules, ev_rules, fr_rules, av_rules, rs_rules, eq_self, Nat.reduceEqDiff, reduceIte, bw, aNil]; rfl) : p := h
theorem t6_1 (hk : AG W0 M0 dr calm E ops K r ⟨putD d c fr, H, n⟩) (h : aOp E fr H n o = .v q c := by exact t6a3) (hn : ndO fr o := by exact t6a0) (hq : q := by exact t6a1) : AG W0 M0 dr calm E ops K (⟨d, o, t, p, af, none⟩ :: r) ⟨fr, H, n⟩ := lg_v h hn hq hk
theorem t6a4 {p : Prop} (h : p := by simp only [op_rules, ev_rules, fr_rules, av_rules, rs_rules, eq_self, Nat.reduceEqDiff, reduceIte, bw, op_rules2, aFieldAddr, aField, aIndexAddr, aIndex, aPart, env_rules, tys, g_pick, tiAgg, list_rules, opt_rules, map_rules, rows_get, rows_len, rows_drop, rows_take, rows_app, rows_nil, rows_set, Int.toNat_natCast, Int.reduceToNat, Nat.reduceAdd, Nat.reduceMul, Nat.reduceSub, Nat.reduceLeDiff, Nat.zero_add, Nat.add_zero, true_and, and_true, and_assoc, rect_eI, rect_eB, rect_eU, rect_eS, rect_eL, rect_nil, rect_cons, bytes_is, bytes_str, splice_rules, cell_rules, fill_rules, bnd_rules, or_false, false_or, not_true_eq_false, not_false_eq_true]; rfl) : p := h
theorem t6_2 (hk : AG W0 M0 dr calm E ops K r ⟨putD d c fr, H, n⟩) (h : aOp E fr H n o = .v q c := by exact t6a4) (hn : ndO fr o := by exact t6a0) (hq : q := by exact t6a1) : AG W0 M0 dr calm E ops K (⟨d, o, t, p, af, none⟩ :: r) ⟨fr, H, n⟩ := lg_v h hn hq hk
theorem t6a5 {p : Prop} (h : p := by simp only [op_rules, ev_rules, fr_rules, av_rules, rs_rules, eq_self, Nat.reduceEqDiff, reduceIte, bw, op_rules2, aLoad, loadRow, env_rules, tys, g_pick, tiAgg, list_rules, opt_rules, map_rules, rows_get, rows_len, rows_drop, rows_take, rows_app, rows_nil, rows_set, Int.toNat_natCast, Int.reduceToNat, Nat.reduceAdd, Nat.reduceMul, Nat.reduceSub, Nat.reduceLeDiff, Nat.zero_add, Nat.add_zero, true_and, and_true, and_assoc, rect_eI, rect_eB, rect_eU, rect_eS, rect_eL, rect_nil, rect_cons, bytes_is, bytes_str, splice_rules, cell_rules, fill_rules, bnd_rules, or_false, false_or, not_true_eq_false, not_false_eq_true]; rfl) : p := h
theorem t6_3 (hk : AG W0 M0 dr calm E ops K r ⟨putD d c fr, H, n⟩) (h : aOp E fr H n o = .v q c := by exact t6a5) (hn : ndO fr o := by exact t6a0) (hq : q := by exact t6a1) : AG W0 M0 dr calm E ops K (⟨d, o, t, p, af, none⟩ :: r) ⟨fr, H, n⟩ := lg_v h hn hq hk
theorem t6a6 {p : Prop} (h : p := by simp only [op_rules, ev_rules, fr_rules, av_rules, rs_rules, eq_self, Nat.reduceEqDiff, reduceIte, bw, env_rules, tys, g_pick, tiAgg, bin_rules, ar_rules, str_rules, eq_rules, bit_rules, Bool.true_and, Bool.and_true]; rfl) : p := h
theorem t6_4 (hk : AG W0 M0 dr calm E ops K r ⟨putD d c fr, H, n⟩) (h : aOp E fr H n o = .v q c := by exact t6a6) (hn : ndO fr o := by exact t6a0) (hq : q := by exact t6a1) : AG W0 M0 dr calm E ops K (⟨d, o, t, p, af, none⟩ :: r) ⟨fr, H, n⟩ := lg_v h hn hq hk
theorem t6_5 {p : Prop} (h : p := by (try simp only [w1, w2, w3, tys, k_rules, eq_self, Nat.reduceEqDiff, Nat.reduceLeDiff, Nat.reduceAdd, Nat.reduceSub, Nat.reduceMul, Int.toNat_natCast, Int.reduceToNat, Int.reduceNeg, List.mem_cons, List.not_mem_nil, or_false, false_or, not_true_eq_false, not_false_eq_true, bif_and, bif_or, reduceIte, true_and, and_true, and_assoc, true_implies, forall_const, implies_true, Bool.true_eq_false, Bool.false_eq_true, false_implies, rows_len, rows_get, rows_drop, rows_take, rows_app, rows_nil, rect_nil, rect_eI, rect_eB, rect_eU, rect_eS, rect_eL, w4, Try.results21, reduceCtorEq, false_or, or_true, true_or]) <;> (repeat' apply And.intro) <;> (first | rfl | exact Or.inl rfl | trivial | omega | (simp; done) | (simp [rows, eI]; done))) : p := h
theorem t6a7 {p : Prop} (h : p := by first | exact (fun h => Bool.noConfusion (show false = true from h)) | exact hle_refl _ _ _ _ _ | exact hle_getB _ _ _ _ (by simp only [le_rules, eq_self, and_true, true_and])) : p := h
theorem t6_6 (hk : AG W0 M0 dr calm E ops K r ⟨putD d c fr, H', n'⟩) (h : aOp E fr H n o = .h q c H' n' := by simp only [op_rules, ev_rules, fr_rules, av_rules, rs_rules, eq_self, Nat.reduceEqDiff, reduceIte, bw, aBuildSlice, env_rules, tys, g_pick, tiAgg, list_rules, opt_rules, map_rules, rows_get, rows_len, rows_drop, rows_take, rows_app, rows_nil, rows_set, Int.toNat_natCast, Int.reduceToNat, Nat.reduceAdd, Nat.reduceMul, Nat.reduceSub, Nat.reduceLeDiff, Nat.zero_add, Nat.add_zero, true_and, and_true, and_assoc, rect_eI, rect_eB, rect_eU, rect_eS, rect_eL, rect_nil, rect_cons, bytes_is, bytes_str, splice_rules, cell_rules, fill_rules, bnd_rules, or_false, false_or, not_true_eq_false, not_false_eq_true]; rfl) (hn : ndO fr o := by exact t6a0) (hq : q := by exact t6a1) (hl : (dr && growB calm d o) = true → HLe H H' := by exact t6a7) : AG W0 M0 dr calm E ops K (⟨d, o, t, p, af, none⟩ :: r) ⟨fr, H, n⟩ := lg_h h hn hq hl hk
theorem t6_7 (hk : AG W0 M0 dr calm E ops K r ⟨putD d c fr, H', n'⟩) (h : aOp E fr H n o = .h q c H' n' := by simp only [op_rules, ev_rules, fr_rules, av_rules, rs_rules, eq_self, Nat.reduceEqDiff, reduceIte, bw, aAppend, rowsSrc, or_self, env_rules, tys, g_pick, tiAgg, list_rules, opt_rules, map_rules, rows_get, rows_len, rows_drop, rows_take, rows_app, rows_nil, rows_set, Int.toNat_natCast, Int.reduceToNat, Nat.reduceAdd, Nat.reduceMul, Nat.reduceSub, Nat.reduceLeDiff, Nat.zero_add, Nat.add_zero, true_and, and_true, and_assoc, rect_eI, rect_eB, rect_eU, rect_eS, rect_eL, rect_nil, rect_cons, bytes_is, bytes_str, splice_rules, cell_rules, fill_rules, bnd_rules, or_false, false_or, not_true_eq_false, not_false_eq_true]; rfl) (hn : ndO fr o := by exact t6a0) (hq : q := by exact t6a1) (hl : (dr && growB calm d o) = true → HLe H H' := by exact t6a7) : AG W0 M0 dr calm E ops K (⟨d, o, t, p, af, none⟩ :: r) ⟨fr, H, n⟩ := lg_h h hn hq hl hk
theorem t6a8 {p : Prop} (h : p := by simp only [op_rules, ev_rules, fr_rules, av_rules, rs_rules, eq_self, Nat.reduceEqDiff, reduceIte, bw, aStore, env_rules, tys, g_pick, tiAgg, list_rules, opt_rules, map_rules, rows_get, rows_len, rows_drop, rows_take, rows_app, rows_nil, rows_set, Int.toNat_natCast, Int.reduceToNat, Nat.reduceAdd, Nat.reduceMul, Nat.reduceSub, Nat.reduceLeDiff, Nat.zero_add, Nat.add_zero, true_and, and_true, and_assoc, rect_eI, rect_eB, rect_eU, rect_eS, rect_eL, rect_nil, rect_cons, bytes_is, bytes_str, splice_rules, cell_rules, fill_rules, bnd_rules, or_false, false_or, not_true_eq_false, not_false_eq_true]; rfl) : p := h
theorem t6_8 (hk : AG W0 M0 dr calm E ops K r ⟨putD d c fr, H', n'⟩) (h : aOp E fr H n o = .h q c H' n' := by exact t6a8) (hn : ndO fr o := by exact t6a0) (hq : q := by exact t6a1) (hl : (dr && growB calm d o) = true → HLe H H' := by exact t6a7) : AG W0 M0 dr calm E ops K (⟨d, o, t, p, af, none⟩ :: r) ⟨fr, H, n⟩ := lg_h h hn hq hl hk
theorem t6_9 (hk : AG W0 M0 dr calm E ops K r ⟨putD d c fr, H', n'⟩) (h : aOp E fr H n o = .h q c H' n' := by simp only [call_rule (E := (E_pick.at_ 129)) (f := 25) (sp := Spec.gen pickG) rfl, op_rules, ev_rules, fr_rules, av_rules, rs_rules, eq_self, Nat.reduceEqDiff, reduceIte, bw, callS, rd_rules, pure_rules, pickG, sc_rules, heap_rules, list_rules, opt_rules, map_rules, rows_get, rows_len, rows_drop, rows_take, rows_app, rows_nil, rows_set, Int.toNat_natCast, Int.reduceToNat, Nat.reduceAdd, Nat.reduceMul, Nat.reduceSub, Nat.reduceLeDiff, Nat.zero_add, Nat.add_zero, true_and, and_true, and_assoc, rect_eI, rect_eB, rect_eU, rect_eS, rect_eL, rect_nil, rect_cons, bytes_is, bytes_str, splice_rules, cell_rules, fill_rules, bnd_rules, or_false, false_or, not_true_eq_false, not_false_eq_true, List.mem_cons, List.not_mem_nil, dI_rows, dB_rows, dU_rows, gen_rules, gw, gen_heap, gen_heap0, allSome, Nat.reduceAdd, Nat.reduceSub, Nat.reduceLT, Nat.reduceLeDiff, if_true, if_false, ite_self, List.mem_append, true_implies, Option.bind_some]; rfl) (hn : ndO fr o := by exact t6a0) (hq : q := by exact t6a1) (hl : (dr && growB calm d o) = true → HLe H H' := by exact (fun h => Bool.noConfusion (show false = true from h))) : AG W0 M0 dr calm E ops K (⟨d, o, t, p, af, none⟩ :: r) ⟨fr, H, n⟩ := lg_h h hn hq hl hk
theorem t6_10 (hk : AG W0 M0 dr calm E ops K r ⟨putD d c fr, H, n⟩) (h : aOp E fr H n o = .v q c := by simp only [op_rules, ev_rules, fr_rules, av_rules, rs_rules, eq_self, Nat.reduceEqDiff, reduceIte, bw, op_rules2, aExtract, list_rules]; rfl) (hn : ndO fr o := by exact t6a0) (hq : q := by exact t6a1) : AG W0 M0 dr calm E ops K (⟨d, o, t, p, af, none⟩ :: r) ⟨fr, H, n⟩ := lg_v h hn hq hk
theorem t6_11 (hk : AG W0 M0 dr calm E ops K r ⟨putD d c fr, H, n⟩) (h : aOp E fr H n o = .v q c := by simp only [op_rules, ev_rules, fr_rules, av_rules, rs_rules, eq_self, Nat.reduceEqDiff, reduceIte, bw, un_rules, ar_rules, Bool.not_not]; rfl) (hn : ndO fr o := by exact t6a0) (hq : q := by exact t6a1) : AG W0 M0 dr calm E ops K (⟨d, o, t, p, af, none⟩ :: r) ⟨fr, H, n⟩ := lg_v h hn hq hk
theorem t6_12 (hk : AG W0 M0 dr calm E ops K r ⟨putD d c fr, H', n'⟩) (h : aOp E fr H n o = .h q c H' n' := by exact t6a8) (hn : ndO fr o := by exact t6a0) (hq : q := by exact t6a1) (hl : (dr && growB calm d o) = true → HLe H H' := by exact (fun h => Bool.noConfusion (show false = true from h))) : AG W0 M0 dr calm E ops K (⟨d, o, t, p, af, none⟩ :: r) ⟨fr, H, n⟩ := lg_h h hn hq hl hk
theorem t6a9 {p : Prop} (h : p := by simp only [guard_rules, list_rules, opt_bind, fr_rules, eq_self, Nat.reduceEqDiff, reduceIte, bool_rules]; rfl) : p := h
theorem t6a10 {p : Prop} (h : p := by exact (fun hg => ⟨by first | (simp only [nd_rules, nd_slice, ev_rules, fr_rules, av_rules, eq_self, Nat.reduceEqDiff, reduceIte, and_true, true_and, map_rules, List.map_cons, List.map_nil]; done) | (simp only [nd_rules, nd_slice, ev_rules, fr_rules, av_rules, eq_self, Nat.reduceEqDiff, reduceIte, and_true, true_and, map_rules, List.map_cons, List.map_nil]; exact hg) | (simp_all [nd_rules, nd_slice, ev_rules, fr_rules, av_rules, eq_self, Nat.reduceEqDiff, reduceIte, and_true, true_and, map_rules, List.map_cons, List.map_nil]; done), by (try simp only [b_rules, bif_and, bif_or] at hg); (first | trivial | omega | assumption | (unfold inI64; omega) | (simp; done) | (simp; omega))⟩)) : p := h
theorem t6_13 (hk : AG W0 M0 dr calm E ops K r ⟨putD d (.cond b c) fr, H, n⟩) (hg : guardA ops fr (some gd) = some (some b) := by exact t6a9) (h : aOp E fr H n o = .v q c := by exact t6a5) (hq : b = true → ndO fr o ∧ q := by exact t6a10) : AG W0 M0 dr calm E ops K (⟨d, o, t, p, af, some gd⟩ :: r) ⟨fr, H, n⟩ := lg_gv hg h hq hk
theorem t6_14 (hk : AG W0 M0 dr calm E ops K r ⟨putD d c fr, H, n⟩) (h : aOp E fr H n o = .v q c := by simp only [op_rules, ev_rules, fr_rules, av_rules, rs_rules, eq_self, Nat.reduceEqDiff, reduceIte, bw, aNil, hx]; rfl) (hn : ndO fr o := by exact t6a0) (hq : q := by exact t6a1) : AG W0 M0 dr calm E ops K (⟨d, o, t, p, af, none⟩ :: r) ⟨fr, H, n⟩ := lg_v h hn hq hk
theorem t6_15 (hk : AG W0 M0 dr calm E ops K r ⟨putD d c fr, H, n⟩) (h : aOp E fr H n o = .v q c := by simp only [op_rules, ev_rules, fr_rules, av_rules, rs_rules, eq_self, Nat.reduceEqDiff, reduceIte, bw, op_rules2, aLoad, loadRow, env_rules, tys, g_pick, tiAgg, list_rules, opt_rules, map_rules, rows_get, rows_len, rows_drop, rows_take, rows_app, rows_nil, rows_set, Int.toNat_natCast, Int.reduceToNat, Nat.reduceAdd, Nat.reduceMul, Nat.reduceSub, Nat.reduceLeDiff, Nat.zero_add, Nat.add_zero, true_and, and_true, and_assoc, rect_eI, rect_eB, rect_eU, rect_eS, rect_eL, rect_nil, rect_cons, bytes_is, bytes_str, splice_rules, cell_rules, fill_rules, bnd_rules, or_false, false_or, not_true_eq_false, not_false_eq_true, hx]; rfl) (hn : ndO fr o := by exact t6a0) (hq : q := by exact t6a1) : AG W0 M0 dr calm E ops K (⟨d, o, t, p, af, none⟩ :: r) ⟨fr, H, n⟩ := lg_v h hn hq hk
theorem t6_16 (hk : AG W0 M0 dr calm E ops K r ⟨putD d c fr, H, n⟩) (h : aOp E fr H n o = .v q c := by simp only [op_rules, ev_rules, fr_rules, av_rules, rs_rules, eq_self, Nat.reduceEqDiff, reduceIte, bw, op_rules2, aFieldAddr, aField, aIndexAddr, aIndex, aPart, env_rules, tys, g_pick, tiAgg, list_rules, opt_rules, map_rules, rows_get, rows_len, rows_drop, rows_take, rows_app, rows_nil, rows_set, Int.toNat_natCast, Int.reduceToNat, Nat.reduceAdd, Nat.reduceMul, Nat.reduceSub, Nat.reduceLeDiff, Nat.zero_add, Nat.add_zero, true_and, and_true, and_assoc, rect_eI, rect_eB, rect_eU, rect_eS, rect_eL, rect_nil, rect_cons, bytes_is, bytes_str, splice_rules, cell_rules, fill_rules, bnd_rules, or_false, false_or, not_true_eq_false, not_false_eq_true, hx]; rfl) (hn : ndO fr o := by exact t6a0) (hq : q := by exact t6a1) : AG W0 M0 dr calm E ops K (⟨d, o, t, p, af, none⟩ :: r) ⟨fr, H, n⟩ := lg_v h hn hq hk
end
def stepCode (total acked : Int) (fs ws : List Int) (k n : Int) : Int :=
  if k = 1 then (if n ≠ 0 then 5 else if acked = total then 11 else 0)
  else if k = 2 ∨ k = 3 ∨ k = 4 then (if okN fs n = true then 0 else 6)
  else if k = 5 ∨ k = 6 then (if okN ws n = true then 0 else 6) else 4
def tookK (taken x : Int) : Int := if x = taken then taken + 1 else taken
def linkB (t : TypeId) (total acked taken : Int) (f w lf lw : Nat) : Option Box := some (.one t [.d (.int .i64 total), .d (.int .i64 acked), .d (.int .i64 taken), .sl f 0 lf, .sl w 0 lw])
def intsB (l : List Int) : Option Box := some (.vec 3 1 (rows eI l))
def stepBf (t : TypeId) (total acked taken : Int) (fs ws : List Int) (k n : Int) : List (Option Box) :=
  if stepCode total acked fs ws k n ≠ 0 then [linkB t total acked taken 1 2 fs.length ws.length, intsB fs, intsB ws]
  else if k = 1 then [linkB t total acked taken 3 2 (fs.length + 1) ws.length, none, intsB ws, intsB (fs ++ [acked])]
  else if k = 4 then [linkB t total acked taken 3 2 (fs.length + 1) ws.length, none, intsB ws, intsB (fs ++ [getN fs n])]
  else if k = 2 then [linkB t total acked (tookK taken (getN fs n)) 1 3 (dropN fs n).length (ws.length + 1), intsB (dropN fs n), none, intsB (ws ++ [tookK taken (getN fs n)])]
  else if k = 3 then [linkB t total acked taken 1 2 (dropN fs n).length ws.length, intsB (dropN fs n), intsB ws]
  else if k = 5 then [linkB t total (max acked (getN ws n)) taken 1 2 fs.length (dropN ws n).length, intsB fs, intsB (dropN ws n)]
  else [linkB t total acked taken 1 2 fs.length (dropN ws n).length, intsB fs, intsB (dropN ws n)]
def stepG : GFun
  | [.ptr 0 0 0, .agg [.d (.int .i64 k), .d (.int .i64 n)]], [some (.one t [.d (.int .i64 total), .d (.int .i64 acked), .d (.int .i64 taken), .sl 1 0 lf, .sl 2 0 lw]), some (.vec t1 s1 xs), some (.vec t2 s2 ys)] =>
    some (xs = rows eI (dI xs) ∧ ys = rows eI (dI ys) ∧ t1 = 3 ∧ s1 = 1 ∧ t2 = 3 ∧ s2 = 1 ∧ lf = (dI xs).length ∧ lw = (dI ys).length ∧ (dI xs).length ≤ 1000000 ∧ (dI ys).length ≤ 1000000 ∧ -1000000000 ≤ taken ∧ taken ≤ 1000000000,
      .d (.int .i64 (stepCode total acked (dI xs) (dI ys) k n)), stepBf t total acked taken (dI xs) (dI ys) k n)
  | _, _ => none
theorem okN_ex {l : List Int} {n : Int} (h : okN l n = true) : ∃ m : Nat, n = m ∧ m < l.length ∧ ∃ x, l[m]? = some x ∧ getN l n = x := by
  simp only [okN, Bool.and_eq_true, decide_eq_true_eq] at h
  refine ⟨n.toNat, by omega, by omega, l[n.toNat]'(by omega), List.getElem?_eq_getElem _, ?_⟩
  have hk : okN l n = true := by simp [okN, h]
  simp [getN, hk, List.getD, show n.toNat < l.length by omega]

section
variable {t : TypeId} {total acked taken : Int} {fs ws : List Int} {k n : Int}
theorem step_bad {c : Int} (h : stepCode total acked fs ws k n = c) (hc : c ≠ 0) : stepCode total acked fs ws k n = c ∧ stepBf t total acked taken fs ws k n = [linkB t total acked taken 1 2 fs.length ws.length, intsB fs, intsB ws] :=
  ⟨h, by unfold stepBf; rw [if_pos (by rw [h]; exact hc)]⟩
theorem sc_1a (h : n ≠ 0) : stepCode total acked fs ws 1 n = 5 := by simp [stepCode, h]
theorem sc_1b (h : acked = total) : stepCode total acked fs ws 1 0 = 11 := by simp [stepCode, h]
theorem sc_1c (h : ¬ acked = total) : stepCode total acked fs ws 1 0 = 0 ∧ stepBf t total acked taken fs ws 1 0 = [linkB t total acked taken 3 2 (fs.length + 1) ws.length, none, intsB ws, intsB (fs ++ [acked])] := by simp [stepBf, stepCode, h]
theorem sc_f (hk : k = 2 ∨ k = 3 ∨ k = 4) (h : okN fs n = false) : stepCode total acked fs ws k n = 6 := by
  unfold stepCode; rw [if_neg (by omega), if_pos hk, h]; rfl
theorem sc_w (hk : k = 5 ∨ k = 6) (h : okN ws n = false) : stepCode total acked fs ws k n = 6 := by
  unfold stepCode; rw [if_neg (by omega), if_neg (by omega), if_pos hk, h]; rfl
theorem sc_k (h1 : ¬ k = 1) (h2 : ¬ k = 2) (h3 : ¬ k = 3) (h4 : ¬ k = 4) (h5 : ¬ k = 5) (h6 : ¬ k = 6) : stepCode total acked fs ws k n = 4 := by
  unfold stepCode; rw [if_neg h1, if_neg (by omega), if_neg (by omega)]
theorem sc_2 (h : okN fs n = true) : stepCode total acked fs ws 2 n = 0 ∧ stepBf t total acked taken fs ws 2 n = [linkB t total acked (tookK taken (getN fs n)) 1 3 (dropN fs n).length (ws.length + 1), intsB (dropN fs n), none, intsB (ws ++ [tookK taken (getN fs n)])] := by simp [stepBf, stepCode, h]
theorem sc_3 (h : okN fs n = true) : stepCode total acked fs ws 3 n = 0 ∧ stepBf t total acked taken fs ws 3 n = [linkB t total acked taken 1 2 (dropN fs n).length ws.length, intsB (dropN fs n), intsB ws] := by simp [stepBf, stepCode, h]
theorem sc_4 (h : okN fs n = true) : stepCode total acked fs ws 4 n = 0 ∧ stepBf t total acked taken fs ws 4 n = [linkB t total acked taken 3 2 (fs.length + 1) ws.length, none, intsB ws, intsB (fs ++ [getN fs n])] := by simp [stepBf, stepCode, h]
theorem sc_5 (h : okN ws n = true) : stepCode total acked fs ws 5 n = 0 ∧ stepBf t total acked taken fs ws 5 n = [linkB t total (max acked (getN ws n)) taken 1 2 fs.length (dropN ws n).length, intsB fs, intsB (dropN ws n)] := by simp [stepBf, stepCode, h]
theorem sc_6 (h : okN ws n = true) : stepCode total acked fs ws 6 n = 0 ∧ stepBf t total acked taken fs ws 6 n = [linkB t total acked taken 1 2 fs.length (dropN ws n).length, intsB fs, intsB (dropN ws n)] := by simp [stepBf, stepCode, h]
theorem dropN_none {l : List Int} {n : Int} (h : okN l n = false) : dropN l n = l := by simp [dropN, h]
end

theorem step_meets : Meets Try.prog 21 (Spec.gen stepG) := by
 refine meets_handed (E_pick.at_ 129) Try.func21 rfl rfl rfl ?_
 intro args bl p r bf hg hp
 unfold stepG at hg
 split at hg
 ·rename_i k n t total acked taken lf lw t1 s1 xs t2 s2 ys
  simp only [Option.some.injEq, Prod.mk.injEq] at hg
  obtain ⟨rfl, rfl, rfl⟩ := hg
  obtain ⟨hx, hy, rfl, rfl, rfl, rfl, rfl, rfl, hl, hm, ht1, ht2⟩ := hp
  generalize dI xs = fs at *
  generalize dI ys = ws at *
  subst hx hy
  refine ⟨Nat.le_of_ble_eq_true rfl, ?_⟩
  intro F W0 M0 hnp hmk
  have hnp : Far.np = 3 := hnp
  refine vc_seq_k fun N1 h1 => ?_
  refine vc_regG [] hmix (by kernel_rfl) ?_
  try refine lg_mk ?_
  refine lg_h (by simp only [op_rules, ev_rules, fr_rules, av_rules, rs_rules, eq_self, Nat.reduceEqDiff, reduceIte, bw, aBox, list_rules, opt_rules, map_rules, rows_get, rows_len, rows_drop, rows_take, rows_app, rows_nil, rows_set, Int.toNat_natCast, Int.reduceToNat, Nat.reduceAdd, Nat.reduceMul, Nat.reduceSub, Nat.reduceLeDiff, Nat.zero_add, Nat.add_zero, true_and, and_true, and_assoc, rect_eI, rect_eB, rect_eU, rect_eS, rect_eL, rect_nil, rect_cons, bytes_is, bytes_str, splice_rules, cell_rules, fill_rules, bnd_rules, or_false, false_or, not_true_eq_false, not_false_eq_true]; rfl) (by exact t6a0) (by exact t6a1) (fun h => Bool.noConfusion (show false = true from h)) ?_
  refine t6_0 ?_
  refine lg_nil ?_
  refine h1 _ ?_; clear h1; try clear N1
  refine vc_seq_k fun N2 h2 => ?_
  refine vc_regG [] hmix (by kernel_rfl) ?_
  try refine lg_mk ?_
  refine t6_0 ?_
  refine t6_1 ?_
  refine t6_2 ?_
  refine t6_0 ?_
  refine lg_nil ?_
  refine h2 _ ?_; clear h2; try clear N2
  refine vc_seq_k fun N3 h3 => ?_
  refine vc_seq_k fun N4 h4 => ?_
  refine vc_regG [] hmix (by kernel_rfl) ?_
  try refine lg_mk ?_
  refine t6_2 ?_
  refine t6_3 ?_
  refine lg_nil ?_
  refine h4 _ ?_; clear h4; try clear N4
  refine vc_block ?_
  refine vc_seq_k fun N5 h5 => ?_
  refine vc_regG [] hmix (by kernel_rfl) ?_
  try refine lg_mk ?_
  refine t6_4 ?_
  refine t6_0 ?_
  refine lg_nil ?_
  refine h5 _ ?_; clear h5; try clear N5
  refine vc_cond_k (by simp only [w1, w3, eq_self, Nat.reduceEqDiff, reduceIte]; rfl) (fun hb6 => ?_) (fun hb6 => ?_)
  ·try simp only [b_rules, bif_and, bif_or] at hb6
   subst hb6
   refine vc_seq_k fun N7 h7 => ?_
   refine vc_seq_k fun N8 h8 => ?_
   refine vc_regG [] hmix (by kernel_rfl) ?_
   try refine lg_mk ?_
   refine t6_2 ?_
   refine t6_3 ?_
   refine t6_4 ?_
   refine lg_nil ?_
   refine h8 _ ?_; clear h8; try clear N8
   refine vc_cond_k (by simp only [w1, w3, eq_self, Nat.reduceEqDiff, reduceIte]; rfl) (fun hb9 => ?_) (fun hb9 => ?_)
   ·try simp only [b_rules, bif_and, bif_or] at hb9
    refine vc_seq_k fun N10 h10 => ?_
    refine vc_regG [] hmix (by kernel_rfl) ?_
    try refine lg_mk ?_
    refine t6_0 ?_
    refine lg_nil ?_
    refine h10 _ ?_; clear h10; try clear N10
    refine vc_ret ?_
    try simp only [k_rules]
    obtain ⟨e1, e2⟩ := step_bad (t := t) (taken := taken) (sc_1a (total := total) (acked := acked) (fs := fs) (ws := ws) (by omega : n ≠ 0)) (by omega)
    rw [e1, e2]
    simp only [linkB, intsB]
    simp only [w1, w2, w3, tys, k_rules, eq_self, Nat.reduceEqDiff, Nat.reduceLeDiff, Nat.reduceAdd, Nat.reduceSub, Nat.reduceMul, Int.toNat_natCast, Int.reduceToNat, Int.reduceNeg, List.mem_cons, List.not_mem_nil, or_false, false_or, not_true_eq_false, not_false_eq_true, bif_and, bif_or, reduceIte, true_and, and_true, and_assoc, true_implies, forall_const, implies_true, Bool.true_eq_false, Bool.false_eq_true, false_implies, rows_len, rows_get, rows_drop, rows_take, rows_app, rows_nil, rect_nil, rect_eI, rect_eB, rect_eU, rect_eS, rect_eL, w4, Try.results21, reduceCtorEq, false_or, or_true, true_or]
    refine ⟨[some 0, some 1, some 2], by rfl, ?_, ?_⟩
    ·exact t6_5
    ·exact t6_5
   ·try simp only [b_rules, bif_and, bif_or] at hb9
    have hn : n = 0 := by omega
    subst hn
    refine vc_skip ?_
    try simp only [k_rules]
    refine h7 _ ?_; clear h7; try clear N7
    refine vc_seq_k fun N11 h11 => ?_
    refine vc_seq_k fun N12 h12 => ?_
    refine vc_regG [] hmix (by kernel_rfl) ?_
    try refine lg_mk ?_
    refine t6_0 ?_
    refine t6_1 ?_
    refine t6_2 ?_
    refine t6_3 ?_
    refine t6_0 ?_
    refine t6_1 ?_
    refine t6_2 ?_
    refine t6_3 ?_
    refine t6_4 ?_
    refine lg_nil ?_
    refine h12 _ ?_; clear h12; try clear N12
    refine vc_cond_k (by simp only [w1, w3, eq_self, Nat.reduceEqDiff, reduceIte]; rfl) (fun hb13 => ?_) (fun hb13 => ?_)
    ·try simp only [b_rules, bif_and, bif_or] at hb13
     refine vc_seq_k fun N14 h14 => ?_
     refine vc_regG [] hmix (by kernel_rfl) ?_
     try refine lg_mk ?_
     refine t6_0 ?_
     refine lg_nil ?_
     refine h14 _ ?_; clear h14; try clear N14
     refine vc_ret ?_
     try simp only [k_rules]
     obtain ⟨e1, e2⟩ := step_bad (t := t) (taken := taken) (sc_1b (fs := fs) (ws := ws) (by omega : acked = total)) (by omega)
     rw [e1, e2]
     simp only [linkB, intsB]
     simp only [w1, w2, w3, tys, k_rules, eq_self, Nat.reduceEqDiff, Nat.reduceLeDiff, Nat.reduceAdd, Nat.reduceSub, Nat.reduceMul, Int.toNat_natCast, Int.reduceToNat, Int.reduceNeg, List.mem_cons, List.not_mem_nil, or_false, false_or, not_true_eq_false, not_false_eq_true, bif_and, bif_or, reduceIte, true_and, and_true, and_assoc, true_implies, forall_const, implies_true, Bool.true_eq_false, Bool.false_eq_true, false_implies, rows_len, rows_get, rows_drop, rows_take, rows_app, rows_nil, rect_nil, rect_eI, rect_eB, rect_eU, rect_eS, rect_eL, w4, Try.results21, reduceCtorEq, false_or, or_true, true_or]
     refine ⟨[some 0, some 1, some 2], by rfl, ?_, ?_⟩
     ·exact t6_5
     ·exact t6_5
    ·try simp only [b_rules, bif_and, bif_or] at hb13
     refine vc_skip ?_
     try simp only [k_rules]
     refine h11 _ ?_; clear h11; try clear N11
     refine vc_seq_k fun N15 h15 => ?_
     refine vc_regG [] hmix (by kernel_rfl) ?_
     try refine lg_mk ?_
     refine t6_0 ?_
     refine t6_0 ?_
     refine t6_1 ?_
     refine t6_2 ?_
     refine t6_3 ?_
     refine t6_0 ?_
     refine t6_1 ?_
     refine t6_2 ?_
     refine t6_3 ?_
     refine t6_6 ?_
     refine t6_7 ?_
     refine t6_1 ?_
     refine t6_2 ?_
     refine t6_8 ?_
     refine lg_nil ?_
     refine h15 _ ?_; clear h15; try clear N15
     refine vc_seq_k fun N16 h16 => ?_
     refine vc_regG [] hmix (by kernel_rfl) ?_
     try refine lg_mk ?_
     refine t6_0 ?_
     refine lg_nil ?_
     refine h16 _ ?_; clear h16; try clear N16
     refine vc_ret ?_
     try simp only [k_rules]
     obtain ⟨e1, e2⟩ := sc_1c (t := t) (taken := taken) (fs := fs) (ws := ws) (by omega : ¬ acked = total)
     rw [e1, e2]
     simp only [linkB, intsB]
     simp only [w1, w2, w3, tys, k_rules, eq_self, Nat.reduceEqDiff, Nat.reduceLeDiff, Nat.reduceAdd, Nat.reduceSub, Nat.reduceMul, Int.toNat_natCast, Int.reduceToNat, Int.reduceNeg, List.mem_cons, List.not_mem_nil, or_false, false_or, not_true_eq_false, not_false_eq_true, bif_and, bif_or, reduceIte, true_and, and_true, and_assoc, true_implies, forall_const, implies_true, Bool.true_eq_false, Bool.false_eq_true, false_implies, rows_len, rows_get, rows_drop, rows_take, rows_app, rows_nil, rect_nil, rect_eI, rect_eB, rect_eU, rect_eS, rect_eL, w4, Try.results21, reduceCtorEq, false_or, or_true, true_or]
     refine ⟨[some 0, some 1, some 2, some 5], by rfl, ?_, ?_⟩
     ·exact t6_5
     ·exact t6_5
  ·try simp only [b_rules, bif_and, bif_or] at hb6
   refine vc_seq_k fun N17 h17 => ?_
   refine vc_seq_k fun N18 h18 => ?_
   refine vc_regG [] hmix (by kernel_rfl) ?_
   try refine lg_mk ?_
   refine t6_4 ?_
   refine t6_0 ?_
   refine lg_nil ?_
   refine h18 _ ?_; clear h18; try clear N18
   refine vc_cond_k (by simp only [w1, w3, eq_self, Nat.reduceEqDiff, reduceIte]; rfl) (fun hb19 => ?_) (fun hb19 => ?_)
   ·try simp only [b_rules, bif_and, bif_or] at hb19
    refine vc_skip ?_
    try simp only [k_rules]
    refine h17 _ ?_; clear h17; try clear N17
    refine vc_cond_k (by simp only [w1, w3, eq_self, Nat.reduceEqDiff, reduceIte]; rfl) (fun hb20 => ?_) (fun hb20 => ?_)
    ·try simp only [b_rules, bif_and, bif_or] at hb20
     refine vc_skip ?_
     try simp only [k_rules]
     refine h3 _ ?_; clear h3; try clear N3
     refine vc_seq_k fun N21 h21 => ?_
     refine vc_seq_k fun N22 h22 => ?_
     refine vc_regG [] hmix (by kernel_rfl) ?_
     try refine lg_mk ?_
     refine t6_2 ?_
     refine t6_3 ?_
     refine t6_4 ?_
     refine lg_nil ?_
     refine h22 _ ?_; clear h22; try clear N22
     refine vc_cond_k (by simp only [w1, w3, eq_self, Nat.reduceEqDiff, reduceIte]; rfl) (fun hb23 => ?_) (fun hb23 => ?_)
     ·try simp only [b_rules, bif_and, bif_or] at hb23
      first | omega | exact absurd trivial hb23 | contradiction | (simp_all; done)
     ·try simp only [b_rules, bif_and, bif_or] at hb23
      obtain rfl : k = 2 := by omega
      refine vc_skip ?_
      try simp only [k_rules]
      refine h21 _ ?_; clear h21; try clear N21
      refine vc_seq_k fun N24 h24 => ?_
      refine vc_regG [] hmix (by kernel_rfl) ?_
      try refine lg_mk ?_
      refine t6_0 ?_
      refine t6_2 ?_
      refine t6_3 ?_
      refine t6_9 ?_
      refine t6_0 ?_
      refine t6_10 ?_
      refine t6_10 ?_
      refine t6_0 ?_
      refine t6_0 ?_
      refine lg_nil ?_
      refine h24 _ ?_; clear h24; try clear N24
      refine vc_seq_k fun N25 h25 => ?_
      refine vc_seq_k fun N26 h26 => ?_
      refine vc_regG [] hmix (by kernel_rfl) ?_
      try refine lg_mk ?_
      refine t6_0 ?_
      refine t6_11 ?_
      refine lg_nil ?_
      refine h26 _ ?_; clear h26; try clear N26
      refine vc_cond_k (by simp only [w1, w3, eq_self, Nat.reduceEqDiff, reduceIte]; rfl) (fun hb27 => ?_) (fun hb27 => ?_)
      ·try simp only [b_rules, bif_and, bif_or] at hb27
       have hok : okN fs n = false := by simpa using hb27
       refine vc_seq_k fun N28 h28 => ?_
       refine vc_regG [] hmix (by kernel_rfl) ?_
       try refine lg_mk ?_
       refine t6_0 ?_
       refine lg_nil ?_
       refine h28 _ ?_; clear h28; try clear N28
       refine vc_ret ?_
       try simp only [k_rules]
       obtain ⟨e1, e2⟩ := step_bad (t := t) (taken := taken) (sc_f (total := total) (acked := acked) (ws := ws) (by omega : (2 : Int) = 2 ∨ (2 : Int) = 3 ∨ (2 : Int) = 4) hok) (by omega)
       rw [e1, e2]
       simp only [linkB, intsB]
       rw [dropN_none hok]
       simp only [w1, w2, w3, tys, k_rules, eq_self, Nat.reduceEqDiff, Nat.reduceLeDiff, Nat.reduceAdd, Nat.reduceSub, Nat.reduceMul, Int.toNat_natCast, Int.reduceToNat, Int.reduceNeg, List.mem_cons, List.not_mem_nil, or_false, false_or, not_true_eq_false, not_false_eq_true, bif_and, bif_or, reduceIte, true_and, and_true, and_assoc, true_implies, forall_const, implies_true, Bool.true_eq_false, Bool.false_eq_true, false_implies, rows_len, rows_get, rows_drop, rows_take, rows_app, rows_nil, rect_nil, rect_eI, rect_eB, rect_eU, rect_eS, rect_eL, w4, Try.results21, reduceCtorEq, false_or, or_true, true_or]
       refine ⟨[some 0, some 1, some 2], by rfl, ?_, ?_⟩
       ·exact t6_5
       ·exact t6_5
      ·try simp only [b_rules, bif_and, bif_or] at hb27
       have hok : okN fs n = true := by simpa using hb27
       refine vc_skip ?_
       try simp only [k_rules]
       refine h25 _ ?_; clear h25; try clear N25
       refine vc_seq_k fun N29 h29 => ?_
       refine vc_seq_k fun N30 h30 => ?_
       refine vc_regG [] hmix (by kernel_rfl) ?_
       try refine lg_mk ?_
       refine t6_2 ?_
       refine t6_3 ?_
       refine lg_nil ?_
       refine h30 _ ?_; clear h30; try clear N30
       refine vc_block ?_
       refine vc_seq_k fun N31 h31 => ?_
       refine vc_regG [] hmix (by kernel_rfl) ?_
       try refine lg_mk ?_
       refine t6_4 ?_
       refine t6_0 ?_
       refine lg_nil ?_
       refine h31 _ ?_; clear h31; try clear N31
       refine vc_cond_k (by simp only [w1, w3, eq_self, Nat.reduceEqDiff, reduceIte]; rfl) (fun hb32 => ?_) (fun hb32 => ?_)
       ·try simp only [b_rules, bif_and, bif_or] at hb32
        refine vc_seq_k fun N33 h33 => ?_
        refine vc_seq_k fun N34 h34 => ?_
        refine vc_regG [] hmix (by kernel_rfl) ?_
        try refine lg_mk ?_
        refine t6_0 ?_
        refine t6_0 ?_
        refine t6_1 ?_
        refine t6_2 ?_
        refine t6_3 ?_
        refine t6_4 ?_
        refine lg_nil ?_
        refine h34 _ ?_; clear h34; try clear N34
        refine vc_cond_k (by simp only [w1, w3, eq_self, Nat.reduceEqDiff, reduceIte]; rfl) (fun hb35 => ?_) (fun hb35 => ?_)
        ·try simp only [b_rules, bif_and, bif_or] at hb35
         refine vc_regG [] hmix (by kernel_rfl) ?_
         try refine lg_mk ?_
         refine t6_0 ?_
         refine t6_1 ?_
         refine t6_2 ?_
         refine t6_3 ?_
         refine t6_4 ?_
         refine t6_1 ?_
         refine t6_2 ?_
         refine t6_12 ?_
         refine lg_nil ?_
         refine h33 _ ?_; clear h33; try clear N33
         refine vc_regG [] hmix (by kernel_rfl) ?_
         try refine lg_mk ?_
         refine t6_0 ?_
         refine t6_0 ?_
         refine t6_1 ?_
         refine t6_2 ?_
         refine t6_3 ?_
         refine t6_0 ?_
         refine t6_1 ?_
         refine t6_2 ?_
         refine t6_3 ?_
         refine t6_6 ?_
         refine t6_7 ?_
         refine t6_1 ?_
         refine t6_2 ?_
         refine t6_8 ?_
         refine lg_nil ?_
         refine h29 _ ?_; clear h29; try clear N29
         refine vc_seq_k fun N36 h36 => ?_
         refine vc_regG [] hmix (by kernel_rfl) ?_
         try refine lg_mk ?_
         refine t6_0 ?_
         refine lg_nil ?_
         refine h36 _ ?_; clear h36; try clear N36
         refine vc_ret ?_
         try simp only [k_rules]
         obtain ⟨e1, e2⟩ := sc_2 (t := t) (total := total) (acked := acked) (taken := taken) (ws := ws) hok
         rw [e1, e2]
         simp only [linkB, intsB]
         rw [show tookK taken (getN fs n) = taken + 1 by simp [tookK]; omega]
         simp only [w1, w2, w3, tys, k_rules, eq_self, Nat.reduceEqDiff, Nat.reduceLeDiff, Nat.reduceAdd, Nat.reduceSub, Nat.reduceMul, Int.toNat_natCast, Int.reduceToNat, Int.reduceNeg, List.mem_cons, List.not_mem_nil, or_false, false_or, not_true_eq_false, not_false_eq_true, bif_and, bif_or, reduceIte, true_and, and_true, and_assoc, true_implies, forall_const, implies_true, Bool.true_eq_false, Bool.false_eq_true, false_implies, rows_len, rows_get, rows_drop, rows_take, rows_app, rows_nil, rect_nil, rect_eI, rect_eB, rect_eU, rect_eS, rect_eL, w4, Try.results21, reduceCtorEq, false_or, or_true, true_or]
         refine ⟨[some 0, some 1, some 2, some 5], by rfl, ?_, ?_⟩
         ·exact t6_5
         ·exact t6_5
        ·try simp only [b_rules, bif_and, bif_or] at hb35
         refine vc_skip ?_
         try simp only [k_rules]
         refine h33 _ ?_; clear h33; try clear N33
         refine vc_regG [] hmix (by kernel_rfl) ?_
         try refine lg_mk ?_
         refine t6_0 ?_
         refine t6_0 ?_
         refine t6_1 ?_
         refine t6_2 ?_
         refine t6_3 ?_
         refine t6_0 ?_
         refine t6_1 ?_
         refine t6_2 ?_
         refine t6_3 ?_
         refine t6_6 ?_
         refine t6_7 ?_
         refine t6_1 ?_
         refine t6_2 ?_
         refine t6_8 ?_
         refine lg_nil ?_
         refine h29 _ ?_; clear h29; try clear N29
         refine vc_seq_k fun N37 h37 => ?_
         refine vc_regG [] hmix (by kernel_rfl) ?_
         try refine lg_mk ?_
         refine t6_0 ?_
         refine lg_nil ?_
         refine h37 _ ?_; clear h37; try clear N37
         refine vc_ret ?_
         try simp only [k_rules]
         obtain ⟨e1, e2⟩ := sc_2 (t := t) (total := total) (acked := acked) (taken := taken) (ws := ws) hok
         rw [e1, e2]
         simp only [linkB, intsB]
         rw [show tookK taken (getN fs n) = taken by simp [tookK]; omega]
         simp only [w1, w2, w3, tys, k_rules, eq_self, Nat.reduceEqDiff, Nat.reduceLeDiff, Nat.reduceAdd, Nat.reduceSub, Nat.reduceMul, Int.toNat_natCast, Int.reduceToNat, Int.reduceNeg, List.mem_cons, List.not_mem_nil, or_false, false_or, not_true_eq_false, not_false_eq_true, bif_and, bif_or, reduceIte, true_and, and_true, and_assoc, true_implies, forall_const, implies_true, Bool.true_eq_false, Bool.false_eq_true, false_implies, rows_len, rows_get, rows_drop, rows_take, rows_app, rows_nil, rect_nil, rect_eI, rect_eB, rect_eU, rect_eS, rect_eL, w4, Try.results21, reduceCtorEq, false_or, or_true, true_or]
         refine ⟨[some 0, some 1, some 2, some 5], by rfl, ?_, ?_⟩
         ·exact t6_5
         ·exact t6_5
       ·try simp only [b_rules, bif_and, bif_or] at hb32
        first | omega | exact absurd trivial hb32 | contradiction | (simp_all; done)
    ·exfalso; (try simp only [b_rules, bif_and, bif_or] at hb20); first | omega | contradiction | (simp_all; done) | (simp_all; omega)
   ·try simp only [b_rules, bif_and, bif_or] at hb19
    refine vc_seq_k fun N38 h38 => ?_
    refine vc_regG [] hmix (by kernel_rfl) ?_
    try refine lg_mk ?_
    refine t6_4 ?_
    refine t6_0 ?_
    refine lg_nil ?_
    refine h38 _ ?_; clear h38; try clear N38
    refine vc_cond_k (by simp only [w1, w3, eq_self, Nat.reduceEqDiff, reduceIte]; rfl) (fun hb39 => ?_) (fun hb39 => ?_)
    ·try simp only [b_rules, bif_and, bif_or] at hb39
     refine vc_skip ?_
     try simp only [k_rules]
     refine h17 _ ?_; clear h17; try clear N17
     refine vc_cond_k (by simp only [w1, w3, eq_self, Nat.reduceEqDiff, reduceIte]; rfl) (fun hb40 => ?_) (fun hb40 => ?_)
     ·try simp only [b_rules, bif_and, bif_or] at hb40
      refine vc_skip ?_
      try simp only [k_rules]
      refine h3 _ ?_; clear h3; try clear N3
      refine vc_seq_k fun N41 h41 => ?_
      refine vc_seq_k fun N42 h42 => ?_
      refine vc_regG [] hmix (by kernel_rfl) ?_
      try refine lg_mk ?_
      refine t6_2 ?_
      refine t6_3 ?_
      refine t6_4 ?_
      refine lg_nil ?_
      refine h42 _ ?_; clear h42; try clear N42
      refine vc_cond_k (by simp only [w1, w3, eq_self, Nat.reduceEqDiff, reduceIte]; rfl) (fun hb43 => ?_) (fun hb43 => ?_)
      ·try simp only [b_rules, bif_and, bif_or] at hb43
       first | omega | exact absurd trivial hb43 | contradiction | (simp_all; done)
      ·try simp only [b_rules, bif_and, bif_or] at hb43
       obtain rfl : k = 3 := by omega
       refine vc_skip ?_
       try simp only [k_rules]
       refine h41 _ ?_; clear h41; try clear N41
       refine vc_seq_k fun N44 h44 => ?_
       refine vc_regG [] hmix (by kernel_rfl) ?_
       try refine lg_mk ?_
       refine t6_0 ?_
       refine t6_2 ?_
       refine t6_3 ?_
       refine t6_9 ?_
       refine t6_0 ?_
       refine t6_10 ?_
       refine t6_10 ?_
       refine t6_0 ?_
       refine t6_0 ?_
       refine lg_nil ?_
       refine h44 _ ?_; clear h44; try clear N44
       refine vc_seq_k fun N45 h45 => ?_
       refine vc_seq_k fun N46 h46 => ?_
       refine vc_regG [] hmix (by kernel_rfl) ?_
       try refine lg_mk ?_
       refine t6_0 ?_
       refine t6_11 ?_
       refine lg_nil ?_
       refine h46 _ ?_; clear h46; try clear N46
       refine vc_cond_k (by simp only [w1, w3, eq_self, Nat.reduceEqDiff, reduceIte]; rfl) (fun hb47 => ?_) (fun hb47 => ?_)
       ·try simp only [b_rules, bif_and, bif_or] at hb47
        have hok : okN fs n = false := by simpa using hb47
        refine vc_seq_k fun N48 h48 => ?_
        refine vc_regG [] hmix (by kernel_rfl) ?_
        try refine lg_mk ?_
        refine t6_0 ?_
        refine lg_nil ?_
        refine h48 _ ?_; clear h48; try clear N48
        refine vc_ret ?_
        try simp only [k_rules]
        obtain ⟨e1, e2⟩ := step_bad (t := t) (taken := taken) (sc_f (total := total) (acked := acked) (ws := ws) (by omega : (3 : Int) = 2 ∨ (3 : Int) = 3 ∨ (3 : Int) = 4) hok) (by omega)
        rw [e1, e2]
        simp only [linkB, intsB]
        rw [dropN_none hok]
        simp only [w1, w2, w3, tys, k_rules, eq_self, Nat.reduceEqDiff, Nat.reduceLeDiff, Nat.reduceAdd, Nat.reduceSub, Nat.reduceMul, Int.toNat_natCast, Int.reduceToNat, Int.reduceNeg, List.mem_cons, List.not_mem_nil, or_false, false_or, not_true_eq_false, not_false_eq_true, bif_and, bif_or, reduceIte, true_and, and_true, and_assoc, true_implies, forall_const, implies_true, Bool.true_eq_false, Bool.false_eq_true, false_implies, rows_len, rows_get, rows_drop, rows_take, rows_app, rows_nil, rect_nil, rect_eI, rect_eB, rect_eU, rect_eS, rect_eL, w4, Try.results21, reduceCtorEq, false_or, or_true, true_or]
        refine ⟨[some 0, some 1, some 2], by rfl, ?_, ?_⟩
        ·exact t6_5
        ·exact t6_5
       ·try simp only [b_rules, bif_and, bif_or] at hb47
        have hok : okN fs n = true := by simpa using hb47
        refine vc_skip ?_
        try simp only [k_rules]
        refine h45 _ ?_; clear h45; try clear N45
        refine vc_seq_k fun N49 h49 => ?_
        refine vc_seq_k fun N50 h50 => ?_
        refine vc_regG [] hmix (by kernel_rfl) ?_
        try refine lg_mk ?_
        refine t6_2 ?_
        refine t6_3 ?_
        refine lg_nil ?_
        refine h50 _ ?_; clear h50; try clear N50
        refine vc_block ?_
        refine vc_seq_k fun N51 h51 => ?_
        refine vc_regG [] hmix (by kernel_rfl) ?_
        try refine lg_mk ?_
        refine t6_4 ?_
        refine t6_0 ?_
        refine lg_nil ?_
        refine h51 _ ?_; clear h51; try clear N51
        refine vc_cond_k (by simp only [w1, w3, eq_self, Nat.reduceEqDiff, reduceIte]; rfl) (fun hb52 => ?_) (fun hb52 => ?_)
        ·try simp only [b_rules, bif_and, bif_or] at hb52
         first | omega | exact absurd trivial hb52 | contradiction | (simp_all; done)
        ·try simp only [b_rules, bif_and, bif_or] at hb52
         refine vc_seq_k fun N53 h53 => ?_
         refine vc_regG [] hmix (by kernel_rfl) ?_
         try refine lg_mk ?_
         refine t6_4 ?_
         refine t6_0 ?_
         refine lg_nil ?_
         refine h53 _ ?_; clear h53; try clear N53
         refine vc_cond_k (by simp only [w1, w3, eq_self, Nat.reduceEqDiff, reduceIte]; rfl) (fun hb54 => ?_) (fun hb54 => ?_)
         ·try simp only [b_rules, bif_and, bif_or] at hb54
          first | omega | exact absurd trivial hb54 | contradiction | (simp_all; done)
         ·try simp only [b_rules, bif_and, bif_or] at hb54
          refine vc_skip ?_
          try simp only [k_rules]
          refine h49 _ ?_; clear h49; try clear N49
          refine vc_seq_k fun N55 h55 => ?_
          refine vc_regG [] hmix (by kernel_rfl) ?_
          try refine lg_mk ?_
          refine t6_0 ?_
          refine lg_nil ?_
          refine h55 _ ?_; clear h55; try clear N55
          refine vc_ret ?_
          try simp only [k_rules]
          obtain ⟨e1, e2⟩ := sc_3 (t := t) (total := total) (acked := acked) (taken := taken) (ws := ws) hok
          rw [e1, e2]
          simp only [linkB, intsB]
          simp only [w1, w2, w3, tys, k_rules, eq_self, Nat.reduceEqDiff, Nat.reduceLeDiff, Nat.reduceAdd, Nat.reduceSub, Nat.reduceMul, Int.toNat_natCast, Int.reduceToNat, Int.reduceNeg, List.mem_cons, List.not_mem_nil, or_false, false_or, not_true_eq_false, not_false_eq_true, bif_and, bif_or, reduceIte, true_and, and_true, and_assoc, true_implies, forall_const, implies_true, Bool.true_eq_false, Bool.false_eq_true, false_implies, rows_len, rows_get, rows_drop, rows_take, rows_app, rows_nil, rect_nil, rect_eI, rect_eB, rect_eU, rect_eS, rect_eL, w4, Try.results21, reduceCtorEq, false_or, or_true, true_or]
          refine ⟨[some 0, some 1, some 2], by rfl, ?_, ?_⟩
          ·exact t6_5
          ·exact t6_5
     ·exfalso; (try simp only [b_rules, bif_and, bif_or] at hb40); first | omega | contradiction | (simp_all; done) | (simp_all; omega)
    ·try simp only [b_rules, bif_and, bif_or] at hb39
     refine vc_regG [] hmix (by kernel_rfl) ?_
     try refine lg_mk ?_
     refine t6_4 ?_
     refine t6_0 ?_
     refine lg_nil ?_
     refine h17 _ ?_; clear h17; try clear N17
     refine vc_cond_k (by simp only [w1, w3, eq_self, Nat.reduceEqDiff, reduceIte]; rfl) (fun hb56 => ?_) (fun hb56 => ?_)
     ·try simp only [b_rules, bif_and, bif_or] at hb56
      refine vc_skip ?_
      try simp only [k_rules]
      refine h3 _ ?_; clear h3; try clear N3
      refine vc_seq_k fun N57 h57 => ?_
      refine vc_seq_k fun N58 h58 => ?_
      refine vc_regG [] hmix (by kernel_rfl) ?_
      try refine lg_mk ?_
      refine t6_2 ?_
      refine t6_3 ?_
      refine t6_4 ?_
      refine lg_nil ?_
      refine h58 _ ?_; clear h58; try clear N58
      refine vc_cond_k (by simp only [w1, w3, eq_self, Nat.reduceEqDiff, reduceIte]; rfl) (fun hb59 => ?_) (fun hb59 => ?_)
      ·try simp only [b_rules, bif_and, bif_or] at hb59
       obtain rfl : k = 4 := by omega
       refine vc_seq_k fun N60 h60 => ?_
       refine vc_seq_k fun N61 h61 => ?_
       refine vc_regG [] hmix (by kernel_rfl) ?_
       try refine lg_mk ?_
       refine t6_2 ?_
       refine t6_3 ?_
       refine t6_4 ?_
       refine t6_0 ?_
       first | (refine lg_g0 ?_ ?_; focus (simp only [guard_rules, list_rules, opt_bind, fr_rules, eq_self, Nat.reduceEqDiff, reduceIte, bool_rules]; done)) | refine lg_gv (by exact t6a9) (by exact t6a4) (by exact t6a10) ?_
       first | (refine lg_g0 ?_ ?_; focus (simp only [guard_rules, list_rules, opt_bind, fr_rules, eq_self, Nat.reduceEqDiff, reduceIte, bool_rules]; done)) | refine t6_13 ?_
       first | (refine lg_g0 ?_ ?_; focus (simp only [guard_rules, list_rules, opt_bind, fr_rules, eq_self, Nat.reduceEqDiff, reduceIte, bool_rules]; done)) | refine lg_gv (by exact t6a9) (by exact t6a2) (by exact t6a10) ?_
       first | (refine lg_g0 ?_ ?_; focus (simp only [guard_rules, list_rules, opt_bind, fr_rules, eq_self, Nat.reduceEqDiff, reduceIte, bool_rules]; done)) | refine lg_gv (by exact t6a9) (by exact t6a3) (by exact t6a10) ?_
       first | (refine lg_g0 ?_ ?_; focus (simp only [guard_rules, list_rules, opt_bind, fr_rules, eq_self, Nat.reduceEqDiff, reduceIte, bool_rules]; done)) | refine t6_13 ?_
       first | (refine lg_g0 ?_ ?_; focus (simp only [guard_rules, list_rules, opt_bind, fr_rules, eq_self, Nat.reduceEqDiff, reduceIte, bool_rules]; done)) | refine lg_gv (by exact t6a9) (by simp only [op_rules, ev_rules, fr_rules, av_rules, rs_rules, eq_self, Nat.reduceEqDiff, reduceIte, bw, op_rules2, aLen, env_rules, tys, g_pick, tiAgg, list_rules, opt_rules, map_rules, rows_get, rows_len, rows_drop, rows_take, rows_app, rows_nil, rows_set, Int.toNat_natCast, Int.reduceToNat, Nat.reduceAdd, Nat.reduceMul, Nat.reduceSub, Nat.reduceLeDiff, Nat.zero_add, Nat.add_zero, true_and, and_true, and_assoc, rect_eI, rect_eB, rect_eU, rect_eS, rect_eL, rect_nil, rect_cons, bytes_is, bytes_str, splice_rules, cell_rules, fill_rules, bnd_rules, or_false, false_or, not_true_eq_false, not_false_eq_true]; rfl) (by exact t6a10) ?_
       first | (refine lg_g0 ?_ ?_; focus (simp only [guard_rules, list_rules, opt_bind, fr_rules, eq_self, Nat.reduceEqDiff, reduceIte, bool_rules]; done)) | refine lg_gv (by exact t6a9) (by exact t6a6) (by exact t6a10) ?_
       refine lg_v (by simp only [op_rules, ev_rules, fr_rules, av_rules, rs_rules, eq_self, Nat.reduceEqDiff, reduceIte, bw, un_rules, bif_and, bif_or, bool_rules]; rfl) (by exact t6a0) (by exact t6a1) ?_
       refine lg_nil ?_
       refine h61 _ ?_; clear h61; try clear N61
       refine vc_cond_k (by simp only [w1, w3, eq_self, Nat.reduceEqDiff, reduceIte]; rfl) (fun hb62 => ?_) (fun hb62 => ?_)
       ·try simp only [b_rules, bif_and, bif_or] at hb62
        have ho : okN fs n = false := by simp [okN]; omega
        refine vc_seq_k fun N63 h63 => ?_
        refine vc_regG [] hmix (by kernel_rfl) ?_
        try refine lg_mk ?_
        refine t6_0 ?_
        refine lg_nil ?_
        refine h63 _ ?_; clear h63; try clear N63
        refine vc_ret ?_
        try simp only [k_rules]
        obtain ⟨e1, e2⟩ := step_bad (t := t) (taken := taken) (sc_f (total := total) (acked := acked) (ws := ws) (by omega : (4 : Int) = 2 ∨ (4 : Int) = 3 ∨ (4 : Int) = 4) ho) (by omega)
        rw [e1, e2]
        simp only [linkB, intsB]
        simp only [w1, w2, w3, tys, k_rules, eq_self, Nat.reduceEqDiff, Nat.reduceLeDiff, Nat.reduceAdd, Nat.reduceSub, Nat.reduceMul, Int.toNat_natCast, Int.reduceToNat, Int.reduceNeg, List.mem_cons, List.not_mem_nil, or_false, false_or, not_true_eq_false, not_false_eq_true, bif_and, bif_or, reduceIte, true_and, and_true, and_assoc, true_implies, forall_const, implies_true, Bool.true_eq_false, Bool.false_eq_true, false_implies, rows_len, rows_get, rows_drop, rows_take, rows_app, rows_nil, rect_nil, rect_eI, rect_eB, rect_eU, rect_eS, rect_eL, w4, Try.results21, reduceCtorEq, false_or, or_true, true_or]
        refine ⟨[some 0, some 1, some 2], by rfl, ?_, ?_⟩
        ·exact t6_5
        ·exact t6_5
       ·try simp only [b_rules, bif_and, bif_or] at hb62
        obtain ⟨m, rfl, hm', x, hx, hg⟩ := okN_ex (show okN fs n = true by simp [okN]; omega)
        refine vc_skip ?_
        try simp only [k_rules]
        refine h60 _ ?_; clear h60; try clear N60
        refine vc_seq_k fun N64 h64 => ?_
        refine vc_regG [] hmix (by kernel_rfl) ?_
        try refine lg_mk ?_
        refine t6_0 ?_
        refine t6_0 ?_
        refine t6_14 ?_
        refine t6_15 ?_
        refine t6_0 ?_
        refine t6_14 ?_
        refine t6_15 ?_
        refine t6_16 ?_
        refine t6_15 ?_
        refine t6_16 ?_
        refine t6_15 ?_
        refine lg_h (by simp only [op_rules, ev_rules, fr_rules, av_rules, rs_rules, eq_self, Nat.reduceEqDiff, reduceIte, bw, aBuildSlice, env_rules, tys, g_pick, tiAgg, list_rules, opt_rules, map_rules, rows_get, rows_len, rows_drop, rows_take, rows_app, rows_nil, rows_set, Int.toNat_natCast, Int.reduceToNat, Nat.reduceAdd, Nat.reduceMul, Nat.reduceSub, Nat.reduceLeDiff, Nat.zero_add, Nat.add_zero, true_and, and_true, and_assoc, rect_eI, rect_eB, rect_eU, rect_eS, rect_eL, rect_nil, rect_cons, bytes_is, bytes_str, splice_rules, cell_rules, fill_rules, bnd_rules, or_false, false_or, not_true_eq_false, not_false_eq_true, hx]; rfl) (by exact t6a0) (by exact t6a1) (by exact t6a7) ?_
        refine lg_h (by simp only [op_rules, ev_rules, fr_rules, av_rules, rs_rules, eq_self, Nat.reduceEqDiff, reduceIte, bw, aAppend, rowsSrc, or_self, env_rules, tys, g_pick, tiAgg, list_rules, opt_rules, map_rules, rows_get, rows_len, rows_drop, rows_take, rows_app, rows_nil, rows_set, Int.toNat_natCast, Int.reduceToNat, Nat.reduceAdd, Nat.reduceMul, Nat.reduceSub, Nat.reduceLeDiff, Nat.zero_add, Nat.add_zero, true_and, and_true, and_assoc, rect_eI, rect_eB, rect_eU, rect_eS, rect_eL, rect_nil, rect_cons, bytes_is, bytes_str, splice_rules, cell_rules, fill_rules, bnd_rules, or_false, false_or, not_true_eq_false, not_false_eq_true, hx]; rfl) (by exact t6a0) (by exact t6a1) (by exact t6a7) ?_
        refine t6_14 ?_
        refine lg_h (by simp only [op_rules, ev_rules, fr_rules, av_rules, rs_rules, eq_self, Nat.reduceEqDiff, reduceIte, bw, aStore, env_rules, tys, g_pick, tiAgg, list_rules, opt_rules, map_rules, rows_get, rows_len, rows_drop, rows_take, rows_app, rows_nil, rows_set, Int.toNat_natCast, Int.reduceToNat, Nat.reduceAdd, Nat.reduceMul, Nat.reduceSub, Nat.reduceLeDiff, Nat.zero_add, Nat.add_zero, true_and, and_true, and_assoc, rect_eI, rect_eB, rect_eU, rect_eS, rect_eL, rect_nil, rect_cons, bytes_is, bytes_str, splice_rules, cell_rules, fill_rules, bnd_rules, or_false, false_or, not_true_eq_false, not_false_eq_true, hx]; rfl) (by exact t6a0) (by exact t6a1) (by exact t6a7) ?_
        refine lg_nil ?_
        refine h64 _ ?_; clear h64; try clear N64
        refine vc_seq_k fun N65 h65 => ?_
        refine vc_regG [] hmix (by kernel_rfl) ?_
        try refine lg_mk ?_
        refine t6_0 ?_
        refine lg_nil ?_
        refine h65 _ ?_; clear h65; try clear N65
        refine vc_ret ?_
        try simp only [k_rules]
        obtain ⟨e1, e2⟩ := sc_4 (t := t) (total := total) (acked := acked) (taken := taken) (ws := ws) (show okN fs (m : Int) = true by simp [okN]; omega)
        rw [e1, e2]
        simp only [linkB, intsB]
        rw [hg]
        simp only [w1, w2, w3, tys, k_rules, eq_self, Nat.reduceEqDiff, Nat.reduceLeDiff, Nat.reduceAdd, Nat.reduceSub, Nat.reduceMul, Int.toNat_natCast, Int.reduceToNat, Int.reduceNeg, List.mem_cons, List.not_mem_nil, or_false, false_or, not_true_eq_false, not_false_eq_true, bif_and, bif_or, reduceIte, true_and, and_true, and_assoc, true_implies, forall_const, implies_true, Bool.true_eq_false, Bool.false_eq_true, false_implies, rows_len, rows_get, rows_drop, rows_take, rows_app, rows_nil, rect_nil, rect_eI, rect_eB, rect_eU, rect_eS, rect_eL, w4, Try.results21, reduceCtorEq, false_or, or_true, true_or]
        refine ⟨[some 0, some 1, some 2, some 5], by rfl, ?_, ?_⟩
        ·exact t6_5
        ·exact t6_5
      ·try simp only [b_rules, bif_and, bif_or] at hb59
       first | omega | exact absurd trivial hb59 | contradiction | (simp_all; done)
     ·try simp only [b_rules, bif_and, bif_or] at hb56
      refine vc_seq_k fun N66 h66 => ?_
      refine vc_seq_k fun N67 h67 => ?_
      refine vc_regG [] hmix (by kernel_rfl) ?_
      try refine lg_mk ?_
      refine t6_4 ?_
      refine t6_0 ?_
      refine lg_nil ?_
      refine h67 _ ?_; clear h67; try clear N67
      refine vc_cond_k (by simp only [w1, w3, eq_self, Nat.reduceEqDiff, reduceIte]; rfl) (fun hb68 => ?_) (fun hb68 => ?_)
      ·try simp only [b_rules, bif_and, bif_or] at hb68
       refine vc_skip ?_
       try simp only [k_rules]
       refine h66 _ ?_; clear h66; try clear N66
       refine vc_cond_k (by simp only [w1, w3, eq_self, Nat.reduceEqDiff, reduceIte]; rfl) (fun hb69 => ?_) (fun hb69 => ?_)
       ·try simp only [b_rules, bif_and, bif_or] at hb69
        refine vc_regG [] hmix (by kernel_rfl) ?_
        try refine lg_mk ?_
        refine t6_0 ?_
        refine t6_1 ?_
        refine t6_2 ?_
        refine t6_0 ?_
        refine lg_nil ?_
        refine h3 _ ?_; clear h3; try clear N3
        refine vc_seq_k fun N70 h70 => ?_
        refine vc_seq_k fun N71 h71 => ?_
        refine vc_regG [] hmix (by kernel_rfl) ?_
        try refine lg_mk ?_
        refine t6_2 ?_
        refine t6_3 ?_
        refine t6_4 ?_
        refine lg_nil ?_
        refine h71 _ ?_; clear h71; try clear N71
        refine vc_cond_k (by simp only [w1, w3, eq_self, Nat.reduceEqDiff, reduceIte]; rfl) (fun hb72 => ?_) (fun hb72 => ?_)
        ·try simp only [b_rules, bif_and, bif_or] at hb72
         first | omega | exact absurd trivial hb72 | contradiction | (simp_all; done)
        ·try simp only [b_rules, bif_and, bif_or] at hb72
         obtain rfl : k = 5 := by omega
         refine vc_skip ?_
         try simp only [k_rules]
         refine h70 _ ?_; clear h70; try clear N70
         refine vc_seq_k fun N73 h73 => ?_
         refine vc_regG [] hmix (by kernel_rfl) ?_
         try refine lg_mk ?_
         refine t6_0 ?_
         refine t6_2 ?_
         refine t6_3 ?_
         refine t6_9 ?_
         refine t6_0 ?_
         refine t6_10 ?_
         refine t6_10 ?_
         refine t6_0 ?_
         refine t6_0 ?_
         refine lg_nil ?_
         refine h73 _ ?_; clear h73; try clear N73
         refine vc_seq_k fun N74 h74 => ?_
         refine vc_seq_k fun N75 h75 => ?_
         refine vc_regG [] hmix (by kernel_rfl) ?_
         try refine lg_mk ?_
         refine t6_0 ?_
         refine t6_11 ?_
         refine lg_nil ?_
         refine h75 _ ?_; clear h75; try clear N75
         refine vc_cond_k (by simp only [w1, w3, eq_self, Nat.reduceEqDiff, reduceIte]; rfl) (fun hb76 => ?_) (fun hb76 => ?_)
         ·try simp only [b_rules, bif_and, bif_or] at hb76
          have hok : okN ws n = false := by simpa using hb76
          refine vc_seq_k fun N77 h77 => ?_
          refine vc_regG [] hmix (by kernel_rfl) ?_
          try refine lg_mk ?_
          refine t6_0 ?_
          refine lg_nil ?_
          refine h77 _ ?_; clear h77; try clear N77
          refine vc_ret ?_
          try simp only [k_rules]
          obtain ⟨e1, e2⟩ := step_bad (t := t) (taken := taken) (sc_w (total := total) (acked := acked) (fs := fs) (by omega : (5 : Int) = 5 ∨ (5 : Int) = 6) hok) (by omega)
          rw [e1, e2]
          simp only [linkB, intsB]
          rw [dropN_none hok]
          simp only [w1, w2, w3, tys, k_rules, eq_self, Nat.reduceEqDiff, Nat.reduceLeDiff, Nat.reduceAdd, Nat.reduceSub, Nat.reduceMul, Int.toNat_natCast, Int.reduceToNat, Int.reduceNeg, List.mem_cons, List.not_mem_nil, or_false, false_or, not_true_eq_false, not_false_eq_true, bif_and, bif_or, reduceIte, true_and, and_true, and_assoc, true_implies, forall_const, implies_true, Bool.true_eq_false, Bool.false_eq_true, false_implies, rows_len, rows_get, rows_drop, rows_take, rows_app, rows_nil, rect_nil, rect_eI, rect_eB, rect_eU, rect_eS, rect_eL, w4, Try.results21, reduceCtorEq, false_or, or_true, true_or]
          refine ⟨[some 0, some 1, some 2], by rfl, ?_, ?_⟩
          ·exact t6_5
          ·exact t6_5
         ·try simp only [b_rules, bif_and, bif_or] at hb76
          have hok : okN ws n = true := by simpa using hb76
          refine vc_skip ?_
          try simp only [k_rules]
          refine h74 _ ?_; clear h74; try clear N74
          refine vc_seq_k fun N78 h78 => ?_
          refine vc_seq_k fun N79 h79 => ?_
          refine vc_regG [] hmix (by kernel_rfl) ?_
          try refine lg_mk ?_
          refine t6_2 ?_
          refine t6_3 ?_
          refine lg_nil ?_
          refine h79 _ ?_; clear h79; try clear N79
          refine vc_block ?_
          refine vc_seq_k fun N80 h80 => ?_
          refine vc_regG [] hmix (by kernel_rfl) ?_
          try refine lg_mk ?_
          refine t6_4 ?_
          refine t6_0 ?_
          refine lg_nil ?_
          refine h80 _ ?_; clear h80; try clear N80
          refine vc_cond_k (by simp only [w1, w3, eq_self, Nat.reduceEqDiff, reduceIte]; rfl) (fun hb81 => ?_) (fun hb81 => ?_)
          ·try simp only [b_rules, bif_and, bif_or] at hb81
           first | omega | exact absurd trivial hb81 | contradiction | (simp_all; done)
          ·try simp only [b_rules, bif_and, bif_or] at hb81
           refine vc_seq_k fun N82 h82 => ?_
           refine vc_regG [] hmix (by kernel_rfl) ?_
           try refine lg_mk ?_
           refine t6_4 ?_
           refine t6_0 ?_
           refine lg_nil ?_
           refine h82 _ ?_; clear h82; try clear N82
           refine vc_cond_k (by simp only [w1, w3, eq_self, Nat.reduceEqDiff, reduceIte]; rfl) (fun hb83 => ?_) (fun hb83 => ?_)
           ·try simp only [b_rules, bif_and, bif_or] at hb83
            refine vc_regG [] hmix (by kernel_rfl) ?_
            try refine lg_mk ?_
            refine t6_0 ?_
            refine t6_0 ?_
            refine t6_1 ?_
            refine t6_2 ?_
            refine t6_3 ?_
            refine t6_0 ?_
            refine lg_v (by simp only [op_rules, ev_rules, fr_rules, av_rules, rs_rules, eq_self, Nat.reduceEqDiff, reduceIte, bw, mm_rules]; rfl) (by exact t6a0) (by exact t6a1) ?_
            refine t6_1 ?_
            refine t6_2 ?_
            refine t6_12 ?_
            refine lg_nil ?_
            refine h78 _ ?_; clear h78; try clear N78
            refine vc_seq_k fun N84 h84 => ?_
            refine vc_regG [] hmix (by kernel_rfl) ?_
            try refine lg_mk ?_
            refine t6_0 ?_
            refine lg_nil ?_
            refine h84 _ ?_; clear h84; try clear N84
            refine vc_ret ?_
            try simp only [k_rules]
            obtain ⟨e1, e2⟩ := sc_5 (t := t) (total := total) (acked := acked) (taken := taken) (fs := fs) hok
            rw [e1, e2]
            simp only [linkB, intsB]
            simp only [w1, w2, w3, tys, k_rules, eq_self, Nat.reduceEqDiff, Nat.reduceLeDiff, Nat.reduceAdd, Nat.reduceSub, Nat.reduceMul, Int.toNat_natCast, Int.reduceToNat, Int.reduceNeg, List.mem_cons, List.not_mem_nil, or_false, false_or, not_true_eq_false, not_false_eq_true, bif_and, bif_or, reduceIte, true_and, and_true, and_assoc, true_implies, forall_const, implies_true, Bool.true_eq_false, Bool.false_eq_true, false_implies, rows_len, rows_get, rows_drop, rows_take, rows_app, rows_nil, rect_nil, rect_eI, rect_eB, rect_eU, rect_eS, rect_eL, w4, Try.results21, reduceCtorEq, false_or, or_true, true_or]
            refine ⟨[some 0, some 1, some 2], by rfl, ?_, ?_⟩
            ·exact t6_5
            ·exact t6_5
           ·try simp only [b_rules, bif_and, bif_or] at hb83
            first | omega | exact absurd trivial hb83 | contradiction | (simp_all; done)
       ·exfalso; (try simp only [b_rules, bif_and, bif_or] at hb69); first | omega | contradiction | (simp_all; done) | (simp_all; omega)
      ·try simp only [b_rules, bif_and, bif_or] at hb68
       refine vc_regG [] hmix (by kernel_rfl) ?_
       try refine lg_mk ?_
       refine t6_4 ?_
       refine t6_0 ?_
       refine lg_nil ?_
       refine h66 _ ?_; clear h66; try clear N66
       refine vc_cond_k (by simp only [w1, w3, eq_self, Nat.reduceEqDiff, reduceIte]; rfl) (fun hb85 => ?_) (fun hb85 => ?_)
       ·try simp only [b_rules, bif_and, bif_or] at hb85
        refine vc_regG [] hmix (by kernel_rfl) ?_
        try refine lg_mk ?_
        refine t6_0 ?_
        refine t6_1 ?_
        refine t6_2 ?_
        refine t6_0 ?_
        refine lg_nil ?_
        refine h3 _ ?_; clear h3; try clear N3
        refine vc_seq_k fun N86 h86 => ?_
        refine vc_seq_k fun N87 h87 => ?_
        refine vc_regG [] hmix (by kernel_rfl) ?_
        try refine lg_mk ?_
        refine t6_2 ?_
        refine t6_3 ?_
        refine t6_4 ?_
        refine lg_nil ?_
        refine h87 _ ?_; clear h87; try clear N87
        refine vc_cond_k (by simp only [w1, w3, eq_self, Nat.reduceEqDiff, reduceIte]; rfl) (fun hb88 => ?_) (fun hb88 => ?_)
        ·try simp only [b_rules, bif_and, bif_or] at hb88
         first | omega | exact absurd trivial hb88 | contradiction | (simp_all; done)
        ·try simp only [b_rules, bif_and, bif_or] at hb88
         obtain rfl : k = 6 := by omega
         refine vc_skip ?_
         try simp only [k_rules]
         refine h86 _ ?_; clear h86; try clear N86
         refine vc_seq_k fun N89 h89 => ?_
         refine vc_regG [] hmix (by kernel_rfl) ?_
         try refine lg_mk ?_
         refine t6_0 ?_
         refine t6_2 ?_
         refine t6_3 ?_
         refine t6_9 ?_
         refine t6_0 ?_
         refine t6_10 ?_
         refine t6_10 ?_
         refine t6_0 ?_
         refine t6_0 ?_
         refine lg_nil ?_
         refine h89 _ ?_; clear h89; try clear N89
         refine vc_seq_k fun N90 h90 => ?_
         refine vc_seq_k fun N91 h91 => ?_
         refine vc_regG [] hmix (by kernel_rfl) ?_
         try refine lg_mk ?_
         refine t6_0 ?_
         refine t6_11 ?_
         refine lg_nil ?_
         refine h91 _ ?_; clear h91; try clear N91
         refine vc_cond_k (by simp only [w1, w3, eq_self, Nat.reduceEqDiff, reduceIte]; rfl) (fun hb92 => ?_) (fun hb92 => ?_)
         ·try simp only [b_rules, bif_and, bif_or] at hb92
          have hok : okN ws n = false := by simpa using hb92
          refine vc_seq_k fun N93 h93 => ?_
          refine vc_regG [] hmix (by kernel_rfl) ?_
          try refine lg_mk ?_
          refine t6_0 ?_
          refine lg_nil ?_
          refine h93 _ ?_; clear h93; try clear N93
          refine vc_ret ?_
          try simp only [k_rules]
          obtain ⟨e1, e2⟩ := step_bad (t := t) (taken := taken) (sc_w (total := total) (acked := acked) (fs := fs) (by omega : (6 : Int) = 5 ∨ (6 : Int) = 6) hok) (by omega)
          rw [e1, e2]
          simp only [linkB, intsB]
          rw [dropN_none hok]
          simp only [w1, w2, w3, tys, k_rules, eq_self, Nat.reduceEqDiff, Nat.reduceLeDiff, Nat.reduceAdd, Nat.reduceSub, Nat.reduceMul, Int.toNat_natCast, Int.reduceToNat, Int.reduceNeg, List.mem_cons, List.not_mem_nil, or_false, false_or, not_true_eq_false, not_false_eq_true, bif_and, bif_or, reduceIte, true_and, and_true, and_assoc, true_implies, forall_const, implies_true, Bool.true_eq_false, Bool.false_eq_true, false_implies, rows_len, rows_get, rows_drop, rows_take, rows_app, rows_nil, rect_nil, rect_eI, rect_eB, rect_eU, rect_eS, rect_eL, w4, Try.results21, reduceCtorEq, false_or, or_true, true_or]
          refine ⟨[some 0, some 1, some 2], by rfl, ?_, ?_⟩
          ·exact t6_5
          ·exact t6_5
         ·try simp only [b_rules, bif_and, bif_or] at hb92
          have hok : okN ws n = true := by simpa using hb92
          refine vc_skip ?_
          try simp only [k_rules]
          refine h90 _ ?_; clear h90; try clear N90
          refine vc_seq_k fun N94 h94 => ?_
          refine vc_seq_k fun N95 h95 => ?_
          refine vc_regG [] hmix (by kernel_rfl) ?_
          try refine lg_mk ?_
          refine t6_2 ?_
          refine t6_3 ?_
          refine lg_nil ?_
          refine h95 _ ?_; clear h95; try clear N95
          refine vc_block ?_
          refine vc_seq_k fun N96 h96 => ?_
          refine vc_regG [] hmix (by kernel_rfl) ?_
          try refine lg_mk ?_
          refine t6_4 ?_
          refine t6_0 ?_
          refine lg_nil ?_
          refine h96 _ ?_; clear h96; try clear N96
          refine vc_cond_k (by simp only [w1, w3, eq_self, Nat.reduceEqDiff, reduceIte]; rfl) (fun hb97 => ?_) (fun hb97 => ?_)
          ·try simp only [b_rules, bif_and, bif_or] at hb97
           first | omega | exact absurd trivial hb97 | contradiction | (simp_all; done)
          ·try simp only [b_rules, bif_and, bif_or] at hb97
           refine vc_seq_k fun N98 h98 => ?_
           refine vc_regG [] hmix (by kernel_rfl) ?_
           try refine lg_mk ?_
           refine t6_4 ?_
           refine t6_0 ?_
           refine lg_nil ?_
           refine h98 _ ?_; clear h98; try clear N98
           refine vc_cond_k (by simp only [w1, w3, eq_self, Nat.reduceEqDiff, reduceIte]; rfl) (fun hb99 => ?_) (fun hb99 => ?_)
           ·try simp only [b_rules, bif_and, bif_or] at hb99
            first | omega | exact absurd trivial hb99 | contradiction | (simp_all; done)
           ·try simp only [b_rules, bif_and, bif_or] at hb99
            refine vc_skip ?_
            try simp only [k_rules]
            refine h94 _ ?_; clear h94; try clear N94
            refine vc_seq_k fun N100 h100 => ?_
            refine vc_regG [] hmix (by kernel_rfl) ?_
            try refine lg_mk ?_
            refine t6_0 ?_
            refine lg_nil ?_
            refine h100 _ ?_; clear h100; try clear N100
            refine vc_ret ?_
            try simp only [k_rules]
            obtain ⟨e1, e2⟩ := sc_6 (t := t) (total := total) (acked := acked) (taken := taken) (fs := fs) hok
            rw [e1, e2]
            simp only [linkB, intsB]
            simp only [w1, w2, w3, tys, k_rules, eq_self, Nat.reduceEqDiff, Nat.reduceLeDiff, Nat.reduceAdd, Nat.reduceSub, Nat.reduceMul, Int.toNat_natCast, Int.reduceToNat, Int.reduceNeg, List.mem_cons, List.not_mem_nil, or_false, false_or, not_true_eq_false, not_false_eq_true, bif_and, bif_or, reduceIte, true_and, and_true, and_assoc, true_implies, forall_const, implies_true, Bool.true_eq_false, Bool.false_eq_true, false_implies, rows_len, rows_get, rows_drop, rows_take, rows_app, rows_nil, rect_nil, rect_eI, rect_eB, rect_eU, rect_eS, rect_eL, w4, Try.results21, reduceCtorEq, false_or, or_true, true_or]
            refine ⟨[some 0, some 1, some 2], by rfl, ?_, ?_⟩
            ·exact t6_5
            ·exact t6_5
       ·try simp only [b_rules, bif_and, bif_or] at hb85
        refine vc_seq_k fun N101 h101 => ?_
        refine vc_regG [] hmix (by kernel_rfl) ?_
        try refine lg_mk ?_
        refine t6_0 ?_
        refine lg_nil ?_
        refine h101 _ ?_; clear h101; try clear N101
        refine vc_ret ?_
        try simp only [k_rules]
        obtain ⟨e1, e2⟩ := step_bad (t := t) (taken := taken) (sc_k (k := k) (n := n) (total := total) (acked := acked) (fs := fs) (ws := ws) (by omega) (by omega) (by omega) (by omega) (by omega) (by omega)) (by omega)
        rw [e1, e2]
        simp only [linkB, intsB]
        simp only [w1, w2, w3, tys, k_rules, eq_self, Nat.reduceEqDiff, Nat.reduceLeDiff, Nat.reduceAdd, Nat.reduceSub, Nat.reduceMul, Int.toNat_natCast, Int.reduceToNat, Int.reduceNeg, List.mem_cons, List.not_mem_nil, or_false, false_or, not_true_eq_false, not_false_eq_true, bif_and, bif_or, reduceIte, true_and, and_true, and_assoc, true_implies, forall_const, implies_true, Bool.true_eq_false, Bool.false_eq_true, false_implies, rows_len, rows_get, rows_drop, rows_take, rows_app, rows_nil, rect_nil, rect_eI, rect_eB, rect_eU, rect_eS, rect_eL, w4, Try.results21, reduceCtorEq, false_or, or_true, true_or]
        refine ⟨[some 0, some 1, some 2], by rfl, ?_, ?_⟩
        ·exact t6_5
        ·exact t6_5
 ·cases hg

def E_step : Env Try.prog := E_pick.add 21 (Spec.gen stepG) step_meets (by kernel_rfl)

theorem g_step : (E_step.X = T) ∧ (E_step.Γ 11 = some (Spec.pure faultG)) ∧ (E_step.Γ 18 = some (Spec.pure inG)) ∧ (E_step.Γ 16 = some (Spec.pure planOfG)) ∧ (E_step.Γ 20 = some (Spec.pure (cloneG 1 1))) ∧ (E_step.Γ 27 = some (Spec.gen (deleteG 3))) ∧ (E_step.Γ 25 = some (Spec.gen pickG)) ∧ (E_step.Γ 21 = some (Spec.gen stepG)) := ⟨rfl, rfl, rfl, rfl, rfl, rfl, rfl, rfl⟩
end Go.Proofs.Ythklbefnmcoojaa
