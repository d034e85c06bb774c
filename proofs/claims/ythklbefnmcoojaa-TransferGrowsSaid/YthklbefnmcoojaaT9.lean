/- Walks, printed by wip/gen/walk.py. -/
import Derived.Test.YthklbefnmcoojaaT8
set_option linter.all false
set_option maxRecDepth 100000
set_option maxHeartbeats 4000000
namespace Go.Proofs.Ythklbefnmcoojaa
open Go Go.Vc Go.RowKit
section
variable [Far] {P : Program} {E : Env P} {W0 : World} {M0 : Nat → Prop} {dr : Bool} {calm : List FuncId} {ops : Array Oper} {K : St → Prop} {o : Op} {d : Option Tmp} {t : TypeId} {p : String} {af : Array Edge} {r : List Oper} {fr : Nat → AV} {H H' : Heap} {n n' : Nat} {q : Prop} {c : AV} {b : Bool} {gd : Nat × Bool}
theorem t9a0 {p : Prop} (h : p := by simp only [nd_rules, nd_slice, ev_rules, fr_rules, av_rules, eq_self, Nat.reduceEqDiff, reduceIte, and_true, true_and, map_rules, List.map_cons, List.map_nil]) : p := h
theorem t9a1 {p : Prop} (h : p := by (first | trivial | omega | assumption | (unfold inI64; omega) | (simp; done) | (simp; omega))) : p := h
theorem t9_0 (hk : AG W0 M0 dr calm E ops K r ⟨putD d c fr, H, n⟩) (h : aOp E fr H n o = .v q c := by simp only [op_rules, ev_rules, fr_rules, av_rules, rs_rules, eq_self, Nat.reduceEqDiff, reduceIte, bw]; rfl) (hn : ndO fr o := by exact t9a0) (hq : q := by exact t9a1) : AG W0 M0 dr calm E ops K (⟨d, o, t, p, af, none⟩ :: r) ⟨fr, H, n⟩ := lg_v h hn hq hk
theorem t9_1 (hk : AG W0 M0 dr calm E ops K r ⟨putD d c fr, H', n'⟩) (h : aOp E fr H n o = .h q c H' n' := by simp only [op_rules, ev_rules, fr_rules, av_rules, rs_rules, eq_self, Nat.reduceEqDiff, reduceIte, bw, aAlloc, env_rules, tys, g_chunkU, tiAgg, list_rules, opt_rules, map_rules, rows_get, rows_len, rows_drop, rows_take, rows_app, rows_nil, rows_set, Int.toNat_natCast, Int.reduceToNat, Nat.reduceAdd, Nat.reduceMul, Nat.reduceSub, Nat.reduceLeDiff, Nat.zero_add, Nat.add_zero, true_and, and_true, and_assoc, rect_eI, rect_eB, rect_eU, rect_eS, rect_eL, rect_nil, rect_cons, bytes_is, bytes_str, splice_rules, cell_rules, fill_rules, bnd_rules, or_false, false_or, not_true_eq_false, not_false_eq_true]; rfl) (hn : ndO fr o := by exact t9a0) (hq : q := by exact t9a1) (hl : (dr && growB calm d o) = true → HLe H H' := by exact (fun h => Bool.noConfusion (show false = true from h))) : AG W0 M0 dr calm E ops K (⟨d, o, t, p, af, none⟩ :: r) ⟨fr, H, n⟩ := lg_h h hn hq hl hk
theorem t9_2 (hk : AG W0 M0 dr calm E ops K r ⟨putD d c fr, H, n⟩) (h : aOp E fr H n o = .v q c := by simp only [op_rules, ev_rules, fr_rules, av_rules, rs_rules, eq_self, Nat.reduceEqDiff, reduceIte, bw, op_rules2, aBuild, env_rules, tys, g_chunkU, tiAgg, list_rules, opt_rules, map_rules, rows_get, rows_len, rows_drop, rows_take, rows_app, rows_nil, rows_set, Int.toNat_natCast, Int.reduceToNat, Nat.reduceAdd, Nat.reduceMul, Nat.reduceSub, Nat.reduceLeDiff, Nat.zero_add, Nat.add_zero, true_and, and_true, and_assoc, rect_eI, rect_eB, rect_eU, rect_eS, rect_eL, rect_nil, rect_cons, bytes_is, bytes_str, splice_rules, cell_rules, fill_rules, bnd_rules, or_false, false_or, not_true_eq_false, not_false_eq_true]; rfl) (hn : ndO fr o := by exact t9a0) (hq : q := by exact t9a1) : AG W0 M0 dr calm E ops K (⟨d, o, t, p, af, none⟩ :: r) ⟨fr, H, n⟩ := lg_v h hn hq hk
theorem t9a2 {p : Prop} (h : p := by simp only [op_rules, ev_rules, fr_rules, av_rules, rs_rules, eq_self, Nat.reduceEqDiff, reduceIte, bw, aStore, env_rules, tys, g_chunkU, tiAgg, list_rules, opt_rules, map_rules, rows_get, rows_len, rows_drop, rows_take, rows_app, rows_nil, rows_set, Int.toNat_natCast, Int.reduceToNat, Nat.reduceAdd, Nat.reduceMul, Nat.reduceSub, Nat.reduceLeDiff, Nat.zero_add, Nat.add_zero, true_and, and_true, and_assoc, rect_eI, rect_eB, rect_eU, rect_eS, rect_eL, rect_nil, rect_cons, bytes_is, bytes_str, splice_rules, cell_rules, fill_rules, bnd_rules, or_false, false_or, not_true_eq_false, not_false_eq_true]; rfl) : p := h
theorem t9_3 (hk : AG W0 M0 dr calm E ops K r ⟨putD d c fr, H', n'⟩) (h : aOp E fr H n o = .h q c H' n' := by exact t9a2) (hn : ndO fr o := by exact t9a0) (hq : q := by exact t9a1) (hl : (dr && growB calm d o) = true → HLe H H' := by exact (fun h => Bool.noConfusion (show false = true from h))) : AG W0 M0 dr calm E ops K (⟨d, o, t, p, af, none⟩ :: r) ⟨fr, H, n⟩ := lg_h h hn hq hl hk
theorem t9_4 {p : Prop} (h : p := by (simp only [w1, w2, w3, tys, k_rules, eq_self, Nat.reduceEqDiff, Nat.reduceLeDiff, Nat.reduceAdd, Nat.reduceSub, Nat.reduceMul, Int.toNat_natCast, Int.reduceToNat, Int.reduceNeg, List.mem_cons, List.not_mem_nil, or_false, false_or, not_true_eq_false, not_false_eq_true, bif_and, bif_or, reduceIte, true_and, and_true, and_assoc, true_implies, forall_const, implies_true, Bool.true_eq_false, Bool.false_eq_true, false_implies, rows_len, rows_get, rows_drop, rows_take, rows_app, rows_nil, rect_nil, rect_eI, rect_eB, rect_eU, rect_eS, rect_eL, w4]) <;> (repeat' apply And.intro) <;> (first | rfl | exact Or.inr rfl | exact Or.inl rfl | trivial | omega | assumption | (simp; done) | (simp; omega))) : p := h
theorem t9_5 (hk : AG W0 M0 dr calm E ops K r ⟨putD d c fr, H, n⟩) (h : aOp E fr H n o = .v q c := by simp only [op_rules, ev_rules, fr_rules, av_rules, rs_rules, eq_self, Nat.reduceEqDiff, reduceIte, bw, op_rules2, aLoad, loadRow, env_rules, tys, g_chunkU, tiAgg, list_rules, opt_rules, map_rules, rows_get, rows_len, rows_drop, rows_take, rows_app, rows_nil, rows_set, Int.toNat_natCast, Int.reduceToNat, Nat.reduceAdd, Nat.reduceMul, Nat.reduceSub, Nat.reduceLeDiff, Nat.zero_add, Nat.add_zero, true_and, and_true, and_assoc, rect_eI, rect_eB, rect_eU, rect_eS, rect_eL, rect_nil, rect_cons, bytes_is, bytes_str, splice_rules, cell_rules, fill_rules, bnd_rules, or_false, false_or, not_true_eq_false, not_false_eq_true]; rfl) (hn : ndO fr o := by exact t9a0) (hq : q := by exact t9a1) : AG W0 M0 dr calm E ops K (⟨d, o, t, p, af, none⟩ :: r) ⟨fr, H, n⟩ := lg_v h hn hq hk
theorem t9a3 {p : Prop} (h : p := by first | exact (fun h => Bool.noConfusion (show false = true from h)) | exact hle_refl _ _ _ _ _ | exact hle_getB _ _ _ _ (by simp only [le_rules, eq_self, and_true, true_and])) : p := h
theorem t9_6 {p : Prop} (h : p := by (simp only [w1, w2, w3, tys, k_rules, eq_self, Nat.reduceEqDiff, Nat.reduceLeDiff, Nat.reduceAdd, Nat.reduceSub, Nat.reduceMul, Int.toNat_natCast, Int.reduceToNat, Int.reduceNeg, List.mem_cons, List.not_mem_nil, or_false, false_or, not_true_eq_false, not_false_eq_true, bif_and, bif_or, reduceIte, true_and, and_true, and_assoc, true_implies, forall_const, implies_true, Bool.true_eq_false, Bool.false_eq_true, false_implies, rows_len, rows_get, rows_drop, rows_take, rows_app, rows_nil, rect_nil, rect_eI, rect_eB, rect_eU, rect_eS, rect_eL, w4]) <;> (repeat' apply And.intro) <;> (first | (first | rfl | trivial | (rw [htk, List.take_take, Nat.min_self]; exact rows_snoc (eL eU) _ c)) | (first | rfl | exact Or.inr rfl | exact Or.inl rfl | trivial | omega | assumption | (simp; done) | (simp; omega)))) : p := h
end
def framesOf (l : List UInt8) : List (List UInt8) := (List.range ((l.length + 15) / 16)).map fun i => (l.drop (16 * i)).take 16
theorem framesOf_len (l : List UInt8) : (framesOf l).length = (l.length + 15) / 16 := by simp [framesOf]
theorem parts_len (l : List UInt8) : (parts (rows eU l)).length = (framesOf l).length := by simp [parts, framesOf, rows_len]
theorem parts_get {l : List UInt8} {k : Nat} {x : List AV} (h : (parts (rows eU l))[k]? = some x) : ∃ c, (framesOf l)[k]? = some c ∧ x = [.d (.sl (rows eU c))] ∧ (framesOf l).take (k + 1) = (framesOf l).take k ++ [c] ∧ ((framesOf l).take k).length = k ∧ c.length ≤ 16 ∧ k < (framesOf l).length := by
  have hk : k < (framesOf l).length := by rw [← parts_len]; exact (List.getElem?_eq_some_iff.1 h).1
  have hk' : k < (l.length + 15) / 16 := by rw [← framesOf_len]; exact hk
  have hc : (framesOf l)[k]? = some ((l.drop (16 * k)).take 16) := by
    simp [framesOf, List.getElem?_range hk']
  refine ⟨_, hc, ?_, ?_, by rw [List.length_take]; omega, by rw [List.length_take]; omega, hk⟩
  · simp only [parts, rows_len, List.getElem?_map, List.getElem?_range hk', Option.map_some, Option.some.injEq] at h
    rw [← h, rows_drop, rows_take]
  · rw [List.take_add_one, hc]; rfl
def framesG : List AV → Option (Prop × AV)
  | [.d (.sl xs)] => some (xs = rows eU (dU xs) ∧ xs.length ≤ 9223372036854775807,
      .tup [.d (.sl (if (dU xs).length ≤ 4096 then rows (eL eU) (framesOf (dU xs)) else [])), .agg [.d (.int .i64 (if (dU xs).length ≤ 4096 then 0 else 2)), .d (.int .i64 (if (dU xs).length ≤ 4096 then 0 else -1))]])
  | _ => none

theorem frames_meets : Meets Try.prog 9 (Spec.pure framesG) := by
 refine meets_fun (E_chunkU.at_ 20) Try.func9 rfl rfl rfl ?_
 intro args p r hg hp
 unfold framesG at hg
 split at hg
 ·rename_i xs
  simp only [Option.some.injEq, Prod.mk.injEq] at hg
  obtain ⟨rfl, rfl⟩ := hg
  obtain ⟨hx, hlen⟩ := hp
  generalize dU xs = l at *
  subst hx
  rw [rows_len] at hlen
  refine ⟨by rfl, ?_⟩
  intro F W0 hnp hmk
  refine vc_seq_k fun N1 h1 => ?_
  refine vc_regG [20] hmix (by kernel_rfl) ?_
  try refine lg_mk ?_
  refine t9_0 ?_
  refine t9_1 ?_
  refine lg_nil ?_
  refine h1 _ ?_; clear h1; try clear N1
  refine vc_seq_k fun N2 h2 => ?_
  refine vc_seq_k fun N3 h3 => ?_
  refine vc_regG [20] hmix (by kernel_rfl) ?_
  try refine lg_mk ?_
  refine t9_0 ?_
  refine lg_v (by simp only [op_rules, ev_rules, fr_rules, av_rules, rs_rules, eq_self, Nat.reduceEqDiff, reduceIte, bw, op_rules2, aLen, env_rules, tys, g_chunkU, tiAgg, list_rules, opt_rules, map_rules, rows_get, rows_len, rows_drop, rows_take, rows_app, rows_nil, rows_set, Int.toNat_natCast, Int.reduceToNat, Nat.reduceAdd, Nat.reduceMul, Nat.reduceSub, Nat.reduceLeDiff, Nat.zero_add, Nat.add_zero, true_and, and_true, and_assoc, rect_eI, rect_eB, rect_eU, rect_eS, rect_eL, rect_nil, rect_cons, bytes_is, bytes_str, splice_rules, cell_rules, fill_rules, bnd_rules, or_false, false_or, not_true_eq_false, not_false_eq_true]; rfl) (by exact t9a0) (by exact t9a1) ?_
  refine lg_v (by simp only [op_rules, ev_rules, fr_rules, av_rules, rs_rules, eq_self, Nat.reduceEqDiff, reduceIte, bw, env_rules, tys, g_chunkU, tiAgg, bin_rules, ar_rules, str_rules, eq_rules, bit_rules, Bool.true_and, Bool.and_true]; rfl) (by exact t9a0) (by exact t9a1) ?_
  refine lg_nil ?_
  refine h3 _ ?_; clear h3; try clear N3
  refine vc_cond_k (by simp only [w1, w3, eq_self, Nat.reduceEqDiff, reduceIte]; rfl) (fun hb4 => ?_) (fun hb4 => ?_)
  ·try simp only [b_rules, bif_and, bif_or] at hb4
   refine vc_seq_k fun N5 h5 => ?_
   refine vc_regG [20] hmix (by kernel_rfl) ?_
   try refine lg_mk ?_
   refine t9_2 ?_
   refine t9_0 ?_
   refine t9_3 ?_
   refine lg_nil ?_
   refine h5 _ ?_; clear h5; try clear N5
   refine vc_ret ?_
   try simp only [k_rules]
   rw [if_neg (by omega), if_neg (by omega), if_neg (by omega)]
   (simp only [w1, w2, w3, tys, k_rules, eq_self, Nat.reduceEqDiff, Nat.reduceLeDiff, Nat.reduceAdd, Nat.reduceSub, Nat.reduceMul, Int.toNat_natCast, Int.reduceToNat, Int.reduceNeg, List.mem_cons, List.not_mem_nil, or_false, false_or, not_true_eq_false, not_false_eq_true, bif_and, bif_or, reduceIte, true_and, and_true, and_assoc, true_implies, forall_const, implies_true, Bool.true_eq_false, Bool.false_eq_true, false_implies, rows_len, rows_get, rows_drop, rows_take, rows_app, rows_nil, rect_nil, rect_eI, rect_eB, rect_eU, rect_eS, rect_eL, w4, Try.results9, reduceCtorEq, false_or, or_true, true_or]) <;> (try simp only [w1, w2, w3, tys, k_rules, eq_self, Nat.reduceEqDiff, Nat.reduceLeDiff, Nat.reduceAdd, Nat.reduceSub, Nat.reduceMul, Int.toNat_natCast, Int.reduceToNat, Int.reduceNeg, List.mem_cons, List.not_mem_nil, or_false, false_or, not_true_eq_false, not_false_eq_true, bif_and, bif_or, reduceIte, true_and, and_true, and_assoc, true_implies, forall_const, implies_true, Bool.true_eq_false, Bool.false_eq_true, false_implies, rows_len, rows_get, rows_drop, rows_take, rows_app, rows_nil, rect_nil, rect_eI, rect_eB, rect_eU, rect_eS, rect_eL, w4, Try.results9, reduceCtorEq, false_or, or_true, true_or]) <;> (repeat' apply And.intro) <;> (first | rfl | exact Or.inr rfl | exact Or.inl rfl | trivial | omega | assumption | (simp; done) | (simp; omega))
  ·try simp only [b_rules, bif_and, bif_or] at hb4
   have hl4 : l.length ≤ 4096 := by omega
   refine vc_skip ?_
   try simp only [k_rules]
   refine h2 _ ?_; clear h2; try clear N2
   refine vc_seq_k fun N6 h6 => ?_
   refine vc_regG [20] hmix (by kernel_rfl) ?_
   try refine lg_mk ?_
   refine t9_1 ?_
   refine lg_nil ?_
   refine h6 _ ?_; clear h6; try clear N6
   refine vc_seq_k fun N7 h7 => ?_
   refine vc_seq_k fun N8 h8 => ?_
   refine vc_regG [20] hmix (by kernel_rfl) ?_
   try refine lg_mk ?_
   refine t9_0 ?_
   refine lg_h (by simp only [call_rule (E := (E_chunkU.at_ 20)) (f := 19) (sp := Spec.pure (chunkG 24)) rfl, op_rules, ev_rules, fr_rules, av_rules, rs_rules, eq_self, Nat.reduceEqDiff, reduceIte, bw, callS, rd_rules, pure_rules, chunkG, sc_rules, heap_rules, list_rules, opt_rules, map_rules, rows_get, rows_len, rows_drop, rows_take, rows_app, rows_nil, rows_set, Int.toNat_natCast, Int.reduceToNat, Nat.reduceAdd, Nat.reduceMul, Nat.reduceSub, Nat.reduceLeDiff, Nat.zero_add, Nat.add_zero, true_and, and_true, and_assoc, rect_eI, rect_eB, rect_eU, rect_eS, rect_eL, rect_nil, rect_cons, bytes_is, bytes_str, splice_rules, cell_rules, fill_rules, bnd_rules, or_false, false_or, not_true_eq_false, not_false_eq_true, List.mem_cons, List.not_mem_nil, dI_rows, dB_rows, dU_rows]; rfl) (by exact t9a0) (by exact t9a1) (fun h => Bool.noConfusion (show false = true from h)) ?_
   refine lg_nil ?_
   refine h8 _ ?_; clear h8; try clear N8
   refine vc_block ?_
   refine vc_cut hnp [(3, .ptr 0 0 0), (4, .ptr 1 0 0), (11, .clo (.func 24) [.d (.ptr [.sl (rows eU l)]), .d (.ptr [.int .i64 16])])] ((fun k : Nat => [some (.one 27 [.d (.int .i64 0), .d (.int .i64 0)]), some (.one 25 [.sl 2 0 k]), some (.vec 22 1 (rows (eL eU) ((framesOf l).take k)))]) 0) [some 0, some 1, none] ?_ ?_
   ·dsimp only
    refine ⟨by rfl, ?_, ?_⟩
    ·exact t9_4
    ·exact t9_4
   refine vc_range (E := (E_chunkU.at_ 20)) (ps := [12]) (f := Operand.tmp 11) rfl (fl := [(3, .ptr 0 0 0), (4, .ptr 1 0 0), (11, .clo (.func 24) [.d (.ptr [.sl (rows eU l)]), .d (.ptr [.int .i64 16])])]) (bl := (fun k : Nat => [some (.one 27 [.d (.int .i64 0), .d (.int .i64 0)]), some (.one 25 [.sl 2 0 k]), some (.vec 22 1 (rows (eL eU) ((framesOf l).take k)))]) 0) (caps := [.d (.ptr [.sl (rows eU l)]), .d (.ptr [.int .i64 16])]) (xs := parts (rows eU l)) (chunk_it (rows eU l) (rect_eU l) (by rw [rows_len]; omega)) rfl (by rfl) 2 (by rfl) (Nat.le_of_ble_eq_true rfl) (by rw [hnp]; exact (Nat.le_of_ble_eq_true rfl)) hmk (fun k : Nat => [some (.one 27 [.d (.int .i64 0), .d (.int .i64 0)]), some (.one 25 [.sl 2 0 k]), some (.vec 22 1 (rows (eL eU) ((framesOf l).take k)))]) rfl (fun _ => (Nat.le_of_ble_eq_true rfl)) (fun k x => [(5, (x.getD 0 .any)), (3, .ptr 0 0 0), (4, .ptr 1 0 0), (11, .clo (.func 24) [.d (.ptr [.sl (rows eU l)]), .d (.ptr [.int .i64 16])])]) (fun k => [some (.one 27 [.d (.int .i64 0), .d (.int .i64 0)]), some (.one 25 [.sl 2 0 k]), some (.vec 22 1 (rows (eL eU) ((framesOf l).take k)))]) ?_ ?_ ?_
   ·intro k x lp hx F W0 M0 hnp
    obtain ⟨c, hc, rfl, htk, hlk, hc16, hkl⟩ := parts_get hx
    have hfl := framesOf_len l
    show VC _ W0 M0 _ (mkSt [(12, .d (.sl (rows eU c))), (3, .ptr 0 0 0), (4, .ptr 1 0 0), (11, .clo (.func 24) [.d (.ptr [.sl (rows eU l)]), .d (.ptr [.int .i64 16])])] [some (.one 27 [.d (.int .i64 0), .d (.int .i64 0)]), some (.one 25 [.sl 2 0 k]), some (.vec 22 1 (rows (eL eU) ((framesOf l).take k)))]) _
    refine vc_regG [20] hmix (by kernel_rfl) ?_
    try refine lg_mk ?_
    refine t9_0 ?_
    refine lg_nil ?_
    refine ⟨rfl, [some 0, some 1, some 2], ?_⟩
    refine ⟨by rfl, ?_, ?_⟩
    ·exact t9_4
    ·exact t9_4
   ·intro k x lp hx F W0 M0 hnp
    obtain ⟨c, hc, rfl, htk, hlk, hc16, hkl⟩ := parts_get hx
    have hfl := framesOf_len l
    show VC _ W0 M0 _ (mkSt [(5, .d (.sl (rows eU c))), (3, .ptr 0 0 0), (4, .ptr 1 0 0), (11, .clo (.func 24) [.d (.ptr [.sl (rows eU l)]), .d (.ptr [.int .i64 16])])] [some (.one 27 [.d (.int .i64 0), .d (.int .i64 0)]), some (.one 25 [.sl 2 0 k]), some (.vec 22 1 (rows (eL eU) ((framesOf l).take k)))]) _
    refine vc_block ?_
    refine vc_regG [20] hmix (by kernel_rfl) ?_
    try refine lg_mk ?_
    refine t9_5 ?_
    refine t9_0 ?_
    refine lg_h (by simp only [call_rule (E := (E_chunkU.at_ 20).inR lp) (f := 20) (sp := Spec.pure (cloneG 1 1)) rfl, op_rules, ev_rules, fr_rules, av_rules, rs_rules, eq_self, Nat.reduceEqDiff, reduceIte, bw, callS, rd_rules, pure_rules, cloneG, sc_rules, heap_rules, list_rules, opt_rules, map_rules, rows_get, rows_len, rows_drop, rows_take, rows_app, rows_nil, rows_set, Int.toNat_natCast, Int.reduceToNat, Nat.reduceAdd, Nat.reduceMul, Nat.reduceSub, Nat.reduceLeDiff, Nat.zero_add, Nat.add_zero, true_and, and_true, and_assoc, rect_eI, rect_eB, rect_eU, rect_eS, rect_eL, rect_nil, rect_cons, bytes_is, bytes_str, splice_rules, cell_rules, fill_rules, bnd_rules, or_false, false_or, not_true_eq_false, not_false_eq_true, List.mem_cons, List.not_mem_nil, dI_rows, dB_rows, dU_rows]; rfl) (by exact t9a0) (by exact t9a1) (by exact t9a3) ?_
    refine lg_h (by simp only [op_rules, ev_rules, fr_rules, av_rules, rs_rules, eq_self, Nat.reduceEqDiff, reduceIte, bw, aBuildSlice, env_rules, tys, g_chunkU, tiAgg, list_rules, opt_rules, map_rules, rows_get, rows_len, rows_drop, rows_take, rows_app, rows_nil, rows_set, Int.toNat_natCast, Int.reduceToNat, Nat.reduceAdd, Nat.reduceMul, Nat.reduceSub, Nat.reduceLeDiff, Nat.zero_add, Nat.add_zero, true_and, and_true, and_assoc, rect_eI, rect_eB, rect_eU, rect_eS, rect_eL, rect_nil, rect_cons, bytes_is, bytes_str, splice_rules, cell_rules, fill_rules, bnd_rules, or_false, false_or, not_true_eq_false, not_false_eq_true]; rfl) (by exact t9a0) (by exact t9a1) (by exact t9a3) ?_
    refine lg_h (by simp only [op_rules, ev_rules, fr_rules, av_rules, rs_rules, eq_self, Nat.reduceEqDiff, reduceIte, bw, aAppend, rowsSrc, or_self, env_rules, tys, g_chunkU, tiAgg, list_rules, opt_rules, map_rules, rows_get, rows_len, rows_drop, rows_take, rows_app, rows_nil, rows_set, Int.toNat_natCast, Int.reduceToNat, Nat.reduceAdd, Nat.reduceMul, Nat.reduceSub, Nat.reduceLeDiff, Nat.zero_add, Nat.add_zero, true_and, and_true, and_assoc, rect_eI, rect_eB, rect_eU, rect_eS, rect_eL, rect_nil, rect_cons, bytes_is, bytes_str, splice_rules, cell_rules, fill_rules, bnd_rules, or_false, false_or, not_true_eq_false, not_false_eq_true]; rfl) (by exact t9a0) (by exact t9a1) (by exact t9a3) ?_
    refine lg_h (by exact t9a2) (by exact t9a0) (by exact t9a1) (by exact t9a3) ?_
    refine lg_nil ?_
    refine Exists.intro [some 0, some 1, some 4] ?_
    refine ⟨by rfl, ?_, ?_⟩
    ·exact t9_6
    ·exact t9_6
   try simp only [k_rules]
   rw [parts_len]
   refine h7 _ ?_; clear h7; try clear N7
   refine vc_seq_k fun N9 h9 => ?_
   refine vc_regG [20] hmix (by kernel_rfl) ?_
   try refine lg_mk ?_
   refine t9_5 ?_
   refine t9_2 ?_
   refine t9_0 ?_
   refine t9_3 ?_
   refine lg_nil ?_
   refine h9 _ ?_; clear h9; try clear N9
   refine vc_ret ?_
   try simp only [k_rules]
   rw [if_pos hl4, if_pos hl4, if_pos hl4]
   (simp only [w1, w2, w3, tys, k_rules, eq_self, Nat.reduceEqDiff, Nat.reduceLeDiff, Nat.reduceAdd, Nat.reduceSub, Nat.reduceMul, Int.toNat_natCast, Int.reduceToNat, Int.reduceNeg, List.mem_cons, List.not_mem_nil, or_false, false_or, not_true_eq_false, not_false_eq_true, bif_and, bif_or, reduceIte, true_and, and_true, and_assoc, true_implies, forall_const, implies_true, Bool.true_eq_false, Bool.false_eq_true, false_implies, rows_len, rows_get, rows_drop, rows_take, rows_app, rows_nil, rect_nil, rect_eI, rect_eB, rect_eU, rect_eS, rect_eL, w4, Try.results9, reduceCtorEq, false_or, or_true, true_or]) <;> (try simp only [w1, w2, w3, tys, k_rules, eq_self, Nat.reduceEqDiff, Nat.reduceLeDiff, Nat.reduceAdd, Nat.reduceSub, Nat.reduceMul, Int.toNat_natCast, Int.reduceToNat, Int.reduceNeg, List.mem_cons, List.not_mem_nil, or_false, false_or, not_true_eq_false, not_false_eq_true, bif_and, bif_or, reduceIte, true_and, and_true, and_assoc, true_implies, forall_const, implies_true, Bool.true_eq_false, Bool.false_eq_true, false_implies, rows_len, rows_get, rows_drop, rows_take, rows_app, rows_nil, rect_nil, rect_eI, rect_eB, rect_eU, rect_eS, rect_eL, w4, Try.results9, reduceCtorEq, false_or, or_true, true_or]) <;> (repeat' apply And.intro) <;> (first | rfl | exact Or.inl rfl | exact Or.inr rfl | trivial | (simp; done) | (simp [rows_len]; done) | (simp [rows_len]; omega) | (simp [rows_take]; done) | (left; simp [rows]; done))
 ·cases hg

def E_frames : Env Try.prog := E_chunkU.add 9 (Spec.pure framesG) frames_meets (by kernel_rfl)

theorem g_frames : (E_frames.X = T) ∧ (E_frames.Γ 11 = some (Spec.pure faultG)) ∧ (E_frames.Γ 18 = some (Spec.pure inG)) ∧ (E_frames.Γ 16 = some (Spec.pure planOfG)) ∧ (E_frames.Γ 20 = some (Spec.pure (cloneG 1 1))) ∧ (E_frames.Γ 27 = some (Spec.gen (deleteG 3))) ∧ (E_frames.Γ 25 = some (Spec.gen pickG)) ∧ (E_frames.Γ 21 = some (Spec.gen stepG)) ∧ (E_frames.Γ 19 = some (Spec.pure (chunkG 24))) ∧ (E_frames.Γ 9 = some (Spec.pure framesG)) := ⟨rfl, rfl, rfl, rfl, rfl, rfl, rfl, rfl, rfl, rfl⟩
end Go.Proofs.Ythklbefnmcoojaa
