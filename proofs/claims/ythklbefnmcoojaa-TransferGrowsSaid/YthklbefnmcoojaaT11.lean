/- Walks, printed by wip/gen/walk.py. -/
import Derived.Test.YthklbefnmcoojaaT10
import Derived.Test.YthklbefnmcoojaaVc32
set_option linter.all false
set_option maxRecDepth 100000
set_option maxHeartbeats 4000000
namespace Go.Proofs.Ythklbefnmcoojaa
open Go Go.Vc Go.RowKit
section
variable [Far] {P : Program} {E : Env P} {W0 : World} {M0 : Nat → Prop} {dr : Bool} {calm : List FuncId} {ops : Array Oper} {K : St → Prop} {o : Op} {d : Option Tmp} {t : TypeId} {p : String} {af : Array Edge} {r : List Oper} {fr : Nat → AV} {H H' : Heap} {n n' : Nat} {q : Prop} {c : AV} {b : Bool} {gd : Nat × Bool}
theorem t11a0 {p : Prop} (h : p := by simp only [nd_rules, nd_slice, ev_rules, fr_rules, av_rules, eq_self, Nat.reduceEqDiff, reduceIte, and_true, true_and, map_rules, List.map_cons, List.map_nil]) : p := h
theorem t11a1 {p : Prop} (h : p := by (first | trivial | omega | assumption | (unfold inI64; omega) | (simp; done) | (simp; omega))) : p := h
theorem t11_0 (hk : AG W0 M0 dr calm E ops K r ⟨putD d c fr, H, n⟩) (h : aOp E fr H n o = .v q c := by simp only [op_rules, ev_rules, fr_rules, av_rules, rs_rules, eq_self, Nat.reduceEqDiff, reduceIte, bw]; rfl) (hn : ndO fr o := by exact t11a0) (hq : q := by exact t11a1) : AG W0 M0 dr calm E ops K (⟨d, o, t, p, af, none⟩ :: r) ⟨fr, H, n⟩ := lg_v h hn hq hk
theorem t11_1 (hk : AG W0 M0 dr calm E ops K r ⟨putD d c fr, H, n⟩) (h : aOp E fr H n o = .v q c := by simp only [op_rules, ev_rules, fr_rules, av_rules, rs_rules, eq_self, Nat.reduceEqDiff, reduceIte, bw, env_rules, tys, g_without, tiAgg, bin_rules, ar_rules, str_rules, eq_rules, bit_rules, Bool.true_and, Bool.and_true]; rfl) (hn : ndO fr o := by exact t11a0) (hq : q := by exact t11a1) : AG W0 M0 dr calm E ops K (⟨d, o, t, p, af, none⟩ :: r) ⟨fr, H, n⟩ := lg_v h hn hq hk
theorem t11_2 (hk : AG W0 M0 dr calm E ops K r ⟨putD d c fr, H, n⟩) (h : aOp E fr H n o = .v q c := by simp only [op_rules, ev_rules, fr_rules, av_rules, rs_rules, eq_self, Nat.reduceEqDiff, reduceIte, bw, op_rules2, aLen, env_rules, tys, g_without, tiAgg, list_rules, opt_rules, map_rules, rows_get, rows_len, rows_drop, rows_take, rows_app, rows_nil, rows_set, Int.toNat_natCast, Int.reduceToNat, Nat.reduceAdd, Nat.reduceMul, Nat.reduceSub, Nat.reduceLeDiff, Nat.zero_add, Nat.add_zero, true_and, and_true, and_assoc, rect_eI, rect_eB, rect_eU, rect_eS, rect_eL, rect_nil, rect_cons, bytes_is, bytes_str, splice_rules, cell_rules, fill_rules, bnd_rules, or_false, false_or, not_true_eq_false, not_false_eq_true]; rfl) (hn : ndO fr o := by exact t11a0) (hq : q := by exact t11a1) : AG W0 M0 dr calm E ops K (⟨d, o, t, p, af, none⟩ :: r) ⟨fr, H, n⟩ := lg_v h hn hq hk
theorem t11_3 (hk : AG W0 M0 dr calm E ops K r ⟨putD d c fr, H, n⟩) (h : aOp E fr H n o = .v q c := by simp only [op_rules, ev_rules, fr_rules, av_rules, rs_rules, eq_self, Nat.reduceEqDiff, reduceIte, bw, op_rules2, aSlice, env_rules, tys, g_without, tiAgg, list_rules, opt_rules, map_rules, rows_get, rows_len, rows_drop, rows_take, rows_app, rows_nil, rows_set, Int.toNat_natCast, Int.reduceToNat, Nat.reduceAdd, Nat.reduceMul, Nat.reduceSub, Nat.reduceLeDiff, Nat.zero_add, Nat.add_zero, true_and, and_true, and_assoc, rect_eI, rect_eB, rect_eU, rect_eS, rect_eL, rect_nil, rect_cons, bytes_is, bytes_str, splice_rules, cell_rules, fill_rules, bnd_rules, or_false, false_or, not_true_eq_false, not_false_eq_true]; rfl) (hn : ndO fr o := by exact t11a0) (hq : q := by exact t11a1) : AG W0 M0 dr calm E ops K (⟨d, o, t, p, af, none⟩ :: r) ⟨fr, H, n⟩ := lg_v h hn hq hk
theorem t11_4 {p : Prop} (h : p := by (try simp only [w1, w2, w3, tys, k_rules, eq_self, Nat.reduceEqDiff, Nat.reduceLeDiff, Nat.reduceAdd, Nat.reduceSub, Nat.reduceMul, Int.toNat_natCast, Int.reduceToNat, Int.reduceNeg, List.mem_cons, List.not_mem_nil, or_false, false_or, not_true_eq_false, not_false_eq_true, bif_and, bif_or, reduceIte, true_and, and_true, and_assoc, true_implies, forall_const, implies_true, Bool.true_eq_false, Bool.false_eq_true, false_implies, rows_len, rows_get, rows_drop, rows_take, rows_app, rows_nil, rect_nil, rect_eI, rect_eB, rect_eU, rect_eS, rect_eL, w4, Try.results26, reduceCtorEq, false_or, or_true, true_or]) <;> (repeat' apply And.intro) <;> (first | rfl | exact Or.inr rfl | exact Or.inl rfl | trivial | omega | assumption | (simp; done) | (simp; omega))) : p := h
theorem t11_5 (hk : AG W0 M0 dr calm E ops K r ⟨putD d c fr, H, n⟩) (h : aOp E fr H n o = .v q c := by simp only [op_rules, ev_rules, fr_rules, av_rules, rs_rules, eq_self, Nat.reduceEqDiff, reduceIte, bw, op_rules2, aLen, env_rules, tys, g_growU, tiAgg, list_rules, opt_rules, map_rules, rows_get, rows_len, rows_drop, rows_take, rows_app, rows_nil, rows_set, Int.toNat_natCast, Int.reduceToNat, Nat.reduceAdd, Nat.reduceMul, Nat.reduceSub, Nat.reduceLeDiff, Nat.zero_add, Nat.add_zero, true_and, and_true, and_assoc, rect_eI, rect_eB, rect_eU, rect_eS, rect_eL, rect_nil, rect_cons, bytes_is, bytes_str, splice_rules, cell_rules, fill_rules, bnd_rules, or_false, false_or, not_true_eq_false, not_false_eq_true]; rfl) (hn : ndO fr o := by exact t11a0) (hq : q := by exact t11a1) : AG W0 M0 dr calm E ops K (⟨d, o, t, p, af, none⟩ :: r) ⟨fr, H, n⟩ := lg_v h hn hq hk
theorem t11_6 {p : Prop} (h : p := by (simp only [w1, w2, w3, tys, k_rules, eq_self, Nat.reduceEqDiff, Nat.reduceLeDiff, Nat.reduceAdd, Nat.reduceSub, Nat.reduceMul, Int.toNat_natCast, Int.reduceToNat, Int.reduceNeg, List.mem_cons, List.not_mem_nil, or_false, false_or, not_true_eq_false, not_false_eq_true, bif_and, bif_or, reduceIte, true_and, and_true, and_assoc, true_implies, forall_const, implies_true, Bool.true_eq_false, Bool.false_eq_true, false_implies, rows_len, rows_get, rows_drop, rows_take, rows_app, rows_nil, rect_nil, rect_eI, rect_eB, rect_eU, rect_eS, rect_eL, w4]) <;> (repeat' apply And.intro) <;> (first | rfl | exact Or.inr rfl | exact Or.inl rfl | trivial | omega | assumption | (simp; done) | (simp; omega))) : p := h
theorem t11_7 (hk : AG W0 M0 dr calm E ops K r ⟨putD d c fr, H, n⟩) (h : aOp E fr H n o = .v q c := by simp only [op_rules, ev_rules, fr_rules, av_rules, rs_rules, eq_self, Nat.reduceEqDiff, reduceIte, bw, env_rules, tys, g_growU, tiAgg, bin_rules, ar_rules, str_rules, eq_rules, bit_rules, Bool.true_and, Bool.and_true]; rfl) (hn : ndO fr o := by exact t11a0) (hq : q := by exact t11a1) : AG W0 M0 dr calm E ops K (⟨d, o, t, p, af, none⟩ :: r) ⟨fr, H, n⟩ := lg_v h hn hq hk
theorem t11_8 (hk : AG W0 M0 dr calm E ops K r ⟨putD d c fr, H, n⟩) (h : aOp E fr H n o = .v q c := by simp only [op_rules, ev_rules, fr_rules, av_rules, rs_rules, eq_self, Nat.reduceEqDiff, reduceIte, bw, op_rules2, aFieldAddr, aField, aIndexAddr, aIndex, aPart, env_rules, tys, g_growU, tiAgg, list_rules, opt_rules, map_rules, rows_get, rows_len, rows_drop, rows_take, rows_app, rows_nil, rows_set, Int.toNat_natCast, Int.reduceToNat, Nat.reduceAdd, Nat.reduceMul, Nat.reduceSub, Nat.reduceLeDiff, Nat.zero_add, Nat.add_zero, true_and, and_true, and_assoc, rect_eI, rect_eB, rect_eU, rect_eS, rect_eL, rect_nil, rect_cons, bytes_is, bytes_str, splice_rules, cell_rules, fill_rules, bnd_rules, or_false, false_or, not_true_eq_false, not_false_eq_true, hc, eL]; rfl) (hn : ndO fr o := by exact t11a0) (hq : q := by exact t11a1) : AG W0 M0 dr calm E ops K (⟨d, o, t, p, af, none⟩ :: r) ⟨fr, H, n⟩ := lg_v h hn hq hk
theorem t11_9 (hk : AG W0 M0 dr calm E ops K r ⟨putD d c fr, H, n⟩) (h : aOp E fr H n o = .v q c := by simp only [op_rules, ev_rules, fr_rules, av_rules, rs_rules, eq_self, Nat.reduceEqDiff, reduceIte, bw, op_rules2, aLoad, loadRow, env_rules, tys, g_growU, tiAgg, list_rules, opt_rules, map_rules, rows_get, rows_len, rows_drop, rows_take, rows_app, rows_nil, rows_set, Int.toNat_natCast, Int.reduceToNat, Nat.reduceAdd, Nat.reduceMul, Nat.reduceSub, Nat.reduceLeDiff, Nat.zero_add, Nat.add_zero, true_and, and_true, and_assoc, rect_eI, rect_eB, rect_eU, rect_eS, rect_eL, rect_nil, rect_cons, bytes_is, bytes_str, splice_rules, cell_rules, fill_rules, bnd_rules, or_false, false_or, not_true_eq_false, not_false_eq_true, hc, eL]; rfl) (hn : ndO fr o := by exact t11a0) (hq : q := by exact t11a1) : AG W0 M0 dr calm E ops K (⟨d, o, t, p, af, none⟩ :: r) ⟨fr, H, n⟩ := lg_v h hn hq hk
theorem t11_10 {p : Prop} (h : p := by (simp only [w1, w2, w3, tys, k_rules, eq_self, Nat.reduceEqDiff, Nat.reduceLeDiff, Nat.reduceAdd, Nat.reduceSub, Nat.reduceMul, Int.toNat_natCast, Int.reduceToNat, Int.reduceNeg, List.mem_cons, List.not_mem_nil, or_false, false_or, not_true_eq_false, not_false_eq_true, bif_and, bif_or, reduceIte, true_and, and_true, and_assoc, true_implies, forall_const, implies_true, Bool.true_eq_false, Bool.false_eq_true, false_implies, rows_len, rows_get, rows_drop, rows_take, rows_app, rows_nil, rect_nil, rect_eI, rect_eB, rect_eU, rect_eS, rect_eL, w4]) <;> (repeat' apply And.intro) <;> (first | (rw [hfl]; simp; done) | (first | rfl | exact Or.inr rfl | exact Or.inl rfl | trivial | omega | assumption | (simp; done) | (simp; omega)))) : p := h
theorem t11_11 {p : Prop} (h : p := by (simp only [w1, w2, w3, tys, k_rules, eq_self, Nat.reduceEqDiff, Nat.reduceLeDiff, Nat.reduceAdd, Nat.reduceSub, Nat.reduceMul, Int.toNat_natCast, Int.reduceToNat, Int.reduceNeg, List.mem_cons, List.not_mem_nil, or_false, false_or, not_true_eq_false, not_false_eq_true, bif_and, bif_or, reduceIte, true_and, and_true, and_assoc, true_implies, forall_const, implies_true, Bool.true_eq_false, Bool.false_eq_true, false_implies, rows_len, rows_get, rows_drop, rows_take, rows_app, rows_nil, rect_nil, rect_eI, rect_eB, rect_eU, rect_eS, rect_eL, w4]) <;> (repeat' apply And.intro) <;> (first | (first | (rw [hfl]; done) | (rw [hf, List.take_length]; done)) | (first | rfl | exact Or.inr rfl | exact Or.inl rfl | trivial | omega | assumption | (simp; done) | (simp; omega)))) : p := h
end
/-- slices.Grow of nil, at bytes: an empty row of one's own. -/
def growG : GFun
  | [.d .nils, .d (.int .i64 n)], [] => some (0 ≤ n ∧ n ≤ 1000000000, .sl 0 0 0, [some (.vec 5 1 [])])
  | _, _ => none
def dUU : List (List D) → List (List UInt8) := List.map fun x => match x with | [.sl r] => dU r | _ => []
theorem dUU_rows (l : List (List UInt8)) : dUU (rows (eL eU) l) = l := by
  simp only [dUU, rows, List.map_map]
  conv => rhs; rw [← List.map_id l]
  refine List.map_congr_left fun c _ => ?_
  show dU (rows eU c) = c
  exact dU_rows c
def concatG : List AV → Option (Prop × AV)
  | [.d (.sl xs)] => some (xs = rows (eL eU) (dUU xs) ∧ (dUU xs).flatten.length ≤ 1000000000 ∧ (dUU xs).length ≤ 1000000000, .d (.sl (rows eU (dUU xs).flatten)))
  | _ => none
theorem flat_snoc {ll : List (List UInt8)} {k : Nat} {c : List UInt8} (h : ll[k]? = some c) : (ll.take (k + 1)).flatten = (ll.take k).flatten ++ c := by
  rw [List.take_add_one, h]; simp
theorem flat_le {ll : List (List UInt8)} (k : Nat) : (ll.take k).flatten.length ≤ ll.flatten.length := by
  conv => rhs; rw [← List.take_append_drop k ll]
  rw [List.flatten_append, List.length_append]; omega

theorem growU_meets : Meets Try.prog 26 (Spec.fresh growG) := by
 refine meets_fresh (E_without.at_ 27) Try.func26 rfl rfl rfl ?_
 intro args bl p r bf hg hp
 unfold growG at hg
 split at hg
 ·rename_i n
  simp only [Option.some.injEq, Prod.mk.injEq] at hg
  obtain ⟨rfl, rfl, rfl⟩ := hg
  obtain ⟨h0, hn⟩ := hp
  refine ⟨Nat.le_of_ble_eq_true rfl, ?_⟩
  intro F W0 M0 hnp hmk
  have hnp : Far.np = 0 := hnp
  refine vc_seq_k fun N1 h1 => ?_
  refine vc_regG [] hmix (by kernel_rfl) ?_
  try refine lg_mk ?_
  refine t11_0 ?_
  refine lg_nil ?_
  refine h1 _ ?_; clear h1; try clear N1
  refine vc_seq_k fun N2 h2 => ?_
  refine vc_seq_k fun N3 h3 => ?_
  refine vc_regG [] hmix (by kernel_rfl) ?_
  try refine lg_mk ?_
  refine t11_0 ?_
  refine t11_1 ?_
  refine lg_nil ?_
  refine h3 _ ?_; clear h3; try clear N3
  refine vc_cond_k (by simp only [w1, w3, eq_self, Nat.reduceEqDiff, reduceIte]; rfl) (fun hb4 => ?_) (fun hb4 => ?_)
  ·try simp only [b_rules, bif_and, bif_or] at hb4
   first | omega | exact absurd trivial hb4 | contradiction | (simp_all; done)
  ·try simp only [b_rules, bif_and, bif_or] at hb4
   refine vc_skip ?_
   try simp only [k_rules]
   refine h2 _ ?_; clear h2; try clear N2
   refine vc_seq_k fun N5 h5 => ?_
   refine vc_seq_k fun N6 h6 => ?_
   refine vc_regG [] hmix (by kernel_rfl) ?_
   try refine lg_mk ?_
   refine t11_0 ?_
   refine t11_0 ?_
   refine lg_sem (by rfl) (sem_cap (by first | (simp only [op_rules, ev_rules, fr_rules, av_rules, rs_rules, eq_self, Nat.reduceEqDiff, reduceIte, bw]; done) | (simp only [op_rules, ev_rules, fr_rules, av_rules, rs_rules, eq_self, Nat.reduceEqDiff, reduceIte, bw]; rfl)) (by first | trivial | simp only [op_rules, ev_rules, fr_rules, av_rules, rs_rules, eq_self, Nat.reduceEqDiff, reduceIte, bw]) (by first | (simp only [op_rules, ev_rules, fr_rules, av_rules, rs_rules, eq_self, Nat.reduceEqDiff, reduceIte, bw, env_rules, tys, g_without, tiAgg]; done) | (simp only [op_rules, ev_rules, fr_rules, av_rules, rs_rules, eq_self, Nat.reduceEqDiff, reduceIte, bw, env_rules, tys, g_without, tiAgg]; rfl)) (by first | (simp only [slA, op_rules, ev_rules, fr_rules, av_rules, rs_rules, eq_self, Nat.reduceEqDiff, reduceIte, bw]; done) | (simp only [slA, op_rules, ev_rules, fr_rules, av_rules, rs_rules, eq_self, Nat.reduceEqDiff, reduceIte, bw]; rfl)) fun z_r3_2 hz_r3_2 hz_r3_2' => ?_)
   try (obtain rfl := hz_r3_2' rfl)
   refine t11_0 ?_
   refine t11_2 ?_
   refine t11_1 ?_
   refine t11_1 ?_
   refine t11_0 ?_
   refine lg_nil ?_
   refine h6 _ ?_; clear h6; try clear N6
   refine vc_seq_k fun N7 h7 => ?_
   refine vc_regG [] hmix (by kernel_rfl) ?_
   try refine lg_mk ?_
   refine t11_0 ?_
   refine t11_1 ?_
   refine lg_nil ?_
   refine h7 _ ?_; clear h7; try clear N7
   refine vc_cond_k (by simp only [w1, w3, eq_self, Nat.reduceEqDiff, reduceIte]; rfl) (fun hb8 => ?_) (fun hb8 => ?_)
   ·try simp only [b_rules, bif_and, bif_or] at hb8
    refine vc_regG [] hmix (by kernel_rfl) ?_
    try refine lg_mk ?_
    refine t11_0 ?_
    refine t11_0 ?_
    refine lg_sem (by rfl) (sem_cap (by first | (simp only [op_rules, ev_rules, fr_rules, av_rules, rs_rules, eq_self, Nat.reduceEqDiff, reduceIte, bw]; done) | (simp only [op_rules, ev_rules, fr_rules, av_rules, rs_rules, eq_self, Nat.reduceEqDiff, reduceIte, bw]; rfl)) (by first | trivial | simp only [op_rules, ev_rules, fr_rules, av_rules, rs_rules, eq_self, Nat.reduceEqDiff, reduceIte, bw]) (by first | (simp only [op_rules, ev_rules, fr_rules, av_rules, rs_rules, eq_self, Nat.reduceEqDiff, reduceIte, bw, env_rules, tys, g_without, tiAgg]; done) | (simp only [op_rules, ev_rules, fr_rules, av_rules, rs_rules, eq_self, Nat.reduceEqDiff, reduceIte, bw, env_rules, tys, g_without, tiAgg]; rfl)) (by first | (simp only [slA, op_rules, ev_rules, fr_rules, av_rules, rs_rules, eq_self, Nat.reduceEqDiff, reduceIte, bw]; done) | (simp only [slA, op_rules, ev_rules, fr_rules, av_rules, rs_rules, eq_self, Nat.reduceEqDiff, reduceIte, bw]; rfl)) fun z_r5_2 hz_r5_2 hz_r5_2' => ?_)
    try (obtain rfl := hz_r5_2' rfl)
    refine t11_3 ?_
    refine t11_0 ?_
    refine lg_sem (by rfl) (sem_appendM (by first | (simp only [op_rules, ev_rules, fr_rules, av_rules, rs_rules, eq_self, Nat.reduceEqDiff, reduceIte, bw]; done) | (simp only [op_rules, ev_rules, fr_rules, av_rules, rs_rules, eq_self, Nat.reduceEqDiff, reduceIte, bw]; rfl)) (by first | trivial | simp only [op_rules, ev_rules, fr_rules, av_rules, rs_rules, eq_self, Nat.reduceEqDiff, reduceIte, bw]) (by first | (simp only [op_rules, ev_rules, fr_rules, av_rules, rs_rules, eq_self, Nat.reduceEqDiff, reduceIte, bw, env_rules, tys, g_without, tiAgg]; done) | (simp only [op_rules, ev_rules, fr_rules, av_rules, rs_rules, eq_self, Nat.reduceEqDiff, reduceIte, bw, env_rules, tys, g_without, tiAgg]; rfl)) (by first | (simp only [op_rules, ev_rules, fr_rules, av_rules, rs_rules, eq_self, Nat.reduceEqDiff, reduceIte, bw, env_rules, tys, g_without, tiAgg]; done) | (simp only [op_rules, ev_rules, fr_rules, av_rules, rs_rules, eq_self, Nat.reduceEqDiff, reduceIte, bw, env_rules, tys, g_without, tiAgg]; rfl)) (by first | (simp only [op_rules, ev_rules, fr_rules, av_rules, rs_rules, eq_self, Nat.reduceEqDiff, reduceIte, bw, env_rules, tys, g_without, tiAgg]; done) | (simp only [op_rules, ev_rules, fr_rules, av_rules, rs_rules, eq_self, Nat.reduceEqDiff, reduceIte, bw, env_rules, tys, g_without, tiAgg]; rfl)) (by first | (simp only [op_rules, ev_rules, fr_rules, av_rules, rs_rules, eq_self, Nat.reduceEqDiff, reduceIte, bw]; done) | (simp only [op_rules, ev_rules, fr_rules, av_rules, rs_rules, eq_self, Nat.reduceEqDiff, reduceIte, bw]; rfl)) (by first | trivial | simp only [op_rules, ev_rules, fr_rules, av_rules, rs_rules, eq_self, Nat.reduceEqDiff, reduceIte, bw]) (by (first | trivial | omega | assumption | (unfold inI64; omega) | (simp; done) | (simp; omega))) (by (first | trivial | omega | assumption | (unfold inI64; omega) | (simp; done) | (simp; omega))) (by (first | trivial | omega | assumption | (unfold inI64; omega) | (simp; done) | (simp; omega))) ?_)
    simp only [op_rules, ev_rules, fr_rules, av_rules, rs_rules, eq_self, Nat.reduceEqDiff, reduceIte, bw, list_rules, opt_rules, map_rules, rows_get, rows_len, rows_drop, rows_take, rows_app, rows_nil, rows_set, Int.toNat_natCast, Int.reduceToNat, Nat.reduceAdd, Nat.reduceMul, Nat.reduceSub, Nat.reduceLeDiff, Nat.zero_add, Nat.add_zero, true_and, and_true, and_assoc, rect_eI, rect_eB, rect_eU, rect_eS, rect_eL, rect_nil, rect_cons, bytes_is, bytes_str, splice_rules, cell_rules, fill_rules, bnd_rules, or_false, false_or, not_true_eq_false, not_false_eq_true]
    refine t11_0 ?_
    refine t11_2 ?_
    refine t11_3 ?_
    refine t11_0 ?_
    refine lg_nil ?_
    refine h5 _ ?_; clear h5; try clear N5
    refine vc_seq_k fun N9 h9 => ?_
    try refine vc_short (id := 0) 0 (by rfl) ?_
    refine vc_regG [] hmix (by kernel_rfl) ?_
    try refine lg_mk ?_
    refine t11_0 ?_
    refine t11_0 ?_
    refine lg_nil ?_
    refine h9 _ ?_; clear h9; try clear N9
    refine vc_ret ?_
    try simp only [k_rules]
    simp only [w1, w2, w3, tys, k_rules, eq_self, Nat.reduceEqDiff, Nat.reduceLeDiff, Nat.reduceAdd, Nat.reduceSub, Nat.reduceMul, Int.toNat_natCast, Int.reduceToNat, Int.reduceNeg, List.mem_cons, List.not_mem_nil, or_false, false_or, not_true_eq_false, not_false_eq_true, bif_and, bif_or, reduceIte, true_and, and_true, and_assoc, true_implies, forall_const, implies_true, Bool.true_eq_false, Bool.false_eq_true, false_implies, rows_len, rows_get, rows_drop, rows_take, rows_app, rows_nil, rect_nil, rect_eI, rect_eB, rect_eU, rect_eS, rect_eL, w4, Try.results26, reduceCtorEq, false_or, or_true, true_or]
    refine ⟨[some 0], by rfl, ?_, ?_⟩
    ·exact t11_4
    ·exact t11_4
   ·try simp only [b_rules, bif_and, bif_or] at hb8
    refine vc_skip ?_
    try simp only [k_rules]
    refine h5 _ ?_; clear h5; try clear N5
    refine vc_seq_k fun N10 h10 => ?_
    try refine vc_short (id := 0) 0 (by rfl) ?_
    refine vc_regG [] hmix (by kernel_rfl) ?_
    try refine lg_mk ?_
    refine t11_0 ?_
    refine t11_0 ?_
    refine lg_nil ?_
    refine h10 _ ?_; clear h10; try clear N10
    refine vc_ret ?_
    try simp only [k_rules]
    simp only [w1, w2, w3, tys, k_rules, eq_self, Nat.reduceEqDiff, Nat.reduceLeDiff, Nat.reduceAdd, Nat.reduceSub, Nat.reduceMul, Int.toNat_natCast, Int.reduceToNat, Int.reduceNeg, List.mem_cons, List.not_mem_nil, or_false, false_or, not_true_eq_false, not_false_eq_true, bif_and, bif_or, reduceIte, true_and, and_true, and_assoc, true_implies, forall_const, implies_true, Bool.true_eq_false, Bool.false_eq_true, false_implies, rows_len, rows_get, rows_drop, rows_take, rows_app, rows_nil, rect_nil, rect_eI, rect_eB, rect_eU, rect_eS, rect_eL, w4, Try.results26, reduceCtorEq, false_or, or_true, true_or]
    refine ⟨[none], by rfl, ?_, ?_⟩
    ·exact t11_4
    ·exact t11_4
 ·cases hg

def E_growU : Env Try.prog := E_without.add 26 (Spec.fresh growG) growU_meets (by kernel_rfl)

theorem g_growU : (E_growU.X = T) ∧ (E_growU.Γ 11 = some (Spec.pure faultG)) ∧ (E_growU.Γ 18 = some (Spec.pure inG)) ∧ (E_growU.Γ 16 = some (Spec.pure planOfG)) ∧ (E_growU.Γ 20 = some (Spec.pure (cloneG 1 1))) ∧ (E_growU.Γ 27 = some (Spec.gen (deleteG 3))) ∧ (E_growU.Γ 25 = some (Spec.gen pickG)) ∧ (E_growU.Γ 21 = some (Spec.gen stepG)) ∧ (E_growU.Γ 19 = some (Spec.pure (chunkG 24))) ∧ (E_growU.Γ 9 = some (Spec.pure framesG)) ∧ (E_growU.Γ 12 = some (Spec.pure countG)) ∧ (E_growU.Γ 13 = some (Spec.pure frameOfG)) ∧ (E_growU.Γ 23 = some (Spec.fresh withoutG)) ∧ (E_growU.Γ 26 = some (Spec.fresh growG)) := ⟨rfl, rfl, rfl, rfl, rfl, rfl, rfl, rfl, rfl, rfl, rfl, rfl, rfl, rfl⟩

theorem concatU_meets : Meets Try.prog 22 (Spec.pure concatG) := by
 refine meets_fun (E_growU.at_ 36) Try.func22 rfl rfl rfl ?_
 intro args p r hg hp
 unfold concatG at hg
 split at hg
 ·rename_i xs
  simp only [Option.some.injEq, Prod.mk.injEq] at hg
  obtain ⟨rfl, rfl⟩ := hg
  obtain ⟨hx, hb, hb2⟩ := hp
  generalize dUU xs = ll at *
  subst hx
  refine ⟨by rfl, ?_⟩
  intro F W0 hnp hmk
  refine vc_seq_k fun N1 h1 => ?_
  refine vc_regG [] hmix (by kernel_rfl) ?_
  try refine lg_mk ?_
  refine t11_0 ?_
  refine lg_nil ?_
  refine h1 _ ?_; clear h1; try clear N1
  refine vc_seq_k fun N2 h2 => ?_
  refine vc_regG [] hmix (by kernel_rfl) ?_
  try refine lg_mk ?_
  refine t11_0 ?_
  refine lg_nil ?_
  refine h2 _ ?_; clear h2; try clear N2
  refine vc_seq_k fun N3 h3 => ?_
  refine vc_seq_k fun N4 h4 => ?_
  refine vc_regG [] hmix (by kernel_rfl) ?_
  try refine lg_mk ?_
  refine t11_0 ?_
  refine t11_5 ?_
  refine t11_0 ?_
  refine lg_nil ?_
  refine h4 _ ?_; clear h4; try clear N4
  refine vc_block ?_
  refine vc_loop_mk (σ := Nat) (fun s => (fun k => k ≤ ll.length) s)
   (fun s => (fun k => [(0, .d (.sl (rows (eL eU) ll))), (3, .d (.int .i64 ((ll.take k).flatten.length : Nat))), (9, .d (.sl (rows (eL eU) ll))), (10, .d (.int .i64 (ll.length : Nat))), (11, .d (.int .i64 (k : Nat)))]) s)
   (fun s => (fun k => []) s) (fun s => (fun k => ll.length - k) s) hnp 0 ?_ [] ?_ ?_
  ·dsimp only
   omega
  ·dsimp only
   refine ⟨by rfl, ?_, ?_⟩
   ·exact t11_6
   ·exact t11_6
  ·rintro k hinv N5 h5
   dsimp only at hinv ⊢
   refine vc_seq_k fun N6 h6 => ?_
   refine vc_regG [] hmix (by kernel_rfl) ?_
   try refine lg_mk ?_
   refine t11_7 ?_
   refine lg_nil ?_
   refine h6 _ ?_; clear h6; try clear N6
   refine vc_seq_k fun N7 h7 => ?_
   refine vc_cond_k (by simp only [w1, w3, eq_self, Nat.reduceEqDiff, reduceIte]; rfl) (fun hb8 => ?_) (fun hb8 => ?_)
   ·try simp only [b_rules, bif_and, bif_or] at hb8
    obtain ⟨c, hc⟩ : ∃ c, ll[k]? = some c := ⟨_, List.getElem?_eq_getElem (by omega)⟩
    have hf := flat_snoc hc
    have hle := flat_le (ll := ll) (k + 1)
    have hfl : ((ll.take (k + 1)).flatten).length = (ll.take k).flatten.length + c.length := by rw [hf, List.length_append]
    refine vc_skip ?_
    try simp only [k_rules]
    refine h7 _ ?_; clear h7; try clear N7
    refine vc_seq_k fun N9 h9 => ?_
    refine vc_block ?_
    refine vc_seq_k fun N10 h10 => ?_
    refine vc_regG [] hmix (by kernel_rfl) ?_
    try refine lg_mk ?_
    refine t11_8 ?_
    refine t11_9 ?_
    refine t11_0 ?_
    refine lg_nil ?_
    refine h10 _ ?_; clear h10; try clear N10
    refine vc_seq_k fun N11 h11 => ?_
    refine vc_regG [] hmix (by kernel_rfl) ?_
    try refine lg_mk ?_
    refine t11_0 ?_
    refine t11_0 ?_
    refine t11_5 ?_
    refine t11_7 ?_
    refine t11_0 ?_
    refine lg_nil ?_
    refine h11 _ ?_; clear h11; try clear N11
    refine vc_seq_k fun N12 h12 => ?_
    refine vc_regG [] hmix (by kernel_rfl) ?_
    try refine lg_mk ?_
    refine t11_0 ?_
    refine t11_7 ?_
    refine lg_nil ?_
    refine h12 _ ?_; clear h12; try clear N12
    refine vc_cond_k (by simp only [w1, w3, eq_self, Nat.reduceEqDiff, reduceIte]; rfl) (fun hb13 => ?_) (fun hb13 => ?_)
    ·try simp only [b_rules, bif_and, bif_or] at hb13
     first | omega | exact absurd trivial hb13 | contradiction | (simp_all; done)
    ·try simp only [b_rules, bif_and, bif_or] at hb13
     refine vc_skip ?_
     try simp only [k_rules]
     refine h9 _ ?_; clear h9; try clear N9
     refine vc_regG [] hmix (by kernel_rfl) ?_
     try refine lg_mk ?_
     refine t11_7 ?_
     refine t11_0 ?_
     refine lg_nil ?_
     refine h5 _ ⟨k + 1, ?_, ?_, [], ?_⟩
     ·dsimp only
      omega
     ·dsimp only
      omega
     ·dsimp only
      refine ⟨by rfl, ?_, ?_⟩
      ·exact t11_10
      ·exact t11_10
   ·try simp only [b_rules, bif_and, bif_or] at hb8
    have hk : k = ll.length := by omega
    subst hk
    have hle := flat_le (ll := ll) ll.length
    refine vc_exit ?_
    simp only [k_rules, Nat.reduceEqDiff, reduceIte, eq_self]
    refine h3 _ ?_; clear h3; try clear N3
    refine vc_seq_k fun N14 h14 => ?_
    refine vc_regG [] hmix (by kernel_rfl) ?_
    try refine lg_mk ?_
    refine t11_0 ?_
    refine lg_sem (by rfl) (sem_call_raw (f := 26) (sp := Spec.fresh growG) rfl (by simp only [map_rules, op_rules, ev_rules, fr_rules, av_rules, rs_rules, eq_self, Nat.reduceEqDiff, reduceIte, bw]; rfl) (by simp only [op_rules, ev_rules, fr_rules, av_rules, rs_rules, eq_self, Nat.reduceEqDiff, reduceIte, bw, and_true]) (by simp only [op_rules, ev_rules, fr_rules, av_rules, rs_rules, eq_self, Nat.reduceEqDiff, reduceIte, bw, gen_rules, gw, gen_heap, gen_heap0, allSome, growG, Nat.reduceAdd, Nat.reduceSub, Nat.reduceLT, Nat.reduceLeDiff, if_true, if_false, ite_self, List.mem_append, true_implies, Option.bind_some, list_rules, opt_rules, map_rules, rows_get, rows_len, rows_drop, rows_take, rows_app, rows_nil, rows_set, Int.toNat_natCast, Int.reduceToNat, Nat.reduceAdd, Nat.reduceMul, Nat.reduceSub, Nat.reduceLeDiff, Nat.zero_add, Nat.add_zero, true_and, and_true, and_assoc, rect_eI, rect_eB, rect_eU, rect_eS, rect_eL, rect_nil, rect_cons, bytes_is, bytes_str, splice_rules, cell_rules, fill_rules, bnd_rules, or_false, false_or, not_true_eq_false, not_false_eq_true]; rfl) (by (first | trivial | omega | assumption | (unfold inI64; omega) | (simp; done) | (simp; omega))) ?_)
    simp only [op_rules, ev_rules, fr_rules, av_rules, rs_rules, eq_self, Nat.reduceEqDiff, reduceIte, bw, gen_rules, gw, gen_heap, gen_heap0, allSome, growG, Nat.reduceAdd, Nat.reduceSub, Nat.reduceLT, Nat.reduceLeDiff, if_true, if_false, ite_self, List.mem_append, true_implies, Option.bind_some, list_rules, opt_rules, map_rules, rows_get, rows_len, rows_drop, rows_take, rows_app, rows_nil, rows_set, Int.toNat_natCast, Int.reduceToNat, Nat.reduceAdd, Nat.reduceMul, Nat.reduceSub, Nat.reduceLeDiff, Nat.zero_add, Nat.add_zero, true_and, and_true, and_assoc, rect_eI, rect_eB, rect_eU, rect_eS, rect_eL, rect_nil, rect_cons, bytes_is, bytes_str, splice_rules, cell_rules, fill_rules, bnd_rules, or_false, false_or, not_true_eq_false, not_false_eq_true]
    refine t11_0 ?_
    refine lg_nil ?_
    refine h14 _ ?_; clear h14; try clear N14
    refine vc_seq_k fun N15 h15 => ?_
    refine vc_seq_k fun N16 h16 => ?_
    refine vc_regG [] hmix (by kernel_rfl) ?_
    try refine lg_mk ?_
    refine t11_0 ?_
    refine t11_5 ?_
    refine t11_0 ?_
    refine lg_nil ?_
    refine h16 _ ?_; clear h16; try clear N16
    refine vc_block ?_
    refine vc_loop_mk (σ := Nat) (fun s => (fun k => k ≤ ll.length) s)
     (fun s => (fun k => [(6, .sl 0 0 (ll.take k).flatten.length), (25, .d (.sl (rows (eL eU) ll))), (26, .d (.int .i64 (ll.length : Nat))), (27, .d (.int .i64 (k : Nat)))]) s)
     (fun s => (fun k => [some (.vec 5 1 (rows eU (ll.take k).flatten))]) s) (fun s => (fun k => ll.length - k) s) hnp 0 ?_ [some 0] ?_ ?_
    ·dsimp only
     omega
    ·dsimp only
     refine ⟨by rfl, ?_, ?_⟩
     ·exact t11_6
     ·exact t11_6
    ·rintro k hinv N17 h17
     dsimp only at hinv ⊢
     refine vc_seq_k fun N18 h18 => ?_
     refine vc_regG [] hmix (by kernel_rfl) ?_
     try refine lg_mk ?_
     refine t11_7 ?_
     refine lg_nil ?_
     refine h18 _ ?_; clear h18; try clear N18
     refine vc_seq_k fun N19 h19 => ?_
     refine vc_cond_k (by simp only [w1, w3, eq_self, Nat.reduceEqDiff, reduceIte]; rfl) (fun hb20 => ?_) (fun hb20 => ?_)
     ·try simp only [b_rules, bif_and, bif_or] at hb20
      obtain ⟨c, hc⟩ : ∃ c, ll[k]? = some c := ⟨_, List.getElem?_eq_getElem (by omega)⟩
      have hf := flat_snoc hc
      have hle := flat_le (ll := ll) (k + 1)
      have hfl : ((ll.take (k + 1)).flatten).length = (ll.take k).flatten.length + c.length := by rw [hf, List.length_append]
      refine vc_skip ?_
      try simp only [k_rules]
      refine h19 _ ?_; clear h19; try clear N19
      refine vc_seq_k fun N21 h21 => ?_
      refine vc_block ?_
      refine vc_seq_k fun N22 h22 => ?_
      refine vc_regG [] hmix (by kernel_rfl) ?_
      try refine lg_mk ?_
      refine t11_8 ?_
      refine t11_9 ?_
      refine t11_0 ?_
      refine lg_nil ?_
      refine h22 _ ?_; clear h22; try clear N22
      refine vc_regG [] hmix (by kernel_rfl) ?_
      try refine lg_mk ?_
      refine t11_0 ?_
      refine t11_0 ?_
      refine lg_h (by simp only [op_rules, ev_rules, fr_rules, av_rules, rs_rules, eq_self, Nat.reduceEqDiff, reduceIte, bw, aAppend, rowsSrc, or_self, env_rules, tys, g_growU, tiAgg, list_rules, opt_rules, map_rules, rows_get, rows_len, rows_drop, rows_take, rows_app, rows_nil, rows_set, Int.toNat_natCast, Int.reduceToNat, Nat.reduceAdd, Nat.reduceMul, Nat.reduceSub, Nat.reduceLeDiff, Nat.zero_add, Nat.add_zero, true_and, and_true, and_assoc, rect_eI, rect_eB, rect_eU, rect_eS, rect_eL, rect_nil, rect_cons, bytes_is, bytes_str, splice_rules, cell_rules, fill_rules, bnd_rules, or_false, false_or, not_true_eq_false, not_false_eq_true]; rfl) (by exact t11a0) (by exact t11a1) (fun h => Bool.noConfusion (show false = true from h)) ?_
      refine t11_0 ?_
      refine lg_nil ?_
      refine h21 _ ?_; clear h21; try clear N21
      refine vc_regG [] hmix (by kernel_rfl) ?_
      try refine lg_mk ?_
      refine t11_7 ?_
      refine t11_0 ?_
      refine lg_nil ?_
      refine h17 _ ⟨k + 1, ?_, ?_, [some 1], ?_⟩
      ·dsimp only
       omega
      ·dsimp only
       omega
      ·dsimp only
       refine ⟨by rfl, ?_, ?_⟩
       ·exact t11_11
       ·exact t11_11
     ·try simp only [b_rules, bif_and, bif_or] at hb20
      have hk : k = ll.length := by omega
      subst hk
      refine vc_exit ?_
      simp only [k_rules, Nat.reduceEqDiff, reduceIte, eq_self]
      refine h15 _ ?_; clear h15; try clear N15
      refine vc_seq_k fun N23 h23 => ?_
      refine vc_regG [] hmix (by kernel_rfl) ?_
      try refine lg_mk ?_
      refine t11_0 ?_
      refine t11_0 ?_
      refine lg_nil ?_
      refine h23 _ ?_; clear h23; try clear N23
      refine vc_ret ?_
      try simp only [k_rules]
      (simp only [w1, w2, w3, tys, k_rules, eq_self, Nat.reduceEqDiff, Nat.reduceLeDiff, Nat.reduceAdd, Nat.reduceSub, Nat.reduceMul, Int.toNat_natCast, Int.reduceToNat, Int.reduceNeg, List.mem_cons, List.not_mem_nil, or_false, false_or, not_true_eq_false, not_false_eq_true, bif_and, bif_or, reduceIte, true_and, and_true, and_assoc, true_implies, forall_const, implies_true, Bool.true_eq_false, Bool.false_eq_true, false_implies, rows_len, rows_get, rows_drop, rows_take, rows_app, rows_nil, rect_nil, rect_eI, rect_eB, rect_eU, rect_eS, rect_eL, w4, Try.results22, reduceCtorEq, false_or, or_true, true_or]) <;> (try simp only [w1, w2, w3, tys, k_rules, eq_self, Nat.reduceEqDiff, Nat.reduceLeDiff, Nat.reduceAdd, Nat.reduceSub, Nat.reduceMul, Int.toNat_natCast, Int.reduceToNat, Int.reduceNeg, List.mem_cons, List.not_mem_nil, or_false, false_or, not_true_eq_false, not_false_eq_true, bif_and, bif_or, reduceIte, true_and, and_true, and_assoc, true_implies, forall_const, implies_true, Bool.true_eq_false, Bool.false_eq_true, false_implies, rows_len, rows_get, rows_drop, rows_take, rows_app, rows_nil, rect_nil, rect_eI, rect_eB, rect_eU, rect_eS, rect_eL, w4, Try.results22, reduceCtorEq, false_or, or_true, true_or]) <;> (repeat' apply And.intro) <;> (first | rfl | exact Or.inl rfl | trivial | omega | (simp; done) | (simp [rows_take]; done) | (simp only [List.take_length]; done))
 ·cases hg

def E_concatU : Env Try.prog := E_growU.add 22 (Spec.pure concatG) concatU_meets (by kernel_rfl)

theorem g_concatU : (E_concatU.X = T) ∧ (E_concatU.Γ 11 = some (Spec.pure faultG)) ∧ (E_concatU.Γ 18 = some (Spec.pure inG)) ∧ (E_concatU.Γ 16 = some (Spec.pure planOfG)) ∧ (E_concatU.Γ 20 = some (Spec.pure (cloneG 1 1))) ∧ (E_concatU.Γ 27 = some (Spec.gen (deleteG 3))) ∧ (E_concatU.Γ 25 = some (Spec.gen pickG)) ∧ (E_concatU.Γ 21 = some (Spec.gen stepG)) ∧ (E_concatU.Γ 19 = some (Spec.pure (chunkG 24))) ∧ (E_concatU.Γ 9 = some (Spec.pure framesG)) ∧ (E_concatU.Γ 12 = some (Spec.pure countG)) ∧ (E_concatU.Γ 13 = some (Spec.pure frameOfG)) ∧ (E_concatU.Γ 23 = some (Spec.fresh withoutG)) ∧ (E_concatU.Γ 26 = some (Spec.fresh growG)) ∧ (E_concatU.Γ 22 = some (Spec.pure concatG)) := ⟨rfl, rfl, rfl, rfl, rfl, rfl, rfl, rfl, rfl, rfl, rfl, rfl, rfl, rfl, rfl⟩
end Go.Proofs.Ythklbefnmcoojaa
