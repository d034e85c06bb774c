/- Walks, printed by wip/gen/walk.py. -/
import Derived.Test.YtiijkbidkdmilaaT46
import Derived.Test.YtiijkbidkdmilaaV5
set_option linter.all false
set_option maxRecDepth 100000
set_option maxHeartbeats 4000000
namespace Go.Proofs.Ytiijkbidkdmilaa
open Go Go.Vc Go.RowKit
def framesOf (l : List UInt8) : List (List UInt8) := (List.range ((l.length + 15) / 16)).map fun i => (l.drop (16 * i)).take 16
theorem framesOf_len (l : List UInt8) : (framesOf l).length = (l.length + 15) / 16 := by simp [framesOf]
theorem parts_len (l : List UInt8) : (parts (rows eU l)).length = (framesOf l).length := by simp [parts, framesOf, rows_len]
theorem parts_get {l : List UInt8} {k : Nat} {x : List AV} (h : (parts (rows eU l))[k]? = some x) : ∃ c, (framesOf l)[k]? = some c ∧ x = [.d (.sl (rows eU c))] ∧ (framesOf l).take (k + 1) = (framesOf l).take k ++ [c] ∧ ((framesOf l).take k).length = k ∧ c.length ≤ 16 ∧ k < (framesOf l).length := by
  have hk : k < (framesOf l).length := by rw [← parts_len]; exact (List.getElem?_eq_some_iff.1 h).1
  have hk' : k < (l.length + 15) / 16 := by rw [← framesOf_len]; exact hk
  have hc : (framesOf l)[k]? = some ((l.drop (16 * k)).take 16) := by
    simp [framesOf, List.getElem?_range hk']
  refine ⟨_, hc, ?_, ?_, by rw [List.length_take]; omega, by rw [List.length_take]; omega, hk⟩
  · simp only [parts, rows_len, List.getElem?_map, List.getElem?_range hk', Option.map_some, Option.some.injEq] at h
    rw [← h, rows_drop, rows_take]
  · rw [List.take_add_one, hc]; rfl
def framesG : List AV → Option (Prop × AV)
  | [.d (.sl xs)] => some (xs = rows eU (dU xs) ∧ xs.length ≤ 9223372036854775807,
      .tup [.d (.sl (if (dU xs).length ≤ 4096 then rows (eL eU) (framesOf (dU xs)) else [])), .agg [.d (.int .i64 (if (dU xs).length ≤ 4096 then 0 else 2)), .d (.int .i64 (if (dU xs).length ≤ 4096 then 0 else -1))]])
  | _ => none

theorem frames_meets : Meets Try.prog 15 (Spec.pure framesG) := by
 refine meets_fun (E_chunkU.at_ 20) Try.func15 rfl rfl rfl ?_
 intro args p r hg hp
 unfold framesG at hg
 split at hg
 ·rename_i xs
  simp only [Option.some.injEq, Prod.mk.injEq] at hg
  obtain ⟨rfl, rfl⟩ := hg
  obtain ⟨hx, hlen⟩ := hp
  generalize dU xs = l at *
  subst hx
  rw [rows_len] at hlen
  have hT : (E_chunkU).X = T := rfl
  have hx0 := @Try.results15
  have hx := hx0
  refine ⟨by rfl, ?_⟩
  intro F W0 hnp hmk
  refine vc_seq_k fun N1 h1 => ?_
  refine vc_regG [27] hmix (by kernel_rfl) ?_
  try refine lg_mk ?_
  refine u_mv ?_
  refine u_al ?_
  refine lg_nil ?_
  refine h1 _ ?_; clear h1; try clear N1
  refine vc_seq_k fun N2 h2 => ?_
  refine vc_seq_k fun N3 h3 => ?_
  refine vc_regG [27] hmix (by kernel_rfl) ?_
  try refine lg_mk ?_
  refine u_mv ?_
  refine u_ln ?_
  refine u_bn ?_
  refine lg_nil ?_
  refine h3 _ ?_; clear h3; try clear N3
  refine u_cond (fun hb4 => ?_) (fun hb4 => ?_)
  ·refine vc_seq_k fun N5 h5 => ?_
   refine vc_regG [27] hmix (by kernel_rfl) ?_
   try refine lg_mk ?_
   refine u_bd ?_
   refine u_mv ?_
   refine u_st ?_
   refine lg_nil ?_
   refine h5 _ ?_; clear h5; try clear N5
   refine vc_ret ?_
   try simp only [k_rules]
   rw [if_neg (by omega), if_neg (by omega), if_neg (by omega)]
   refine fin2_ ?_
   exact cl_
  ·have hl4 : l.length ≤ 4096 := by omega
   refine vc_skip ?_
   try simp only [k_rules]
   refine h2 _ ?_; clear h2; try clear N2
   refine vc_seq_k fun N6 h6 => ?_
   refine vc_regG [27] hmix (by kernel_rfl) ?_
   try refine lg_mk ?_
   refine u_al ?_
   refine lg_nil ?_
   refine h6 _ ?_; clear h6; try clear N6
   refine vc_seq_k fun N7 h7 => ?_
   refine vc_seq_k fun N8 h8 => ?_
   refine vc_regG [27] hmix (by kernel_rfl) ?_
   try refine lg_mk ?_
   refine u_mv ?_
   have hc := call_rule (E := (E_chunkU.at_ 20)) (f := 26) (sp := Spec.pure (chunkG 40)) rfl
   have hs := @chunkG.eq_1
   refine u_hp ?_
   refine lg_nil ?_
   refine h8 _ ?_; clear h8; try clear N8
   refine vc_block ?_
   refine vc_cut hnp [(3, .ptr 0 0 0), (4, .ptr 1 0 0), (11, .clo (.func 40) [.d (.ptr [.sl (rows eU l)]), .d (.ptr [.int .i64 16])])] ((fun k : Nat => [some (.one 30 [.d (.int .i64 0), .d (.int .i64 0)]), some (.one 52 [.sl 2 0 k]), some (.vec 28 1 (rows (eL eU) ((framesOf l).take k)))]) 0) [some 0, some 1, none] ?_ ?_
   ·dsimp only
    refine ⟨by rfl, ?_, ?_⟩
    ·refine fin_ ?_
     exact cl_
    ·refine fin_ ?_
     exact cl_
   refine vc_range (E := (E_chunkU.at_ 20)) (ps := [12]) (f := Operand.tmp 11) rfl (fl := [(3, .ptr 0 0 0), (4, .ptr 1 0 0), (11, .clo (.func 40) [.d (.ptr [.sl (rows eU l)]), .d (.ptr [.int .i64 16])])]) (bl := (fun k : Nat => [some (.one 30 [.d (.int .i64 0), .d (.int .i64 0)]), some (.one 52 [.sl 2 0 k]), some (.vec 28 1 (rows (eL eU) ((framesOf l).take k)))]) 0) (caps := [.d (.ptr [.sl (rows eU l)]), .d (.ptr [.int .i64 16])]) (xs := parts (rows eU l)) (chunk_it (rows eU l) (rect_eU l) (by rw [rows_len]; omega)) rfl (by rfl) 2 (by rfl) (Nat.le_of_ble_eq_true rfl) (by rw [hnp]; exact (Nat.le_of_ble_eq_true rfl)) hmk (fun k : Nat => [some (.one 30 [.d (.int .i64 0), .d (.int .i64 0)]), some (.one 52 [.sl 2 0 k]), some (.vec 28 1 (rows (eL eU) ((framesOf l).take k)))]) rfl (fun _ => (Nat.le_of_ble_eq_true rfl)) (fun k x => [(5, (x.getD 0 .any)), (3, .ptr 0 0 0), (4, .ptr 1 0 0), (11, .clo (.func 40) [.d (.ptr [.sl (rows eU l)]), .d (.ptr [.int .i64 16])])]) (fun k => [some (.one 30 [.d (.int .i64 0), .d (.int .i64 0)]), some (.one 52 [.sl 2 0 k]), some (.vec 28 1 (rows (eL eU) ((framesOf l).take k)))]) ?_ ?_ ?_
   ·intro k x lp hx F W0 M0 hnp
    obtain ⟨c, hc, rfl, htk, hlk, hc16, hkl⟩ := parts_get hx
    have hfl := framesOf_len l
    show VC _ W0 M0 _ (mkSt [(12, .d (.sl (rows eU c))), (3, .ptr 0 0 0), (4, .ptr 1 0 0), (11, .clo (.func 40) [.d (.ptr [.sl (rows eU l)]), .d (.ptr [.int .i64 16])])] [some (.one 30 [.d (.int .i64 0), .d (.int .i64 0)]), some (.one 52 [.sl 2 0 k]), some (.vec 28 1 (rows (eL eU) ((framesOf l).take k)))]) _
    refine vc_regG [27] hmix (by kernel_rfl) ?_
    try refine lg_mk ?_
    refine u_mv ?_
    refine lg_nil ?_
    refine ⟨rfl, [some 0, some 1, some 2], ?_⟩
    refine ⟨by rfl, ?_, ?_⟩
    ·refine fin_ ?_
     exact cl_
    ·refine fin_ ?_
     exact cl_
   ·intro k x lp hx F W0 M0 hnp
    obtain ⟨c, hc, rfl, htk, hlk, hc16, hkl⟩ := parts_get hx
    have hfl := framesOf_len l
    show VC _ W0 M0 _ (mkSt [(5, .d (.sl (rows eU c))), (3, .ptr 0 0 0), (4, .ptr 1 0 0), (11, .clo (.func 40) [.d (.ptr [.sl (rows eU l)]), .d (.ptr [.int .i64 16])])] [some (.one 30 [.d (.int .i64 0), .d (.int .i64 0)]), some (.one 52 [.sl 2 0 k]), some (.vec 28 1 (rows (eL eU) ((framesOf l).take k)))]) _
    refine vc_block ?_
    refine vc_regG [27] hmix (by kernel_rfl) ?_
    try refine lg_mk ?_
    refine u_ld ?_
    refine u_mv ?_
    have hc := call_rule (E := (E_chunkU.at_ 20).inR lp) (f := 27) (sp := Spec.pure (cloneG 1 1)) rfl
    have hs := @cloneG.eq_1
    refine u_hp ?_
    refine u_bs ?_
    refine u_ap ?_
    refine u_st ?_
    refine lg_nil ?_
    refine Exists.intro [some 0, some 1, some 4] ?_
    refine ⟨by rfl, ?_, ?_⟩
    ·refine fin_ ?_
     (repeat' apply And.intro) <;> (first | (first | rfl | trivial | (rw [htk, List.take_take, Nat.min_self]; exact rows_snoc (eL eU) _ c)) | exact cl_)
    ·refine fin_ ?_
     (repeat' apply And.intro) <;> (first | (first | rfl | trivial | (rw [htk, List.take_take, Nat.min_self]; exact rows_snoc (eL eU) _ c)) | exact cl_)
   try simp only [k_rules]
   rw [parts_len]
   refine h7 _ ?_; clear h7; try clear N7
   refine vc_seq_k fun N9 h9 => ?_
   refine vc_regG [27] hmix (by kernel_rfl) ?_
   try refine lg_mk ?_
   refine u_ld ?_
   refine u_bd ?_
   refine u_mv ?_
   refine u_st ?_
   refine lg_nil ?_
   refine h9 _ ?_; clear h9; try clear N9
   refine vc_ret ?_
   try simp only [k_rules]
   rw [if_pos hl4, if_pos hl4, if_pos hl4]
   refine fin2_ ?_
   (repeat' apply And.intro) <;> (first | (first | rfl | exact Or.inl rfl | exact Or.inr rfl | trivial | (simp; done) | (simp [rows_len]; done) | (simp [rows_len]; omega) | (simp [rows_take]; done) | (left; simp [rows]; done)) | exact cl_)
 ·cases hg

def E_frames : Env Try.prog := E_chunkU.add 15 (Spec.pure framesG) frames_meets (by kernel_rfl)
end Go.Proofs.Ytiijkbidkdmilaa
