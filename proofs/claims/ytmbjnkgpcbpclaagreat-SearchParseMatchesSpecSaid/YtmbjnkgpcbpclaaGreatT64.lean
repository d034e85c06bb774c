/- Walks, printed by wip/gen/walk.py. -/
import Derived.Test.YtmbjnkgpcbpclaaGreatT63
import Derived.Test.YtmbjnkgpcbpclaaGreatV5
set_option linter.all false
set_option maxRecDepth 100000
set_option maxHeartbeats 4000000
namespace Go.Proofs.YtmbjnkgpcbpclaaGreat
open Go Go.Vc Go.RowKit
def nrpG : GFun
  | [.d (.sl xs)], [] => some (xs = rows eT fourS, .ptr 0 0 0, [some (.one 131 [.d (.int .u32 0), .d (.int .i32 0), .d (.int .u32 0), .d (.ifc true), .d (.sl (rows eT fourS))])])
  | _, _ => none
def lvS (k : Int) : Nat := if k = 3 then 0 else if k = 2 then 1 else 2
theorem slv_is (k : Int) : slv k = (lvS k : Int) := by unfold slv lvS; split <;> (try split) <;> rfl
theorem lvS_le (k : Int) : lvS k ≤ 2 := by unfold lvS; split <;> (try split) <;> omega
def sgS (k : Int) : Bs := if k = 2 then [32, 38, 32] else [32, 124, 32]
theorem sgS_len (k : Int) : (sgS k).length = 3 := by unfold sgS; split <;> rfl
def shB (rc : Nat → Nat → Option Bs) (n : Sn) : Option Bs :=
  if n.kd = 1 then some ([34] ++ esc n.tx ++ [34])
  else if n.kd = 4 then (rc n.lf.toNat 2).map fun a => [33] ++ a
  else (rc n.lf.toNat (lvS n.kd)).bind fun a => (rc n.rt.toNat (lvS n.kd + 1)).map fun b => a ++ sgS n.kd ++ b
def shS (q : List Sn) : Nat → Nat → Nat → Option Bs
  | 0, _, _ => none
  | f + 1, i, l => match q[i]? with
    | none => none
    | some n => (shB (shS q f) n).bind fun s => if s.length ≤ 100000 then some (if lvS n.kd < l then [40] ++ s ++ [41] else s) else none
theorem shS_step {q : List Sn} {f i l : Nat} {r : Bs} (h : shS q (f + 1) i l = some r) : ∃ n s, q[i]? = some n ∧ shB (shS q f) n = some s ∧ s.length ≤ 100000 ∧ r = if lvS n.kd < l then [40] ++ s ++ [41] else s := by
 unfold shS at h
 split at h
 ·cases h
 ·rename_i n hn
  obtain ⟨s, h1, h2⟩ := Option.bind_eq_some_iff.1 h
  split at h2
  ·exact ⟨n, s, hn, h1, by assumption, (Option.some.inj h2).symm⟩
  ·cases h2
theorem shS_len {q : List Sn} : ∀ {f i l : Nat} {r : Bs}, shS q f i l = some r → r.length ≤ 100002
  | 0, _, _, _, h => by cases h
  | f + 1, i, l, r, h => by
    obtain ⟨n, s, _, _, h3, rfl⟩ := shS_step h
    split
    · simp; omega
    · omega
def okSh (q : List Sn) : Prop := q.length ≤ 40 ∧ ∀ n ∈ q, 1 ≤ n.kd ∧ n.kd ≤ 4 ∧ 0 ≤ n.lf ∧ 0 ≤ n.rt ∧ n.tx.length ≤ 80
def shwG (fu : Nat) : List AV → Option (Prop × AV)
  | [.agg [.d (.sl xs)], .d (.int .i64 i), .d (.int .i64 l)] => some (xs = rows eSn (dSn xs) ∧ okSh (dSn xs) ∧ 0 ≤ i ∧ 0 ≤ l ∧ l ≤ 2 ∧ (shS (dSn xs) fu i.toNat l.toNat).isSome = true, .d (.str ((shS (dSn xs) fu i.toNat l.toNat).getD [])))
  | _ => none
theorem getD_bs (a : Bs) : (some a).getD [] = a := rfl
theorem esc_le (s : Bs) : (esc s).length ≤ 2 * s.length := by
  rw [esc_len]; unfold nE; have := List.countP_le_length (p := isE) (l := s); omega

def E_rep : Env Tryz.prog := E_bsr.add 68 (Spec.gen repG) rep_meets (by kernel_rfl)

theorem nrp_meets : Meets Tryz.prog 67 (Spec.fresh nrpG) := by
 refine meets_fresh (E_rep.at_ 12) Tryz.func67 rfl rfl rfl ?_
 intro args bl p r bf hg hp
 unfold nrpG at hg
 split at hg
 rename_i xs
 simp only [Option.some.injEq, Prod.mk.injEq] at hg
 obtain ⟨rfl, rfl, rfl⟩ := hg
 subst hp
 have hT : (E_rep).X = T := rfl
 have hx0 := And.intro @rect_eT (And.intro @dec_t (And.intro @dec_f @Tryz.results67))
 have hx := hx0
 refine ⟨Nat.le_of_ble_eq_true rfl, ?_⟩
 intro F W0 M0 hnp hmk
 have hnp : Far.np = 0 := hnp
 refine vc_seq_k fun N1 h1 => ?_
 refine u_reg ?_
 try refine lg_mk ?_
 refine u_mv ?_
 refine lg_nil ?_
 refine h1 _ ?_; clear h1; try clear N1
 refine vc_seq_k fun N2 h2 => ?_
 refine vc_seq_k fun N3 h3 => ?_
 refine u_reg ?_
 try refine lg_mk ?_
 refine u_mv ?_
 refine u_ln ?_
 iterate 2 refine u_bn ?_
 refine lg_nil ?_
 refine h3 _ ?_; clear h3; try clear N3
 refine u_cond (fun hb4 => ?_) (fun hb4 => ?_)
 ·first | omega | exact absurd trivial hb4 | contradiction | (simp_all; done)
 refine vc_skip ?_
 try simp only [k_rules]
 refine h2 _ ?_; clear h2; try clear N2
 refine vc_seq_k fun N5 h5 => ?_
 refine u_reg ?_
 try refine lg_mk ?_
 refine u_mv ?_
 refine lg_semG (by rfl) (sem_appendD (by simp only [wB, eq_self, Nat.reduceEqDiff, reduceIte, aAppend, rowsSrc, or_self, env_rules, tys, hT, tiAgg, wL, Int.toNat_natCast, Int.reduceToNat, Nat.reduceAdd, Nat.reduceMul, Nat.reduceSub, Nat.reduceLeDiff, hx]; rfl) (by simp only [nd_rules, nd_slice, ev_rules, fr_rules, av_rules, eq_self, Nat.reduceEqDiff, reduceIte, and_true, true_and, map_rules, List.map_cons, List.map_nil]) (by exact sd_) (by first | rfl | (simp only [wB, eq_self, Nat.reduceEqDiff, reduceIte, wG, heap_rules, Nat.reduceAdd, Nat.reduceSub, Nat.reduceLT, Nat.reduceLeDiff, kilL, List.cons_append, List.nil_append, List.mem_cons, List.not_mem_nil, or_false, false_or, wL, Int.toNat_natCast, Int.reduceToNat, Nat.reduceAdd, Nat.reduceMul, Nat.reduceSub, Nat.reduceLeDiff, hx]; rfl)) (by rfl) (by rfl) (by first | exact Nat.le_refl _ | (rw [rows_len]; exact Nat.le_refl _) | exact sd_) ⟨fun h => Bool.noConfusion (show false = true from h), ?_⟩)
 try simp only [wB, eq_self, Nat.reduceEqDiff, reduceIte, wG, heap_rules, Nat.reduceAdd, Nat.reduceSub, Nat.reduceLT, Nat.reduceLeDiff, kilL, List.cons_append, List.nil_append, List.mem_cons, List.not_mem_nil, or_false, false_or, wL, Int.toNat_natCast, Int.reduceToNat, Nat.reduceAdd, Nat.reduceMul, Nat.reduceSub, Nat.reduceLeDiff, hx, List.take_length]
 refine u_bd ?_
 refine u_bx ?_
 refine u_mv ?_
 refine lg_nil ?_
 refine h5 _ ?_; clear h5; try clear N5
 refine vc_ret ?_
 try simp only [k_rules]
 refine fin_ ?_
 refine ⟨[some 1], by rfl, ?_, ?_⟩
 refine fin_ ?_
 exact cl_
 refine fin_ ?_
 exact cl_
 cases hg

def E_nrp : Env Tryz.prog := E_rep.add 67 (Spec.fresh nrpG) nrp_meets (by kernel_rfl)
end Go.Proofs.YtmbjnkgpcbpclaaGreat
