import Derived.Test.YtmbjnkgpcbpclaaGreatT63
set_option linter.all false
set_option maxRecDepth 100000
set_option maxHeartbeats 4000000
namespace Go.Proofs.YtmbjnkgpcbpclaaGreat
open Go Go.Vc Go.RowKit
def H9 : DP
  | [.d (.sl xs)], [] => some (xs = rows eT Ob, .ptr 0 0 0, [some (.one 131 [.d (.int .u32 0), .d (.int .i32 0), .d (.int .u32 0), .d (.ifc true), .d (.sl (rows eT Ob))])])
  | _, _ => none
def Qa (k : Int) : Nat := if k = 3 then 0 else if k = 2 then 1 else 2
theorem YM (k : Int) : X5 k = (Qa k : Int) := by unfold X5 Qa; split <;> (try split) <;> rfl
theorem Y8 (k : Int) : Qa k ≤ 2 := by unfold Qa; split <;> (try split) <;> omega
def ZK (k : Int) : Bs := if k = 2 then [32, 38, 32] else [32, 124, 32]
theorem R5 (k : Int) : (ZK k).length = 3 := by unfold ZK; split <;> rfl
def LM (rc : Nat → Nat → Option Bs) (n : Sn) : Option Bs :=
  if n.kd = 1 then some ([34] ++ FL n.tx ++ [34])
  else if n.kd = 4 then (rc n.lf.toNat 2).map fun a => [33] ++ a
  else (rc n.lf.toNat (Qa n.kd)).bind fun a => (rc n.rt.toNat (Qa n.kd + 1)).map fun b => a ++ ZK n.kd ++ b
def R6 (q : List Sn) : Nat → Nat → Nat → Option Bs
  | 0, _, _ => none
  | f + 1, i, l => match q[i]? with
    | none => none
    | some n => (LM (R6 q f) n).bind fun s => if s.length ≤ 100000 then some (if Qa n.kd < l then [40] ++ s ++ [41] else s) else none
theorem OS {q : List Sn} {f i l : Nat} {r : Bs} (h : R6 q (f + 1) i l = some r) : ∃ n s, q[i]? = some n ∧ LM (R6 q f) n = some s ∧ s.length ≤ 100000 ∧ r = if Qa n.kd < l then [40] ++ s ++ [41] else s := by
 unfold R6 at h
 split at h
 ·cases h
 ·rename_i n hn
  obtain ⟨s, h1, h2⟩ := Option.bind_eq_some_iff.1 h
  split at h2
  ·exact ⟨n, s, hn, h1, by assumption, (Option.some.inj h2).symm⟩
  ·cases h2
theorem Ir {q : List Sn} : ∀ {f i l : Nat} {r : Bs}, R6 q f i l = some r → r.length ≤ 100002
  | 0, _, _, _, h => by cases h
  | f + 1, i, l, r, h => by
    obtain ⟨n, s, _, _, h3, rfl⟩ := OS h
    split
    · simp; omega
    · omega
def Z9 (q : List Sn) : Prop := q.length ≤ 40 ∧ ∀ n ∈ q, 1 ≤ n.kd ∧ n.kd ≤ 4 ∧ 0 ≤ n.lf ∧ 0 ≤ n.rt ∧ n.tx.length ≤ 80
def FT (fu : Nat) : List AV → Option (Prop × AV)
  | [.agg [.d (.sl xs)], .d (.int .i64 i), .d (.int .i64 l)] => some (xs = rows Ec (C8 xs) ∧ Z9 (C8 xs) ∧ 0 ≤ i ∧ 0 ≤ l ∧ l ≤ 2 ∧ (R6 (C8 xs) fu i.toNat l.toNat).isSome = true, .d (.str ((R6 (C8 xs) fu i.toNat l.toNat).getD [])))
  | _ => none
theorem M3 (a : Bs) : (some a).getD [] = a := rfl
theorem Uu (s : Bs) : (FL s).length ≤ 2 * s.length := by
  rw [J9]; unfold nE; have := List.countP_le_length (p := Pj) (l := s); omega
def TT : Bq Tryz.prog := Zg.add 68 (Spec.gen HA) Tq (by kernel_rfl)
theorem Tf : A5 Tryz.prog 67 (Spec.fresh H9) := by
 refine F8 (TT.at_ 12) Tryz.func67 rfl rfl rfl ?_
 intro args bl p r bf hg hp
 unfold H9 at hg
 split at hg
 rename_i xs
 simp only [Option.some.injEq, Prod.mk.injEq] at hg
 obtain ⟨rfl, rfl, rfl⟩ := hg
 subst hp
 have hT : (TT).X = T := rfl
 have hx0 := And.intro @DG (And.intro @Ci (And.intro @Ch @Tryz.results67))
 have hx := hx0
 refine ⟨Nat.le_of_ble_eq_true rfl, ?_⟩
 intro F W0 M0 hnp hmk
 have hnp : Bl.np = 0 := hnp
 refine Aa fun N1 h1 => Ac ?_
 refine Az ?_
 refine Ad ?_
 refine Ab (h1 _ (Aa fun N2 h2 => ?_)); clear h1
 refine Aa fun N3 h3 => Ac ?_
 refine Ad ?_
 refine AU ?_
 iterate 2 refine Ao ?_
 refine Ab (h3 _ (Ak (fun hb4 => ?_) (fun hb4 => ?_))); clear h3
 exact CJ hb4
 refine An ?_
 try simp only [Ae]
 refine h2 _ (Aa fun N5 h5 => Ac ?_); clear h2
 refine Ad ?_
 refine Xc (by rfl) (OO (by simp only [wB, eq_self, Nat.reduceEqDiff, reduceIte, E3, C7, or_self, BI, LO, hT, CZ, wL, Int.toNat_natCast, Int.reduceToNat, Nat.reduceAdd, Nat.reduceMul, Nat.reduceSub, Nat.reduceLeDiff, hx]; rfl) (by simp only [EG, EH, AX, AP, AW, eq_self, Nat.reduceEqDiff, reduceIte, and_true, true_and, AF, List.map_cons, List.map_nil]) (by exact AQ) (by first | rfl | (simp only [wB, eq_self, Nat.reduceEqDiff, reduceIte, wG, A2, Nat.reduceAdd, Nat.reduceSub, Nat.reduceLT, Nat.reduceLeDiff, Bk, List.cons_append, List.nil_append, List.mem_cons, List.not_mem_nil, or_false, false_or, wL, Int.toNat_natCast, Int.reduceToNat, Nat.reduceAdd, Nat.reduceMul, Nat.reduceSub, Nat.reduceLeDiff, hx]; rfl)) (by rfl) (by rfl) (by first | exact Nat.le_refl _ | (rw [Bd]; exact Nat.le_refl _) | exact AQ) ⟨fun h => Bool.noConfusion (show false = true from h), ?_⟩)
 try simp only [wB, eq_self, Nat.reduceEqDiff, reduceIte, wG, A2, Nat.reduceAdd, Nat.reduceSub, Nat.reduceLT, Nat.reduceLeDiff, Bk, List.cons_append, List.nil_append, List.mem_cons, List.not_mem_nil, or_false, false_or, wL, Int.toNat_natCast, Int.reduceToNat, Nat.reduceAdd, Nat.reduceMul, Nat.reduceSub, Nat.reduceLeDiff, hx, List.take_length]
 refine BD ?_
 refine Fz ?_
 refine Ad ?_
 refine Ab (h5 _ (Am ?_)); clear h5
 try simp only [Ae]
 refine Aj ?_
 refine ⟨[some 1], by rfl, ?_, ?_⟩
 refine Aj ?_
 exact Au
 refine Aj ?_
 exact Au
 cases hg
def XI : Bq Tryz.prog := TT.add 67 (Spec.fresh H9) Tf (by kernel_rfl)
