/- Walks, printed by wip/gen/walk.py. -/
import Derived.Test.YtmbjnkgpcbpclaaGreatT63
import Derived.Test.YtmbjnkgpcbpclaaGreatV5
set_option linter.all false
set_option maxRecDepth 100000
set_option maxHeartbeats 4000000
namespace Go.Proofs.YtmbjnkgpcbpclaaGreat
open Go Go.Vc Go.RowKit
def GB : Dr
  | [.d (.sl xs)], [] => some (xs = rows eT Mg, .ptr 0 0 0, [some (.one 131 [.d (.int .u32 0), .d (.int .i32 0), .d (.int .u32 0), .d (.ifc true), .d (.sl (rows eT Mg))])])
  | _, _ => none
def NQ (k : Int) : Nat := if k = 3 then 0 else if k = 2 then 1 else 2
theorem Wx (k : Int) : UX k = (NQ k : Int) := by unfold UX NQ; split <;> (try split) <;> rfl
theorem Wi (k : Int) : NQ k ≤ 2 := by unfold NQ; split <;> (try split) <;> omega
def X1 (k : Int) : Bs := if k = 2 then [32, 38, 32] else [32, 124, 32]
theorem Pj (k : Int) : (X1 k).length = 3 := by unfold X1; split <;> rfl
def K0 (rc : Nat → Nat → Option Bs) (n : Sn) : Option Bs :=
  if n.kd = 1 then some ([34] ++ EO n.tx ++ [34])
  else if n.kd = 4 then (rc n.lf.toNat 2).map fun a => [33] ++ a
  else (rc n.lf.toNat (NQ n.kd)).bind fun a => (rc n.rt.toNat (NQ n.kd + 1)).map fun b => a ++ X1 n.kd ++ b
def Pk (q : List Sn) : Nat → Nat → Nat → Option Bs
  | 0, _, _ => none
  | f + 1, i, l => match q[i]? with
    | none => none
    | some n => (K0 (Pk q f) n).bind fun s => if s.length ≤ 100000 then some (if NQ n.kd < l then [40] ++ s ++ [41] else s) else none
theorem MK {q : List Sn} {f i l : Nat} {r : Bs} (h : Pk q (f + 1) i l = some r) : ∃ n s, q[i]? = some n ∧ K0 (Pk q f) n = some s ∧ s.length ≤ 100000 ∧ r = if NQ n.kd < l then [40] ++ s ++ [41] else s := by
 unfold Pk at h
 split at h
 ·cases h
 ·rename_i n hn
  obtain ⟨s, h1, h2⟩ := Option.bind_eq_some_iff.1 h
  split at h2
  ·exact ⟨n, s, hn, h1, by assumption, (Option.some.inj h2).symm⟩
  ·cases h2
theorem Hh {q : List Sn} : ∀ {f i l : Nat} {r : Bs}, Pk q f i l = some r → r.length ≤ 100002
  | 0, _, _, _, h => by cases h
  | f + 1, i, l, r, h => by
    obtain ⟨n, s, _, _, h3, rfl⟩ := MK h
    split
    · simp; omega
    · omega
def Xr (q : List Sn) : Prop := q.length ≤ 40 ∧ ∀ n ∈ q, 1 ≤ n.kd ∧ n.kd ≤ 4 ∧ 0 ≤ n.lf ∧ 0 ≤ n.rt ∧ n.tx.length ≤ 80
def EX (fu : Nat) : List AV → Option (Prop × AV)
  | [.agg [.d (.sl xs)], .d (.int .i64 i), .d (.int .i64 l)] => some (xs = rows DL (C3 xs) ∧ Xr (C3 xs) ∧ 0 ≤ i ∧ 0 ≤ l ∧ l ≤ 2 ∧ (Pk (C3 xs) fu i.toNat l.toNat).isSome = true, .d (.str ((Pk (C3 xs) fu i.toNat l.toNat).getD [])))
  | _ => none
theorem KT (a : Bs) : (some a).getD [] = a := rfl
theorem RG (s : Bs) : (EO s).length ≤ 2 * s.length := by
  rw [Iu]; unfold nE; have := List.countP_le_length (p := MX) (l := s); omega

def Rk : Bo Tryz.prog := WI.add 68 (Spec.gen GC) Q4 (by kernel_rfl)

theorem Qu : A5 Tryz.prog 67 (Spec.fresh GB) := by
 refine E7 (Rk.at_ 12) Tryz.func67 rfl rfl rfl ?_
 intro args bl p r bf hg hp
 unfold GB at hg
 split at hg
 rename_i xs
 simp only [Option.some.injEq, Prod.mk.injEq] at hg
 obtain ⟨rfl, rfl, rfl⟩ := hg
 subst hp
 have hT : (Rk).X = T := rfl
 have hx0 := And.intro @EC (And.intro @Cu (And.intro @Ct @Tryz.results67))
 have hx := hx0
 refine ⟨Nat.le_of_ble_eq_true rfl, ?_⟩
 intro F W0 M0 hnp hmk
 have hnp : AU.np = 0 := hnp
 refine Aa fun N1 h1 => ?_
 refine Ad ?_
 try refine Ac ?_
 refine Ae ?_
 refine Ab ?_
 refine h1 _ ?_; clear h1
 refine Aa fun N2 h2 => ?_
 refine Aa fun N3 h3 => ?_
 refine Ad ?_
 try refine Ac ?_
 refine Ae ?_
 refine Bm ?_
 iterate 2 refine Am ?_
 refine Ab ?_
 refine h3 _ ?_; clear h3
 refine Al (fun hb4 => ?_) (fun hb4 => ?_)
 ·first | omega | exact absurd trivial hb4 | contradiction | (simp_all; done)
 refine An ?_
 try simp only [Af]
 refine h2 _ ?_; clear h2
 refine Aa fun N5 h5 => ?_
 refine Ad ?_
 try refine Ac ?_
 refine Ae ?_
 refine U6 (by rfl) (MH (by simp only [wB, eq_self, Nat.reduceEqDiff, reduceIte, DK, BX, or_self, Bv, K3, hT, Cw, wL, Int.toNat_natCast, Int.reduceToNat, Nat.reduceAdd, Nat.reduceMul, Nat.reduceSub, Nat.reduceLeDiff, hx]; rfl) (by simp only [DU, DV, AD, AB, AC, eq_self, Nat.reduceEqDiff, reduceIte, and_true, true_and, A6, List.map_cons, List.map_nil]) (by exact Ay) (by first | rfl | (simp only [wB, eq_self, Nat.reduceEqDiff, reduceIte, wG, Ax, Nat.reduceAdd, Nat.reduceSub, Nat.reduceLT, Nat.reduceLeDiff, AS, List.cons_append, List.nil_append, List.mem_cons, List.not_mem_nil, or_false, false_or, wL, Int.toNat_natCast, Int.reduceToNat, Nat.reduceAdd, Nat.reduceMul, Nat.reduceSub, Nat.reduceLeDiff, hx]; rfl)) (by rfl) (by rfl) (by first | exact Nat.le_refl _ | (rw [AZ]; exact Nat.le_refl _) | exact Ay) ⟨fun h => Bool.noConfusion (show false = true from h), ?_⟩)
 try simp only [wB, eq_self, Nat.reduceEqDiff, reduceIte, wG, Ax, Nat.reduceAdd, Nat.reduceSub, Nat.reduceLT, Nat.reduceLeDiff, AS, List.cons_append, List.nil_append, List.mem_cons, List.not_mem_nil, or_false, false_or, wL, Int.toNat_natCast, Int.reduceToNat, Nat.reduceAdd, Nat.reduceMul, Nat.reduceSub, Nat.reduceLeDiff, hx, List.take_length]
 refine BC ?_
 refine FU ?_
 refine Ae ?_
 refine Ab ?_
 refine h5 _ ?_; clear h5
 refine Ao ?_
 try simp only [Af]
 refine Aj ?_
 refine ⟨[some 1], by rfl, ?_, ?_⟩
 refine Aj ?_
 exact At
 refine Aj ?_
 exact At
 cases hg

def Vo : Bo Tryz.prog := Rk.add 67 (Spec.fresh GB) Qu (by kernel_rfl)
end Go.Proofs.YtmbjnkgpcbpclaaGreat
