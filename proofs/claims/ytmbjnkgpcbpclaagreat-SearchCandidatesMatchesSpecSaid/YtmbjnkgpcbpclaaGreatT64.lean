/- Walks, printed by wip/gen/walk.py. -/
import Derived.Test.YtmbjnkgpcbpclaaGreatT63
import Derived.Test.YtmbjnkgpcbpclaaGreatV5
set_option linter.all false
set_option maxRecDepth 100000
set_option maxHeartbeats 4000000
namespace Go.Proofs.YtmbjnkgpcbpclaaGreat
open Go Go.Vc Go.RowKit
def GT : D3
  | [.d (.sl xs)], [] => some (xs = rows eT ML, .ptr 0 0 0, [some (.one 131 [.d (.int .u32 0), .d (.int .i32 0), .d (.int .u32 0), .d (.ifc true), .d (.sl (rows eT ML))])])
  | _, _ => none
def OC (k : Int) : Nat := if k = 3 then 0 else if k = 2 then 1 else 2
theorem Xn (k : Int) : VV k = (OC k : Int) := by unfold VV OC; split <;> (try split) <;> rfl
theorem Xd (k : Int) : OC k ≤ 2 := by unfold OC; split <;> (try split) <;> omega
def Yp (k : Int) : Bs := if k = 2 then [32, 38, 32] else [32, 124, 32]
theorem PS (k : Int) : (Yp k).length = 3 := by unfold Yp; split <;> rfl
def KT (rc : Nat → Nat → Option Bs) (n : Sn) : Option Bs :=
  if n.kd = 1 then some ([34] ++ Fc n.tx ++ [34])
  else if n.kd = 4 then (rc n.lf.toNat 2).map fun a => [33] ++ a
  else (rc n.lf.toNat (OC n.kd)).bind fun a => (rc n.rt.toNat (OC n.kd + 1)).map fun b => a ++ Yp n.kd ++ b
def PT (q : List Sn) : Nat → Nat → Nat → Option Bs
  | 0, _, _ => none
  | f + 1, i, l => match q[i]? with
    | none => none
    | some n => (KT (PT q f) n).bind fun s => if s.length ≤ 100000 then some (if OC n.kd < l then [40] ++ s ++ [41] else s) else none
theorem Nw {q : List Sn} {f i l : Nat} {r : Bs} (h : PT q (f + 1) i l = some r) : ∃ n s, q[i]? = some n ∧ KT (PT q f) n = some s ∧ s.length ≤ 100000 ∧ r = if OC n.kd < l then [40] ++ s ++ [41] else s := by
 unfold PT at h
 split at h
 ·cases h
 ·rename_i n hn
  obtain ⟨s, h1, h2⟩ := Option.bind_eq_some_iff.1 h
  split at h2
  ·exact ⟨n, s, hn, h1, by assumption, (Option.some.inj h2).symm⟩
  ·cases h2
theorem H3 {q : List Sn} : ∀ {f i l : Nat} {r : Bs}, PT q f i l = some r → r.length ≤ 100002
  | 0, _, _, _, h => by cases h
  | f + 1, i, l, r, h => by
    obtain ⟨n, s, _, _, h3, rfl⟩ := Nw h
    split
    · simp; omega
    · omega
def Ye (q : List Sn) : Prop := q.length ≤ 40 ∧ ∀ n ∈ q, 1 ≤ n.kd ∧ n.kd ≤ 4 ∧ 0 ≤ n.lf ∧ 0 ≤ n.rt ∧ n.tx.length ≤ 80
def Fl (fu : Nat) : List AV → Option (Prop × AV)
  | [.agg [.d (.sl xs)], .d (.int .i64 i), .d (.int .i64 l)] => some (xs = rows DR (Cz xs) ∧ Ye (Cz xs) ∧ 0 ≤ i ∧ 0 ≤ l ∧ l ≤ 2 ∧ (PT (Cz xs) fu i.toNat l.toNat).isSome = true, .d (.str ((PT (Cz xs) fu i.toNat l.toNat).getD [])))
  | _ => none
theorem Lx (a : Bs) : (some a).getD [] = a := rfl
theorem SD (s : Bs) : (Fc s).length ≤ 2 * s.length := by
  rw [II]; unfold nE; have := List.countP_le_length (p := NJ) (l := s); omega

def Sf : Bn Tryz.prog := X7.add 68 (Spec.gen GU) Rw (by kernel_rfl)

theorem Rk : A1 Tryz.prog 67 (Spec.fresh GT) := by
 refine EM (Sf.at_ 12) Tryz.func67 rfl rfl rfl ?_
 intro args bl p r bf hg hp
 unfold GT at hg
 split at hg
 rename_i xs
 simp only [Option.some.injEq, Prod.mk.injEq] at hg
 obtain ⟨rfl, rfl, rfl⟩ := hg
 subst hp
 have hT : (Sf).X = T := rfl
 have hx0 := And.intro @F1 (And.intro @Ci (And.intro @Ch @Tryz.results67))
 have hx := hx0
 refine ⟨Nat.le_of_ble_eq_true rfl, ?_⟩
 intro F W0 M0 hnp hmk
 have hnp : Bd.np = 0 := hnp
 refine Aa fun N1 h1 => ?_
 refine Ad ?_
 try refine Ac ?_
 refine Ae ?_
 refine Ab ?_
 refine h1 _ ?_; clear h1
 refine Aa fun N2 h2 => ?_
 refine Aa fun N3 h3 => ?_
 refine Ad ?_
 try refine Ac ?_
 refine Ae ?_
 refine AZ ?_
 iterate 2 refine Al ?_
 refine Ab ?_
 refine h3 _ ?_; clear h3
 refine Ai (fun hb4 => ?_) (fun hb4 => ?_)
 ·first | omega | exact absurd trivial hb4 | contradiction | (simp_all; done)
 refine Am ?_
 try simp only [Af]
 refine h2 _ ?_; clear h2
 refine Aa fun N5 h5 => ?_
 refine Ad ?_
 try refine Ac ?_
 refine Ae ?_
 refine V1 (by rfl) (Nt (by simp only [wB, eq_self, Nat.reduceEqDiff, reduceIte, DX, Cj, or_self, B9, KV, hT, C7, wL, Int.toNat_natCast, Int.reduceToNat, Nat.reduceAdd, Nat.reduceMul, Nat.reduceSub, Nat.reduceLeDiff, hx]; rfl) (by simp only [Ei, Ej, AM, AC, AL, eq_self, Nat.reduceEqDiff, reduceIte, and_true, true_and, A9, List.map_cons, List.map_nil]) (by exact A3) (by first | rfl | (simp only [wB, eq_self, Nat.reduceEqDiff, reduceIte, wG, Ay, Nat.reduceAdd, Nat.reduceSub, Nat.reduceLT, Nat.reduceLeDiff, Bc, List.cons_append, List.nil_append, List.mem_cons, List.not_mem_nil, or_false, false_or, wL, Int.toNat_natCast, Int.reduceToNat, Nat.reduceAdd, Nat.reduceMul, Nat.reduceSub, Nat.reduceLeDiff, hx]; rfl)) (by rfl) (by rfl) (by first | exact Nat.le_refl _ | (rw [Be]; exact Nat.le_refl _) | exact A3) ⟨fun h => Bool.noConfusion (show false = true from h), ?_⟩)
 try simp only [wB, eq_self, Nat.reduceEqDiff, reduceIte, wG, Ay, Nat.reduceAdd, Nat.reduceSub, Nat.reduceLT, Nat.reduceLeDiff, Bc, List.cons_append, List.nil_append, List.mem_cons, List.not_mem_nil, or_false, false_or, wL, Int.toNat_natCast, Int.reduceToNat, Nat.reduceAdd, Nat.reduceMul, Nat.reduceSub, Nat.reduceLeDiff, hx, List.take_length]
 refine BL ?_
 refine EX ?_
 refine Ae ?_
 refine Ab ?_
 refine h5 _ ?_; clear h5
 refine An ?_
 try simp only [Af]
 refine Aj ?_
 refine ⟨[some 1], by rfl, ?_, ?_⟩
 refine Aj ?_
 exact As
 refine Aj ?_
 exact As
 cases hg

def Wi : Bn Tryz.prog := Sf.add 67 (Spec.fresh GT) Rk (by kernel_rfl)
end Go.Proofs.YtmbjnkgpcbpclaaGreat
