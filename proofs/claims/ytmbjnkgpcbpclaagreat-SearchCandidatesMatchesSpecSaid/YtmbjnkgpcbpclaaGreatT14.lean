/- Walks, printed by wip/gen/walk.py. -/
import Derived.Test.YtmbjnkgpcbpclaaGreatT10
import Derived.Test.YtmbjnkgpcbpclaaGreatV5
set_option linter.all false
set_option maxRecDepth 100000
set_option maxHeartbeats 4000000
namespace Go.Proofs.YtmbjnkgpcbpclaaGreat
open Go Go.Vc Go.RowKit
theorem O1 : A1 Tryz.prog 51 (Spec.pure CM) := by
 refine Az (NS.at_ 20) Tryz.func51 rfl rfl rfl ?_
 intro args p r hg hp
 unfold CM at hg
 split at hg
 rename_i xs
 simp only [Option.some.injEq, Prod.mk.injEq] at hg
 obtain ⟨rfl, rfl⟩ := hg
 obtain ⟨he, hl⟩ := hp
 generalize dI xs = l at *
 subst he
 have hT : (NS).X = T := rfl
 have hx0 := And.intro @Ci (And.intro @Ch @Tryz.results51)
 have hx := hx0
 refine ⟨by rfl, ?_⟩
 intro F W0 hnp hmk
 refine Aa fun N1 h1 => ?_
 refine Ad ?_
 try refine Ac ?_
 refine Ae ?_
 refine Ab ?_
 refine h1 _ ?_; clear h1
 refine Aa fun N2 h2 => ?_
 refine Aa fun N3 h3 => ?_
 refine Ad ?_
 try refine Ac ?_
 refine Ae ?_
 refine Ab ?_
 refine h3 _ ?_; clear h3
 refine Au ?_
 refine A0 (σ := Nat) (fun s => (fun i => 1 ≤ i ∧ ∀ j, j < i → 0 < j → l.getD (j - 1) 0 < l.getD j 0) s)
  (fun s => (fun i => [(0, .d (.sl (rows eI l))), (3, .d (.int .i64 (i : Nat)))]) s)
  (fun s => (fun i => []) s) (fun s => (fun i => l.length - i) s) hnp 1 ?_ [] ?_ ?_
 dsimp only
 exact ⟨by omega, fun j hj h0 => by omega⟩
 dsimp only
 refine ⟨by rfl, ?_, ?_⟩
 refine Aj ?_
 exact As
 refine Aj ?_
 exact As
 rintro i hinv N4 h4
 dsimp only at hinv ⊢
 obtain ⟨i1, i2⟩ := hinv
 refine Aa fun N5 h5 => ?_
 refine Aa fun N6 h6 => ?_
 refine Ad ?_
 try refine Ac ?_
 iterate 2 refine Ae ?_
 refine AZ ?_
 refine Al ?_
 refine Ab ?_
 refine h6 _ ?_; clear h6
 refine Ai (fun hb7 => ?_) (fun hb7 => ?_)
 obtain ⟨x, hxe⟩ := BG (l := l) (i := i) (by omega)
 obtain ⟨y, hye⟩ := BG (l := l) (i := i - 1) (by omega)
 have hpm : ((i : Int) - 1).toNat = i - 1 := by omega
 have hxd : l.getD i 0 = x := B5 hxe
 have hyd : l.getD (i - 1) 0 = y := B5 hye
 refine Am ?_
 try simp only [Af]
 refine h5 _ ?_; clear h5
 refine Aa fun N8 h8 => ?_
 refine Au ?_
 refine Aa fun N9 h9 => ?_
 have hx := And.intro @hxe (And.intro @hye (And.intro @hpm (And.intro @eI.eq_1 hx0)))
 refine Ad ?_
 try refine Ac ?_
 iterate 2 refine Ae ?_
 refine At ?_
 refine Ap ?_
 iterate 2 refine Ae ?_
 refine Al ?_
 refine At ?_
 refine Ap ?_
 refine Al ?_
 refine Ab ?_
 have hx := hx0
 refine h9 _ ?_; clear h9
 refine Ai (fun hb10 => ?_) (fun hb10 => ?_)
 refine Aa fun N11 h11 => ?_
 refine Ad ?_
 try refine Ac ?_
 refine Ae ?_
 refine Ab ?_
 refine h11 _ ?_; clear h11
 refine An ?_
 try simp only [Af]
 have hr : Dv l = false := L0 (i := i) (by omega) (by omega) (by rw [hxd, hyd]; omega)
 rw [hr]
 refine Ax ?_
 exact As
 refine Am ?_
 try simp only [Af]
 refine h8 _ ?_; clear h8
 refine Ad ?_
 try refine Ac ?_
 refine Ae ?_
 refine Al ?_
 refine Ae ?_
 refine Ab ?_
 refine h4 _ ⟨i + 1, ?_, ?_, [], ?_⟩
 dsimp only
 exact ⟨by omega, Jz i2 (fun h0 => by rw [hxd, hyd]; omega)⟩
 dsimp only
 omega
 dsimp only
 refine ⟨by rfl, ?_, ?_⟩
 refine Aj ?_
 exact As
 refine Aj ?_
 exact As
 refine AF ?_
 simp only [Af, Nat.reduceEqDiff, reduceIte, eq_self]
 refine h2 _ ?_; clear h2
 refine Aa fun N12 h12 => ?_
 refine Ad ?_
 try refine Ac ?_
 refine Ae ?_
 refine Ab ?_
 refine h12 _ ?_; clear h12
 refine An ?_
 try simp only [Af]
 have hr : Dv l = true := Ho (fun j hj h0 => i2 j (by omega) h0)
 rw [hr]
 refine Ax ?_
 exact As
 cases hg

def NN : Bn Tryz.prog := NS.add 51 (Spec.pure CM) O1 (by kernel_rfl)

def DS (s p : Bs) : Bool := (List.range (s.length + 1 - p.length)).any fun i => decide ((s.drop i).take p.length = p)
def Jo : List AV → Option (Prop × AV)
  | [.d (.str s), .d (.str p)] => some (s.length ≤ 1000000000 ∧ p.length ≤ 1000000000, .d (.bool (DS s p)))
  | _ => none
theorem Fv {s p : Bs} {i : Nat} (hi : i < s.length + 1 - p.length) (h : (s.drop i).take p.length = p) : DS s p = true := List.any_eq_true.2 ⟨i, List.mem_range.2 hi, decide_eq_true h⟩
theorem HS {s p : Bs} (h : ∀ j, j < s.length + 1 - p.length → (s.drop j).take p.length ≠ p) : DS s p = false := by
  unfold DS
  rw [Bool.eq_false_iff]; intro ha
  obtain ⟨i, hi, he⟩ := List.any_eq_true.1 ha
  exact h i (List.mem_range.1 hi) (of_decide_eq_true he)

theorem Oo : A1 Tryz.prog 36 (Spec.pure Jo) := by
 refine Az (NN.at_ 24) Tryz.func36 rfl rfl rfl ?_
 intro args p r hg hp
 unfold Jo at hg
 split at hg
 rename_i u p
 simp only [Option.some.injEq, Prod.mk.injEq] at hg
 obtain ⟨rfl, rfl⟩ := hg
 obtain ⟨hl1, hl2⟩ := hp
 have hT : (NN).X = T := rfl
 have hx0 := @Tryz.results36
 have hx := hx0
 refine ⟨by rfl, ?_⟩
 intro F W0 hnp hmk
 refine Aa fun N1 h1 => ?_
 refine Ad ?_
 try refine Ac ?_
 refine Ae ?_
 refine Ab ?_
 refine h1 _ ?_; clear h1
 refine Aa fun N2 h2 => ?_
 refine Aa fun N3 h3 => ?_
 refine Ad ?_
 try refine Ac ?_
 refine Ae ?_
 refine Ab ?_
 refine h3 _ ?_; clear h3
 refine Au ?_
 refine A0 (σ := Nat) (fun s => (fun i => i ≤ u.length + 1 - p.length ∧ ∀ j, j < i → (u.drop j).take p.length ≠ p) s)
  (fun s => (fun i => [(0, .d (.str u)), (1, .d (.str p)), (5, .d (.int .i64 (i : Nat)))]) s)
  (fun s => (fun i => []) s) (fun s => (fun i => u.length + 1 - i) s) hnp 0 ?_ [] ?_ ?_
 dsimp only
 exact ⟨by omega, fun j hj => by omega⟩
 dsimp only
 refine ⟨by rfl, ?_, ?_⟩
 refine Aj ?_
 exact As
 refine Aj ?_
 exact As
 rintro i hinv N4 h4
 dsimp only at hinv ⊢
 obtain ⟨i1, i2⟩ := hinv
 refine Aa fun N5 h5 => ?_
 refine Aa fun N6 h6 => ?_
 refine Ad ?_
 try refine Ac ?_
 iterate 2 refine Ae ?_
 refine AZ ?_
 refine Al ?_
 refine Ae ?_
 refine AZ ?_
 refine Al ?_
 refine Ab ?_
 refine h6 _ ?_; clear h6
 refine Ai (fun hb7 => ?_) (fun hb7 => ?_)
 have hgr : List.take (((i : Int) + (p.length : Int)).toNat - i) (u.drop i) = (u.drop i).take p.length := by congr 1; omega
 refine Am ?_
 try simp only [Af]
 refine h5 _ ?_; clear h5
 refine Aa fun N8 h8 => ?_
 refine Au ?_
 refine Aa fun N9 h9 => ?_
 refine Ad ?_
 try refine Ac ?_
 iterate 4 refine Ae ?_
 refine AZ ?_
 refine Al ?_
 refine DL ?_
 refine Ae ?_
 refine Al ?_
 refine Ab ?_
 try simp only [hgr]
 refine h9 _ ?_; clear h9
 refine Ai (fun hb10 => ?_) (fun hb10 => ?_)
 have he : (u.drop i).take p.length = p := by have := hb10; first | (rw [hgr] at this; exact this) | exact this
 refine Aa fun N11 h11 => ?_
 refine Ad ?_
 try refine Ac ?_
 refine Ae ?_
 refine Ab ?_
 refine h11 _ ?_; clear h11
 refine An ?_
 try simp only [Af]
 have hr := Fv (by omega) he
 rw [hr]
 refine Ax ?_
 exact As
 have he : (u.drop i).take p.length ≠ p := by have := hb10; first | (rw [hgr] at this; exact this) | exact this
 refine Am ?_
 try simp only [Af]
 refine h8 _ ?_; clear h8
 refine Ad ?_
 try refine Ac ?_
 refine Ae ?_
 refine Al ?_
 refine Ae ?_
 refine Ab ?_
 refine h4 _ ⟨i + 1, ?_, ?_, [], ?_⟩
 dsimp only
 refine ⟨by omega, fun j hj => ?_⟩
 rcases Nat.lt_or_ge j i with h | h
 exact i2 j h
 obtain rfl : j = i := by omega
 exact he
 dsimp only
 omega
 dsimp only
 refine ⟨by rfl, ?_, ?_⟩
 refine Aj ?_
 exact As
 refine Aj ?_
 exact As
 refine AF ?_
 simp only [Af, Nat.reduceEqDiff, reduceIte, eq_self]
 refine h2 _ ?_; clear h2
 refine Aa fun N12 h12 => ?_
 refine Ad ?_
 try refine Ac ?_
 refine Ae ?_
 refine Ab ?_
 refine h12 _ ?_; clear h12
 refine An ?_
 try simp only [Af]
 have hr : DS u p = false := HS (fun j hj => i2 j (by have := hb7; omega))
 rw [hr]
 refine Ax ?_
 exact As
 cases hg

def NL : Bn Tryz.prog := NN.add 36 (Spec.pure Jo) Oo (by kernel_rfl)
end Go.Proofs.YtmbjnkgpcbpclaaGreat
