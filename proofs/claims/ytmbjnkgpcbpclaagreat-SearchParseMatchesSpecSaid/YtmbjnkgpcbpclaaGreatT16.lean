/- Walks, printed by wip/gen/walk.py. -/
import Derived.Test.YtmbjnkgpcbpclaaGreatT9
import Derived.Test.YtmbjnkgpcbpclaaGreatV5
set_option linter.all false
set_option maxRecDepth 100000
set_option maxHeartbeats 4000000
namespace Go.Proofs.YtmbjnkgpcbpclaaGreat
open Go Go.Vc Go.RowKit
def hasSub (s p : Bs) : Bool := (List.range (s.length + 1 - p.length)).any fun i => decide ((s.drop i).take p.length = p)
theorem hasSub_yes {s p : Bs} {i : Nat} (hi : i < s.length + 1 - p.length) (h : (s.drop i).take p.length = p) : hasSub s p = true := List.any_eq_true.2 ⟨i, List.mem_range.2 hi, decide_eq_true h⟩
theorem hasSub_no {s p : Bs} (h : ∀ j, j < s.length + 1 - p.length → (s.drop j).take p.length ≠ p) : hasSub s p = false := by
  unfold hasSub
  rw [Bool.eq_false_iff]; intro ha
  obtain ⟨i, hi, he⟩ := List.any_eq_true.1 ha
  exact h i (List.mem_range.1 hi) (of_decide_eq_true he)
def neP (P : List Post) : Prop := ∀ p ∈ P, p.2 ≠ []
def g3P (P : List Post) : Prop := ∀ p ∈ P, p.1.length = 3
structure ValP (ts : List Int) (P : List Post) : Prop where
  tlen : ts.length ≤ 20
  trng : ∀ x ∈ ts, 0 ≤ x ∧ x < 20
  tsort : ts.Pairwise (· < ·)
  good : GoodP P
  g3 : g3P P
  ne : neP P
  sub : ∀ p ∈ P, ∀ x ∈ p.2, x ∈ ts
theorem firstF_zero {f : Nat → Int} {g : Nat → Int} : ∀ {n}, (firstF f g n).1 = 0 → ∀ j, j < n → f j = 0
  | 0, _, j, hj => by omega
  | n + 1, h, j, hj => by
    unfold firstF at h
    split at h
    · rename_i h1; exact absurd h h1
    · rename_i h1
      split at h
      · rename_i h2; exact absurd h h2
      · rename_i h2
        by_cases e : j = n
        · subst e; simpa using h2
        · exact firstF_zero (n := n) (by simpa using h1) j (by omega)
def delI (Q : Int → Bool) (l : List Int) : List Int := l.filter fun x => !Q x
structure DelInv (Q : Int → Bool) (l m : List Int) (i j : Nat) : Prop where
  len : m.length = l.length
  le : i < j
  jl : j ≤ l.length
  low : m.take i = delI Q (l.take j)
  high : m.drop j = l.drop j
theorem DelInv.keep {Q : Int → Bool} {l m : List Int} {i j : Nat} {x : Int} (h : DelInv Q l m i j) (hx : l[j]? = some x) (hq : Q x = false) : DelInv Q l (m.set i x) (i + 1) (j + 1) := by
  have hj := (List.getElem?_eq_some_iff.1 hx).1
  have := h.le; have := h.len
  refine ⟨by simp [h.len], by omega, by omega, ?_, ?_⟩
  · rw [List.take_add_one, List.take_set_of_le (Nat.le_refl _), h.low, List.getElem?_set]
    unfold delI
    rw [List.take_add_one, hx, List.filter_append]
    simp [hq, show i < m.length by omega]
  · rw [List.drop_set_of_lt (by omega), ← List.drop_drop, ← List.drop_drop, h.high]
theorem DelInv.skip {Q : Int → Bool} {l m : List Int} {i j : Nat} {x : Int} (h : DelInv Q l m i j) (hx : l[j]? = some x) (hq : Q x = true) : DelInv Q l m i (j + 1) := by
  have hj := (List.getElem?_eq_some_iff.1 hx).1
  have := h.le
  refine ⟨h.len, by omega, by omega, ?_, by rw [← List.drop_drop, ← List.drop_drop, h.high]⟩
  rw [h.low]; unfold delI
  rw [List.take_add_one, hx, List.filter_append]
  simp [hq]
end Go.Proofs.YtmbjnkgpcbpclaaGreat
