/- Walks, printed by wip/gen/walk.py. -/
import Derived.Test.YtmbjnkgpcbpclaaGreatT15
import Derived.Test.YtmbjnkgpcbpclaaGreatV5
set_option linter.all false
set_option maxRecDepth 100000
set_option maxHeartbeats 4000000
namespace Go.Proofs.YtmbjnkgpcbpclaaGreat
open Go Go.Vc Go.RowKit
def delI (Q : Int → Bool) (l : List Int) : List Int := l.filter fun x => !Q x
structure DelInv (Q : Int → Bool) (l m : List Int) (i j : Nat) : Prop where
  len : m.length = l.length
  le : i < j
  jl : j ≤ l.length
  low : m.take i = delI Q (l.take j)
  high : m.drop j = l.drop j
theorem DelInv.keep {Q : Int → Bool} {l m : List Int} {i j : Nat} {x : Int} (h : DelInv Q l m i j) (hx : l[j]? = some x) (hq : Q x = false) : DelInv Q l (m.set i x) (i + 1) (j + 1) := by
  have hj := (List.getElem?_eq_some_iff.1 hx).1
  have := h.le; have := h.len
  refine ⟨by simp [h.len], by omega, by omega, ?_, ?_⟩
  · rw [List.take_add_one, List.take_set_of_le (Nat.le_refl _), h.low, List.getElem?_set]
    unfold delI
    rw [List.take_add_one, hx, List.filter_append]
    simp [hq, show i < m.length by omega]
  · rw [List.drop_set_of_lt (by omega), ← List.drop_drop, ← List.drop_drop, h.high]
theorem DelInv.skip {Q : Int → Bool} {l m : List Int} {i j : Nat} {x : Int} (h : DelInv Q l m i j) (hx : l[j]? = some x) (hq : Q x = true) : DelInv Q l m i (j + 1) := by
  have hj := (List.getElem?_eq_some_iff.1 hx).1
  have := h.le
  refine ⟨h.len, by omega, by omega, ?_, by rw [← List.drop_drop, ← List.drop_drop, h.high]⟩
  rw [h.low]; unfold delI
  rw [List.take_add_one, hx, List.filter_append]
  simp [hq]
end Go.Proofs.YtmbjnkgpcbpclaaGreat
