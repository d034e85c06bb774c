/- Walks, printed by wip/gen/walk.py. -/
import Derived.Test.YtmbjnkgpcbpclaaGreatT54
import Derived.Test.YtmbjnkgpcbpclaaGreatV5
set_option linter.all false
set_option maxRecDepth 100000
set_option maxHeartbeats 4000000
namespace Go.Proofs.YtmbjnkgpcbpclaaGreat
open Go Go.Vc Go.RowKit
def Ug (q : List Nd) (i : Nat) : List Nat := (q.take i).map fun n => ar n.kd
theorem Uh {q : List Nd} {i : Nat} : ∀ a ∈ Ug q i, a ≤ 2 := by
  intro a ha
  obtain ⟨n, _, rfl⟩ := List.mem_map.1 ha
  rcases JT n.kd with ⟨_, h⟩ | ⟨_, _, h⟩ | ⟨_, h⟩ <;> omega
theorem Rt {q : List Nd} {i j : Nat} (hi : i ≤ q.length) (h : j < i) : (Ug q i).getD j 0 = ar (q.getD j default).kd := by
  obtain ⟨x, hx⟩ : ∃ x, q[j]? = some x := ⟨_, List.getElem?_eq_getElem (by omega)⟩
  unfold Ug
  rw [List.getD_eq_getElem?_getD, List.getD_eq_getElem?_getD, List.getElem?_map, List.getElem?_take, if_pos h, hx]; rfl
theorem T2 {q : List Nd} {i : Nat} (hi : i ≤ q.length) : ∀ {j : Nat}, j ≤ i → QN (Ug q i) j = Gh q j
  | 0, _ => rfl
  | j + 1, h => by
    show QN (Ug q i) j ++ [MP (QN (Ug q i) j) ((Ug q i).getD j 0)] = Gh q j ++ [MP (Gh q j) (ar (q.getD j default).kd)]
    rw [T2 hi (by omega), Rt hi (by omega)]
theorem Tj {q : List Nd} {i : Nat} (h : MF q i = 0) : Rg (Gh q i) (ar (q.getD i default).kd) = false := by
  unfold MF at h
  split at h
  · cases h
  · split at h
    · cases h
    · split at h
      · cases h
      · rename_i h3; simpa using h3
theorem Yc {q : List Nd} {i m : Nat} (hm : m ≤ i) (hi : i ≤ q.length) (h : ∀ j, j < m → MF q j = 0) : Ym (Ug q i) m := by
  intro j hj
  rw [T2 hi (by omega), Rt hi (by omega)]
  exact Tj (h j hj)
theorem W2 {q : List Nd} {i : Nat} (hi : i ≤ q.length) (h : ∀ j, j < i → MF q j = 0) : ∀ p, p < i → (Gh q i).getD p 0 ≤ p + 1 := by
  intro p hp
  have := T1 (az := Ug q i) Uh (Yc (Nat.le_refl _) hi h) p hp
  rwa [T2 hi (Nat.le_refl _)] at this
theorem Va {q : List Nd} {i p : Nat} (h : p < i) : (Gh q (i + 1)).getD p 0 = (Gh q i).getD p 0 := by
  show (Gh q i ++ [_]).getD p 0 = (Gh q i).getD p 0
  simp only [List.getD_eq_getElem?_getD]
  rw [List.getElem?_append_left (by rw [Fq]; exact h)]
end Go.Proofs.YtmbjnkgpcbpclaaGreat
