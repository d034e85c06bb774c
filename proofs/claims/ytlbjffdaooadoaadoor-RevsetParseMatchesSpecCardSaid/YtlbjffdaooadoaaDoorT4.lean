/- Walks, printed by wip/gen/walk.py. -/
import Derived.Test.YtlbjffdaooadoaaDoorT3
import Derived.Test.YtlbjffdaooadoaaDoorV5
set_option linter.all false
set_option maxRecDepth 100000
set_option maxHeartbeats 4000000
namespace Go.Proofs.YtlbjffdaooadoaaDoor
open Go Go.Vc Go.RowKit
def arQ (q : List Nd) (i : Nat) : List Nat := (q.take i).map fun n => ar n.kd
theorem arQ_two {q : List Nd} {i : Nat} : ∀ a ∈ arQ q i, a ≤ 2 := by
  intro a ha
  obtain ⟨n, _, rfl⟩ := List.mem_map.1 ha
  rcases ar_or n.kd with ⟨_, h⟩ | ⟨_, _, h⟩ | ⟨_, h⟩ <;> omega
theorem arQ_at {q : List Nd} {i j : Nat} (hi : i ≤ q.length) (h : j < i) : (arQ q i).getD j 0 = ar (q.getD j default).kd := by
  obtain ⟨x, hx⟩ : ∃ x, q[j]? = some x := ⟨_, List.getElem?_eq_getElem (by omega)⟩
  unfold arQ
  rw [List.getD_eq_getElem?_getD, List.getD_eq_getElem?_getD, List.getElem?_map, List.getElem?_take, if_pos h, hx]; rfl
theorem szA_q {q : List Nd} {i : Nat} (hi : i ≤ q.length) : ∀ {j : Nat}, j ≤ i → szA (arQ q i) j = szl q j
  | 0, _ => rfl
  | j + 1, h => by
    show szA (arQ q i) j ++ [szN (szA (arQ q i) j) ((arQ q i).getD j 0)] = szl q j ++ [szN (szl q j) (ar (q.getD j default).kd)]
    rw [szA_q hi (by omega), arQ_at hi (by omega)]
theorem ref_sz {q : List Nd} {i : Nat} (h : refC q i = 0) : szB (szl q i) (ar (q.getD i default).kd) = false := by
  unfold refC at h
  split at h
  · cases h
  · split at h
    · cases h
    · split at h
      · cases h
      · rename_i h3; simpa using h3
theorem ok_q {q : List Nd} {i m : Nat} (hm : m ≤ i) (hi : i ≤ q.length) (h : ∀ j, j < m → refC q j = 0) : okA (arQ q i) m := by
  intro j hj
  rw [szA_q hi (by omega), arQ_at hi (by omega)]
  exact ref_sz (h j hj)
theorem szl_le {q : List Nd} {i : Nat} (hi : i ≤ q.length) (h : ∀ j, j < i → refC q j = 0) : ∀ p, p < i → (szl q i).getD p 0 ≤ p + 1 := by
  intro p hp
  have := szA_le (az := arQ q i) arQ_two (ok_q (Nat.le_refl _) hi h) p hp
  rwa [szA_q hi (Nat.le_refl _)] at this
theorem szl_get {q : List Nd} {i p : Nat} (h : p < i) : (szl q (i + 1)).getD p 0 = (szl q i).getD p 0 := by
  show (szl q i ++ [_]).getD p 0 = (szl q i).getD p 0
  simp only [List.getD_eq_getElem?_getD]
  rw [List.getElem?_append_left (by rw [szl_len]; exact h)]
end Go.Proofs.YtlbjffdaooadoaaDoor
