/- Walks, printed by wip/gen/walk.py. -/
import Derived.Test.YtmbjnkgpcbpclaaGreatT53
import Derived.Test.YtmbjnkgpcbpclaaGreatV5
set_option linter.all false
set_option maxRecDepth 100000
set_option maxHeartbeats 4000000
namespace Go.Proofs.YtmbjnkgpcbpclaaGreat
open Go Go.Vc Go.RowKit
def nK (out : List Nat) : Nat → Nat
  | 0 => 1
  | k + 1 => nK out k + out.getD (out.length - nK out k) 0
theorem nK_pos (out : List Nat) : ∀ k, 1 ≤ nK out k
  | 0 => Nat.le_refl _
  | k + 1 => Nat.le_trans (nK_pos out k) (Nat.le_add_right _ _)
theorem szN_is (out : List Nat) {a : Nat} (h : a ≤ 2) : szN out a = nK out a := by
  match a, h with
  | 0, _ => rfl
  | 1, _ => rfl
  | 2, _ => rfl
def szA (az : List Nat) : Nat → List Nat
  | 0 => []
  | i + 1 => szA az i ++ [szN (szA az i) (az.getD i 0)]
theorem szA_len (az : List Nat) : ∀ i, (szA az i).length = i
  | 0 => rfl
  | i + 1 => by simp [szA, szA_len az i]
def okA (az : List Nat) (i : Nat) : Prop := ∀ j, j < i → szB (szA az j) (az.getD j 0) = false
theorem szB_get {out : List Nat} {a : Nat} (h : szB out a = false) : (1 ≤ a → 1 ≤ out.length) ∧ (2 ≤ a → 1 + out.getD (out.length - 1) 0 ≤ out.length) := by
  unfold szB at h
  rw [Bool.or_eq_false_iff, decide_eq_false_iff_not, decide_eq_false_iff_not] at h
  exact ⟨fun h1 => by have := h.1; omega, fun h2 => by have := h.2; omega⟩
theorem nK_le {out : List Nat} (ho : ∀ p, p < out.length → out.getD p 0 ≤ p + 1) {k : Nat} (h : nK out k ≤ out.length) : nK out (k + 1) ≤ out.length + 1 := by
  have h1 := nK_pos out k
  have := ho (out.length - nK out k) (by omega)
  show nK out k + out.getD (out.length - nK out k) 0 ≤ _
  omega
theorem szA_le {az : List Nat} (h2 : ∀ a ∈ az, a ≤ 2) : ∀ {i : Nat}, okA az i → ∀ p, p < i → (szA az i).getD p 0 ≤ p + 1
  | 0, _, p, hp => by omega
  | i + 1, h, p, hp => by
    have ih := szA_le h2 (i := i) fun j hj => h j (by omega)
    have hl := szA_len az i
    show (szA az i ++ [_]).getD p 0 ≤ p + 1
    rw [List.getD_eq_getElem?_getD]
    by_cases hpi : p < i
    · rw [List.getElem?_append_left (by omega)]
      have := ih p hpi
      rwa [List.getD_eq_getElem?_getD] at this
    · obtain rfl : p = i := by omega
      rw [List.getElem?_append_right (by omega), hl, Nat.sub_self]
      have ha : az.getD p 0 ≤ 2 := by
        rw [List.getD_eq_getElem?_getD]
        cases hg : az[p]? with
        | none => simp
        | some a => exact h2 a (List.mem_of_getElem? hg)
      show szN (szA az p) (az.getD p 0) ≤ p + 1
      rw [szN_is _ ha]
      have hb := szB_get (h p (by omega))
      have ho : ∀ r, r < (szA az p).length → (szA az p).getD r 0 ≤ r + 1 := fun r hr => ih r (by omega)
      generalize az.getD p 0 = a at *
      match a, ha with
      | 0, _ => show 1 ≤ p + 1; omega
      | 1, _ => have := nK_le ho (k := 0) (hb.1 (by omega)); rwa [hl] at this
      | 2, _ => have := nK_le ho (k := 1) (hb.2 (by omega)); rwa [hl] at this
def arQ (q : List Nd) (i : Nat) : List Nat := (q.take i).map fun n => ar n.kd
theorem arQ_two {q : List Nd} {i : Nat} : ∀ a ∈ arQ q i, a ≤ 2 := by
  intro a ha
  obtain ⟨n, _, rfl⟩ := List.mem_map.1 ha
  rcases ar_or n.kd with ⟨_, h⟩ | ⟨_, _, h⟩ | ⟨_, h⟩ <;> omega
theorem arQ_at {q : List Nd} {i j : Nat} (hi : i ≤ q.length) (h : j < i) : (arQ q i).getD j 0 = ar (q.getD j default).kd := by
  obtain ⟨x, hx⟩ : ∃ x, q[j]? = some x := ⟨_, List.getElem?_eq_getElem (by omega)⟩
  unfold arQ
  rw [List.getD_eq_getElem?_getD, List.getD_eq_getElem?_getD, List.getElem?_map, List.getElem?_take, if_pos h, hx]; rfl
theorem szA_q {q : List Nd} {i : Nat} (hi : i ≤ q.length) : ∀ {j : Nat}, j ≤ i → szA (arQ q i) j = szl q j
  | 0, _ => rfl
  | j + 1, h => by
    show szA (arQ q i) j ++ [szN (szA (arQ q i) j) ((arQ q i).getD j 0)] = szl q j ++ [szN (szl q j) (ar (q.getD j default).kd)]
    rw [szA_q hi (by omega), arQ_at hi (by omega)]
theorem ref_sz {q : List Nd} {i : Nat} (h : refC q i = 0) : szB (szl q i) (ar (q.getD i default).kd) = false := by
  unfold refC at h
  split at h
  · cases h
  · split at h
    · cases h
    · split at h
      · cases h
      · rename_i h3; simpa using h3
theorem ok_q {q : List Nd} {i m : Nat} (hm : m ≤ i) (hi : i ≤ q.length) (h : ∀ j, j < m → refC q j = 0) : okA (arQ q i) m := by
  intro j hj
  rw [szA_q hi (by omega), arQ_at hi (by omega)]
  exact ref_sz (h j hj)
theorem szl_le {q : List Nd} {i : Nat} (hi : i ≤ q.length) (h : ∀ j, j < i → refC q j = 0) : ∀ p, p < i → (szl q i).getD p 0 ≤ p + 1 := by
  intro p hp
  have := szA_le (az := arQ q i) arQ_two (ok_q (Nat.le_refl _) hi h) p hp
  rwa [szA_q hi (Nat.le_refl _)] at this
theorem szl_get {q : List Nd} {i p : Nat} (h : p < i) : (szl q (i + 1)).getD p 0 = (szl q i).getD p 0 := by
  show (szl q i ++ [_]).getD p 0 = (szl q i).getD p 0
  simp only [List.getD_eq_getElem?_getD]
  rw [List.getElem?_append_left (by rw [szl_len]; exact h)]
end Go.Proofs.YtmbjnkgpcbpclaaGreat
