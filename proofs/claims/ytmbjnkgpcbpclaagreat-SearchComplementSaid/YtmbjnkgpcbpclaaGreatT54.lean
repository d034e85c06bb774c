/- Walks, printed by wip/gen/walk.py. -/
import Derived.Test.YtmbjnkgpcbpclaaGreatT53
import Derived.Test.YtmbjnkgpcbpclaaGreatV5
set_option linter.all false
set_option maxRecDepth 100000
set_option maxHeartbeats 4000000
namespace Go.Proofs.YtmbjnkgpcbpclaaGreat
open Go Go.Vc Go.RowKit
def nK (out : List Nat) : Nat → Nat
  | 0 => 1
  | k + 1 => nK out k + out.getD (out.length - nK out k) 0
theorem NW (out : List Nat) : ∀ k, 1 ≤ nK out k
  | 0 => Nat.le_refl _
  | k + 1 => Nat.le_trans (NW out k) (Nat.le_add_right _ _)
theorem T4 (out : List Nat) {a : Nat} (h : a ≤ 2) : MP out a = nK out a := by
  match a, h with
  | 0, _ => rfl
  | 1, _ => rfl
  | 2, _ => rfl
def QN (az : List Nat) : Nat → List Nat
  | 0 => []
  | i + 1 => QN az i ++ [MP (QN az i) (az.getD i 0)]
theorem Po (az : List Nat) : ∀ i, (QN az i).length = i
  | 0 => rfl
  | i + 1 => by simp [QN, Po az i]
def Ym (az : List Nat) (i : Nat) : Prop := ∀ j, j < i → Rg (QN az j) (az.getD j 0) = false
theorem Pp {out : List Nat} {a : Nat} (h : Rg out a = false) : (1 ≤ a → 1 ≤ out.length) ∧ (2 ≤ a → 1 + out.getD (out.length - 1) 0 ≤ out.length) := by
  unfold Rg at h
  rw [Bool.or_eq_false_iff, decide_eq_false_iff_not, decide_eq_false_iff_not] at h
  exact ⟨fun h1 => by have := h.1; omega, fun h2 => by have := h.2; omega⟩
theorem V5 {out : List Nat} (ho : ∀ p, p < out.length → out.getD p 0 ≤ p + 1) {k : Nat} (h : nK out k ≤ out.length) : nK out (k + 1) ≤ out.length + 1 := by
  have h1 := NW out k
  have := ho (out.length - nK out k) (by omega)
  show nK out k + out.getD (out.length - nK out k) 0 ≤ _
  omega
theorem T1 {az : List Nat} (h2 : ∀ a ∈ az, a ≤ 2) : ∀ {i : Nat}, Ym az i → ∀ p, p < i → (QN az i).getD p 0 ≤ p + 1
  | 0, _, p, hp => by omega
  | i + 1, h, p, hp => by
    have ih := T1 h2 (i := i) fun j hj => h j (by omega)
    have hl := Po az i
    show (QN az i ++ [_]).getD p 0 ≤ p + 1
    rw [List.getD_eq_getElem?_getD]
    by_cases hpi : p < i
    · rw [List.getElem?_append_left (by omega)]
      have := ih p hpi
      rwa [List.getD_eq_getElem?_getD] at this
    · obtain rfl : p = i := by omega
      rw [List.getElem?_append_right (by omega), hl, Nat.sub_self]
      have ha : az.getD p 0 ≤ 2 := by
        rw [List.getD_eq_getElem?_getD]
        cases hg : az[p]? with
        | none => simp
        | some a => exact h2 a (List.mem_of_getElem? hg)
      show MP (QN az p) (az.getD p 0) ≤ p + 1
      rw [T4 _ ha]
      have hb := Pp (h p (by omega))
      have ho : ∀ r, r < (QN az p).length → (QN az p).getD r 0 ≤ r + 1 := fun r hr => ih r (by omega)
      generalize az.getD p 0 = a at *
      match a, ha with
      | 0, _ => show 1 ≤ p + 1; omega
      | 1, _ => have := V5 ho (k := 0) (hb.1 (by omega)); rwa [hl] at this
      | 2, _ => have := V5 ho (k := 1) (hb.2 (by omega)); rwa [hl] at this
end Go.Proofs.YtmbjnkgpcbpclaaGreat
