/- Walks, printed by wip/gen/walk.py. -/
import Derived.Test.YtcjipciiljjfhaaDoorT36
import Derived.Test.YtcjipciiljjfhaaDoorV5
set_option linter.all false
set_option maxRecDepth 100000
set_option maxHeartbeats 4000000
namespace Go.Proofs.YtcjipciiljjfhaaDoor
open Go Go.Vc Go.RowKit
theorem names60 {l : List Rf} {i : Nat} (h : ∀ j, j < i → rfC l j = 0) : ∀ r ∈ l.take i, r.nm.length ≤ 60 := fun r hr => by
  obtain ⟨j, hj⟩ := List.getElem?_of_mem hr
  rw [List.getElem?_take] at hj
  split at hj
  · rename_i hlt; exact name_len (rfC_name hj (h j hlt))
  · cases hj
theorem any_at {l : List Rf} {i j : Nat} {x : Rf} {P : Rf → Bool} (hx : l[j]? = some x) (hj : j < i) (hp : P x = true) : (l.take i).any P = true := by
  rw [List.any_eq_true]
  exact ⟨x, List.mem_of_getElem? (i := j) (by rw [List.getElem?_take, if_pos hj]; exact hx), hp⟩
theorem any_no {l : List Rf} {i j : Nat} {P : Rf → Bool} (h : ∀ y ∈ l.take j, P y = false) (hij : i ≤ j) : (l.take i).any P = false := by
  rw [List.any_eq_false]
  intro x hx
  have : x ∈ l.take j := by
    obtain ⟨k, hk⟩ := List.getElem?_of_mem hx
    rw [List.getElem?_take] at hk
    split at hk
    · exact List.mem_of_getElem? (i := k) (by rw [List.getElem?_take, if_pos (by omega)]; exact hk)
    · cases hk
  rw [h x this]; simp
/-- A part, byte by byte. -/
def bOk (x : List UInt8) (k : Nat) : Bool := okB (x.getD k 0) && !(decide (0 < k) && decide ((x.getD k 0).toNat = 46) && decide ((x.getD (k - 1) 0).toNat = 46))
theorem cp_no {x : List UInt8} {k : Nat} (hk : k < x.length) (h : bOk x k = false) : cpOk x = false := by
  obtain ⟨b, hb⟩ : ∃ b, x[k]? = some b := ⟨_, List.getElem?_eq_getElem hk⟩
  unfold bOk at h
  rw [getD_at hb, Bool.and_eq_false_iff] at h
  rcases h with h | h
  · have : x.all okB = false := by rw [List.all_eq_false]; exact ⟨b, List.mem_of_getElem? hb, by simp [h]⟩
    unfold cpOk; rw [this]; simp
  · simp only [Bool.not_eq_false', Bool.and_eq_true, decide_eq_true_eq] at h
    obtain ⟨⟨h0, h1⟩, h2⟩ := h
    obtain ⟨c, hc⟩ : ∃ c, x[k - 1]? = some c := ⟨_, List.getElem?_eq_getElem (by omega)⟩
    rw [getD_at hc] at h2
    have e1 : b = 46 := UInt8.toNat_inj.1 h1
    have e2 : c = 46 := UInt8.toNat_inj.1 h2
    have : dots x = true := (dots_iff x).2 ⟨k - 1, by rw [hc, e2], by rw [show k - 1 + 1 = k by omega, hb, e1]⟩
    unfold cpOk; rw [this]; simp
theorem cp_yes {x : List UInt8} (h : ∀ j, j < x.length → bOk x j = true) : dots x = false ∧ x.all okB = true := by
  constructor
  · rw [← Bool.not_eq_true]
    intro hd
    obtain ⟨j, h1, h2⟩ := (dots_iff x).1 hd
    have := h (j + 1) (List.getElem?_eq_some_iff.1 h2).1
    unfold bOk at this
    rw [getD_at h2, show j + 1 - 1 = j by omega, getD_at h1] at this
    simp at this
  · rw [List.all_eq_true]
    intro b hb
    obtain ⟨j, hj⟩ := List.getElem?_of_mem hb
    have := h j (List.getElem?_eq_some_iff.1 hj).1
    unfold bOk at this
    rw [getD_at hj, Bool.and_eq_true] at this
    exact this.1
theorem bOk_succ {x : List UInt8} {k : Nat} (h : ∀ j, j < k → bOk x j = true) (hk : bOk x k = true) : ∀ j, j < k + 1 → bOk x j = true := fun j hj => by
  rcases Nat.lt_or_ge j k with h' | h'
  · exact h j h'
  · obtain rfl : j = k := by omega
    exact hk
theorem lock_iff (x : List UInt8) : lockS.isSuffixOf x = (decide (5 ≤ x.length) && decide (x.drop (x.length - 5) = lockS)) := by
  rw [Bool.eq_iff_iff, Bool.and_eq_true, decide_eq_true_eq, decide_eq_true_eq, List.isSuffixOf_iff_suffix]
  constructor
  · rintro ⟨t, rfl⟩
    refine ⟨by simp [lockS], ?_⟩
    rw [List.length_append, show lockS.length = 5 from rfl, Nat.add_sub_cancel, List.drop_left' rfl]
  · rintro ⟨h1, h2⟩
    exact ⟨x.take (x.length - 5), by rw [← h2, List.take_append_drop]⟩
theorem cp_cases2 (x : List UInt8) : (x = [] ∧ cpOk x = false) ∨ (∃ a, x ≠ [] ∧ x[0]? = some a ∧ ((a.toNat = 46 ∧ cpOk x = false) ∨ (a.toNat ≠ 46 ∧
    ((5 ≤ x.length ∧ x.drop (x.length - 5) = lockS ∧ cpOk x = false) ∨ (5 ≤ x.length ∧ x.drop (x.length - 5) ≠ lockS ∧ cpOk x = (!dots x && x.all okB)) ∨ (x.length < 5 ∧ cpOk x = (!dots x && x.all okB)))))) := by
  cases x with
  | nil => exact .inl ⟨rfl, rfl⟩
  | cons a t =>
    refine .inr ⟨a, by simp, rfl, ?_⟩
    by_cases ha : a.toNat = 46
    · have ha' : a = 46 := UInt8.toNat_inj.1 ha
      exact .inl ⟨ha, by unfold cpOk; simp [ha']⟩
    · have ha' : a ≠ 46 := fun e => ha (by rw [e]; rfl)
      refine .inr ⟨ha, ?_⟩
      by_cases h5 : 5 ≤ (a :: t).length
      · by_cases hl : (a :: t).drop ((a :: t).length - 5) = lockS
        · refine .inl ⟨h5, hl, ?_⟩
          unfold cpOk; rw [lock_iff, decide_eq_true h5, decide_eq_true hl]; simp
        · refine .inr (.inl ⟨h5, hl, ?_⟩)
          unfold cpOk; rw [lock_iff, decide_eq_true h5, decide_eq_false hl]; simp [ha']
      · refine .inr (.inr ⟨by omega, ?_⟩)
        unfold cpOk; rw [lock_iff, decide_eq_false h5]; simp [ha']
theorem name_all {s : List UInt8} (h : s.length ≤ 60) (ha : ∀ x ∈ cps s, cpOk x = true) : nameB s = true := by
  unfold nameB; rw [decide_eq_true h, List.all_eq_true.2 ha]; rfl
end Go.Proofs.YtcjipciiljjfhaaDoor
