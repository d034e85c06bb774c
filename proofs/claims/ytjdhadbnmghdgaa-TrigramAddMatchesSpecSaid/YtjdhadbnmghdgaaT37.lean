/- Walks, printed by wip/gen/walk.py. -/
import Derived.Test.YtjdhadbnmghdgaaT22
import Derived.Test.YtjdhadbnmghdgaaV5
set_option linter.all false
set_option maxRecDepth 100000
set_option maxHeartbeats 4000000
namespace Go.Proofs.Ytjdhadbnmghdgaa
open Go Go.Vc Go.RowKit
theorem dI_nil : dI [] = [] := rfl
theorem dP_nil : dP [] = [] := rfl
theorem dT_nil : dT [] = [] := rfl
theorem small_nil : smallP [] := fun p h => by cases h
/-- Adding keeps an index valid. -/
theorem val_add {l : List Int} {P : List Post} {n : Int} {s : Bs} (h : ValP l P) (h0 : 0 ≤ n) (h1 : n < 20) : ValP (ins l n) (addP P n s) := by
  have hsub : ∀ p ∈ addP P n s, ∀ x ∈ p.2, x ∈ ins l n := fun p hp x hx => by
    rcases (mem_addK h.good).1 (show inP (addK P n s (s.length - 2)) p.1 x from ⟨p.2, hp, hx⟩) with ⟨t, ht, hxt⟩ | ⟨h2, _⟩
    · exact ins_mem.2 (.inr (h.sub _ ht x hxt))
    · exact ins_mem.2 (.inl h2)
  have hr : ∀ x ∈ ins l n, 0 ≤ x ∧ x < 20 := fun x hx => by
    rcases ins_mem.1 hx with rfl | hx
    · exact ⟨h0, h1⟩
    · exact h.trng x hx
  exact ⟨sort_few (ins_sorted h.tsort) hr, hr, ins_sorted h.tsort, addK_good h.good _, addK_g3 h.g3 (Nat.le_refl _), addK_ne h.ne _, hsub⟩
theorem smallP_of {l : List Int} {P : List Post} (h : ValP l P) : smallP P := fun p hp => ⟨by rw [h.g3 p hp]; decide, by have := h.pmax p hp; omega⟩
theorem textsF_or (ts : List Bs) : (textsF ts).1 ≠ 0 ∧ idxT ts = [] ∧ idxP ts = [] ∨ textsF ts = (0, 0) ∧ idxT ts = iota ts.length ∧ idxP ts = idxK ts ts.length ∧ ts.length ≤ 20 ∧ ∀ s ∈ ts, s.length ≤ 400 := by
  by_cases h : (textsF ts).1 = 0
  · right
    unfold idxT idxP
    rw [if_pos h, if_pos h]
    unfold textsF at h ⊢
    split at h
    · cases h
    · rename_i h1
      rw [if_neg h1]
      split at h
      · cases h
      · rename_i h2
        rw [if_neg h2]
        refine ⟨rfl, rfl, rfl, by omega, fun s hs => ?_⟩
        cases hb : badT s with
        | true => exact absurd (List.any_eq_true.2 ⟨s, hs, hb⟩) h2
        | false => have := of_decide_eq_false hb; omega
  · left; unfold idxT idxP; rw [if_neg h, if_neg h]; exact ⟨h, rfl, rfl⟩
theorem candF_or (l : List Int) (P : List Post) (s : Bs) : (valF l P).1 ≠ 0 ∧ candF l P s = valF l P ∧ candR l P s = [] ∨ valF l P = (0, 0) ∧ 400 < s.length ∧ candF l P s = (10, -1) ∧ candR l P s = [] ∨
    valF l P = (0, 0) ∧ ValP l P ∧ s.length ≤ 400 ∧ candF l P s = (0, 0) ∧ candR l P s = candK l P s (s.length - 2) := by
  rcases valF_or l P with hv | hv
  · have hv' : (valF l P).1 = 0 := by rw [hv]
    by_cases hs : 400 < s.length
    · have hc : candF l P s = (10, -1) := by unfold candF; rw [if_neg (by rw [hv']; simp), if_pos hs]
      exact .inr (.inl ⟨hv, hs, hc, by unfold candR; rw [hc]; rfl⟩)
    · have hc : candF l P s = (0, 0) := by unfold candF; rw [if_neg (by rw [hv']; simp), if_neg hs]
      exact .inr (.inr ⟨hv, val_of hv', by omega, hc, by unfold candR; rw [hc]; rfl⟩)
  · have hc : candF l P s = valF l P := by unfold candF; rw [if_pos hv]
    exact .inl ⟨hv, hc, by unfold candR; rw [hc, if_pos hv]⟩
/-- No false negatives. -/
theorem no_false {ts : List Bs} {p s : Bs} {i : Nat} (h : ts[i]? = some s) (hs : hasSub s p = true) : (i : Int) ∈ candK (iota ts.length) (idxK ts ts.length) p (p.length - 2) := by
  have hi := (List.getElem?_eq_some_iff.1 h).1
  unfold candK
  rw [List.mem_filter, List.all_eq_true]
  refine ⟨mem_iota.2 (by omega), fun j hj => ?_⟩
  have hj := List.mem_range.1 hj
  rw [hasT_iff (idxK_good ts ts.length).sort, mem_idxK]
  obtain ⟨a, ha, he⟩ := List.any_eq_true.1 hs
  have ha := List.mem_range.1 ha
  have he := of_decide_eq_true he
  refine ⟨i, hi, rfl, a + j, ?_, ?_⟩
  · rw [getD_at h]
    have : p.length = min p.length (s.length - a) := by
      have := congrArg List.length he
      simp only [List.length_take, List.length_drop] at this
      omega
    omega
  · rw [getD_at h]
    unfold gr
    conv => rhs; rw [← he]
    rw [List.drop_take, List.take_take, List.drop_drop, Nat.min_eq_left (by omega)]
theorem exI_D : dT [[.str [97, 98, 99, 100]], [.str [98, 99, 100]]] = [[97, 98, 99, 100], [98, 99, 100]] := rfl
def exTs : List Bs := [[97, 98, 99, 100], [98, 99, 100]]
def exIs : List Int := [0, 1]
def exI0 : List Int := [0]
def exPs : List Post := [([97, 98, 99], [0]), ([98, 99, 100], [0, 1])]
theorem exI_1 : textsF [[97, 98, 99, 100], [98, 99, 100]] = (0, 0) ∧ idxT [[97, 98, 99, 100], [98, 99, 100]] = exIs ∧ idxP [[97, 98, 99, 100], [98, 99, 100]] = exPs := by decide +kernel
theorem exI_2 : candF exIs exPs [98, 99, 100] = (0, 0) ∧ candR exIs exPs [98, 99, 100] = exIs ∧ candF exIs exPs [97, 98, 99, 100] = (0, 0) ∧ candR exIs exPs [97, 98, 99, 100] = exI0 := by decide +kernel
theorem exI_3 : exPs[0]? = some ([97, 98, 99], [0]) ∧ exPs.length = 2 ∧ exIs.length = 2 ∧ exI0.length = 1 ∧ dI [[.int .i64 0], [.int .i64 1]] = exIs ∧ dI [[.int .i64 0]] = exI0 := ⟨rfl, rfl, rfl, rfl, rfl, rfl⟩
theorem exI_s : smallP exPs := fun p hp => by
  unfold exPs at hp
  simp only [List.mem_cons, List.not_mem_nil, or_false] at hp
  rcases hp with rfl | rfl <;> exact ⟨by decide, by decide⟩
theorem exI_r : [[D.int .i64 0], [.int .i64 1]] = rows eI exIs ∧ [[D.int .i64 0]] = rows eI exI0 := ⟨rfl, rfl⟩
theorem exT_r : [[D.str [97, 98, 99, 100]], [.str [98, 99, 100]]] = rows eT [[97, 98, 99, 100], [98, 99, 100]] := rfl
end Go.Proofs.Ytjdhadbnmghdgaa
