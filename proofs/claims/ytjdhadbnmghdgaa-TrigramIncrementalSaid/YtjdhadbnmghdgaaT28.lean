/- Walks, printed by wip/gen/walk.py. -/
import Derived.Test.YtjdhadbnmghdgaaT27
import Derived.Test.YtjdhadbnmghdgaaV5
set_option linter.all false
set_option maxRecDepth 100000
set_option maxHeartbeats 4000000
namespace Go.Proofs.Ytjdhadbnmghdgaa
open Go Go.Vc Go.RowKit
theorem delI_mem {Q : Int → Bool} {l : List Int} {x : Int} : x ∈ delI Q l ↔ x ∈ l ∧ Q x = false := by unfold delI; rw [List.mem_filter]; simp
theorem del_ins {l : List Int} {n : Int} (hs : l.Pairwise (· < ·)) (hn : n ∉ l) : delI (isN n) (ins l n) = l := by
  refine sorted_ext (List.Pairwise.filter _ (ins_sorted hs)) hs fun x => ?_
  rw [delI_mem, ins_mem]
  unfold isN
  rw [decide_eq_false_iff_not]
  constructor
  · rintro ⟨rfl | h, h2⟩
    · exact absurd rfl h2
    · exact h
  · intro h; exact ⟨.inr h, fun e => hn (e ▸ h)⟩
theorem remP_in {P : List Post} {n : Int} {g : Bs} {x : Int} : inP (remP P n) g x ↔ inP P g x ∧ x ≠ n := by
  unfold inP remP
  constructor
  · rintro ⟨t, ht, hx⟩
    obtain ⟨h1, h2⟩ := List.mem_filter.1 ht
    obtain ⟨⟨a, u⟩, hq, e⟩ := List.mem_map.1 h1
    obtain ⟨e1, e2⟩ := Prod.mk.inj e
    simp only at e1 e2
    subst e1 e2
    obtain ⟨h3, h4⟩ := delI_mem.1 hx
    exact ⟨⟨u, hq, h3⟩, of_decide_eq_false h4⟩
  · rintro ⟨⟨t, ht, hx⟩, hn⟩
    have hm : x ∈ delI (isN n) t := delI_mem.2 ⟨hx, decide_eq_false hn⟩
    exact ⟨_, List.mem_filter.2 ⟨List.mem_map.2 ⟨_, ht, rfl⟩, decide_eq_true (fun e => by simp only at e; rw [e] at hm; cases hm)⟩, hm⟩
theorem remP_good {P : List Post} {n : Int} (h : GoodP P) : GoodP (remP P n) ∧ neP (remP P n) := by
  refine ⟨⟨?_, fun p hp => ?_⟩, fun p hp => ?_⟩
  · refine List.Pairwise.filter _ ?_
    rw [List.pairwise_map]
    exact h.sort
  · obtain ⟨q, hq, rfl⟩ := List.mem_map.1 (List.mem_filter.1 hp).1
    exact List.Pairwise.filter _ (h.rise q hq)
  · exact of_decide_eq_true (List.mem_filter.1 hp).2
/-- Removing what was added. -/
theorem rem_add {l : List Int} {P : List Post} {n : Int} {s : Bs} (h : ValP l P) (hn : n ∉ l) : remP (addP P n s) n = P := by
  obtain ⟨h1, h2⟩ := remP_good (n := n) (addK_good (n := n) (s := s) h.good (s.length - 2))
  refine post_ext h1 h.good h2 h.ne fun g x => ?_
  rw [show addP P n s = addK P n s (s.length - 2) from rfl, remP_in, mem_addK h.good]
  constructor
  · rintro ⟨h | ⟨h, _⟩, h3⟩
    · exact h
    · exact absurd h h3
  · rintro ⟨t, ht, hx⟩
    exact ⟨.inl ⟨t, ht, hx⟩, fun e => hn (e ▸ h.sub _ ht x hx)⟩
/-- The text that is added as the i-th. -/
def ord (s n i : Nat) : Nat := if i ≤ s then s - i else s + n - i
theorem ord_rem {s n i : Nat} (hs : s < n) (hi : i < n) : ((s : Int) + n - i).tmod n = (ord s n i : Int) := by
  unfold ord
  split
  · rename_i h
    have : (s : Int) + n - i = ((s - i : Nat) : Int) + n := by omega
    rw [this, Int.tmod_eq_emod_of_nonneg (by omega), Int.add_emod_right, Int.emod_eq_of_lt (by omega) (by omega)]
  · rename_i h
    have : (s : Int) + n - i = ((s + n - i : Nat) : Int) := by omega
    rw [this, Int.tmod_eq_emod_of_nonneg (by omega), Int.emod_eq_of_lt (by omega) (by omega)]
theorem ord_lt {s n i : Nat} (hs : s < n) (hi : i < n) : ord s n i < n := by unfold ord; split <;> omega
theorem ord_inj {s n i j : Nat} (hs : s < n) (hi : i < n) (hj : j < n) (h : ord s n i = ord s n j) : i = j := by unfold ord at h; split at h <;> split at h <;> omega
theorem ord_sur {s n x : Nat} (hs : s < n) (hx : x < n) : ∃ i, i < n ∧ ord s n i = x := by
  unfold ord
  by_cases h : x ≤ s
  · exact ⟨s - x, by omega, by rw [if_pos (by omega)]; omega⟩
  · exact ⟨s + n - x, by omega, by rw [if_neg (by omega)]; omega⟩
/-- An index that grows text by text. -/
structure IncI (ts : List Bs) (s i : Nat) (l : List Int) (P : List Post) : Prop where
  val : ValP l P
  mem : ∀ x : Int, x ∈ l ↔ ∃ j, j < i ∧ x = (ord s ts.length j : Int)
  pos : ∀ g x, inP P g x ↔ ∃ j, j < i ∧ x = (ord s ts.length j : Int) ∧ ∃ a, a < (ts.getD (ord s ts.length j) []).length - 2 ∧ gr (ts.getD (ord s ts.length j) []) a = g
theorem IncI.zero (ts : List Bs) (s : Nat) : IncI ts s 0 [] [] :=
  ⟨⟨by simp, by simp, List.Pairwise.nil, ⟨List.Pairwise.nil, fun p h => (by cases h)⟩, fun p h => (by cases h), fun p h => (by cases h), fun p h => (by cases h)⟩, by simp, by simp [inP]⟩
theorem IncI.step {ts : List Bs} {s i : Nat} {l : List Int} {P : List Post} (h : IncI ts s i l P) (hs : s < ts.length) (hi : i < ts.length) (hn : ts.length ≤ 20) :
    IncI ts s (i + 1) (ins l (ord s ts.length i)) (addP P (ord s ts.length i) (ts.getD (ord s ts.length i) [])) := by
  have ho := ord_lt hs hi
  refine ⟨val_add h.val (by omega) (by omega), fun x => ?_, fun g x => ?_⟩
  · rw [ins_mem, h.mem]
    constructor
    · rintro (rfl | ⟨j, h1, h2⟩)
      · exact ⟨i, by omega, rfl⟩
      · exact ⟨j, by omega, h2⟩
    · rintro ⟨j, h1, h2⟩
      by_cases hj : j = i
      · subst hj; exact .inl h2
      · exact .inr ⟨j, by omega, h2⟩
  · unfold addP
    rw [mem_addK h.val.good, h.pos]
    constructor
    · rintro (⟨j, h1, h2⟩ | ⟨h1, a, h2, h3⟩)
      · exact ⟨j, by omega, h2⟩
      · exact ⟨i, by omega, h1, a, h2, h3⟩
    · rintro ⟨j, h1, h2, h3⟩
      by_cases hj : j = i
      · subst hj; exact .inr ⟨h2, h3⟩
      · exact .inl ⟨j, by omega, h2, h3⟩
theorem IncI.fresh {ts : List Bs} {s i : Nat} {l : List Int} {P : List Post} (h : IncI ts s i l P) (hs : s < ts.length) (hi : i < ts.length) : ((ord s ts.length i : Nat) : Int) ∉ l := fun hm => by
  obtain ⟨j, h1, h2⟩ := (h.mem _).1 hm
  have := ord_inj hs hi (by omega) (Int.ofNat.inj h2)
  omega
theorem IncI.fin {ts : List Bs} {s : Nat} {l : List Int} {P : List Post} (h : IncI ts s ts.length l P) (hs : s < ts.length) : l = iota ts.length ∧ P = idxK ts ts.length := by
  refine ⟨sorted_ext h.val.tsort (iota_sort _) fun x => ?_, post_ext h.val.good (idxK_good _ _) h.val.ne (idxK_ne _ _) fun g x => ?_⟩
  · rw [h.mem, mem_iota]
    constructor
    · rintro ⟨j, h1, rfl⟩; have := ord_lt hs h1; omega
    · rintro ⟨h1, h2⟩
      obtain ⟨j, h3, h4⟩ := ord_sur (x := x.toNat) hs (by omega)
      exact ⟨j, h3, by omega⟩
  · rw [h.pos, mem_idxK]
    constructor
    · rintro ⟨j, h1, h2, h3⟩; exact ⟨_, ord_lt hs h1, h2, h3⟩
    · rintro ⟨i, h1, h2, h3⟩
      obtain ⟨j, h4, h5⟩ := ord_sur (x := i) hs h1
      exact ⟨j, h4, by rw [h5]; exact h2, by rw [h5]; exact h3⟩
theorem add_0 {l : List Int} {P : List Post} {n : Int} {s : Bs} (h : ValP l P) (h0 : 0 ≤ n) (h1 : n < 20) (hn : n ∉ l) (hs : s.length ≤ 400) : addF l P n s = (0, 0) ∧ addTs l P n s = ins l n ∧ addPs l P n s = addP P n s := by
  have hv := val_to h
  have hf : addF l P n s = (0, 0) := by unfold addF; rw [if_neg (by rw [hv]; simp), if_neg (by omega), if_neg hn, if_neg (by omega)]
  exact ⟨hf, by unfold addTs; rw [hf]; rfl, by unfold addPs; rw [hf]; rfl⟩
theorem add_1 {l : List Int} {P : List Post} {n : Int} {s : Bs} {f : Int × Int} (h : addF l P n s = f) (hf : f.1 ≠ 0) : addTs l P n s = [] ∧ addPs l P n s = [] := by
  subst h; exact ⟨if_neg hf, if_neg hf⟩
theorem rem_1 {l : List Int} {P : List Post} {n : Int} {f : Int × Int} (h : remF l P n = f) (hf : f.1 ≠ 0) : remTs l P n = [] ∧ remPs l P n = [] := by
  subst h; exact ⟨if_neg hf, if_neg hf⟩
theorem rem_0 {l : List Int} {P : List Post} {n : Int} (h : ValP l P) (hn : n ∈ l) : remF l P n = (0, 0) ∧ remTs l P n = delI (isN n) l ∧ remPs l P n = remP P n := by
  have hv := val_to h
  have hf : remF l P n = (0, 0) := by unfold remF; rw [if_neg (by rw [hv]; simp), if_neg (fun h => h hn)]
  exact ⟨hf, by unfold remTs; rw [hf]; rfl, by unfold remPs; rw [hf]; rfl⟩
/-- The cases of adding. -/
theorem add_cases (l : List Int) (P : List Post) (n : Int) (s : Bs) :
    ((valF l P).1 ≠ 0 ∧ addF l P n s = valF l P ∧ remF l P n = valF l P) ∨ (valF l P = (0, 0) ∧ ValP l P ∧ n ∈ l ∧ (0 ≤ n ∧ n ≤ 19) ∧ addF l P n s = (7, -1)) ∨
    (valF l P = (0, 0) ∧ ValP l P ∧ n ∉ l ∧ ¬(0 ≤ n ∧ n ≤ 19) ∧ addF l P n s = (3, -1) ∧ remF l P n = (6, -1)) ∨ (valF l P = (0, 0) ∧ ValP l P ∧ n ∉ l ∧ (0 ≤ n ∧ n ≤ 19) ∧ 400 < s.length ∧ addF l P n s = (10, -1) ∧ remF l P n = (6, -1)) ∨
    (valF l P = (0, 0) ∧ ValP l P ∧ n ∉ l ∧ (0 ≤ n ∧ n ≤ 19) ∧ s.length ≤ 400 ∧ addF l P n s = (0, 0) ∧ remF l P n = (6, -1)) := by
  rcases valF_or l P with hv | hv
  · have hv' : (valF l P).1 = 0 := by rw [hv]
    have hV := val_of hv'
    have n1 : ¬ (valF l P).1 ≠ 0 := by rw [hv']; simp
    have hr : n ∉ l → remF l P n = (6, -1) := fun h => by unfold remF; rw [if_neg n1, if_pos h]
    by_cases hn : n ∈ l
    · have := hV.trng n hn
      exact .inr (.inl ⟨hv, hV, hn, by omega, by unfold addF; rw [if_neg n1, if_neg (by omega), if_pos hn]⟩)
    · by_cases hb : 0 ≤ n ∧ n ≤ 19
      · by_cases hs : 400 < s.length
        · exact .inr (.inr (.inr (.inl ⟨hv, hV, hn, hb, hs, by unfold addF; rw [if_neg n1, if_neg (by omega), if_neg hn, if_pos hs], hr hn⟩)))
        · exact .inr (.inr (.inr (.inr ⟨hv, hV, hn, hb, by omega, by unfold addF; rw [if_neg n1, if_neg (by omega), if_neg hn, if_neg hs], hr hn⟩)))
      · exact .inr (.inr (.inl ⟨hv, hV, hn, hb, by unfold addF; rw [if_neg n1, if_pos (by omega)], hr hn⟩))
  · exact .inl ⟨hv, by unfold addF; rw [if_pos hv], by unfold remF; rw [if_pos hv]⟩
end Go.Proofs.Ytjdhadbnmghdgaa
