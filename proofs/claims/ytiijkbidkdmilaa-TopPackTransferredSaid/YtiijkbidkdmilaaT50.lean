/- Walks, printed by wip/gen/walk.py. -/
import Derived.Test.YtiijkbidkdmilaaT49
import Derived.Test.YtiijkbidkdmilaaV5
set_option linter.all false
set_option maxRecDepth 100000
set_option maxHeartbeats 4000000
namespace Go.Proofs.Ytiijkbidkdmilaa
open Go Go.Vc Go.RowKit
def dE : List (List D) → List Ev := List.map fun x => match x with | [.int _ a, .int _ b] => (a, b) | _ => (0, 0)
theorem dE_rows (l : List Ev) : dE (rows eE l) = l := by simp [dE, rows, eE, Function.comp_def]
abbrev LS := Int × Int × List Int × List Int
def stepL (s : LS) (k n : Int) : LS :=
  if k = 1 then (s.1, s.2.1, s.2.2.1 ++ [s.1], s.2.2.2) else if k = 4 then (s.1, s.2.1, s.2.2.1 ++ [getN s.2.2.1 n], s.2.2.2)
  else if k = 2 then (s.1, tookK s.2.1 (getN s.2.2.1 n), dropN s.2.2.1 n, s.2.2.2 ++ [tookK s.2.1 (getN s.2.2.1 n)]) else if k = 3 then (s.1, s.2.1, dropN s.2.2.1 n, s.2.2.2)
  else if k = 5 then (max s.1 (getN s.2.2.2 n), s.2.1, s.2.2.1, dropN s.2.2.2 n) else (s.1, s.2.1, s.2.2.1, dropN s.2.2.2 n)
/-- The run over events: a fault (code, index), or the state behind. -/
def runL (total : Int) : LS → List Ev → Nat → (Int × Int) ⊕ LS
  | s, [], _ => .inr s
  | s, e :: r, i => if stepCode total s.1 s.2.2.1 s.2.2.2 e.1 e.2 = 0 then runL total (stepL s e.1 e.2) r (i + 1) else .inl (stepCode total s.1 s.2.2.1 s.2.2.2 e.1 e.2, i)
def runR (l : List UInt8) (es : List Ev) : List UInt8 × Int × Int × Int :=
  if l.length ≤ 4096 then if es.length ≤ 200 then match runL (framesOf l).length (0, 0, [], []) es 0 with
    | .inl (c, i) => ([], 0, c, i)
    | .inr s => (((framesOf l).take s.2.1.toNat).flatten, s.1, 0, 0)
  else ([], 0, 2, -2) else ([], 0, 2, -1)
def runG : List AV → Option (Prop × AV)
  | [.d (.sl xs), .d (.sl es)] => some (xs = rows eU (dU xs) ∧ es = rows eE (dE es) ∧ (dU xs).length ≤ 9223372036854775807 ∧ (dE es).length ≤ 9223372036854775807,
      .tup [.d (.sl (rows eU (runR (dU xs) (dE es)).1)), .d (.int .i64 (runR (dU xs) (dE es)).2.1), .agg [.d (.int .i64 (runR (dU xs) (dE es)).2.2.1), .d (.int .i64 (runR (dU xs) (dE es)).2.2.2)]])
  | _ => none
/-- What holds of a link's state between two events. -/
def LInv (total : Int) (s : LS) : Prop := 0 ≤ s.1 ∧ s.1 ≤ total ∧ 0 ≤ s.2.1 ∧ s.2.1 ≤ total ∧ (∀ x ∈ s.2.2.1, 0 ≤ x ∧ x < total) ∧ ∀ x ∈ s.2.2.2, 0 ≤ x ∧ x ≤ total
theorem dropN_mem {l : List Int} {n x : Int} (h : x ∈ dropN l n) : x ∈ l := by
  unfold dropN at h
  split at h
  · exact List.mem_of_mem_eraseIdx h
  · exact h
theorem getN_mem {l : List Int} {n : Int} (h : okN l n = true) : getN l n ∈ l := by
  obtain ⟨m, rfl, hm, x, hx, hg⟩ := okN_ex h
  rw [hg]; exact List.mem_of_getElem? hx
theorem dropN_len {l : List Int} {n : Int} : (dropN l n).length ≤ l.length := by
  unfold dropN
  split
  · exact List.length_eraseIdx_le ..
  · exact Nat.le_refl _
theorem stepCode_cases {total acked : Int} {fs ws : List Int} {k n : Int} (h : stepCode total acked fs ws k n = 0) : (k = 1 ∧ n = 0 ∧ acked ≠ total) ∨ ((k = 2 ∨ k = 3 ∨ k = 4) ∧ okN fs n = true) ∨ ((k = 5 ∨ k = 6) ∧ okN ws n = true) := by
  unfold stepCode at h
  split at h
  · rename_i hk
    split at h
    · cases h
    · rename_i hn
      split at h
      · cases h
      · rename_i ha; exact .inl ⟨hk, by omega, ha⟩
  · split at h
    · rename_i hk
      split at h
      · rename_i ho; exact .inr (.inl ⟨hk, ho⟩)
      · cases h
    · split at h
      · rename_i hk
        split at h
        · rename_i ho; exact .inr (.inr ⟨hk, ho⟩)
        · cases h
      · cases h
theorem stepL_inv {total : Int} {s : LS} {k n : Int} (hi : LInv total s) (h : stepCode total s.1 s.2.2.1 s.2.2.2 k n = 0) : LInv total (stepL s k n) ∧ (stepL s k n).2.2.1.length ≤ s.2.2.1.length + 1 ∧ (stepL s k n).2.2.2.length ≤ s.2.2.2.length + 1 := by
  obtain ⟨a, t, fs, ws⟩ := s
  obtain ⟨h1, h2, h3, h4, h5, h6⟩ := hi
  simp only at h h1 h2 h3 h4 h5 h6
  have hd := fun n => dropN_len (l := fs) (n := n)
  have hd' := fun n => dropN_len (l := ws) (n := n)
  rcases stepCode_cases h with ⟨rfl, rfl, ha⟩ | ⟨hk | hk | hk, ho⟩ | ⟨hk | hk, ho⟩
  · refine ⟨⟨h1, h2, h3, h4, ?_, h6⟩, by simp [stepL], by simp [stepL]⟩
    intro x hx
    simp only [stepL, if_true, List.mem_append, List.mem_singleton] at hx
    rcases hx with hx | rfl
    · exact h5 x hx
    · omega
  · subst hk
    have hg := h5 _ (getN_mem ho)
    have ht : 0 ≤ tookK t (getN fs n) ∧ tookK t (getN fs n) ≤ total := by unfold tookK; split <;> omega
    refine ⟨⟨h1, h2, ht.1, ht.2, fun x hx => h5 x (dropN_mem hx), ?_⟩, by simp [stepL]; have := hd n; omega, by simp [stepL]⟩
    intro x hx
    have hx' : x ∈ ws ++ [tookK t (getN fs n)] := hx
    rcases List.mem_append.1 hx' with hx | hx
    · exact h6 x hx
    · rw [List.mem_singleton.1 hx]; exact ht
  · subst hk
    exact ⟨⟨h1, h2, h3, h4, fun x hx => h5 x (dropN_mem hx), h6⟩, by simp [stepL]; have := hd n; omega, by simp [stepL]⟩
  · subst hk
    refine ⟨⟨h1, h2, h3, h4, ?_, h6⟩, by simp [stepL], by simp [stepL]⟩
    intro x hx
    have hx' : x ∈ fs ++ [getN fs n] := hx
    rcases List.mem_append.1 hx' with hx | hx
    · exact h5 x hx
    · rw [List.mem_singleton.1 hx]; exact h5 _ (getN_mem ho)
  · subst hk
    have hg := h6 _ (getN_mem ho)
    refine ⟨⟨?_, ?_, h3, h4, h5, fun x hx => h6 x (dropN_mem hx)⟩, by simp [stepL], by simp [stepL]; have := hd' n; omega⟩
    · show 0 ≤ max a (getN ws n); omega
    · show max a (getN ws n) ≤ total; omega
  · subst hk
    exact ⟨⟨h1, h2, h3, h4, h5, fun x hx => h6 x (dropN_mem hx)⟩, by simp [stepL], by simp [stepL]; have := hd' n; omega⟩
end Go.Proofs.Ytiijkbidkdmilaa
