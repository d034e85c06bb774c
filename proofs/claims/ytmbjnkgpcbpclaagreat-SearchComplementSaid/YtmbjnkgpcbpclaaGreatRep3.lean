/- strings.Replacer: the table of strings of a byteStringReplacer, as it lies. -/
import Derived.Test.YtmbjnkgpcbpclaaGreatRep2
import Derived.WalkKit
import Derived.Below
import Derived.LoopN
import Derived.OwnWalk
import Derived.Laws.MakeOwn
import Derived.Laws.Tables
import Derived.Great.BuildSlice
import Derived.ArgAppend
import Derived.Laws.IdiomStrings
import Derived.Lib.Slices
import Derived.Lib.Strings
set_option linter.all false
set_option maxRecDepth 100000
set_option maxHeartbeats 4000000
namespace Go.Proofs.Tryz.Rep
open Go Go.RowKit

/-- Bytes, or nil, in a world; their block lies above N. -/
def Bs (N : Nat) (w : World) : Option (List UInt8) → Value → Prop
  | none, v => v = .slice none 0 0
  | some l, v => ∃ k c, v = .slice (some ⟨k, 0, none⟩) l.length c ∧ l.length ≤ c ∧ N + 2 ≤ k ∧ k < w.heap.size ∧ ∀ j (h : j < l.length), w.cell? ⟨k, j, none⟩ = some (.int .u8 (l[j].toNat : Int))

theorem Bs.mono {N : Nat} {w w' : World} {d : Option (List UInt8)} {v : Value} (h : Bs N w d v) (hs : w.heap.size ≤ w'.heap.size) (hc : ∀ k j, N + 2 ≤ k → k < w.heap.size → w'.cell? ⟨k, j, none⟩ = w.cell? ⟨k, j, none⟩) : Bs N w' d v := by
  cases d with
  | none => exact h
  | some l =>
    obtain ⟨k, c, h1, h2, h3, h4, h5⟩ := h
    exact ⟨k, c, h1, h2, h3, by omega, fun j hj => (hc k j h3 h4).trans (h5 j hj)⟩

/-- The table and the list of a byteStringReplacer that is made in a world's two next blocks. -/
structure Ip (w0 w : World) (d : Nat → Option (List UInt8)) (n : Nat) (xs : List Value) : Prop where
  below : Below w0.heap.size w0 w
  big : w0.heap.size + 2 ≤ w.heap.size
  tab : ∀ f, f < 256 → ∃ v, w.cell? ⟨w0.heap.size + 1, f, none⟩ = some v ∧ Bs w0.heap.size w (d f) v
  lst : w.cell? ⟨w0.heap.size + 1, 256, none⟩ = some (.slice (some ⟨w0.heap.size, 0, none⟩) n 2)
  f1 : ∀ f, w.frozen? ⟨w0.heap.size + 1, f, none⟩ = false
  f0 : ∀ f, w.frozen? ⟨w0.heap.size, f, none⟩ = false
  row : ∀ j, j < 2 → (w.cell? ⟨w0.heap.size, j, none⟩).isSome = true
  len : xs.length = n
  str : ∀ j u, xs[j]? = some u → w.cell? ⟨w0.heap.size, j, none⟩ = some u

section
variable {w0 w : World} {d : Nat → Option (List UInt8)} {n : Nat} {xs : List Value}

theorem DD {w : World} {o : Obj} {k j : Nat} (h : k < w.heap.size) : (w.alloc o).cell? ⟨k, j, none⟩ = w.cell? ⟨k, j, none⟩ := World.cell?_alloc_lt w o ⟨k, j, none⟩ h
theorem Fg {w : World} {o : Obj} {k j : Nat} (h : k < w.heap.size) : (w.alloc o).frozen? ⟨k, j, none⟩ = w.frozen? ⟨k, j, none⟩ := World.frozen?_alloc_old w o ⟨k, j, none⟩ (by show k ≠ _; omega)
theorem size_alloc (w : World) (o : Obj) : (w.alloc o).heap.size = w.heap.size + 1 := by simp
theorem Cv (w : World) (a : Addr) (v : Value) : (w.setCell a v).heap.size = w.heap.size := by simp

theorem Ip.alloc (h : Ip w0 w d n xs) (o : Obj) : Ip w0 (w.alloc o) d n xs := by
  have hb := h.big
  refine ⟨h.below.alloc (by omega) o, by rw [size_alloc]; omega, fun f hf => ?_, ?_, fun f => ?_, fun f => ?_, fun j hj => ?_, h.len, fun j u hu => ?_⟩
  · obtain ⟨v, h1, h2⟩ := h.tab f hf
    exact ⟨v, (DD (by omega)).trans h1, h2.mono (by rw [size_alloc]; omega) fun k j _ hk => DD hk⟩
  · exact (DD (by omega)).trans h.lst
  · exact (Fg (by omega)).trans (h.f1 f)
  · exact (Fg (by omega)).trans (h.f0 f)
  · rw [DD (by omega)]; exact h.row j hj
  · exact (DD (by omega)).trans (h.str j u hu)

theorem Ip.drew (h : Ip w0 w d n xs) : Ip w0 w.drew d n xs :=
  ⟨h.below.drew, h.big, fun f hf => by obtain ⟨v, h1, h2⟩ := h.tab f hf; exact ⟨v, h1, h2.mono (Nat.le_refl _) fun _ _ _ _ => rfl⟩, h.lst, h.f1, h.f0, h.row, h.len, h.str⟩

theorem AA {w : World} {k j k' j' : Nat} {v : Value} (h : k ≠ k' ∨ j ≠ j') : (w.setCell ⟨k, j, none⟩ v).cell? ⟨k', j', none⟩ = w.cell? ⟨k', j', none⟩ :=
  World.cell?_setCell_other _ ⟨k, j, none⟩ ⟨k', j', none⟩ _ (fun e => by cases e; rcases h with h | h <;> exact h rfl)

theorem Ip.setTab (h : Ip w0 w d n xs) {g : Nat} (hg : g < 256) {l : Option (List UInt8)} {v : Value} (hv : Bs w0.heap.size w l v) : Ip w0 (w.setCell ⟨w0.heap.size + 1, g, none⟩ v) (fun f => if f = g then l else d f) n xs := by
  have hb := h.big
  have mono : ∀ {l v}, Bs w0.heap.size w l v → Bs w0.heap.size (w.setCell ⟨w0.heap.size + 1, g, none⟩ v) l v := fun {l v} hl => hl.mono (by rw [Cv]; omega) fun k j hk _ => AA (.inl (by omega))
  have mono' : ∀ {l u}, Bs w0.heap.size w l u → Bs w0.heap.size (w.setCell ⟨w0.heap.size + 1, g, none⟩ v) l u := fun {l u} hl => hl.mono (by rw [Cv]; omega) fun k j hk _ => AA (.inl (by omega))
  refine ⟨h.below.setCell (by show w0.heap.size ≤ w0.heap.size + 1; omega) v, by rw [Cv]; omega, fun f hf => ?_, ?_, fun f => ?_, fun f => ?_, fun j hj => ?_, h.len, fun j u hu => ?_⟩
  · by_cases hfg : f = g
    · subst hfg
      obtain ⟨v0, h1, _⟩ := h.tab f hf
      exact ⟨v, World.cell?_setCell_same w _ _ h1, by rw [if_pos rfl]; exact mono' hv⟩
    · obtain ⟨v1, h1, h2⟩ := h.tab f hf
      exact ⟨v1, (AA (.inr fun e => hfg e.symm)).trans h1, by rw [if_neg hfg]; exact mono' h2⟩
  · exact (AA (.inr (by omega))).trans h.lst
  · rw [World.frozen?_setCell]; exact h.f1 f
  · rw [World.frozen?_setCell]; exact h.f0 f
  · rw [AA (.inl (by omega))]; exact h.row j hj
  · exact (AA (.inl (by omega))).trans (h.str j u hu)

theorem Ip.push (h : Ip w0 w d n xs) (hn : n < 2) (u : Value) : Ip w0 ((w.setCell ⟨w0.heap.size, n, none⟩ u).setCell ⟨w0.heap.size + 1, 256, none⟩ (.slice (some ⟨w0.heap.size, 0, none⟩) (n + 1) 2)) d (n + 1) (xs ++ [u]) := by
  have hb := h.big
  have c : ∀ k j, w0.heap.size + 2 ≤ k → ((w.setCell ⟨w0.heap.size, n, none⟩ u).setCell ⟨w0.heap.size + 1, 256, none⟩ (.slice (some ⟨w0.heap.size, 0, none⟩) (n + 1) 2)).cell? ⟨k, j, none⟩ = w.cell? ⟨k, j, none⟩ := fun k j hk => (AA (.inl (by omega))).trans (AA (.inl (by omega)))
  have hl := h.len
  refine ⟨(h.below.setCell (by show w0.heap.size ≤ w0.heap.size; omega) u).setCell (by show w0.heap.size ≤ w0.heap.size + 1; omega) _, by rw [Cv, Cv]; omega, fun f hf => ?_, ?_, fun f => ?_, fun f => ?_, fun j hj => ?_, by rw [List.length_append, hl]; rfl, fun j x hx => ?_⟩
  · obtain ⟨v1, h1, h2⟩ := h.tab f hf
    exact ⟨v1, (AA (.inr (by omega))).trans ((AA (.inl (by omega))).trans h1), h2.mono (by rw [Cv, Cv]; omega) fun k j hk _ => c k j hk⟩
  · exact World.cell?_setCell_same _ _ _ ((AA (.inl (by omega))).trans h.lst)
  · rw [World.frozen?_setCell, World.frozen?_setCell]; exact h.f1 f
  · rw [World.frozen?_setCell, World.frozen?_setCell]; exact h.f0 f
  · rw [AA (.inl (by omega))]
    by_cases hjn : j = n
    · subst hjn
      obtain ⟨y, hy⟩ := Option.isSome_iff_exists.1 (h.row j hj)
      rw [World.cell?_setCell_same w _ _ hy]; rfl
    · rw [AA (.inr fun e => hjn e.symm)]; exact h.row j hj
  · rw [AA (.inl (by omega))]
    by_cases hjn : j = n
    · subst hjn
      rw [List.getElem?_append_right (by omega), hl, Nat.sub_self] at hx
      cases hx
      obtain ⟨y, hy⟩ := Option.isSome_iff_exists.1 (h.row j (by omega))
      exact World.cell?_setCell_same w _ _ hy
    · rw [AA (.inr fun e => hjn e.symm)]
      refine h.str j x ?_
      have hj : j < n + 1 := by have := (List.getElem?_eq_some_iff.1 hx).1; rw [List.length_append, hl] at this; simpa using this
      rwa [List.getElem?_append_left (by omega)] at hx

theorem Ip.old (h : Ip w0 w d n xs) {k j : Nat} {v : Value} (hc : w0.cell? ⟨k, j, none⟩ = some v) (hk : k < w0.heap.size) : w.cell? ⟨k, j, none⟩ = some v := (h.below.cell (p := ⟨k, j, none⟩) hk).trans hc

end

theorem KN {w : World} {a : Addr} {v : Value} (h : w.cell? a = some v) : a.block < w.heap.size := by
  unfold World.cell? at h
  cases ho : w.heap[a.block]? with
  | none => rw [ho] at h; cases h
  | some o => exact (Array.getElem?_eq_some_iff.1 ho).1

/-- The table as 'make' and the literal leave it. -/
theorem Ip.made (w : World) (A : Array Value) (Z : Array Value) (hA : 2 ≤ A.size) (hZ : Z.size = 257) (hz : ∀ f, f < 256 → Z[f]? = some (.slice none 0 0)) (h1 : ∀ v ∈ Z.toList, v.oneCell' = true) :
    ∃ w', (storeCells ⟨w.heap.size + 1, 0, none⟩ (Z.toList.set 256 (.slice (some ⟨w.heap.size, 0, none⟩) 0 2))).run Tryz.prog ((w.alloc (.cells A 9)).alloc (.cells Z 167)) = .ok () w' ∧ Ip w w' (fun _ => none) 0 [] := by
  have hs1 : ((w.alloc (.cells A 9)).alloc (.cells Z 167)).heap.size = w.heap.size + 2 := by simp
  have hc : ∀ j, ((w.alloc (.cells A 9)).alloc (.cells Z 167)).cell? ⟨w.heap.size + 1, j, none⟩ = Z[j]? := fun j => by
    have := World.cell?_alloc_new (w.alloc (.cells A 9)) Z 167 j
    simpa using this
  have hc0 : ∀ j, ((w.alloc (.cells A 9)).alloc (.cells Z 167)).cell? ⟨w.heap.size, j, none⟩ = A[j]? := fun j => by
    rw [DD (by simp)]; simp
  have hf : ∀ j, ((w.alloc (.cells A 9)).alloc (.cells Z 167)).frozen? ⟨w.heap.size + 1, j, none⟩ = false := fun j => by
    have := World.frozen?_alloc_new (w.alloc (.cells A 9)) Z 167 j
    simpa using this
  have hf0 : ∀ j, ((w.alloc (.cells A 9)).alloc (.cells Z 167)).frozen? ⟨w.heap.size, j, none⟩ = false := fun j => by
    rw [Fg (by simp)]; simp
  have hl : (Z.toList.set 256 (.slice (some ⟨w.heap.size, 0, none⟩) 0 2)).length = 257 := by simp [hZ]
  have hin : ∀ j, j < (Z.toList.set 256 (.slice (some ⟨w.heap.size, 0, none⟩) 0 2)).length → (((w.alloc (.cells A 9)).alloc (.cells Z 167)).cell? ⟨w.heap.size + 1, 0 + j, none⟩).isSome = true := fun j hj => by
    rw [Nat.zero_add, hc, Array.getElem?_eq_getElem (by omega)]; rfl
  have hrun := run_storeCells_cells (P := Tryz.prog) (w.heap.size + 1) 0 (Z.toList.set 256 (.slice (some ⟨w.heap.size, 0, none⟩) 0 2)) 0 ((w.alloc (.cells A 9)).alloc (.cells Z 167)) hin (fun j _ => by rw [Nat.zero_add]; exact hf _)
    (fun v hv => by
      rcases List.mem_or_eq_of_mem_set hv with hv | rfl
      · exact h1 v hv
      · rfl)
  refine ⟨_, hrun, ?_⟩
  have hcell : ∀ j v, (Z.toList.set 256 (.slice (some ⟨w.heap.size, 0, none⟩) 0 2))[j]? = some v → (((w.alloc (.cells A 9)).alloc (.cells Z 167)).setCells (w.heap.size + 1) 0 (Z.toList.set 256 (.slice (some ⟨w.heap.size, 0, none⟩) 0 2))).cell? ⟨w.heap.size + 1, j, none⟩ = some v := fun j v hj => by
    obtain ⟨hjl, hje⟩ := List.getElem?_eq_some_iff.1 hj
    have := World.cell?_setCells_in (w.heap.size + 1) (Z.toList.set 256 (.slice (some ⟨w.heap.size, 0, none⟩) 0 2)) 0 ((w.alloc (.cells A 9)).alloc (.cells Z 167)) (fun j hj => hin j hj) j hjl
    rw [Nat.zero_add] at this
    rw [this, ← hje]
  have hsz : (((w.alloc (.cells A 9)).alloc (.cells Z 167)).setCells (w.heap.size + 1) 0 (Z.toList.set 256 (.slice (some ⟨w.heap.size, 0, none⟩) 0 2))).heap.size = w.heap.size + 2 := by
    rw [← hs1]
    generalize Z.toList.set 256 _ = vs
    generalize ((w.alloc (.cells A 9)).alloc (.cells Z 167)) = W
    generalize (0 : Nat) = o
    induction vs generalizing W o with
    | nil => rfl
    | cons v vs ih => simp only [World.setCells]; rw [ih]; simp
  have hbel : Below w.heap.size w (((w.alloc (.cells A 9)).alloc (.cells Z 167)).setCells (w.heap.size + 1) 0 (Z.toList.set 256 (.slice (some ⟨w.heap.size, 0, none⟩) 0 2))) := by
    have h0 : Below w.heap.size w ((w.alloc (.cells A 9)).alloc (.cells Z 167)) := ((Below.refl _ _).alloc (Nat.le_refl _) _).alloc (by simp) _
    generalize Z.toList.set 256 _ = vs
    generalize ((w.alloc (.cells A 9)).alloc (.cells Z 167)) = W at h0 ⊢
    generalize (0 : Nat) = o
    induction vs generalizing W o with
    | nil => exact h0
    | cons v vs ih => simp only [World.setCells]; exact ih _ (h0.setCell (p := ⟨w.heap.size + 1, o, none⟩) (by show w.heap.size ≤ w.heap.size + 1; omega) v) _
  refine ⟨hbel, by rw [Nat.zero_add] at *; rw [hsz]; exact Nat.le_refl _, fun f hf' => ?_, ?_, fun f => ?_, fun f => ?_, fun j hj => ?_, rfl, fun j u hu => by simp at hu⟩
  · refine ⟨.slice none 0 0, hcell f _ ?_, rfl⟩
    rw [List.getElem?_set_ne (by omega), Array.getElem?_toList]
    exact hz f hf'
  · exact hcell 256 _ (by rw [List.getElem?_set_self (by simp [hZ])])
  · rw [World.frozen?_setCells]; exact hf f
  · rw [World.frozen?_setCells]; exact hf0 f
  · rw [World.cell?_setCells_out _ _ _ _ _ (fun h => by simp at h), hc0, Array.getElem?_eq_getElem (by omega)]; rfl
end Go.Proofs.Tryz.Rep
