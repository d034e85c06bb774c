/- strings.Replacer: Replace, the first time, at the four strings of the search texts. -/
import Derived.Test.YtmbjnkgpcbpclaaGreatRep4
set_option linter.all false
set_option maxRecDepth 100000
set_option maxHeartbeats 8000000
namespace Go.Proofs.Tryz.Rep
open Go Go.RowKit
/-- What the first call of a Replacer leaves: its own block turns, the table is new. -/
structure Done (b : Nat) (w w' : World) : Prop where
  os : w'.os = w.os
  tape : w'.tape = w.tape
  output : w'.output = w.output
  size : w.heap.size + 2 ≤ w'.heap.size
  same : ∀ k, k < w.heap.size → k ≠ b → w'.heap[k]? = w.heap[k]?
  tab : ∀ f, f < 256 → ∃ v, w'.cell? ⟨w.heap.size + 1, f, none⟩ = some v ∧ Bs w.heap.size w' (rowOf f) v
  lst : w'.cell? ⟨w.heap.size + 1, 256, none⟩ = some (.slice (some ⟨w.heap.size, 0, none⟩) 2 2)
  s0 : w'.cell? ⟨w.heap.size, 0, none⟩ = some (.string ⟨#[34]⟩)
  s1 : w'.cell? ⟨w.heap.size, 1, none⟩ = some (.string ⟨#[92]⟩)
/-- A Replacer that has not been used. -/
structure Fresh (b g o cap : Nat) (w : World) : Prop where
  h0 : w.cell? ⟨b, 0, none⟩ = some (.int .u32 0)
  h1 : w.cell? ⟨b, 1, none⟩ = some (.int .i32 0)
  h3 : w.cell? ⟨b, 3, none⟩ = some .nilIface
  h4 : w.cell? ⟨b, 4, none⟩ = some (.slice (some ⟨g, o, none⟩) 4 cap)
  fz : ∀ j, w.frozen? ⟨b, j, none⟩ = false
  ne : g ≠ b
  g0 : w.cell? ⟨g, o, none⟩ = some (.string ⟨#[92]⟩)
  g1 : w.cell? ⟨g, o + 1, none⟩ = some (.string ⟨#[92, 92]⟩)
  g2 : w.cell? ⟨g, o + 2, none⟩ = some (.string ⟨#[34]⟩)
  g3 : w.cell? ⟨g, o + 3, none⟩ = some (.string ⟨#[92, 34]⟩)
theorem Sv (b g o cap : Nat) (w : World) (h3 : w.cell? ⟨b, 3, none⟩ = some .nilIface) (h4 : w.cell? ⟨b, 4, none⟩ = some (.slice (some ⟨g, o, none⟩) 4 cap)) (fz : ∀ j, w.frozen? ⟨b, j, none⟩ = false)
    (g0 : w.cell? ⟨g, o, none⟩ = some (.string ⟨#[92]⟩)) (g1 : w.cell? ⟨g, o + 1, none⟩ = some (.string ⟨#[92, 92]⟩)) (g2 : w.cell? ⟨g, o + 2, none⟩ = some (.string ⟨#[34]⟩)) (g3 : w.cell? ⟨g, o + 3, none⟩ = some (.string ⟨#[92, 34]⟩)) :
    Calls Tryz.prog 84 #[.pointer (some ⟨b, 0, none⟩)] w fun e w' => e = .returned (.tuple #[]) ∧
      ∃ w2, J5 w w2 rowOf 2 [.string ⟨#[34]⟩, .string ⟨#[92]⟩] ∧ w' = (w2.setCell ⟨b, 3, none⟩ (.iface 168 (.pointer (some ⟨w.heap.size + 1, 0, none⟩)))).setCell ⟨b, 4, none⟩ (.slice none 0 0) := by
  have hbl : b < w.heap.size := Mp h3
  go_enter Tryz.func84, Tryz.ntmps84
  go_wp2_with (go_at_call 99; refine (build b g o cap _ h4 g0 g1 g2 g3).mono ?_)
  rintro e w2 ⟨rfl, hT⟩
  have k3 := hT.old h3 hbl
  have k4 := hT.old h4 hbl
  have fz3 : w2.frozen? ⟨b, 3, none⟩ = false := (hT.below.frozen (p := ⟨b, 3, none⟩) hbl).trans (fz 3)
  have fz4 : w2.frozen? ⟨b, 4, none⟩ = false := (hT.below.frozen (p := ⟨b, 4, none⟩) hbl).trans (fz 4)
  go_wp2
  go_end0
  exact ⟨rfl, w2, hT, rfl⟩
theorem once (b g o cap : Nat) (w : World) (h : Fresh b g o cap w) :
    Calls Tryz.prog 83 #[.pointer (some ⟨b, 0, none⟩), .func (.func 84) #[.pointer (some ⟨b, 0, none⟩)] #[]] w fun e w' => e = .returned (.tuple #[]) ∧
      Done b w w' ∧ w'.cell? ⟨b, 3, none⟩ = some (.iface 168 (.pointer (some ⟨w.heap.size + 1, 0, none⟩))) := by
  have hbl : b < w.heap.size := Mp h.h3
  obtain ⟨w1, hw1⟩ : ∃ w1, w1 = w.setCell ⟨b, 1, none⟩ (.int .i32 1) := ⟨_, rfl⟩
  have c : ∀ k j, (k ≠ b ∨ j ≠ 1) → w1.cell? ⟨k, j, none⟩ = w.cell? ⟨k, j, none⟩ := fun k j hk => by
    rw [hw1]; exact AO (by omega)
  have hs : w1.heap.size = w.heap.size := by rw [hw1, CY]
  have f : ∀ k j, w1.frozen? ⟨k, j, none⟩ = w.frozen? ⟨k, j, none⟩ := fun k j => by rw [hw1, World.frozen?_setCell]
  have hB := Sv b g o cap w1 ((c _ _ (.inr (by decide))).trans h.h3) ((c _ _ (.inr (by decide))).trans h.h4) (fun j => (f _ _).trans (h.fz j)) ((c _ _ (.inl h.ne)).trans h.g0) ((c _ _ (.inl h.ne)).trans h.g1) ((c _ _ (.inl h.ne)).trans h.g2) ((c _ _ (.inl h.ne)).trans h.g3)
  have lock1 : w1.cell? ⟨b, 1, none⟩ = some (.int .i32 1) := by rw [hw1]; exact World.cell?_setCell_same w _ _ h.h1
  have done0 : w1.cell? ⟨b, 0, none⟩ = some (.int .u32 0) := (c _ _ (.inr (by decide))).trans h.h0
  refine (WJ b w (fun w' => ∃ w2, J5 w1 w2 rowOf 2 [.string ⟨#[34]⟩, .string ⟨#[92]⟩] ∧ w' = (w2.setCell ⟨b, 3, none⟩ (.iface 168 (.pointer (some ⟨w1.heap.size + 1, 0, none⟩)))).setCell ⟨b, 4, none⟩ (.slice none 0 0)) h.h0 h.h1 (h.fz 0) (h.fz 1) (hw1 ▸ hB) ?_).mono ?_
  · rintro w' ⟨w2, hT, rfl⟩
    have hbl1 : b < w1.heap.size := by omega
    refine ⟨?_, ?_, ?_, ?_⟩
    · exact (AO (.inr (by decide))).trans ((AO (.inr (by decide))).trans (hT.old done0 hbl1))
    · exact (AO (.inr (by decide))).trans ((AO (.inr (by decide))).trans (hT.old lock1 hbl1))
    · rw [World.frozen?_setCell, World.frozen?_setCell]; exact (hT.below.frozen (p := ⟨b, 0, none⟩) hbl1).trans ((f _ _).trans (h.fz 0))
    · rw [World.frozen?_setCell, World.frozen?_setCell]; exact (hT.below.frozen (p := ⟨b, 1, none⟩) hbl1).trans ((f _ _).trans (h.fz 1))
  · rintro e w' ⟨rfl, w4, ⟨w2, hT, rfl⟩, rfl⟩
    have hbl1 : b < w1.heap.size := by omega
    have big := hT.big
    have hc : ∀ k j, k ≠ b → (((((w2.setCell ⟨b, 3, none⟩ (.iface 168 (.pointer (some ⟨w1.heap.size + 1, 0, none⟩)))).setCell ⟨b, 4, none⟩ (.slice none 0 0)).drew).setCell ⟨b, 0, none⟩ (.int .u32 1)).setCell ⟨b, 1, none⟩ (.int .i32 0)).cell? ⟨k, j, none⟩ = w2.cell? ⟨k, j, none⟩ := fun k j hk => by
      rw [AO (.inl (Ne.symm hk)), AO (.inl (Ne.symm hk)), World.cell?_drew, AO (.inl (Ne.symm hk)), AO (.inl (Ne.symm hk))]
    have hh : ∀ k, k ≠ b → (((((w2.setCell ⟨b, 3, none⟩ (.iface 168 (.pointer (some ⟨w1.heap.size + 1, 0, none⟩)))).setCell ⟨b, 4, none⟩ (.slice none 0 0)).drew).setCell ⟨b, 0, none⟩ (.int .u32 1)).setCell ⟨b, 1, none⟩ (.int .i32 0)).heap[k]? = w2.heap[k]? := fun k hk => by
      rw [Below.heap_setCell _ _ _ _ hk, Below.heap_setCell _ _ _ _ hk]
      show ((w2.setCell ⟨b, 3, none⟩ (.iface 168 (.pointer (some ⟨w1.heap.size + 1, 0, none⟩)))).setCell ⟨b, 4, none⟩ (.slice none 0 0)).heap[k]? = _
      rw [Below.heap_setCell _ _ _ _ hk, Below.heap_setCell _ _ _ _ hk]
    have hz : (((((w2.setCell ⟨b, 3, none⟩ (.iface 168 (.pointer (some ⟨w1.heap.size + 1, 0, none⟩)))).setCell ⟨b, 4, none⟩ (.slice none 0 0)).drew).setCell ⟨b, 0, none⟩ (.int .u32 1)).setCell ⟨b, 1, none⟩ (.int .i32 0)).heap.size = w2.heap.size := by simp
    refine ⟨rfl, ⟨?_, ?_, ?_, ?_, fun k hk hkb => ?_, fun f hf => ?_, ?_, ?_, ?_⟩, ?_⟩
    · exact hT.below.os.trans (by rw [hw1]; rfl)
    · exact hT.below.tape.trans (by rw [hw1]; rfl)
    · exact hT.below.output.trans (by rw [hw1]; rfl)
    · rw [hz]; omega
    · rw [hh k hkb, hT.below.block k (by omega), hw1, Below.heap_setCell _ _ _ _ hkb]
    · obtain ⟨v, h1, h2⟩ := hT.tab f hf
      rw [hs] at h1 h2
      refine ⟨v, (hc _ _ (by omega)).trans h1, h2.mono (by rw [hz]; exact Nat.le_refl _) fun k j hk _ => hc k j (by omega)⟩
    · rw [hc _ _ (by omega), ← hs]; exact hT.lst
    · rw [hc _ _ (by omega), ← hs]; exact hT.str 0 _ rfl
    · rw [hc _ _ (by omega), ← hs]; exact hT.str 1 _ rfl
    · rw [AO (.inr (by decide)), AO (.inr (by decide)), World.cell?_drew, AO (.inr (by decide))]
      rw [World.cell?_setCell_same _ _ _ (hT.old ((c _ _ (.inr (by decide))).trans h.h3) hbl1), hs]
theorem replace (b g o cap : Nat) (s r : ByteArray) (Q : World → World → Prop) (w : World) (h : Fresh b g o cap w)
    (hrep : ∀ w', Done b w w' → Calls Tryz.prog 178 #[.pointer (some ⟨w.heap.size + 1, 0, none⟩), .string s] w' fun e w'' => e = .returned (.string r) ∧ Q w' w'') :
    Calls Tryz.prog 68 #[.pointer (some ⟨b, 0, none⟩), .string s] w fun e w'' => e = .returned (.string r) ∧ ∃ w', Done b w w' ∧ Q w' w'' := by
  go_enter Tryz.func68, Tryz.ntmps68
  go_wp2_with (go_at_call 83; refine (once b g o cap _ h).mono ?_)
  rintro e w' ⟨rfl, hD, k3⟩
  have hr := hrep w' hD
  have hm : ∀ (p : Value) (w : World), (method 332 168 p "Replace").run Tryz.prog w = .ok (178, p) w := fun p w => by kernel_rfl
  go_wp2_with (go_at_call 178; refine hr.mono ?_)
  rintro e w'' ⟨rfl, hq⟩
  go_wp2
  go_ret
  exact ⟨rfl, w', hD, hq⟩
