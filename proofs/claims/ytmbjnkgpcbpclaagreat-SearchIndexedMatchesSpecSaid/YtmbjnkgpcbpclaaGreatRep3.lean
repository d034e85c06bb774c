/- strings.Replacer: the table of strings of a byteStringReplacer, as it lies. -/
import Derived.Test.YtmbjnkgpcbpclaaGreatProg
import Derived.Tactics
import Derived.Tactics2
import Derived.Defers
import Derived.Laws.Pointers
import Derived.Laws.LoneSync
import Derived.RegionTactic
import Derived.RegionCalls
import Derived.WalkKit
import Derived.Below
import Derived.LoopN
import Derived.OwnWalk
import Derived.Laws.MakeOwn
import Derived.Laws.Tables
import Derived.Great.BuildSlice
import Derived.ArgAppend
import Derived.Laws.IdiomStrings
import Derived.Lib.Slices
import Derived.Lib.Strings
set_option linter.all false
set_option maxRecDepth 100000
set_option maxHeartbeats 4000000
namespace Go.Proofs.Tryz.Rep
theorem disable (w : World) : (callFunc 131 #[]).run Tryz.prog w = .ok (.value (.tuple #[])) w := run_call_mark0 Tryz.func131 (by kernel_rfl) (by kernel_rfl) (by kernel_rfl) .disable (by kernel_rfl) w
theorem enable (w : World) : (callFunc 133 #[]).run Tryz.prog w = .ok (.value (.tuple #[])) w := run_call_mark0 Tryz.func133 (by kernel_rfl) (by kernel_rfl) (by kernel_rfl) .enable (by kernel_rfl) w
theorem acquire (a : Addr) (w : World) : (callFunc 134 #[.pointer (some a)]).run Tryz.prog w = .ok (.value (.tuple #[])) w := run_call_marked Tryz.func134 (by kernel_rfl) (by kernel_rfl) (by kernel_rfl) .acquire (by kernel_rfl) a w
theorem releaseMerge (a : Addr) (w : World) : (callFunc 136 #[.pointer (some a)]).run Tryz.prog w = .ok (.value (.tuple #[])) w := run_call_marked Tryz.func136 (by kernel_rfl) (by kernel_rfl) (by kernel_rfl) .releaseMerge (by kernel_rfl) a w
/-- (*sync/atomic.Bool).Store(true), entered as a deferred call: the cell holds 1. -/
theorem KE (a : Addr) (x : Value) (u : FrameMode) (w : World) (hc : w.cell? a = some x) (hz : w.frozen? a = false) :
    CallsD Tryz.prog 114 #[.pointer (some a), .bool true] u w fun e u' w' => u' = u ∧ (e = .returned (.tuple #[]) ∧ w' = w.drew.setCell a (.int .u32 1)) := by
  have hc' : w.drew.cell? a = some x := by go_simp
  have hz' : w.drew.frozen? a = false := by go_simp
  have hst := run_call_store (P := Tryz.prog) Tryz.func126 (by kernel_rfl) (by kernel_rfl) (by kernel_rfl) (by kernel_rfl) (k := .u32) (y := 1) hc' hz'
  go_enter_d Tryz.func114, Tryz.ntmps114
  go_wp2
  go_region_calls
  all_goals (go_end0; exact ⟨rfl, rfl⟩)
theorem Wn (a : Addr) (w : World) (hc : w.cell? a = some (.int .i32 1)) (hz : w.frozen? a = false) :
    Calls Tryz.prog 125 #[.pointer (some a)] w fun e w' => e = .returned (.tuple #[]) ∧ w' = w.setCell a (.int .i32 0) := by
  have hd := disable
  have he := enable
  have hr := releaseMerge
  have hadd := run_call_add (P := Tryz.prog) Tryz.func137 (by kernel_rfl) (by kernel_rfl) (by kernel_rfl) .i32 (by kernel_rfl) (y := -1) (s := 0) hc hz (by simp [go_sem]; rfl)
  have hcv := run_convert_to_unsafe (P := Tryz.prog) (src := 189) (dst := 172) Tryz.underlying189 Tryz.underlying172 (by kernel_rfl) hc
  go_enter Tryz.func125, Tryz.ntmps125
  go_wp2
  go_end0
  all_goals go_wp2
  all_goals go_end0
  all_goals exact ⟨rfl, rfl⟩
theorem J1 (a : Addr) (u : FrameMode) (w : World) (hc : w.cell? a = some (.int .i32 1)) (hz : w.frozen? a = false) :
    CallsD Tryz.prog 113 #[.pointer (some a)] u w fun e u' w' => u' = u ∧ (e = .returned (.tuple #[]) ∧ w' = w.setCell a (.int .i32 0)) := by
  go_enter_d Tryz.func113, Tryz.ntmps113
  go_wp2_with (go_at_call 125; refine (Wn a _ hc hz).mono ?_; rintro e w' ⟨rfl, rfl⟩)
  go_end0
  exact ⟨rfl, rfl⟩
theorem Y7 (a : Addr) (w : World) (hc : w.cell? a = some (.int .i32 0)) (hz : w.frozen? a = false) :
    Calls Tryz.prog 124 #[.pointer (some a)] w fun e w' => e = .returned (.tuple #[]) ∧ w' = w.setCell a (.int .i32 1) := by
  have hd := disable
  have he := enable
  have ha := acquire
  have hcas := run_call_cas_hit (P := Tryz.prog) Tryz.func132 (by kernel_rfl) (by kernel_rfl) (by kernel_rfl) .i32 (by kernel_rfl) (y := 1) hc hz
  have hc' : (w.setCell a (.int .i32 1)).cell? a = some (.int .i32 1) := World.cell?_setCell_same w a _ hc
  have hcv := run_convert_to_unsafe (P := Tryz.prog) (src := 189) (dst := 172) Tryz.underlying189 Tryz.underlying172 (by kernel_rfl) hc'
  go_enter Tryz.func124, Tryz.ntmps124
  go_wp2
  first | go_end0 | (simp only [Exit.inBlock, Exit.then]; refine bodyPost_ret (results_none rfl _ _ _) rfl ?_) | refine bodyPost_ret (results_none rfl _ _ _) rfl ?_
  all_goals go_wp2
  all_goals go_end0
  all_goals exact ⟨rfl, rfl⟩
theorem Xe (a : Addr) (w : World) (hc : w.cell? a = some (.int .i32 0)) (hz : w.frozen? a = false) :
    Calls Tryz.prog 112 #[.pointer (some a)] w fun e w' => e = .returned (.tuple #[]) ∧ w' = w.setCell a (.int .i32 1) := by
  go_enter Tryz.func112, Tryz.ntmps112
  go_wp2_with (go_at_call 124; refine (Y7 a _ hc hz).mono ?_; rintro e w' ⟨rfl, rfl⟩)
  go_end0
  exact ⟨rfl, rfl⟩
theorem XU (a : Addr) (w : World) (hc : w.cell? a = some (.int .u32 0)) :
    Calls Tryz.prog 97 #[.pointer (some a)] w fun e w' => e = .returned (.bool false) ∧ w' = w := by
  have hl := run_call_load (P := Tryz.prog) Tryz.func111 (by kernel_rfl) (by kernel_rfl) (by kernel_rfl) .u32 (by kernel_rfl) hc
  go_enter Tryz.func97, Tryz.ntmps97
  go_wp2
  go_ret
  exact ⟨rfl, rfl⟩
theorem ZL (b : Nat) (w : World) (R : World → Prop) (h0 : w.cell? ⟨b, 0, none⟩ = some (.int .u32 0)) (h1 : w.cell? ⟨b, 1, none⟩ = some (.int .i32 0)) (f0 : w.frozen? ⟨b, 0, none⟩ = false) (f1 : w.frozen? ⟨b, 1, none⟩ = false)
    (hcall : Calls Tryz.prog 84 #[.pointer (some ⟨b, 0, none⟩)] (w.setCell ⟨b, 1, none⟩ (.int .i32 1)) fun e w' => e = .returned (.tuple #[]) ∧ R w')
    (hR : ∀ w', R w' → w'.cell? ⟨b, 0, none⟩ = some (.int .u32 0) ∧ w'.cell? ⟨b, 1, none⟩ = some (.int .i32 1) ∧ w'.frozen? ⟨b, 0, none⟩ = false ∧ w'.frozen? ⟨b, 1, none⟩ = false) :
    Calls Tryz.prog 98 #[.pointer (some ⟨b, 0, none⟩), .func (.func 84) #[.pointer (some ⟨b, 0, none⟩)] #[]] w fun e w' => e = .returned (.tuple #[]) ∧
      ∃ w1, R w1 ∧ w' = (w1.drew.setCell ⟨b, 0, none⟩ (.int .u32 1)).setCell ⟨b, 1, none⟩ (.int .i32 0) := by
  have hl : (w.setCell ⟨b, 1, none⟩ (.int .i32 1)).cell? ⟨b, 0, none⟩ = some (.int .u32 0) := (World.cell?_setCell_other _ ⟨b, 1, none⟩ ⟨b, 0, none⟩ _ (by simp)).trans h0
  have hnot : ∀ (x : Bool) (w : World), (Op.unary .not (.bool x)).run Tryz.prog w = .ok (.bool (!x)) w := fun _ _ => rfl
  go_enter_defers Tryz.func98, Tryz.ntmps98
  go_wp2_with (first | (go_at_call 112; refine (Xe ⟨b, 1, none⟩ _ h1 f1).mono ?_; rintro e w' ⟨rfl, rfl⟩) | (go_at_call 97; refine (XU ⟨b, 0, none⟩ _ hl).mono ?_; rintro e w' ⟨rfl, rfl⟩) | (go_at_call 84; refine hcall.mono ?_; rintro e w1 ⟨rfl, hw1⟩))
  obtain ⟨r0, r1, z0, z1⟩ := hR w1 hw1
  show Leaves _ _ _ _ _ _ _
  refine leaves_cons (f := 114) (args := #[.pointer (some ⟨b, 0, none⟩), .bool true]) (by simp) (by simp [go_sem]) ?_
  refine (KE ⟨b, 0, none⟩ (.int .u32 0) .returning _ r0 z0).mono ?_
  rintro e u' w'' ⟨rfl, rfl, rfl⟩
  refine leaves_cons (f := 113) (args := #[.pointer (some ⟨b, 1, none⟩)]) (by simp [settle]) (by simp [go_sem]) ?_
  refine (J1 ⟨b, 1, none⟩ _ _ ?_ (by simp [z1])).mono ?_
  · refine (World.cell?_setCell_other _ ⟨b, 0, none⟩ ⟨b, 1, none⟩ _ (by simp)).trans ?_
    rw [World.cell?_drew]
    exact r1
  rintro e u' w'' ⟨rfl, rfl, rfl⟩
  simp [Leaves, settle, results, Tryz.results98]
  exact ⟨w1, hw1, rfl⟩
/-- (*sync.Once).Do, not yet done, the lock free. -/
theorem WJ (b : Nat) (w : World) (R : World → Prop) (h0 : w.cell? ⟨b, 0, none⟩ = some (.int .u32 0)) (h1 : w.cell? ⟨b, 1, none⟩ = some (.int .i32 0)) (f0 : w.frozen? ⟨b, 0, none⟩ = false) (f1 : w.frozen? ⟨b, 1, none⟩ = false)
    (hcall : Calls Tryz.prog 84 #[.pointer (some ⟨b, 0, none⟩)] (w.setCell ⟨b, 1, none⟩ (.int .i32 1)) fun e w' => e = .returned (.tuple #[]) ∧ R w')
    (hR : ∀ w', R w' → w'.cell? ⟨b, 0, none⟩ = some (.int .u32 0) ∧ w'.cell? ⟨b, 1, none⟩ = some (.int .i32 1) ∧ w'.frozen? ⟨b, 0, none⟩ = false ∧ w'.frozen? ⟨b, 1, none⟩ = false) :
    Calls Tryz.prog 83 #[.pointer (some ⟨b, 0, none⟩), .func (.func 84) #[.pointer (some ⟨b, 0, none⟩)] #[]] w fun e w' => e = .returned (.tuple #[]) ∧
      ∃ w1, R w1 ∧ w' = (w1.drew.setCell ⟨b, 0, none⟩ (.int .u32 1)).setCell ⟨b, 1, none⟩ (.int .i32 0) := by
  have hnot : ∀ (x : Bool) (w : World), (Op.unary .not (.bool x)).run Tryz.prog w = .ok (.bool (!x)) w := fun _ _ => rfl
  go_enter Tryz.func83, Tryz.ntmps83
  go_wp2_with (first | (go_at_call 97; refine (XU ⟨b, 0, none⟩ _ h0).mono ?_; rintro e w' ⟨rfl, rfl⟩) | (go_at_call 98; refine (ZL b _ R h0 h1 f0 f1 hcall hR).mono ?_; rintro e w' ⟨rfl, hw'⟩))
  go_end0
  exact ⟨rfl, hw'⟩
open Go Go.RowKit
/-- Bytes, or nil, in a world; their block lies above N. -/
def Bs (N : Nat) (w : World) : Option (List UInt8) → Value → Prop
  | none, v => v = .slice none 0 0
  | some l, v => ∃ k c, v = .slice (some ⟨k, 0, none⟩) l.length c ∧ l.length ≤ c ∧ N + 2 ≤ k ∧ k < w.heap.size ∧ ∀ j (h : j < l.length), w.cell? ⟨k, j, none⟩ = some (.int .u8 (l[j].toNat : Int))
theorem Bs.mono {N : Nat} {w w' : World} {d : Option (List UInt8)} {v : Value} (h : Bs N w d v) (hs : w.heap.size ≤ w'.heap.size) (hc : ∀ k j, N + 2 ≤ k → k < w.heap.size → w'.cell? ⟨k, j, none⟩ = w.cell? ⟨k, j, none⟩) : Bs N w' d v := by
  cases d with
  | none => exact h
  | some l =>
    obtain ⟨k, c, h1, h2, h3, h4, h5⟩ := h
    exact ⟨k, c, h1, h2, h3, by omega, fun j hj => (hc k j h3 h4).trans (h5 j hj)⟩
/-- The table and the list of a byteStringReplacer that is made in a world's two next blocks. -/
structure J5 (w0 w : World) (d : Nat → Option (List UInt8)) (n : Nat) (xs : List Value) : Prop where
  below : Below w0.heap.size w0 w
  big : w0.heap.size + 2 ≤ w.heap.size
  tab : ∀ f, f < 256 → ∃ v, w.cell? ⟨w0.heap.size + 1, f, none⟩ = some v ∧ Bs w0.heap.size w (d f) v
  lst : w.cell? ⟨w0.heap.size + 1, 256, none⟩ = some (.slice (some ⟨w0.heap.size, 0, none⟩) n 2)
  f1 : ∀ f, w.frozen? ⟨w0.heap.size + 1, f, none⟩ = false
  f0 : ∀ f, w.frozen? ⟨w0.heap.size, f, none⟩ = false
  row : ∀ j, j < 2 → (w.cell? ⟨w0.heap.size, j, none⟩).isSome = true
  len : xs.length = n
  str : ∀ j u, xs[j]? = some u → w.cell? ⟨w0.heap.size, j, none⟩ = some u
section
variable {w0 w : World} {d : Nat → Option (List UInt8)} {n : Nat} {xs : List Value}
theorem Ez {w : World} {o : Obj} {k j : Nat} (h : k < w.heap.size) : (w.alloc o).cell? ⟨k, j, none⟩ = w.cell? ⟨k, j, none⟩ := World.cell?_alloc_lt w o ⟨k, j, none⟩ h
theorem FZ {w : World} {o : Obj} {k j : Nat} (h : k < w.heap.size) : (w.alloc o).frozen? ⟨k, j, none⟩ = w.frozen? ⟨k, j, none⟩ := World.frozen?_alloc_old w o ⟨k, j, none⟩ (by show k ≠ _; omega)
theorem size_alloc (w : World) (o : Obj) : (w.alloc o).heap.size = w.heap.size + 1 := by simp
theorem CY (w : World) (a : Addr) (v : Value) : (w.setCell a v).heap.size = w.heap.size := by simp
theorem J5.alloc (h : J5 w0 w d n xs) (o : Obj) : J5 w0 (w.alloc o) d n xs := by
  have hb := h.big
  refine ⟨h.below.alloc (by omega) o, by rw [size_alloc]; omega, fun f hf => ?_, ?_, fun f => ?_, fun f => ?_, fun j hj => ?_, h.len, fun j u hu => ?_⟩
  · obtain ⟨v, h1, h2⟩ := h.tab f hf
    exact ⟨v, (Ez (by omega)).trans h1, h2.mono (by rw [size_alloc]; omega) fun k j _ hk => Ez hk⟩
  · exact (Ez (by omega)).trans h.lst
  · exact (FZ (by omega)).trans (h.f1 f)
  · exact (FZ (by omega)).trans (h.f0 f)
  · rw [Ez (by omega)]; exact h.row j hj
  · exact (Ez (by omega)).trans (h.str j u hu)
theorem J5.drew (h : J5 w0 w d n xs) : J5 w0 w.drew d n xs :=
  ⟨h.below.drew, h.big, fun f hf => by obtain ⟨v, h1, h2⟩ := h.tab f hf; exact ⟨v, h1, h2.mono (Nat.le_refl _) fun _ _ _ _ => rfl⟩, h.lst, h.f1, h.f0, h.row, h.len, h.str⟩
theorem AO {w : World} {k j k' j' : Nat} {v : Value} (h : k ≠ k' ∨ j ≠ j') : (w.setCell ⟨k, j, none⟩ v).cell? ⟨k', j', none⟩ = w.cell? ⟨k', j', none⟩ :=
  World.cell?_setCell_other _ ⟨k, j, none⟩ ⟨k', j', none⟩ _ (fun e => by cases e; rcases h with h | h <;> exact h rfl)
theorem J5.setTab (h : J5 w0 w d n xs) {g : Nat} (hg : g < 256) {l : Option (List UInt8)} {v : Value} (hv : Bs w0.heap.size w l v) : J5 w0 (w.setCell ⟨w0.heap.size + 1, g, none⟩ v) (fun f => if f = g then l else d f) n xs := by
  have hb := h.big
  have mono : ∀ {l v}, Bs w0.heap.size w l v → Bs w0.heap.size (w.setCell ⟨w0.heap.size + 1, g, none⟩ v) l v := fun {l v} hl => hl.mono (by rw [CY]; omega) fun k j hk _ => AO (.inl (by omega))
  have mono' : ∀ {l u}, Bs w0.heap.size w l u → Bs w0.heap.size (w.setCell ⟨w0.heap.size + 1, g, none⟩ v) l u := fun {l u} hl => hl.mono (by rw [CY]; omega) fun k j hk _ => AO (.inl (by omega))
  refine ⟨h.below.setCell (by show w0.heap.size ≤ w0.heap.size + 1; omega) v, by rw [CY]; omega, fun f hf => ?_, ?_, fun f => ?_, fun f => ?_, fun j hj => ?_, h.len, fun j u hu => ?_⟩
  · by_cases hfg : f = g
    · subst hfg
      obtain ⟨v0, h1, _⟩ := h.tab f hf
      exact ⟨v, World.cell?_setCell_same w _ _ h1, by rw [if_pos rfl]; exact mono' hv⟩
    · obtain ⟨v1, h1, h2⟩ := h.tab f hf
      exact ⟨v1, (AO (.inr fun e => hfg e.symm)).trans h1, by rw [if_neg hfg]; exact mono' h2⟩
  · exact (AO (.inr (by omega))).trans h.lst
  · rw [World.frozen?_setCell]; exact h.f1 f
  · rw [World.frozen?_setCell]; exact h.f0 f
  · rw [AO (.inl (by omega))]; exact h.row j hj
  · exact (AO (.inl (by omega))).trans (h.str j u hu)
theorem J5.push (h : J5 w0 w d n xs) (hn : n < 2) (u : Value) : J5 w0 ((w.setCell ⟨w0.heap.size, n, none⟩ u).setCell ⟨w0.heap.size + 1, 256, none⟩ (.slice (some ⟨w0.heap.size, 0, none⟩) (n + 1) 2)) d (n + 1) (xs ++ [u]) := by
  have hb := h.big
  have c : ∀ k j, w0.heap.size + 2 ≤ k → ((w.setCell ⟨w0.heap.size, n, none⟩ u).setCell ⟨w0.heap.size + 1, 256, none⟩ (.slice (some ⟨w0.heap.size, 0, none⟩) (n + 1) 2)).cell? ⟨k, j, none⟩ = w.cell? ⟨k, j, none⟩ := fun k j hk => (AO (.inl (by omega))).trans (AO (.inl (by omega)))
  have hl := h.len
  refine ⟨(h.below.setCell (by show w0.heap.size ≤ w0.heap.size; omega) u).setCell (by show w0.heap.size ≤ w0.heap.size + 1; omega) _, by rw [CY, CY]; omega, fun f hf => ?_, ?_, fun f => ?_, fun f => ?_, fun j hj => ?_, by rw [List.length_append, hl]; rfl, fun j x hx => ?_⟩
  · obtain ⟨v1, h1, h2⟩ := h.tab f hf
    exact ⟨v1, (AO (.inr (by omega))).trans ((AO (.inl (by omega))).trans h1), h2.mono (by rw [CY, CY]; omega) fun k j hk _ => c k j hk⟩
  · exact World.cell?_setCell_same _ _ _ ((AO (.inl (by omega))).trans h.lst)
  · rw [World.frozen?_setCell, World.frozen?_setCell]; exact h.f1 f
  · rw [World.frozen?_setCell, World.frozen?_setCell]; exact h.f0 f
  · rw [AO (.inl (by omega))]
    by_cases hjn : j = n
    · subst hjn
      obtain ⟨y, hy⟩ := Option.isSome_iff_exists.1 (h.row j hj)
      rw [World.cell?_setCell_same w _ _ hy]; rfl
    · rw [AO (.inr fun e => hjn e.symm)]; exact h.row j hj
  · rw [AO (.inl (by omega))]
    by_cases hjn : j = n
    · subst hjn
      rw [List.getElem?_append_right (by omega), hl, Nat.sub_self] at hx
      cases hx
      obtain ⟨y, hy⟩ := Option.isSome_iff_exists.1 (h.row j (by omega))
      exact World.cell?_setCell_same w _ _ hy
    · rw [AO (.inr fun e => hjn e.symm)]
      refine h.str j x ?_
      have hj : j < n + 1 := by have := (List.getElem?_eq_some_iff.1 hx).1; rw [List.length_append, hl] at this; simpa using this
      rwa [List.getElem?_append_left (by omega)] at hx
theorem J5.old (h : J5 w0 w d n xs) {k j : Nat} {v : Value} (hc : w0.cell? ⟨k, j, none⟩ = some v) (hk : k < w0.heap.size) : w.cell? ⟨k, j, none⟩ = some v := (h.below.cell (p := ⟨k, j, none⟩) hk).trans hc
end
theorem Mp {w : World} {a : Addr} {v : Value} (h : w.cell? a = some v) : a.block < w.heap.size := by
  unfold World.cell? at h
  cases ho : w.heap[a.block]? with
  | none => rw [ho] at h; cases h
  | some o => exact (Array.getElem?_eq_some_iff.1 ho).1
/-- The table as 'make' and the literal leave it. -/
theorem J5.made (w : World) (A : Array Value) (Z : Array Value) (hA : 2 ≤ A.size) (hZ : Z.size = 257) (hz : ∀ f, f < 256 → Z[f]? = some (.slice none 0 0)) (h1 : ∀ v ∈ Z.toList, v.oneCell' = true) :
    ∃ w', (storeCells ⟨w.heap.size + 1, 0, none⟩ (Z.toList.set 256 (.slice (some ⟨w.heap.size, 0, none⟩) 0 2))).run Tryz.prog ((w.alloc (.cells A 9)).alloc (.cells Z 167)) = .ok () w' ∧ J5 w w' (fun _ => none) 0 [] := by
  have hs1 : ((w.alloc (.cells A 9)).alloc (.cells Z 167)).heap.size = w.heap.size + 2 := by simp
  have hc : ∀ j, ((w.alloc (.cells A 9)).alloc (.cells Z 167)).cell? ⟨w.heap.size + 1, j, none⟩ = Z[j]? := fun j => by
    have := World.cell?_alloc_new (w.alloc (.cells A 9)) Z 167 j
    simpa using this
  have hc0 : ∀ j, ((w.alloc (.cells A 9)).alloc (.cells Z 167)).cell? ⟨w.heap.size, j, none⟩ = A[j]? := fun j => by
    rw [Ez (by simp)]; simp
  have hf : ∀ j, ((w.alloc (.cells A 9)).alloc (.cells Z 167)).frozen? ⟨w.heap.size + 1, j, none⟩ = false := fun j => by
    have := World.frozen?_alloc_new (w.alloc (.cells A 9)) Z 167 j
    simpa using this
  have hf0 : ∀ j, ((w.alloc (.cells A 9)).alloc (.cells Z 167)).frozen? ⟨w.heap.size, j, none⟩ = false := fun j => by
    rw [FZ (by simp)]; simp
  have hl : (Z.toList.set 256 (.slice (some ⟨w.heap.size, 0, none⟩) 0 2)).length = 257 := by simp [hZ]
  have hin : ∀ j, j < (Z.toList.set 256 (.slice (some ⟨w.heap.size, 0, none⟩) 0 2)).length → (((w.alloc (.cells A 9)).alloc (.cells Z 167)).cell? ⟨w.heap.size + 1, 0 + j, none⟩).isSome = true := fun j hj => by
    rw [Nat.zero_add, hc, Array.getElem?_eq_getElem (by omega)]; rfl
  have hrun := run_storeCells_cells (P := Tryz.prog) (w.heap.size + 1) 0 (Z.toList.set 256 (.slice (some ⟨w.heap.size, 0, none⟩) 0 2)) 0 ((w.alloc (.cells A 9)).alloc (.cells Z 167)) hin (fun j _ => by rw [Nat.zero_add]; exact hf _)
    (fun v hv => by
      rcases List.mem_or_eq_of_mem_set hv with hv | rfl
      · exact h1 v hv
      · rfl)
  refine ⟨_, hrun, ?_⟩
  have hcell : ∀ j v, (Z.toList.set 256 (.slice (some ⟨w.heap.size, 0, none⟩) 0 2))[j]? = some v → (((w.alloc (.cells A 9)).alloc (.cells Z 167)).setCells (w.heap.size + 1) 0 (Z.toList.set 256 (.slice (some ⟨w.heap.size, 0, none⟩) 0 2))).cell? ⟨w.heap.size + 1, j, none⟩ = some v := fun j v hj => by
    obtain ⟨hjl, hje⟩ := List.getElem?_eq_some_iff.1 hj
    have := World.cell?_setCells_in (w.heap.size + 1) (Z.toList.set 256 (.slice (some ⟨w.heap.size, 0, none⟩) 0 2)) 0 ((w.alloc (.cells A 9)).alloc (.cells Z 167)) (fun j hj => hin j hj) j hjl
    rw [Nat.zero_add] at this
    rw [this, ← hje]
  have hsz : (((w.alloc (.cells A 9)).alloc (.cells Z 167)).setCells (w.heap.size + 1) 0 (Z.toList.set 256 (.slice (some ⟨w.heap.size, 0, none⟩) 0 2))).heap.size = w.heap.size + 2 := by
    rw [← hs1]
    generalize Z.toList.set 256 _ = vs
    generalize ((w.alloc (.cells A 9)).alloc (.cells Z 167)) = W
    generalize (0 : Nat) = o
    induction vs generalizing W o with
    | nil => rfl
    | cons v vs ih => simp only [World.setCells]; rw [ih]; simp
  have hbel : Below w.heap.size w (((w.alloc (.cells A 9)).alloc (.cells Z 167)).setCells (w.heap.size + 1) 0 (Z.toList.set 256 (.slice (some ⟨w.heap.size, 0, none⟩) 0 2))) := by
    have h0 : Below w.heap.size w ((w.alloc (.cells A 9)).alloc (.cells Z 167)) := ((Below.refl _ _).alloc (Nat.le_refl _) _).alloc (by simp) _
    generalize Z.toList.set 256 _ = vs
    generalize ((w.alloc (.cells A 9)).alloc (.cells Z 167)) = W at h0 ⊢
    generalize (0 : Nat) = o
    induction vs generalizing W o with
    | nil => exact h0
    | cons v vs ih => simp only [World.setCells]; exact ih _ (h0.setCell (p := ⟨w.heap.size + 1, o, none⟩) (by show w.heap.size ≤ w.heap.size + 1; omega) v) _
  refine ⟨hbel, by rw [Nat.zero_add] at *; rw [hsz]; exact Nat.le_refl _, fun f hf' => ?_, ?_, fun f => ?_, fun f => ?_, fun j hj => ?_, rfl, fun j u hu => by simp at hu⟩
  · refine ⟨.slice none 0 0, hcell f _ ?_, rfl⟩
    rw [List.getElem?_set_ne (by omega), Array.getElem?_toList]
    exact hz f hf'
  · exact hcell 256 _ (by rw [List.getElem?_set_self (by simp [hZ])])
  · rw [World.frozen?_setCells]; exact hf f
  · rw [World.frozen?_setCells]; exact hf0 f
  · rw [World.cell?_setCells_out _ _ _ _ _ (fun h => by simp at h), hc0, Array.getElem?_eq_getElem (by omega)]; rfl
