/- The Vc layer: how memory turns: new boxes, boxes that are let go, boxes that are written; allocations, make. -/
import Derived.Test.YtaoifpmifpmhmaaVc6
import Derived.Maps.AppendAt
import Derived.Laws.MakeOwn
set_option linter.all false
namespace Go.Vc
open Go Go.RowKit
variable [Far]

def kill {α : Type} (k : Option Nat) (f : Nat → Option α) : Nat → Option α :=
  match k with
  | some id => upd f id none
  | none => f

theorem kill_cases {α : Type} (k : Option Nat) (f : Nat → Option α) (i : Nat) : kill k f i = f i ∧ k ≠ some i ∨ kill k f i = none := by
  cases k with
  | none => exact .inl ⟨rfl, by simp⟩
  | some id =>
    unfold kill
    simp only [upd_app]
    by_cases h : i = id
    · simp [h]
    · simp [h, Ne.symm h]

section
variable {P : Program} {X : Ctx P} {w w' : World} {S : Lays} {n : Nat} {W0 : World} {M0 : Nat → Prop} {H : Heap}

theorem BoxOk.ext {S' : Lays} {n' : Nat} {b : Box} {l : Lay} (h : BoxOk w S n b l) (hE : Ext w S n w' S' n') (hs : ∀ k, l.blk = some k → w'.heap[k]? = w.heap[k]?) : BoxOk w' S' n' b l := by
  cases b with
  | vec ty sz xs =>
    obtain ⟨h1, h2, h3, h4, h5, h6⟩ := h
    refine ⟨h1, h2, h3, h4, h5, fun k hk => ?_⟩
    obtain ⟨cur, hc, hz, hr⟩ := h6 k hk
    refine ⟨cur, (hs k hk).trans hc, hz, fun e f c hh => ?_⟩
    obtain ⟨u, hu, hR⟩ := hr e f c hh
    exact ⟨u, hu, hE.rd hR⟩
  | one ty cells =>
    obtain ⟨h1, h2, k, hk, cur, hc, hz, hr⟩ := h
    refine ⟨h1, h2, k, hk, cur, (hs k hk).trans hc, hz, fun f c hh => ?_⟩
    obtain ⟨u, hu, h1', hR⟩ := hr f c hh
    exact ⟨u, hu, h1', hE.r hR⟩

/-- A new box, perhaps in the place of one that is let go. -/
theorem HeapOk.new (hH : HeapOk W0 M0 H n w S) (k : Option Nat) (b : Box) (l : Lay) (hklive : ∀ id, k = some id → (H id).isSome = true)
    (os : w'.os = w.os) (tape : w'.tape = w.tape) (output : w'.output = w.output) (hsz : w.heap.size ≤ w'.heap.size)
    (hsame : ∀ c, c < w.heap.size → (∀ id l', k = some id → S id = some l' → l'.blk ≠ some c) → w'.heap[c]? = w.heap[c]?)
    (hblk : ∀ c, l.blk = some c → w.heap.size ≤ c ∨ ∃ id l', k = some id ∧ S id = some l' ∧ l'.blk = some c) (hlt : ∀ c, l.blk = some c → c < w'.heap.size)
    (hbox : Ext w S n w' (upd (kill k S) n (some l)) (n + 1) → BoxOk w' (upd (kill k S) n (some l)) (n + 1) b l) :
    HeapOk W0 M0 (upd (kill k H) n (some b)) (n + 1) w' (upd (kill k S) n (some l)) ∧ Ext w S n w' (upd (kill k S) n (some l)) (n + 1) := by
  have hE : Ext w S n w' (upd (kill k S) n (some l)) (n + 1) := by
    refine ⟨by omega, hsz, fun id hid => ?_, fun c hc hO => ?_, fun c hc hO => ?_⟩
    · rw [upd_app, if_neg (by omega)]
      rcases kill_cases k S id with ⟨h, _⟩ | h
      · exact .inl h
      · exact .inr h
    · rintro (hf | ⟨id, l', h1, h2⟩)
      · exact hO (.inl hf)
      rw [upd_app] at h1
      split at h1
      · cases h1
        rcases hblk c h2 with h | ⟨id', l', _, h3, h4⟩
        · omega
        · exact hO (.inr ⟨id', l', h3, h4⟩)
      · rcases kill_cases k S id with ⟨h, _⟩ | h
        · exact hO (.inr ⟨id, l', by rw [← h]; exact h1, h2⟩)
        · rw [h] at h1; cases h1
    · exact hsame c hc (fun id l' _ h2 h3 => hO (.inr ⟨id, l', h2, h3⟩))
  have get : ∀ i li, upd (kill k S) n (some l) i = some li → (i = n ∧ li = l) ∨ (i ≠ n ∧ S i = some li ∧ k ≠ some i) := fun i li h => by
    rw [upd_app] at h
    split at h
    · cases h; exact .inl ⟨by assumption, rfl⟩
    · rcases kill_cases k S i with ⟨h', hk⟩ | h'
      · exact .inr ⟨by assumption, by rw [← h']; exact h, hk⟩
      · rw [h'] at h; cases h
  refine ⟨?_, hE⟩
  constructor
  · intro id hid
    rw [upd_app, if_neg (by omega)]
    rcases kill_cases k S id with ⟨h, _⟩ | h
    · rw [h]; exact hH.bnd id (by omega)
    · exact h
  · intro i li c hi hc
    rcases get i li hi with ⟨rfl, rfl⟩ | ⟨_, hSi, _⟩
    · exact hlt c hc
    · have := hH.lt_ i li c hSi hc; omega
  · intro id b' hb'
    rw [upd_app] at hb'
    split at hb'
    · rename_i hid
      cases hb'
      exact ⟨l, by rw [upd_app, if_pos hid], hbox hE⟩
    · rename_i hid
      rcases kill_cases k H id with ⟨h, hk⟩ | h
      · rw [h] at hb'
        obtain ⟨l', hl', hB⟩ := hH.box id b' hb'
        refine ⟨l', ?_, hB.ext hE (fun c hc => ?_)⟩
        · rw [upd_app, if_neg hid]
          cases k with
          | none => exact hl'
          | some j =>
            show upd S j none id = some l'
            rw [upd_app, if_neg (fun e => hk (by rw [e]))]
            exact hl'
        · refine hsame c (hH.lt_ id l' c hl' hc) (fun id' l'' h1 h2 h3 => ?_)
          have := hH.inj id' id l'' l' c h2 hl' h3 hc
          exact hk (by rw [h1, this])
      · rw [h] at hb'; cases hb'
  · intro i j li lj c hi hj hci hcj
    rcases get i li hi with ⟨rfl, rfl⟩ | ⟨hin, hSi, hki⟩ <;> rcases get j lj hj with ⟨rfl, rfl⟩ | ⟨hjn, hSj, hkj⟩
    · rfl
    · rcases hblk c hci with h | ⟨id, l', h1, h2, h3⟩
      · have := hH.lt_ j lj c hSj hcj; omega
      · exact absurd (by rw [h1, hH.inj id j l' lj c h2 hSj h3 hcj]) hkj
    · rcases hblk c hcj with h | ⟨id, l', h1, h2, h3⟩
      · have := hH.lt_ i li c hSi hci; omega
      · exact absurd (by rw [h1, hH.inj id i l' li c h2 hSi h3 hci]) hki
    · exact hH.inj i j li lj c hSi hSj hci hcj
  · intro i li c hlive hi hc
    rcases get i li hi with ⟨rfl, rfl⟩ | ⟨hin, hSi, hki⟩
    · rcases hblk c hc with h | ⟨id, l', h1, h2, h3⟩
      · left; have := hH.size; omega
      · exact hH.mut_ id l' c (hklive id h1) h2 h3
    · refine hH.mut_ i li c ?_ hSi hc
      rw [upd_app, if_neg hin] at hlive
      rcases kill_cases k H i with ⟨h', _⟩ | h'
      · rw [← h']; exact hlive
      · rw [h'] at hlive; cases hlive
  · exact os.trans hH.os
  · exact tape.trans hH.tape
  · exact output.trans hH.output
  · have := hH.size; omega
  · intro c hc hM
    rw [hsame c (by have := hH.size; omega) (fun id l' h1 h2 h3 => ?_)]
    · exact hH.same c hc hM
    · rcases hH.mut_ id l' c (hklive id h1) h2 h3 with h | h
      · omega
      · exact hM h
  · intro c hf
    obtain ⟨h1, h2⟩ := hH.far c hf
    refine ⟨h1, fun i li hi hc => ?_⟩
    rcases get i li hi with ⟨rfl, rfl⟩ | ⟨_, hSi, _⟩
    · rcases hblk c hc with h | ⟨id, l', _, h3, h4⟩
      · have := hH.size; omega
      · exact h2 id l' h3 h4
    · exact h2 i li hSi hc
  · intro i hp
    obtain ⟨h1, h2⟩ := hH.pin i hp
    refine ⟨by omega, ?_⟩
    rw [upd_app, if_neg (by omega)]
    rcases kill_cases k S i with ⟨h, _⟩ | h
    · rw [h]; exact h2
    · exact .inr h

/-- A box is let go: its row is then known as data that nobody writes. -/
theorem HeapOk.drop (hH : HeapOk W0 M0 H n w S) (id : Nat) : HeapOk W0 M0 (upd H id none) n w (upd S id none) ∧ Ext w S n w (upd S id none) n := by
  have hE : Ext w S n w (upd S id none) n := by
    refine ⟨Nat.le_refl _, Nat.le_refl _, fun i hi => ?_, fun c hc hO => ?_, fun _ _ _ => rfl⟩
    · rw [upd_app]; split
      · exact .inr rfl
      · exact .inl rfl
    · rintro (hf | ⟨i, l, h1, h2⟩)
      · exact hO (.inl hf)
      rw [upd_app] at h1
      split at h1
      · cases h1
      · exact hO (.inr ⟨i, l, h1, h2⟩)
  refine ⟨?_, hE⟩
  constructor
  · intro i hi
    rw [upd_app]; split
    · rfl
    · exact hH.bnd i hi
  · intro i l c hi hc
    rw [upd_app] at hi
    split at hi
    · cases hi
    · exact hH.lt_ i l c hi hc
  · intro i b hb
    rw [upd_app] at hb
    split at hb
    · cases hb
    · rename_i h
      obtain ⟨l, hl, hB⟩ := hH.box i b hb
      exact ⟨l, by rw [upd_app, if_neg h]; exact hl, hB.ext hE (fun _ _ => rfl)⟩
  · intro i j li lj c hi hj hci hcj
    rw [upd_app] at hi hj
    split at hi
    · cases hi
    · split at hj
      · cases hj
      · exact hH.inj i j li lj c hi hj hci hcj
  · intro i li c hlive hi hc
    rw [upd_app] at hi hlive
    split at hi
    · cases hi
    · rename_i h
      rw [if_neg h] at hlive
      exact hH.mut_ i li c hlive hi hc
  · exact hH.os
  · exact hH.tape
  · exact hH.output
  · exact hH.size
  · exact hH.same
  · intro c hf
    obtain ⟨h1, h2⟩ := hH.far c hf
    refine ⟨h1, fun i li hi hc => ?_⟩
    rw [upd_app] at hi
    split at hi
    · cases hi
    · exact h2 i li hi hc
  · intro i hp
    obtain ⟨h1, h2⟩ := hH.pin i hp
    refine ⟨h1, ?_⟩
    rw [upd_app]
    split
    · exact .inr rfl
    · exact h2

/-- A live box is written in its place. -/
theorem HeapOk.write (hH : HeapOk W0 M0 H n w S) {id : Nat} {l : Lay} {c : Nat} (hS : S id = some l) (hc : l.blk = some c) (b : Box) (hlive : (H id).isSome = true)
    (os : w'.os = w.os) (tape : w'.tape = w.tape) (output : w'.output = w.output) (hsz : w'.heap.size = w.heap.size)
    (hsame : ∀ d, d ≠ c → w'.heap[d]? = w.heap[d]?) (hbox : Ext w S n w' S n → BoxOk w' S n b l) :
    HeapOk W0 M0 (upd H id (some b)) n w' S ∧ Ext w S n w' S n := by
  have hE : Ext w S n w' S n := ⟨Nat.le_refl _, by omega, fun _ _ => .inl rfl, fun _ _ h => h, fun d hd hO => hsame d (fun e => hO (.inr ⟨id, l, hS, by rw [e]; exact hc⟩))⟩
  refine ⟨?_, hE⟩
  constructor
  · exact hH.bnd
  · intro i l' d hi hd
    rw [hsz]; exact hH.lt_ i l' d hi hd
  · intro i b' hb'
    rw [upd_app] at hb'
    split at hb'
    · rename_i h; cases hb'
      exact ⟨l, by rw [h]; exact hS, hbox hE⟩
    · rename_i h
      obtain ⟨l', hl', hB⟩ := hH.box i b' hb'
      exact ⟨l', hl', hB.ext hE (fun d hd => hsame d (fun e => h (hH.inj i id l' l c hl' hS (by rw [← e]; exact hd) hc)))⟩
  · exact hH.inj
  · intro i li d hl hi hd
    rw [upd_app] at hl
    split at hl
    · rename_i h; subst h
      exact hH.mut_ i li d hlive hi hd
    · exact hH.mut_ i li d hl hi hd
  · exact os.trans hH.os
  · exact tape.trans hH.tape
  · exact output.trans hH.output
  · rw [hsz]; exact hH.size
  · intro d hd hM
    rw [hsame d (fun e => ?_)]
    · exact hH.same d hd hM
    · rcases hH.mut_ id l c hlive hS hc with h | h
      · omega
      · exact hM (by rw [e]; exact h)
  · exact hH.far
  · exact hH.pin

/-- A box in a block just made. -/
theorem HeapOk.alloc (hH : HeapOk W0 M0 H n w S) {w1 : World} (hw : w1.heap = w.heap ∧ w1.os = w.os ∧ w1.tape = w.tape ∧ w1.output = w.output) (cur : Array Value) (ty : TypeId) (b : Box) (sz cap : Nat)
    (hbox : ∀ S' n', Ext w S n (w1.alloc (.cells cur ty)) S' n' → (w1.alloc (.cells cur ty)).heap[w.heap.size]? = some (.cells cur ty (0, 0)) → BoxOk (w1.alloc (.cells cur ty)) S' n' b ⟨some w.heap.size, sz, cap⟩) :
    HeapOk W0 M0 (upd H n (some b)) (n + 1) (w1.alloc (.cells cur ty)) (upd S n (some ⟨some w.heap.size, sz, cap⟩)) ∧ Ext w S n (w1.alloc (.cells cur ty)) (upd S n (some ⟨some w.heap.size, sz, cap⟩)) (n + 1) := by
  obtain ⟨h1, h2, h3, h4⟩ := hw
  have hnew : (w1.alloc (.cells cur ty)).heap[w.heap.size]? = some (.cells cur ty (0, 0)) := by
    rw [← h1]; exact heap_alloc_new w1 _
  exact hH.new none b ⟨some w.heap.size, sz, cap⟩ (fun id h => by cases h) h2 h3 h4 (by rw [World.size_alloc, h1]; omega)
    (fun c hc _ => by rw [Below.heap_alloc w1 _ c (by rw [h1]; exact hc), h1]) (fun c hc => by cases hc; exact .inl (Nat.le_refl _)) (fun c hc => by cases hc; rw [World.size_alloc, h1]; omega) (fun hE => hbox _ _ hE hnew)

theorem one_of_cells {ty : TypeId} {cs : List AV} {cells : Array Value} {k : Nat} (hh : w.heap[k]? = some (.cells cells ty (0, 0))) (hs : cells.size = cs.length)
    (hc : ∀ (i : Nat) (c : AV), cs[i]? = some c → ∃ u, cells[i]? = some u ∧ u.oneCell' = true ∧ R w S n c u) : BoxOk w S n (.one ty cs) ⟨some k, cs.length, 1⟩ :=
  ⟨rfl, rfl, k, rfl, cells, hh, hs, hc⟩
end
end Go.Vc
