/- The abstract state of the Vc layer: pure data, abstract values, boxes, and how they are read in a world of the model. -/
import Derived.WalkKit
import Derived.BigQuiet
import Derived.Deep.QuietTactic
set_option linter.all false
namespace Go.Vc
open Go Go.RowKit

/-- Pure data, as a cell of memory or a temporary holds it. -/
inductive D where
  | bool (b : Bool)
  | int (k : IntKind) (n : Int)
  | str (s : List UInt8)
  | sl (xs : List (List D))
  | nils
  | nilp
  | ptr (cells : List D)
  deriving Inhabited

/-- An abstract value. -/
inductive AV where
  | any
  | d (x : D)
  | ip (sz : Nat) (xs : List (List D)) (e f : Nat)
  | sl (id off len : Nat)
  | ptr (id e f : Nat)
  | agg (cs : List AV)
  | tup (vs : List AV)
  | clo (fn : Fn) (cap : List AV)
  | cond (b : Bool) (v : AV)
  deriving Inhabited

/-- Where a box lies. -/
structure Lay where
  blk : Option Nat
  sz : Nat
  cap : Nat

/-- A box: a row of elements of pure data, or one record of cells. -/
inductive Box where
  | vec (ty : TypeId) (sz : Nat) (xs : List (List D))
  | one (ty : TypeId) (cells : List AV)

def at2 {α : Type} (xs : List (List α)) (e f : Nat) : Option α := (xs[e]?).bind (·[f]?)

theorem at2_some {α : Type} {xs : List (List α)} {e f : Nat} {c : α} (h : at2 xs e f = some c) : ∃ x, xs[e]? = some x ∧ x[f]? = some c := by
  unfold at2 at h
  cases hx : xs[e]? with
  | none => rw [hx] at h; cases h
  | some x => rw [hx] at h; exact ⟨x, rfl, h⟩

/-- Pure data read in a world, off the owned blocks. -/
inductive RD (w : World) (O : Nat → Prop) : D → Value → Prop
  | bool (b : Bool) : RD w O (.bool b) (.bool b)
  | int (k : IntKind) (n : Int) : RD w O (.int k n) (.int k n)
  | str (s : List UInt8) : RD w O (.str s) (.string ⟨s.toArray⟩)
  | sl0 (a : Option Addr) (cap : Nat) : RD w O (.sl []) (.slice a 0 cap)
  | nils : RD w O .nils (.slice none 0 0)
  | sl (xs : List (List D)) (sz b o cap : Nat) (u : Nat → Nat → Value) (hl : xs.length ≤ cap) (hb : b < w.heap.size) (hO : ¬ O b) (hz : ∀ x ∈ xs, x.length = sz)
      (hc : ∀ e f c, at2 xs e f = some c → w.cell? ⟨b, o + e * sz + f, none⟩ = some (u e f)) (hr : ∀ e f c, at2 xs e f = some c → RD w O c (u e f)) : RD w O (.sl xs) (.slice (some ⟨b, o, none⟩) xs.length cap)
  | nilp : RD w O .nilp (.pointer none)
  | ptr (cs : List D) (b o : Nat) (u : Nat → Value) (hb : b < w.heap.size) (hO : ¬ O b)
      (hc : ∀ f c, cs[f]? = some c → w.cell? ⟨b, o + f, none⟩ = some (u f)) (hr : ∀ f c, cs[f]? = some c → RD w O c (u f)) : RD w O (.ptr cs) (.pointer (some ⟨b, o, none⟩))

theorem cell_same {w w' : World} {a : Addr} (h : w'.heap[a.block]? = w.heap[a.block]?) : w'.cell? a = w.cell? a := World.cell?_of_block h

theorem RD.ext {w w' : World} {O O' : Nat → Prop} (hs : w.heap.size ≤ w'.heap.size) (hm : ∀ b, b < w.heap.size → ¬ O b → w'.heap[b]? = w.heap[b]?) (hO : ∀ b, b < w.heap.size → ¬ O b → ¬ O' b)
    {d : D} {v : Value} (h : RD w O d v) : RD w' O' d v := by
  induction h with
  | bool b => exact .bool b
  | int k n => exact .int k n
  | str s => exact .str s
  | sl0 a cap => exact .sl0 a cap
  | nils => exact .nils
  | sl xs sz b o cap u hl hb hO' hz hc _ ih => exact .sl xs sz b o cap u hl (by omega) (hO b hb hO') hz (fun e f c h => (cell_same (hm b hb hO')).trans (hc e f c h)) ih
  | nilp => exact .nilp
  | ptr cs b o u hb hO' hc _ ih => exact .ptr cs b o u (by omega) (hO b hb hO') (fun f c h => (cell_same (hm b hb hO')).trans (hc f c h)) ih

theorem RD.one {w : World} {O : Nat → Prop} {d : D} {v : Value} (h : RD w O d v) : v.oneCell' = true := by cases h <;> rfl

/-- The layout of the live boxes. -/
abbrev Lays := Nat → Option Lay
/-- Blocks that are somebody else's. -/
class Far where
  F : Nat → Prop
  nev : Nat → Prop
  sub : ∀ b, F b → nev b
  pin : Nat → Option Lay
  np : Nat
  marks : Bool
variable [Far]
def own (S : Lays) (b : Nat) : Prop := Far.F b ∨ ∃ id l, S id = some l ∧ l.blk = some b

/-- An abstract value read in a world. -/
inductive R (w : World) (S : Lays) (n : Nat) : AV → Value → Prop
  | any (v : Value) : R w S n .any v
  | d {x : D} {v : Value} (h : RD w (own S) x v) : R w S n (.d x) v
  | ip (sz : Nat) (xs : List (List D)) (e f b o : Nat) (u : Nat → Nat → Value) (hb : b < w.heap.size) (hO : ¬ own S b)
      (hc : ∀ e f c, at2 xs e f = some c → w.cell? ⟨b, o + e * sz + f, none⟩ = some (u e f)) (hr : ∀ e f c, at2 xs e f = some c → RD w (own S) c (u e f)) :
      R w S n (.ip sz xs e f) (.pointer (some ⟨b, o + e * sz + f, none⟩))
  | slDead (id off len : Nat) (v : Value) (hn : id < n) (h : S id = none) : R w S n (.sl id off len) v
  | sl (id off len o : Nat) (l : Lay) (hn : id < n) (h : S id = some l) (hc : off + len ≤ l.cap) (ho : off < l.cap → o = off * l.sz) (h0 : off = 0 → o = 0) :
      R w S n (.sl id off len) (.slice (l.blk.map fun b => ⟨b, o, none⟩) len (l.cap - off))
  | ptrDead (id e f : Nat) (v : Value) (hn : id < n) (h : S id = none) : R w S n (.ptr id e f) v
  | ptr (id e f b : Nat) (l : Lay) (hn : id < n) (h : S id = some l) (hb : l.blk = some b) : R w S n (.ptr id e f) (.pointer (some ⟨b, e * l.sz + f, none⟩))
  | agg (cs : List AV) (us : List Value) (hl : us.length = cs.length) (h1 : ∀ u ∈ us, u.oneCell' = true) (hr : ∀ (i : Nat) (c : AV) (u : Value), cs[i]? = some c → us[i]? = some u → R w S n c u) : R w S n (.agg cs) (.agg us.toArray)
  | tup (cs : List AV) (us : List Value) (hl : us.length = cs.length) (hr : ∀ (i : Nat) (c : AV) (u : Value), cs[i]? = some c → us[i]? = some u → R w S n c u) : R w S n (.tup cs) (.tuple us.toArray)
  | clo (fn : Fn) (cs : List AV) (us : List Value) (hl : us.length = cs.length) (hr : ∀ (i : Nat) (c : AV) (u : Value), cs[i]? = some c → us[i]? = some u → R w S n c u) : R w S n (.clo fn cs) (.func fn #[] us.toArray)
  | cond (b : Bool) (c : AV) (v : Value) (hr : b = true → R w S n c v) (hu : b = false → v = undef) : R w S n (.cond b c) v

/-- How memory and the layout may turn without turning what is read. -/
structure Ext (w : World) (S : Lays) (n : Nat) (w' : World) (S' : Lays) (n' : Nat) : Prop where
  le : n ≤ n'
  size : w.heap.size ≤ w'.heap.size
  old : ∀ id, id < n → S' id = S id ∨ S' id = none
  new : ∀ b, b < w.heap.size → ¬ own S b → ¬ own S' b
  same : ∀ b, b < w.heap.size → ¬ own S b → w'.heap[b]? = w.heap[b]?

theorem Ext.rd {w w' : World} {S S' : Lays} {n n' : Nat} (h : Ext w S n w' S' n') {d : D} {v : Value} (hr : RD w (own S) d v) : RD w' (own S') d v := hr.ext h.size h.same h.new

theorem Ext.r {w w' : World} {S S' : Lays} {n n' : Nat} (h : Ext w S n w' S' n') {c : AV} {v : Value} (hr : R w S n c v) : R w' S' n' c v := by
  induction hr with
  | any v => exact .any v
  | d hx => exact .d (h.rd hx)
  | ip sz xs e f b o u hb hO hc hr => exact .ip sz xs e f b o u (by have := h.size; omega) (h.new b hb hO) (fun e f c hh => (cell_same (h.same b hb hO)).trans (hc e f c hh)) (fun e f c hh => h.rd (hr e f c hh))
  | slDead id off len v hn hS =>
    refine .slDead id off len v (by have := h.le; omega) ?_
    rcases h.old id hn with e | e <;> simp [e, hS]
  | sl id off len o l hn hS hc ho h0 =>
    rcases h.old id hn with e | e
    · exact .sl id off len o l (by have := h.le; omega) (e.trans hS) hc ho h0
    · exact .slDead id off len _ (by have := h.le; omega) e
  | ptrDead id e f v hn hS =>
    refine .ptrDead id e f v (by have := h.le; omega) ?_
    rcases h.old id hn with e | e <;> simp [e, hS]
  | ptr id e f b l hn hS hb =>
    rcases h.old id hn with e' | e'
    · exact .ptr id e f b l (by have := h.le; omega) (e'.trans hS) hb
    · exact .ptrDead id e f _ (by have := h.le; omega) e'
  | agg cs us hl h1 _ ih => exact .agg cs us hl h1 ih
  | tup cs us hl _ ih => exact .tup cs us hl ih
  | clo fn cs us hl _ ih => exact .clo fn cs us hl ih
  | cond b c v _ hu ih => exact .cond b c v ih hu

theorem Ext.refl (w : World) (S : Lays) (n : Nat) : Ext w S n w S n := ⟨Nat.le_refl _, Nat.le_refl _, fun _ _ => .inl rfl, fun _ _ h => h, fun _ _ _ => rfl⟩

theorem Ext.trans {w w' w'' : World} {S S' S'' : Lays} {n n' n'' : Nat} (h : Ext w S n w' S' n') (k : Ext w' S' n' w'' S'' n'') : Ext w S n w'' S'' n'' where
  le := Nat.le_trans h.le k.le
  size := Nat.le_trans h.size k.size
  old id hid := by
    rcases k.old id (by have := h.le; omega) with e | e
    · rw [e]; exact h.old id hid
    · exact .inr e
  new b hb hO := k.new b (by have := h.size; omega) (h.new b hb hO)
  same b hb hO := (k.same b (by have := h.size; omega) (h.new b hb hO)).trans (h.same b hb hO)

/-- A box as it lies. -/
def BoxOk (w : World) (S : Lays) (n : Nat) : Box → Lay → Prop
  | .vec ty sz xs, l => l.sz = sz ∧ l.cap ≤ maxLen ∧ xs.length ≤ l.cap ∧ (∀ x ∈ xs, x.length = sz) ∧ (l.blk = none → l.cap = 0) ∧ ∀ b, l.blk = some b → ∃ cur, w.heap[b]? = some (.cells cur ty (0, 0)) ∧ cur.size = l.cap * sz ∧
      ∀ e f c, at2 xs e f = some c → ∃ u, cur[e * sz + f]? = some u ∧ RD w (own S) c u
  | .one ty cells, l => l.sz = cells.length ∧ l.cap = 1 ∧ ∃ b, l.blk = some b ∧ ∃ cur, w.heap[b]? = some (.cells cur ty (0, 0)) ∧ cur.size = cells.length ∧
      ∀ (f : Nat) (c : AV), cells[f]? = some c → ∃ u, cur[f]? = some u ∧ u.oneCell' = true ∧ R w S n c u

abbrev Heap := Nat → Option Box

/-- The world as the boxes describe it, against the world W0 at the call's beginning; M0: the old blocks that may turn. -/
structure HeapOk (W0 : World) (M0 : Nat → Prop) (H : Heap) (n : Nat) (w : World) (S : Lays) : Prop where
  bnd : ∀ id, n ≤ id → S id = none
  lt_ : ∀ i l b, S i = some l → l.blk = some b → b < w.heap.size
  box : ∀ id b, H id = some b → ∃ l, S id = some l ∧ BoxOk w S n b l
  inj : ∀ i j l l' b, S i = some l → S j = some l' → l.blk = some b → l'.blk = some b → i = j
  mut_ : ∀ i l b, (H i).isSome = true → S i = some l → l.blk = some b → W0.heap.size ≤ b ∨ M0 b
  os : w.os = W0.os
  tape : w.tape = W0.tape
  output : w.output = W0.output
  size : W0.heap.size ≤ w.heap.size
  same : ∀ b, b < W0.heap.size → ¬ M0 b → w.heap[b]? = W0.heap[b]?
  far : ∀ b, Far.nev b → b < W0.heap.size ∧ ∀ i l, S i = some l → l.blk ≠ some b
  pin : ∀ i, i < Far.np → i < n ∧ (S i = Far.pin i ∨ S i = none)

/-- The temporaries as the frame describes them. -/
structure FrOk (w : World) (S : Lays) (n N : Nat) (fr : Nat → AV) (a : Act) : Prop where
  size : a.tmps.size = N
  at_ : ∀ i, R w S n (fr i) (a.tmps.getD i undef)

/-- A state: the frame, the boxes, the next box's number. -/
structure St where
  fr : Nat → AV
  H : Heap
  n : Nat

/-- What ranges over functions have left among the deferred calls: marks at blocks that hold none. -/
structure Marks (W0 w : World) (S : Lays) (ds : List Deferred) : Prop where
  let_ : Far.marks = false → ds = []
  apart : ds.Pairwise fun d e => d.target ≠ e.target
  at_ : ∀ d ∈ ds, ∃ D, d.target = .collected D ∧ W0.heap.size ≤ D ∧ w.heap[D]? = some (.deferred (some [])) ∧ ¬ own S D

theorem Marks.nil (W0 w : World) (S : Lays) : Marks W0 w S [] := ⟨fun _ => rfl, List.Pairwise.nil, fun d h => by cases h⟩

theorem Marks.ext {W0 w w' : World} {S S' : Lays} {n n' : Nat} {ds : List Deferred} (h : Marks W0 w S ds) (k : Ext w S n w' S' n') : Marks W0 w' S' ds :=
  ⟨h.let_, h.apart, fun d hd => by
    obtain ⟨D, h1, h2, h3, h4⟩ := h.at_ d hd
    have hD : D < w.heap.size := (Array.getElem?_eq_some_iff.1 h3).1
    exact ⟨D, h1, h2, (k.same D hD h4).trans h3, k.new D hD h4⟩⟩

def Sim (W0 : World) (M0 : Nat → Prop) (N : Nat) (st : St) (a : Act) (w : World) : Prop :=
  ∃ S, HeapOk W0 M0 st.H st.n w S ∧ FrOk w S st.n N st.fr a ∧ Marks W0 w S a.defers

def upd {α : Type} (f : Nat → α) (i : Nat) (x : α) : Nat → α := fun j => if j = i then x else f j
theorem upd_app {α : Type} (f : Nat → α) (i : Nat) (x : α) (j : Nat) : upd f i x j = if j = i then x else f j := rfl

theorem tmps_put {a : Act} {d : Nat} {v : Value} (hd : d < a.tmps.size) (i : Nat) : (a.put (some d) v).tmps.getD i undef = if i = d then v else a.tmps.getD i undef := by
  simp only [Act.put, Array.getD_eq_getD_getElem?, Array.getElem?_setIfInBounds]
  by_cases h : i = d
  · subst h; simp [hd]
  · have : d ≠ i := fun e => h e.symm
    simp [this, h]

theorem FrOk.put {w : World} {S : Lays} {n N d : Nat} {fr : Nat → AV} {a : Act} {v : Value} {c : AV} (h : FrOk w S n N fr a) (hd : d < N) (hc : R w S n c v) : FrOk w S n N (upd fr d c) (a.put (some d) v) := by
  refine ⟨?_, fun i => ?_⟩
  · simp only [Act.put, Array.size_setIfInBounds]; exact h.size
  · rw [tmps_put (by rw [h.size]; exact hd), upd_app]
    split
    · exact hc
    · exact h.at_ i

theorem FrOk.ext {w w' : World} {S S' : Lays} {n n' N : Nat} {fr : Nat → AV} {a : Act} (h : FrOk w S n N fr a) (k : Ext w S n w' S' n') : FrOk w' S' n' N fr a :=
  ⟨h.size, fun i => k.r (h.at_ i)⟩

#print axioms Ext.r
end Go.Vc
