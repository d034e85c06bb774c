/- The Vc layer, part 1. -/
import Derived.WalkKit
import Derived.BigQuiet
import Derived.Deep.QuietTactic
import Derived.Laws.StructEq
import Derived.Laws.IdiomStrings
import Derived.Laws.BytesArg
import Derived.Maps.AppendAt
import Derived.Laws.MakeOwn
import Derived.Laws.IdiomCopy
/- The abstract state of the Vc layer: pure data, abstract values, boxes, and how they are read in a world of the model. -/
set_option linter.all false
namespace Go.Vc
open Go Go.RowKit
inductive D where
 | bool (b : Bool)
 | int (k : IntKind) (n : Int)
 | str (s : List UInt8)
 | sl (xs : List (List D))
 | nils
 | nilp
 | ptr (cells : List D)
 | raw (v : Value)
 | ifc (b : Bool)
 deriving Inhabited
inductive AV where
 | any
 | d (x : D)
 | ip (sz : Nat) (xs : List (List D)) (e f : Nat)
 | sl (id off len : Nat)
 | ptr (id e f : Nat)
 | mp (id : Nat)
 | agg (cs : List AV)
 | tup (vs : List AV)
 | clo (fn : Fn) (cap : List AV)
 | cond (b : Bool) (v : AV)
 deriving Inhabited
structure Lay where
 blk : Option Nat
 sz : Nat
 cap : Nat
 subs : List Nat := []
def Lay.has (l : Lay) (b : Nat) : Prop := l.blk = some b ∨ b ∈ l.subs
inductive OB where
 | uv (ty : TypeId) (sz f : Nat) (ety : TypeId) (esz : Nat) (ps : List (List D × List (List D)))
 | bag (ety : TypeId) (esz : Nat) (m : List (Value × List (List D)))
 | full (ty : TypeId) (sz : Nat) (xs : List (List D)) (c : Nat)
 | mapI (m : List (Int × Bool))
 | rng (bi : Nat) (m : List (Int × Bool)) (seen : List Int)
 | bfr (ety : TypeId) (bs : List UInt8) (fz : Bool)
inductive B7 where
 | vec (ty : TypeId) (sz : Nat) (xs : List (List D))
 | one (ty : TypeId) (cells : List AV)
 | ob (o : OB)
def D4 {α : Type} (xs : List (List α)) (e f : Nat) : Option α := (xs[e]?).bind (·[f]?)
theorem B4 {α : Type} {xs : List (List α)} {e f : Nat} {c : α} (h : D4 xs e f = some c) : ∃ x, xs[e]? = some x ∧ x[f]? = some c := by
 unfold D4 at h
 cases hx : xs[e]? with
 | none => rw [hx] at h; cases h
 | some x => rw [hx] at h; exact ⟨x, rfl, h⟩
inductive RD (w : World) (O : Nat → Prop) : D → Value → Prop
 | bool (b : Bool) : RD w O (.bool b) (.bool b)
 | int (k : IntKind) (n : Int) : RD w O (.int k n) (.int k n)
 | str (s : List UInt8) : RD w O (.str s) (.string ⟨s.toArray⟩)
 | sl0 (a : Option Addr) (cap : Nat) : RD w O (.sl []) (.slice a 0 cap)
 | nils : RD w O .nils (.slice none 0 0)
 | sl (xs : List (List D)) (sz b o cap : Nat) (u : Nat → Nat → Value) (hl : xs.length ≤ cap) (hb : b < w.heap.size) (hO : ¬ O b) (hz : ∀ x ∈ xs, x.length = sz)
   (hc : ∀ e f c, D4 xs e f = some c → w.cell? ⟨b, o + e * sz + f, none⟩ = some (u e f)) (hr : ∀ e f c, D4 xs e f = some c → RD w O c (u e f)) : RD w O (.sl xs) (.slice (some ⟨b, o, none⟩) xs.length cap)
 | nilp : RD w O .nilp (.pointer none)
 | raw (v : Value) (h1 : v.oneCell' = true) : RD w O (.raw v) v
 | ifc0 : RD w O (.ifc true) .nilIface
 | ifc1 (t : TypeId) (p : Value) : RD w O (.ifc false) (.iface t p)
 | ptr (cs : List D) (b o : Nat) (u : Nat → Value) (hb : b < w.heap.size) (hO : ¬ O b)
   (hc : ∀ f c, cs[f]? = some c → w.cell? ⟨b, o + f, none⟩ = some (u f)) (hr : ∀ f c, cs[f]? = some c → RD w O c (u f)) : RD w O (.ptr cs) (.pointer (some ⟨b, o, none⟩))
theorem IA {w w' : World} {a : Addr} (h : w'.heap[a.block]? = w.heap[a.block]?) : w'.cell? a = w.cell? a := World.cell?_of_block h
theorem RD.ext {w w' : World} {O O' : Nat → Prop} (hs : w.heap.size ≤ w'.heap.size) (hm : ∀ b, b < w.heap.size → ¬ O b → w'.heap[b]? = w.heap[b]?) (hO : ∀ b, b < w.heap.size → ¬ O b → ¬ O' b)
  {d : D} {v : Value} (h : RD w O d v) : RD w' O' d v := by
 induction h with
 | bool b => exact .bool b
 | int k n => exact .int k n
 | str s => exact .str s
 | sl0 a cap => exact .sl0 a cap
 | nils => exact .nils
 | sl xs sz b o cap u hl hb hO' hz hc _ ih => exact .sl xs sz b o cap u hl (by omega) (hO b hb hO') hz (fun e f c h => (IA (hm b hb hO')).trans (hc e f c h)) ih
 | nilp => exact .nilp
 | raw v h1 => exact .raw v h1
 | ifc0 => exact .ifc0
 | ifc1 t p => exact .ifc1 t p
 | ptr cs b o u hb hO' hc _ ih => exact .ptr cs b o u (by omega) (hO b hb hO') (fun f c h => (IA (hm b hb hO')).trans (hc f c h)) ih
theorem RD.one {w : World} {O : Nat → Prop} {d : D} {v : Value} (h : RD w O d v) : v.oneCell' = true := by
 cases h <;> first | rfl | assumption
def HI (w : World) (O : Nat → Prop) (ty : TypeId) (sz : Nat) (xs : List (List D)) (l : Lay) : Prop :=
 l.sz = sz ∧ l.cap ≤ maxLen ∧ xs.length ≤ l.cap ∧ (∀ x ∈ xs, x.length = sz) ∧ (l.blk = none → l.cap = 0) ∧ ∀ b, l.blk = some b → ∃ cur, w.heap[b]? = some (.cells cur ty (0, 0)) ∧ cur.size = l.cap * sz ∧
   ∀ e f c, D4 xs e f = some c → ∃ u, cur[e * sz + f]? = some u ∧ RD w O c u
theorem RD.extC {w w' : World} {O O' : Nat → Prop} (hs : w.heap.size ≤ w'.heap.size) (hm : ∀ (b : Nat) (cur : Array Value) (t : TypeId) (z : Nat × Nat), ¬ O b → w.heap[b]? = some (.cells cur t z) → w'.heap[b]? = some (.cells cur t z))
  (hO : ∀ b, b < w.heap.size → ¬ O b → ¬ O' b) {d : D} {v : Value} (h : RD w O d v) : RD w' O' d v := by
 have cell : ∀ {a : Addr} {u : Value}, ¬ O a.block → w.cell? a = some u → w'.cell? a = some u := by
  intro a u hn hc
  unfold World.cell? at *
  cases ho : w.heap[a.block]? with
  | none => rw [ho] at hc; cases hc
  | some o =>
   rw [ho] at hc
   cases o <;> first | (rw [hm _ _ _ _ hn ho]; exact hc) | cases hc
 induction h with
 | bool b => exact .bool b
 | int k n => exact .int k n
 | str s => exact .str s
 | sl0 a cap => exact .sl0 a cap
 | nils => exact .nils
 | sl xs sz b o cap u hl hb hO' hz hc _ ih => exact .sl xs sz b o cap u hl (by omega) (hO b hb hO') hz (fun e f c h => cell hO' (hc e f c h)) ih
 | nilp => exact .nilp
 | raw v h1 => exact .raw v h1
 | ifc0 => exact .ifc0
 | ifc1 t p => exact .ifc1 t p
 | ptr cs b o u hb hO' hc _ ih => exact .ptr cs b o u (by omega) (hO b hb hO') (fun f c h => cell hO' (hc f c h)) ih
theorem HI.ext {w w' : World} {O O' : Nat → Prop} {ty : TypeId} {sz : Nat} {xs : List (List D)} {l : Lay} (h : HI w O ty sz xs l) (hs : w.heap.size ≤ w'.heap.size) (hm : ∀ (b : Nat) (cur : Array Value) (t : TypeId) (z : Nat × Nat), ¬ O b → w.heap[b]? = some (.cells cur t z) → w'.heap[b]? = some (.cells cur t z))
  (hO : ∀ b, b < w.heap.size → ¬ O b → ¬ O' b) (hl : ∀ b, l.blk = some b → w'.heap[b]? = w.heap[b]?) : HI w' O' ty sz xs l := by
 obtain ⟨h1, h2, h3, h4, h5, h6⟩ := h
 refine ⟨h1, h2, h3, h4, h5, fun k hk => ?_⟩
 obtain ⟨cur, hc, hz, hr⟩ := h6 k hk
 refine ⟨cur, (hl k hk).trans hc, hz, fun e f c hh => ?_⟩
 obtain ⟨u, hu, hR⟩ := hr e f c hh
 exact ⟨u, hu, hR.extC hs hm hO⟩
def T6 (m : Lay) (len : Nat) : Value := .slice (m.blk.map fun b => ⟨b, 0, none⟩) len m.cap
def JJ (w : World) (O : Nat → Prop) (ety : TypeId) (esz : Nat) (m : List (Value × List (List D))) (subs : List Nat) : Prop :=
 ∃ ls : List Lay, ls.length = m.length ∧ subs = ls.filterMap (·.blk) ∧ ∀ (i : Nat) (l : Lay) (p : Value × List (List D)), ls[i]? = some l → m[i]? = some p → l.subs = [] ∧ HI w O ety esz p.2 l ∧ p.1 = T6 l p.2.length
theorem JJ.ext {w w' : World} {O O' : Nat → Prop} {ety : TypeId} {esz : Nat} {m : List (Value × List (List D))} {subs : List Nat} (h : JJ w O ety esz m subs) (hs : w.heap.size ≤ w'.heap.size) (hm : ∀ (b : Nat) (cur : Array Value) (t : TypeId) (z : Nat × Nat), ¬ O b → w.heap[b]? = some (.cells cur t z) → w'.heap[b]? = some (.cells cur t z))
  (hO : ∀ b, b < w.heap.size → ¬ O b → ¬ O' b) (hl : ∀ b ∈ subs, w'.heap[b]? = w.heap[b]?) : JJ w' O' ety esz m subs := by
 obtain ⟨ls, h1, h2, h3⟩ := h
 refine ⟨ls, h1, h2, fun i l p hi hp => ?_⟩
 obtain ⟨g1, g2, g3⟩ := h3 i l p hi hp
 exact ⟨g1, g2.ext hs hm hO (fun b hb => hl b (by rw [h2]; exact List.mem_filterMap.2 ⟨l, List.mem_of_getElem? hi, hb⟩)), g3⟩
def Ik (f : Nat) (ps : List (List D × List (List D))) (vs : List Value) : List (List D) := List.zipWith (fun p v => p.1.set f (.raw v)) ps vs
def K7 (ps : List (List D × List (List D))) (vs : List Value) : List (Value × List (List D)) := List.zipWith (fun p v => (v, p.2)) ps vs
def G4 (f : Nat) (ps : List (List D × List (List D))) : List (List D) := ps.map fun p => p.1.set f (.sl p.2)
def XK (es : Array MapEntry) (clock : Nat) (m : List (Int × Bool)) : Prop :=
 es.toList.map (fun e => (e.key, e.val)) = m.map (fun p => (Value.int .i64 p.1, Value.bool p.2)) ∧ (m.map (·.1)).Nodup ∧ (∀ e ∈ es.toList, e.born < clock) ∧ (es.toList.map (·.born)).Nodup
def OB.p (o : OB) (w : World) (O : Nat → Prop) (l : Lay) : Prop := match o with
 | .uv ty sz f ety esz ps => ∃ vs : List Value, vs.length = ps.length ∧ HI w O ty sz (Ik f ps vs) l ∧ JJ w O ety esz (K7 ps vs) l.subs
 | .bag ety esz m => l.blk = none ∧ JJ w O ety esz m l.subs
 | .full ty sz xs c => l.subs = [] ∧ l.cap = c ∧ HI w O ty sz xs l
 | .mapI m => l.subs = [] ∧ ∃ b es clock, l.blk = some b ∧ w.heap[b]? = some (.map es clock) ∧ XK es clock m
 | .rng bi m seen => l.subs = [bi] ∧ ∃ b es clock since sb, l.blk = some b ∧ w.heap[b]? = some (.map es clock) ∧ XK es clock m ∧ w.heap[bi]? = some (.mapIter (some b) since sb clock) ∧ (∀ e ∈ es.toList, e.born < since) ∧ since ≤ clock ∧ (∀ e ∈ es.toList, sb.contains e.born = true ↔ ∃ k, e.key = .int .i64 k ∧ k ∈ seen) ∧ ∀ k, seen.getLast? = some k → ∃ e ∈ es.toList, e.key = .int .i64 k ∧ sb.back? = some e.born
 | .bfr ety bs fz => l.subs = [] ∧ ((bs = [] ∧ l.blk = none ∧ l.cap = 0) ∨ ∃ b cur z, l.blk = some b ∧ w.heap[b]? = some (.cells cur ety z) ∧ bs ≠ [] ∧ bs.length ≤ l.cap ∧ l.cap ≤ maxLen ∧ cur.size = l.cap ∧ cur.toList.take bs.length = bs.map (fun c => Value.int .u8 (c.toNat : Int)) ∧ (fz = false → z = (0, 0)))
theorem OB.ext (o : OB) {w w' : World} {O O' : Nat → Prop} {l : Lay} (h : o.p w O l) (hs : w.heap.size ≤ w'.heap.size) (hm : ∀ (b : Nat) (cur : Array Value) (t : TypeId) (z : Nat × Nat), ¬ O b → w.heap[b]? = some (.cells cur t z) → w'.heap[b]? = some (.cells cur t z))
  (hO : ∀ b, b < w.heap.size → ¬ O b → ¬ O' b) (hl : ∀ b, l.has b → w'.heap[b]? = w.heap[b]?) : o.p w' O' l := by
 cases o with
 | uv ty sz f ety esz ps =>
  obtain ⟨vs, h1, h2, h3⟩ := h
  exact ⟨vs, h1, h2.ext hs hm hO (fun b hb => hl b (.inl hb)), h3.ext hs hm hO fun b hb => hl b (.inr hb)⟩
 | bag ety esz m => exact ⟨h.1, h.2.ext hs hm hO fun b hb => hl b (.inr hb)⟩
 | full ty sz xs c => exact ⟨h.1, h.2.1, h.2.2.ext hs hm hO fun b hb => hl b (.inl hb)⟩
 | mapI m =>
  obtain ⟨h0, b, es, clock, h1, h2, h3⟩ := h
  exact ⟨h0, b, es, clock, h1, (hl b (.inl h1)).trans h2, h3⟩
 | rng bi m seen =>
  obtain ⟨h0, b, es, clock, since, sb, h1, h2, h3, h4, h5⟩ := h
  exact ⟨h0, b, es, clock, since, sb, h1, (hl b (.inl h1)).trans h2, h3, (hl bi (.inr (by rw [h0]; simp))).trans h4, h5⟩
 | bfr ety bs fz =>
  obtain ⟨h0, h⟩ := h
  refine ⟨h0, h.imp id ?_⟩
  rintro ⟨b, cur, z, h1, h2, h3⟩
  exact ⟨b, cur, z, h1, (hl b (.inl h1)).trans h2, h3⟩
theorem OB.same (o : OB) {w : World} {O O' : Nat → Prop} {l : Lay} (h : o.p w O l) (hO : ∀ b, b < w.heap.size → ¬ O b → ¬ O' b) : o.p w O' l :=
 o.ext h (Nat.le_refl _) (fun _ _ _ _ _ h => h) hO (fun _ _ => rfl)
structure Mf (w : World) (O : Nat → Prop) (p : Nat × List D) : Prop where
 rd : RD w O (.ptr p.2) (.pointer (some ⟨p.1, 0, none⟩))
 all : ∃ cur t z, w.heap[p.1]? = some (.cells cur t z) ∧ cur.size = p.2.length
theorem Mf.ext {w w' : World} {O O' : Nat → Prop} {p : Nat × List D} (h : Mf w O p) (hs : w.heap.size ≤ w'.heap.size) (hm : ∀ b, b < w.heap.size → ¬ O b → w'.heap[b]? = w.heap[b]?) (hO : ∀ b, b < w.heap.size → ¬ O b → ¬ O' b) : Mf w' O' p := by
 refine ⟨h.rd.ext hs hm hO, ?_⟩
 obtain ⟨cur, t, z, h1, h2⟩ := h.all
 cases h.rd with | ptr _ b o u hb hO' hc hr => exact ⟨cur, t, z, (hm _ hb hO').trans h1, h2⟩
abbrev Lays := Nat → Option Lay
class Bl where
 F : Nat → Prop
 nev : Nat → Prop
 sub : ∀ b, F b → nev b
 pin : Nat → Option Lay
 np : Nat
 marks : Bool
 mx : Int
 dt : List Deferred := []
def GA [Bl] : List (Nat × List D) := [(0, [.int .i64 Bl.mx])]
variable [Bl]
def own (S : Lays) (b : Nat) : Prop := Bl.F b ∨ ∃ id l, S id = some l ∧ l.has b
inductive R (w : World) (S : Lays) (n : Nat) : AV → Value → Prop
 | any (v : Value) : R w S n .any v
 | d {x : D} {v : Value} (h : RD w (own S) x v) : R w S n (.d x) v
 | ip (sz : Nat) (xs : List (List D)) (e f b o : Nat) (u : Nat → Nat → Value) (hb : b < w.heap.size) (hO : ¬ own S b)
   (hc : ∀ e f c, D4 xs e f = some c → w.cell? ⟨b, o + e * sz + f, none⟩ = some (u e f)) (hr : ∀ e f c, D4 xs e f = some c → RD w (own S) c (u e f)) :
   R w S n (.ip sz xs e f) (.pointer (some ⟨b, o + e * sz + f, none⟩))
 | slDead (id off len : Nat) (v : Value) (hn : id < n) (h : S id = none) : R w S n (.sl id off len) v
 | sl (id off len o : Nat) (l : Lay) (hn : id < n) (h : S id = some l) (hc : off + len ≤ l.cap) (ho : off < l.cap → o = off * l.sz) (h0 : off = 0 → o = 0) :
   R w S n (.sl id off len) (.slice (l.blk.map fun b => ⟨b, o, none⟩) len (l.cap - off))
 | ptrDead (id e f : Nat) (v : Value) (hn : id < n) (h : S id = none) : R w S n (.ptr id e f) v
 | ptr (id e f b : Nat) (l : Lay) (hn : id < n) (h : S id = some l) (hb : l.blk = some b) : R w S n (.ptr id e f) (.pointer (some ⟨b, e * l.sz + f, none⟩))
 | mpDead (id : Nat) (v : Value) (hn : id < n) (h : S id = none) : R w S n (.mp id) v
 | mp (id : Nat) (l : Lay) (hn : id < n) (h : S id = some l) : R w S n (.mp id) (.map l.blk)
 | agg (cs : List AV) (us : List Value) (hl : us.length = cs.length) (h1 : ∀ u ∈ us, u.oneCell' = true) (hr : ∀ (i : Nat) (c : AV) (u : Value), cs[i]? = some c → us[i]? = some u → R w S n c u) : R w S n (.agg cs) (.agg us.toArray)
 | tup (cs : List AV) (us : List Value) (hl : us.length = cs.length) (hr : ∀ (i : Nat) (c : AV) (u : Value), cs[i]? = some c → us[i]? = some u → R w S n c u) : R w S n (.tup cs) (.tuple us.toArray)
 | clo (fn : Fn) (cs : List AV) (us : List Value) (hl : us.length = cs.length) (hr : ∀ (i : Nat) (c : AV) (u : Value), cs[i]? = some c → us[i]? = some u → R w S n c u) : R w S n (.clo fn cs) (.func fn #[] us.toArray)
 | cond (b : Bool) (c : AV) (v : Value) (hr : b = true → R w S n c v) (hu : b = false → v = undef) : R w S n (.cond b c) v
structure Cu (w : World) (S : Lays) (n : Nat) (w' : World) (S' : Lays) (n' : Nat) : Prop where
 le : n ≤ n'
 size : w.heap.size ≤ w'.heap.size
 old : ∀ id, id < n → S' id = S id ∨ S' id = none
 new : ∀ b, b < w.heap.size → ¬ own S b → ¬ own S' b
 same : ∀ b, b < w.heap.size → ¬ own S b → w'.heap[b]? = w.heap[b]?
theorem Cu.rd {w w' : World} {S S' : Lays} {n n' : Nat} (h : Cu w S n w' S' n') {d : D} {v : Value} (hr : RD w (own S) d v) : RD w' (own S') d v := hr.ext h.size h.same h.new
theorem Cu.r {w w' : World} {S S' : Lays} {n n' : Nat} (h : Cu w S n w' S' n') {c : AV} {v : Value} (hr : R w S n c v) : R w' S' n' c v := by
 induction hr with
 | any v => exact .any v
 | d hx => exact .d (h.rd hx)
 | ip sz xs e f b o u hb hO hc hr => exact .ip sz xs e f b o u (by have := h.size; omega) (h.new b hb hO) (fun e f c hh => (IA (h.same b hb hO)).trans (hc e f c hh)) (fun e f c hh => h.rd (hr e f c hh))
 | slDead id off len v hn hS =>
  refine .slDead id off len v (by have := h.le; omega) ?_
  rcases h.old id hn with e | e <;> simp [e, hS]
 | sl id off len o l hn hS hc ho h0 =>
  rcases h.old id hn with e | e
  ·exact .sl id off len o l (by have := h.le; omega) (e.trans hS) hc ho h0
  ·exact .slDead id off len _ (by have := h.le; omega) e
 | ptrDead id e f v hn hS =>
  refine .ptrDead id e f v (by have := h.le; omega) ?_
  rcases h.old id hn with e | e <;> simp [e, hS]
 | ptr id e f b l hn hS hb =>
  rcases h.old id hn with e' | e'
  ·exact .ptr id e f b l (by have := h.le; omega) (e'.trans hS) hb
  ·exact .ptrDead id e f _ (by have := h.le; omega) e'
 | mpDead id v hn hS =>
  refine .mpDead id v (by have := h.le; omega) ?_
  rcases h.old id hn with e | e <;> simp [e, hS]
 | mp id l hn hS =>
  rcases h.old id hn with e' | e'
  ·exact .mp id l (by have := h.le; omega) (e'.trans hS)
  ·exact .mpDead id _ (by have := h.le; omega) e'
 | agg cs us hl h1 _ ih => exact .agg cs us hl h1 ih
 | tup cs us hl _ ih => exact .tup cs us hl ih
 | clo fn cs us hl _ ih => exact .clo fn cs us hl ih
 | cond b c v _ hu ih => exact .cond b c v ih hu
theorem Cu.refl (w : World) (S : Lays) (n : Nat) : Cu w S n w S n := ⟨Nat.le_refl _, Nat.le_refl _, fun _ _ => .inl rfl, fun _ _ h => h, fun _ _ _ => rfl⟩
theorem Cu.trans {w w' w'' : World} {S S' S'' : Lays} {n n' n'' : Nat} (h : Cu w S n w' S' n') (k : Cu w' S' n' w'' S'' n'') : Cu w S n w'' S'' n'' where
 le := Nat.le_trans h.le k.le
 size := Nat.le_trans h.size k.size
 old id hid := by
  rcases k.old id (by have := h.le; omega) with e | e
  ·rw [e]; exact h.old id hid
  ·exact .inr e
 new b hb hO := k.new b (by have := h.size; omega) (h.new b hb hO)
 same b hb hO := (k.same b (by have := h.size; omega) (h.new b hb hO)).trans (h.same b hb hO)
abbrev QU (w : World) (S : Lays) (ty : TypeId) (sz : Nat) (xs : List (List D)) (l : Lay) : Prop := HI w (own S) ty sz xs l
def BQ (w : World) (S : Lays) (n : Nat) : B7 → Lay → Prop
 | .vec ty sz xs, l => l.sz = sz ∧ l.cap ≤ maxLen ∧ xs.length ≤ l.cap ∧ (∀ x ∈ xs, x.length = sz) ∧ (l.blk = none → l.cap = 0) ∧ ∀ b, l.blk = some b → ∃ cur, w.heap[b]? = some (.cells cur ty (0, 0)) ∧ cur.size = l.cap * sz ∧
   ∀ e f c, D4 xs e f = some c → ∃ u, cur[e * sz + f]? = some u ∧ RD w (own S) c u
 | .one ty cells, l => l.sz = cells.length ∧ l.cap = 1 ∧ ∃ b, l.blk = some b ∧ ∃ cur, w.heap[b]? = some (.cells cur ty (0, 0)) ∧ cur.size = cells.length ∧
   ∀ (f : Nat) (c : AV), cells[f]? = some c → ∃ u, cur[f]? = some u ∧ u.oneCell' = true ∧ R w S n c u
 | .ob o, l => o.p w (own S) l
def G6 : B7 → Bool
 | .ob _ => false
 | _ => true
abbrev Av := Nat → Option B7
structure Ai (W0 : World) (M0 : Nat → Prop) (H : Av) (n : Nat) (w : World) (S : Lays) : Prop where
 bnd : ∀ id, n ≤ id → S id = none
 lt2 : ∀ i l b, S i = some l → l.has b → b < w.heap.size
 box : ∀ id b, H id = some b → ∃ l, S id = some l ∧ BQ w S n b l
 inj2 : ∀ i j l l' b, S i = some l → S j = some l' → l.has b → l'.has b → i = j
 nod : ∀ i l, S i = some l → l.subs.Nodup ∧ ∀ b, l.blk = some b → b ∉ l.subs
 plain : ∀ i l b, H i = some b → S i = some l → G6 b = true → l.subs = []
 mut2 : ∀ i l b, (H i).isSome = true → S i = some l → l.has b → W0.heap.size ≤ b ∨ M0 b
 os : w.os = W0.os
 tape : w.tape = W0.tape
 output : w.output = W0.output
 size : W0.heap.size ≤ w.heap.size
 same : ∀ b, b < W0.heap.size → ¬ M0 b → w.heap[b]? = W0.heap[b]?
 far : ∀ b, Bl.nev b → b < W0.heap.size ∧ ∀ i l, S i = some l → ¬ l.has b
 pin : ∀ i, i < Bl.np → i < n ∧ (S i = Bl.pin i ∨ S i = none)
 gl : ∀ p ∈ GA, Mf w (own S) p
theorem Ai.gl_sub {W0 : World} {M0 : Nat → Prop} {H : Av} {n : Nat} {w : World} {S S' : Lays} (h : Ai W0 M0 H n w S) (hO : ∀ b, own S' b → own S b) : ∀ p ∈ GA, Mf w (own S') p :=
 fun p hp => (h.gl p hp).ext (Nat.le_refl _) (fun _ _ _ => rfl) fun b _ hn h' => hn (hO b h')
theorem Ai.glx {W0 : World} {M0 : Nat → Prop} {H : Av} {n n' : Nat} {w w' : World} {S S' : Lays} (h : Ai W0 M0 H n w S) (k : Cu w S n w' S' n') : ∀ p ∈ GA, Mf w' (own S') p := fun p hp => (h.gl p hp).ext k.size k.same k.new
section
variable {W0 : World} {M0 : Nat → Prop} {H : Av} {n : Nat} {w : World} {S : Lays}
theorem Ai.inj (h : Ai W0 M0 H n w S) : ∀ i j l l' b, S i = some l → S j = some l' → l.blk = some b → l'.blk = some b → i = j := fun i j l l' b h1 h2 h3 h4 => h.inj2 i j l l' b h1 h2 (.inl h3) (.inl h4)
end
structure Hb (w : World) (S : Lays) (n N : Nat) (fr : Nat → AV) (a : Act) : Prop where
 size : a.tmps.size = N
 at_ : ∀ i, R w S n (fr i) (a.tmps.getD i undef)
structure St where
 fr : Nat → AV
 H : Av
 n : Nat
structure F4 (W0 w : World) (S : Lays) (ds : List Deferred) : Prop where
 let_ : Bl.marks = false → ds = Bl.dt
 apart : Bl.marks = true → ds.Pairwise fun d e => d.target ≠ e.target
 at_ : Bl.marks = true → ∀ d ∈ ds, ∃ D, d.target = .collected D ∧ W0.heap.size ≤ D ∧ w.heap[D]? = some (.deferred (some [])) ∧ ¬ own S D
theorem F4.nil (W0 w : World) (S : Lays) (hd : Bl.marks = false → [] = Bl.dt) : F4 W0 w S [] := ⟨hd, fun _ => List.Pairwise.nil, fun _ d h => by cases h⟩
theorem F4.ext {W0 w w' : World} {S S' : Lays} {n n' : Nat} {ds : List Deferred} (h : F4 W0 w S ds) (k : Cu w S n w' S' n') : F4 W0 w' S' ds :=
 ⟨h.let_, h.apart, fun hm d hd => by
  obtain ⟨D, h1, h2, h3, h4⟩ := h.at_ hm d hd
  have hD : D < w.heap.size := (Array.getElem?_eq_some_iff.1 h3).1
  exact ⟨D, h1, h2, (k.same D hD h4).trans h3, k.new D hD h4⟩⟩
def Mh (W0 : World) (M0 : Nat → Prop) (N : Nat) (st : St) (a : Act) (w : World) : Prop :=
 ∃ S, Ai W0 M0 st.H st.n w S ∧ Hb w S st.n N st.fr a ∧ F4 W0 w S a.defers
def CI {α : Type} (f : Nat → α) (i : Nat) (x : α) : Nat → α := fun j => if j = i then x else f j
theorem AA {α : Type} (f : Nat → α) (i : Nat) (x : α) (j : Nat) : CI f i x j = if j = i then x else f j := rfl
theorem Wj {a : Act} {d : Nat} {v : Value} (hd : d < a.tmps.size) (i : Nat) : (a.put (some d) v).tmps.getD i undef = if i = d then v else a.tmps.getD i undef := by
 simp only [Act.put, Array.getD_eq_getD_getElem?, Array.getElem?_setIfInBounds]
 by_cases h : i = d
 ·subst h; simp [hd]
 ·have : d ≠ i := fun e => h e.symm
  simp [this, h]
theorem Hb.put {w : World} {S : Lays} {n N d : Nat} {fr : Nat → AV} {a : Act} {v : Value} {c : AV} (h : Hb w S n N fr a) (hd : d < N) (hc : R w S n c v) : Hb w S n N (CI fr d c) (a.put (some d) v) := by
 refine ⟨?_, fun i => ?_⟩
 ·simp only [Act.put, Array.size_setIfInBounds]; exact h.size
 ·rw [Wj (by rw [h.size]; exact hd), AA]
  split
  ·exact hc
  ·exact h.at_ i
theorem Hb.ext {w w' : World} {S S' : Lays} {n n' N : Nat} {fr : Nat → AV} {a : Act} (h : Hb w S n N fr a) (k : Cu w S n w' S' n') : Hb w' S' n' N fr a :=
 ⟨h.size, fun i => k.r (h.at_ i)⟩
#print axioms Cu.r
end Go.Vc
/- The types' table of the Vc layer, and its operations that yield a value and leave memory alone. -/
set_option linter.all false
namespace Go.Vc
open Go Go.RowKit
variable [Bl]
inductive BK where
 | b | i (k : IntKind) | s
 deriving DecidableEq
inductive Sh where
 | bool | int (k : IntKind) | str
 | slice (e : TypeId)
 | struct (fs : List (Nat × Nat × Bool)) (eq : List BK)
 | array (n : Nat) (e : TypeId)
 | ptr (e : TypeId)
 | other
structure TI where
 sh : Sh
 size : Nat
 bytes : Nat
 zero : List D
def CZ (ti : TI) : Bool := match ti.sh with | .struct .. | .array .. => true | _ => false
def dz : D → Value → Bool
 | .bool b, .bool c => !b && !c
 | .int k n, .int k' m => k == k' && n == 0 && m == 0
 | .str s, .string t => s.isEmpty && t.data.toList.isEmpty
 | .nils, .slice none 0 0 => true
 | .nilp, .pointer none => true
 | .ifc true, .nilIface => true
 | _, _ => false
def FC : Option TypeDesc → Option BK
 | some .bool => some .b
 | some (.int k) => some (.i k)
 | some .string => some .s
 | _ => none
def WD : Option TypeDesc → Bool
 | some (.struct _) | some (.array _ _) => true
 | _ => false
def LM (P : Program) (t : TypeId) : TypeDesc → Sh → Bool
 | .bool, .bool => true
 | .int k, .int k' => k == k'
 | .string, .str => true
 | .slice e, .slice e' => e == e'
 | .struct fields, .struct fs eq => (fields.toList.map fun f => (f.offset, P.cellsOf f.type, WD (P.underlying f.type))) == fs && fields.toList.all (fun f => (P.info? f.type).isSome && (P.underlying f.type).isSome) &&
   (eq.isEmpty || (!P.eqGuardType P.depth t && !P.stoodInHeld t && eq.length == fields.size && (fields.toList.zipIdx.all fun (f, i) => f.name != "_" && f.offset == i && P.cellsOf f.type == 1 && FC (P.underlying f.type) == eq[i]?)))
 | .array n e, .array n' e' => n == n' && e == e'
 | .pointer e, .ptr e' => e == e'
 | .func .., .other => true
 | .tuple .., .other => true
 | .interface .., .other => true
 | _, _ => false
def ZQ (P : Program) (t : TypeId) (ti : TI) : Bool :=
 match P.underlying t, P.info? t with
 | some d, some i => LM P t d ti.sh && i.size == ti.size && i.bytes == ti.bytes &&
   (match i.zero with
    | some z => z.cells.size == ti.size && (ti.zero.isEmpty || (ti.zero.length == ti.size && (List.zip ti.zero z.cells.toList).all fun p => dz p.1 p.2))
    | none => false)
 | _, _ => false
structure BE (P : Program) (t : TypeId) (ti : TI) : Prop where
 desc : ∃ d, P.underlying t = some d ∧ LM P t d ti.sh = true
 info : ∃ i z, P.info? t = some i ∧ i.size = ti.size ∧ i.bytes = ti.bytes ∧ i.zero = some z ∧ z.cells.size = ti.size ∧
  (ti.zero ≠ [] → ti.zero.length = ti.size ∧ ∀ (w : World) (O : Nat → Prop) (j : Nat) (c : D) (u : Value), ti.zero[j]? = some c → z.cells[j]? = some u → RD w O c u)
theorem Zp {c : D} {u : Value} (h : dz c u = true) (w : World) (O : Nat → Prop) : RD w O c u := by
 unfold dz at h
 split at h
 ·simp at h; obtain ⟨rfl, rfl⟩ := h; exact .bool _
 ·simp at h; obtain ⟨⟨rfl, rfl⟩, rfl⟩ := h; exact .int _ _
 ·rename_i s t
  simp at h
  obtain ⟨rfl, h⟩ := h
  have : t = ⟨([] : List UInt8).toArray⟩ := by
   obtain ⟨⟨l⟩⟩ := t
   simp at h
   subst h
   rfl
  rw [this]; exact .str _
 ·exact .nils
 ·exact .nilp
 ·exact .ifc0
 ·cases h
theorem TB {P : Program} {t : TypeId} {ti : TI} (h : ZQ P t ti = true) : BE P t ti := by
 unfold ZQ at h
 split at h
 ·rename_i d i hd hi
  simp only [Bool.and_eq_true, beq_iff_eq] at h
  obtain ⟨⟨⟨h1, h2⟩, h3⟩, h4⟩ := h
  split at h4
  ·rename_i z hz
   simp only [Bool.and_eq_true, beq_iff_eq, Bool.or_eq_true, List.all_eq_true] at h4
   obtain ⟨h4, h5⟩ := h4
   refine ⟨⟨d, hd, h1⟩, i, z, hi, h2, h3, hz, h4, fun hne => ?_⟩
   rcases h5 with h5 | ⟨h5, h6⟩
   ·exact absurd (List.isEmpty_iff.1 h5) hne
   ·refine ⟨h5, fun w O j c u hc hu => ?_⟩
    refine Zp (h6 (c, u) ?_) w O
    rw [← Array.getElem?_toList] at hu
    exact List.mem_of_getElem? (by rw [List.getElem?_zip_eq_some]; exact ⟨hc, hu⟩)
  ·cases h4
 ·cases h
structure LR (P : Program) where
 ty : TypeId → Option TI
 ok : ∀ t ti, ty t = some ti → ZQ P t ti = true
section
variable {P : Program}
theorem LR.facts (X : LR P) {t : TypeId} {ti : TI} (h : X.ty t = some ti) : BE P t ti := TB (X.ok t ti h)
theorem BE.slice {t e : TypeId} {s b : Nat} {z : List D} (h : BE P t ⟨.slice e, s, b, z⟩) : P.underlying t = some (.slice e) := by
 obtain ⟨d, hd, hs⟩ := h.desc
 cases d <;> simp [LM] at hs
 subst hs; exact hd
theorem BE.int {t : TypeId} {k : IntKind} {s b : Nat} {z : List D} (h : BE P t ⟨.int k, s, b, z⟩) : P.underlying t = some (.int k) := by
 obtain ⟨d, hd, hs⟩ := h.desc
 cases d <;> simp [LM] at hs
 subst hs; exact hd
theorem BE.str {t : TypeId} {s b : Nat} {z : List D} (h : BE P t ⟨.str, s, b, z⟩) : P.underlying t = some .string := by
 obtain ⟨d, hd, hs⟩ := h.desc
 cases d <;> simp [LM] at hs
 exact hd
theorem BE.bool {t : TypeId} {s b : Nat} {z : List D} (h : BE P t ⟨.bool, s, b, z⟩) : P.underlying t = some .bool := by
 obtain ⟨d, hd, hs⟩ := h.desc
 cases d <;> simp [LM] at hs
 exact hd
theorem BE.ptr {t e : TypeId} {s b : Nat} {z : List D} (h : BE P t ⟨.ptr e, s, b, z⟩) : P.underlying t = some (.pointer e) := by
 obtain ⟨d, hd, hs⟩ := h.desc
 cases d <;> simp [LM] at hs
 subst hs; exact hd
theorem BE.array {t e : TypeId} {n s b : Nat} {z : List D} (h : BE P t ⟨.array n e, s, b, z⟩) : P.underlying t = some (.array n e) := by
 obtain ⟨d, hd, hs⟩ := h.desc
 cases d <;> simp [LM] at hs
 obtain ⟨rfl, rfl⟩ := hs; exact hd
theorem BE.struct {t : TypeId} {fs : List (Nat × Nat × Bool)} {eq : List BK} {s b : Nat} {z : List D} (h : BE P t ⟨.struct fs eq, s, b, z⟩) :
  ∃ fields, P.underlying t = some (.struct fields) ∧ (fields.toList.map fun f => (f.offset, P.cellsOf f.type, WD (P.underlying f.type))) = fs ∧ (∀ f ∈ fields.toList, (P.info? f.type).isSome = true ∧ (P.underlying f.type).isSome = true) ∧
   (eq ≠ [] → P.eqGuardType P.depth t = false ∧ P.stoodInHeld t = false ∧ eq.length = fields.size ∧ ∀ (i : Nat) (f : Field), fields.toList[i]? = some f → f.name ≠ "_" ∧ f.offset = i ∧ P.cellsOf f.type = 1 ∧ FC (P.underlying f.type) = eq[i]?) := by
 obtain ⟨d, hd, hs⟩ := h.desc
 cases d <;> simp only [LM, Bool.false_eq_true] at hs
 rename_i fields
 simp only [Bool.and_eq_true, beq_iff_eq, Bool.or_eq_true, Bool.not_eq_true', List.all_eq_true] at hs
 obtain ⟨⟨h1, h0⟩, h2⟩ := hs
 refine ⟨fields, hd, h1, h0, fun he => ?_⟩
 rcases h2 with h2 | ⟨⟨⟨h2, h3⟩, h5⟩, h4⟩
 ·exact absurd (List.isEmpty_iff.1 h2) he
 ·refine ⟨h2, h3, h5, fun i f hf => ?_⟩
  have := h4 (f, i) (by
   refine List.mem_of_getElem? (i := i) ?_
   rw [List.getElem?_zipIdx, hf]; simp)
  simp at this
  exact ⟨this.1.1.1, this.1.1.2, this.1.2, this.2⟩
theorem BE.isAgg {t : TypeId} {ti : TI} (h : BE P t ti) (w : World) :
  (isAgg t).run P w = .ok (CZ ti) w := by
 obtain ⟨d, hd, hs⟩ := h.desc
 unfold Go.isAgg
 simp only [Sem.run_bind, run_underlying hd, Result.andThen_ok, CZ]
 generalize ti.sh = sh at hs
 cases d <;> cases sh <;> simp_all [LM]
theorem BE.sizeOf {t : TypeId} {ti : TI} (h : BE P t ti) (w : World) : (sizeOf t).run P w = .ok ti.size w := by
 obtain ⟨i, z, hi, hs, _⟩ := h.info
 simp [Go.sizeOf, typeInfo, hi, hs]
theorem BE.cells {t : TypeId} {ti : TI} (h : BE P t ti) : P.cellsOf t = ti.size := by
 obtain ⟨i, z, hi, hs, _⟩ := h.info
 simp [Program.cellsOf, hi, hs]
end
/-! ## The operations -/
abbrev RV := Option (Prop × AV)
def AD : AV → AV
 | .cond _ v => v
 | v => v
def Bw : AV → Prop
 | .cond b _ => b = true
 | _ => True
def D1 (n : Int) : Prop := -9223372036854775808 ≤ n ∧ n ≤ 9223372036854775807
def ar (k : IntKind) (n : Int) : Prop × AV :=
 match k with
 | .i64 => (D1 n, .d (.int .i64 n))
 | k => (True, .d (.int k (k.wrap n)))
def Gp (op : BinOp) (k : IntKind) (a b : Int) : Int :=
 match op with
 | .and => k.wrap (BitVec.ofInt k.bits a &&& BitVec.ofInt k.bits b).toNat
 | .or => k.wrap (BitVec.ofInt k.bits a ||| BitVec.ofInt k.bits b).toNat
 | .xor => k.wrap (BitVec.ofInt k.bits a ^^^ BitVec.ofInt k.bits b).toNat
 | _ => k.wrap (BitVec.ofInt k.bits a &&& ~~~BitVec.ofInt k.bits b).toNat
def TY (op : BinOp) (k : IntKind) (a b : Int) : RV :=
 match op with
 | .add => some (ar k (a + b))
 | .sub => some (ar k (a - b))
 | .mul => some (ar k (a * b))
 | .quo => some (b ≠ 0 ∧ (ar k (a.tdiv b)).1, (ar k (a.tdiv b)).2)
 | .rem => some (b ≠ 0, .d (.int k (a.tmod b)))
 | .eql => some (True, .d (.bool (decide (a = b))))
 | .neq => some (True, .d (.bool (!decide (a = b))))
 | .lss => some (True, .d (.bool (decide (a < b))))
 | .leq => some (True, .d (.bool (decide (a ≤ b))))
 | .gtr => some (True, .d (.bool (decide (b < a))))
 | .geq => some (True, .d (.bool (decide (b ≤ a))))
 | .and | .or | .xor | .andNot => some (True, .d (.int k (Gp op k a b)))
 | .shl | .shr => none
def Ml (op : BinOp) (k : IntKind) (a b : Int) : RV :=
 match op with
 | .shl => some (0 ≤ b, .d (.int k (k.wrap (a * 2 ^ (min b.toNat k.bits)))))
 | .shr => some (0 ≤ b, .d (.int k (a.fdiv (2 ^ (min b.toNat k.bits)))))
 | _ => none
def JV (op : BinOp) (a b : List UInt8) : RV :=
 match op with
 | .add => some (a.length + b.length ≤ 9223372036854775807, .d (.str (a ++ b)))
 | .eql => some (True, .d (.bool (decide (a = b))))
 | .neq => some (True, .d (.bool (!decide (a = b))))
 | .lss => some (True, .d (.bool (Op.bytesLess a b)))
 | .leq => some (True, .d (.bool (Op.bytesLess a b || decide (a = b))))
 | .gtr => some (True, .d (.bool !(Op.bytesLess a b || decide (a = b))))
 | .geq => some (True, .d (.bool !(Op.bytesLess a b)))
 | _ => none
def XP : BK → D → D → Option Bool
 | .b, .bool a, .bool b => some (a == b)
 | .i k, .int k1 a, .int k2 b => if k1 = k ∧ k2 = k then some (decide (a = b)) else none
 | .s, .str a, .str b => some (decide (a = b))
 | _, _, _ => none
def Hi : List BK → List AV → List AV → Option Bool
 | [], [], [] => some true
 | k :: ks, .d x :: xs, .d y :: ys => match XP k x y, Hi ks xs ys with
  | some b, some c => some (b && c)
  | _, _ => none
 | _, _, _ => none
def Hy (ty : TypeId → Option TI) (t : TypeId) (neg : Bool) (cs ds : List AV) : RV :=
 match ty t with
 | some ⟨.struct _ (k :: ks), _, _, _⟩ => (Hi (k :: ks) cs ds).map fun b => (True, .d (.bool (if neg then !b else b)))
 | _ => none
def Wz (ty : TypeId → Option TI) (op : BinOp) (t : TypeId) (b : Bool) : RV :=
 match ty t with
 | some ⟨.ptr _, _, _, _⟩ => match op with
  | .eql => some (True, .d (.bool b))
  | .neq => some (True, .d (.bool !b))
  | _ => none
 | _ => none
def Ey (ty : TypeId → Option TI) (op : BinOp) (t : TypeId) (x y : AV) : RV :=
 match x, y with
 | .d (.int k a), .d (.int k' b) =>
  match op with
  | .shl | .shr => Ml op k a b
  | _ => if k = k' then TY op k a b else none
 | .d (.str a), .d (.str b) => JV op a b
 | .d (.bool a), .d (.bool b) => match ty t with
  | some ⟨.bool, _, _, _⟩ => match op with
   | .eql => some (True, .d (.bool (a == b)))
   | .neq => some (True, .d (.bool (!(a == b))))
   | _ => none
  | _ => none
 | .agg cs, .agg ds =>
  match op with
  | .eql => Hy ty t false cs ds
  | .neq => Hy ty t true cs ds
  | _ => none
 | .d .nilp, .d .nilp => Wz ty op t true
 | .d .nilp, .d (.ptr _) => Wz ty op t false
 | .d (.ptr _), .d .nilp => Wz ty op t false
 | _, _ => none
section
variable {P : Program} {X : LR P} {w : World} {S : Lays} {n : Nat}
theorem R.int_iff {k : IntKind} {a : Int} {v : Value} : R w S n (.d (.int k a)) v ↔ v = .int k a :=
 ⟨fun h => by cases h with | d h => cases h; rfl, fun h => by subst h; exact .d (.int _ _)⟩
theorem R.bool_iff {a : Bool} {v : Value} : R w S n (.d (.bool a)) v ↔ v = .bool a :=
 ⟨fun h => by cases h with | d h => cases h; rfl, fun h => by subst h; exact .d (.bool _)⟩
theorem R.str_iff {a : List UInt8} {v : Value} : R w S n (.d (.str a)) v ↔ v = .string ⟨a.toArray⟩ :=
 ⟨fun h => by cases h with | d h => cases h; rfl, fun h => by subst h; exact .d (.str _)⟩
theorem R.mkInt (k : IntKind) (a : Int) : R w S n (.d (.int k a)) (.int k a) := .d (.int _ _)
theorem R.mkBool (a : Bool) : R w S n (.d (.bool a)) (.bool a) := .d (.bool _)
theorem R.mkStr (a : List UInt8) : R w S n (.d (.str a)) (.string ⟨a.toArray⟩) := .d (.str _)
theorem Pg {a : Int} (h : D1 a) : IntKind.i64.wrap a = a := IntWalk.i64_in a ⟨h.1, h.2⟩
theorem Lq {k : IntKind} {a : Int} (h : (ar k a).1) : R w S n (ar k a).2 (.int k (k.wrap a)) := by
 unfold ar at *
 split
 ·rw [Pg h]; exact R.mkInt _ _
 ·exact R.mkInt _ _
theorem W7 {op : BinOp} {k : IntKind} {a b : Int} {t : TypeId} {p : Prop} {c : AV} (h : TY op k a b = some (p, c)) (hp : p) :
  ∃ v, (binOp op t (.int k a) (.int k b)).run P w = .ok v w ∧ R w S n c v := by
 unfold TY at h
 have hbe : (a == b) = decide (a = b) := by rw [Bool.eq_iff_iff]; simp
 have hne : (a != b) = !decide (a = b) := by rw [bne, hbe]
 split at h <;> simp only [Option.some.injEq, reduceCtorEq] at h
 case h_1 => exact ⟨.int k (k.wrap (a + b)), by simp [binOp, Op.intArith], by rw [show c = (ar k (a + b)).2 by rw [h]]; exact Lq (by rw [h]; exact hp)⟩
 case h_2 => exact ⟨.int k (k.wrap (a - b)), by simp [binOp, Op.intArith], by rw [show c = (ar k (a - b)).2 by rw [h]]; exact Lq (by rw [h]; exact hp)⟩
 case h_3 => exact ⟨.int k (k.wrap (a * b)), by simp [binOp, Op.intArith], by rw [show c = (ar k (a * b)).2 by rw [h]]; exact Lq (by rw [h]; exact hp)⟩
 case h_4 =>
  simp only [Prod.mk.injEq] at h
  obtain ⟨rfl, rfl⟩ := h
  exact ⟨_, by simp [binOp, Op.intDiv, hp.1], Lq hp.2⟩
 case h_5 =>
  simp only [Prod.mk.injEq] at h
  obtain ⟨rfl, rfl⟩ := h
  exact ⟨_, by simp [binOp, Op.intDiv, hp], R.mkInt _ _⟩
 all_goals
  simp only [Prod.mk.injEq] at h
  obtain ⟨_, rfl⟩ := h
  first
   | (refine ⟨.bool _, ?_, R.mkBool _⟩; simp only [binOp, Op.intCmp, hbe, hne]; simp; done)
   | (refine ⟨.bool _, ?_, R.mkBool _⟩; simp [binOp, Op.intCmp, hbe, hne]; done)
   | (refine ⟨.int k (Gp .and k a b), ?_, R.mkInt _ _⟩; simp only [binOp, Op.intBits, Gp]; simp; done)
   | (refine ⟨.int k (Gp .or k a b), ?_, R.mkInt _ _⟩; simp only [binOp, Op.intBits, Gp]; simp; done)
   | (refine ⟨.int k (Gp .xor k a b), ?_, R.mkInt _ _⟩; simp only [binOp, Op.intBits, Gp]; simp; done)
   | (refine ⟨.int k (Gp .andNot k a b), ?_, R.mkInt _ _⟩; simp only [binOp, Op.intBits, Gp]; simp; done)
theorem Ln {op : BinOp} {k k' : IntKind} {a b : Int} {t : TypeId} {p : Prop} {c : AV} (h : Ml op k a b = some (p, c)) (hp : p) :
  ∃ v, (binOp op t (.int k a) (.int k' b)).run P w = .ok v w ∧ R w S n c v := by
 unfold Ml at h
 split at h <;> simp only [Option.some.injEq, Prod.mk.injEq, reduceCtorEq] at h
 all_goals
  obtain ⟨rfl, rfl⟩ := h
  exact ⟨_, by simp [binOp, Op.shift, Int.not_lt.2 hp], R.mkInt _ _⟩
theorem WA {op : BinOp} {a b : List UInt8} {t : TypeId} {p : Prop} {c : AV} (h : JV op a b = some (p, c)) (hp : p) :
  ∃ v, (binOp op t (.string ⟨a.toArray⟩) (.string ⟨b.toArray⟩)).run P w = .ok v w ∧ R w S n c v := by
 unfold JV at h
 have hb : binOp op t (.string ⟨a.toArray⟩) (.string ⟨b.toArray⟩) = Op.stringOp op ⟨a.toArray⟩ ⟨b.toArray⟩ := by cases op <;> rfl
 rw [hb]
 have he : (a == b) = decide (a = b) := by rw [Bool.eq_iff_iff]; simp
 split at h <;> simp only [Option.some.injEq, Prod.mk.injEq, reduceCtorEq] at h
 case h_1 =>
  obtain ⟨rfl, rfl⟩ := h
  refine ⟨_, run_string_add_sum w _ _ (by simpa [ByteArray.size] using hp), ?_⟩
  rw [ByteArray.mk_append_mk]
  exact R.mkStr _
 all_goals
  obtain ⟨_, rfl⟩ := h
  exact ⟨_, by simp only [Op.stringOp, ByteArray.toList_mk, he, Sem.run_pure], R.mkBool _⟩
theorem Ys {d : Nat} {t : TypeId} {k : BK} {x y : D} {u v : Value} {O : Nat → Prop} {b : Bool} (h : XP k x y = some b) (hx : RD w O x u) (hy : RD w O y v) (hb : FC (P.underlying t) = some k) :
  (Op.equalIn (d + 1) t u v).run P w = .ok b w := by
 generalize hd : P.underlying t = dd at hb
 unfold XP at h
 split at h
 ·cases hx; cases hy
  cases h
  unfold FC at hb
  split at hb <;> simp at hb
  simp [Op.equalIn, run_underlying hd]
 ·split at h
  ·rename_i k1 a k2 b0 hk; obtain ⟨rfl, rfl⟩ := hk
   cases hx; cases hy
   cases h
   have hbe : (a == b0) = decide (a = b0) := by rw [Bool.eq_iff_iff]; simp
   unfold FC at hb
   split at hb <;> simp at hb
   subst hb
   simp [Op.equalIn, run_underlying hd, hbe]
  ·cases h
 ·cases hx; cases hy
  cases h
  rename_i a b
  have he : (a == b) = decide (a = b) := by rw [Bool.eq_iff_iff]; simp
  unfold FC at hb
  split at hb <;> simp at hb
  simp [Op.equalIn, run_underlying hd, beq_toListBytes, he]
 ·cases h
theorem Jy {t : TypeId} {k : BK} (hb : FC (P.underlying t) = some k) (w : World) : (isAgg t).run P w = .ok false w := by
 generalize hd : P.underlying t = dd at hb
 unfold FC at hb
 split at hb <;> simp at hb <;> simp [isAgg, run_underlying hd]
theorem GL {t : TypeId} {k : BK} (hb : FC (P.underlying t) = some k) {cs : Array Value} {i : Nat} {u : Value} (hu : cs[i]? = some u) (w : World) : (part t cs i).run P w = .ok u w := by
 simp [part, Jy hb, hu]
theorem Ut {d : Nat} {O : Nat → Prop} (us vs : List Value) : ∀ (fields : List Field) (ks : List BK) (cs ds : List AV) (i : Nat) (b : Bool), Hi ks cs ds = some b →
  (∀ (j : Nat) (f : Field), fields[j]? = some f → f.name ≠ "_" ∧ f.offset = i + j ∧ FC (P.underlying f.type) = ks[j]?) → fields.length = ks.length →
  (∀ (j : Nat) (c : AV), cs[j]? = some c → ∃ u, us[i + j]? = some u ∧ R w S n c u) → (∀ (j : Nat) (c : AV), ds[j]? = some c → ∃ u, vs[i + j]? = some u ∧ R w S n c u) →
  (Op.eqFields (d + 1) us.toArray vs.toArray fields).run P w = .ok b w := by
 intro fields
 induction fields with
 | nil =>
  intro ks cs ds i b h _ hl _ _
  cases ks with
  | nil =>
   unfold Hi at h
   split at h <;> simp_all [Op.eqFields]
  | cons => simp at hl
 | cons f fields ih =>
  intro ks cs ds i b h hf hl hc hd
  cases ks with
  | nil => simp at hl
  | cons k ks =>
   unfold Hi at h
   split at h
   ·rename_i heq; simp at heq
   ·rename_i k' ks' x xs y ys heq
    obtain ⟨rfl, rfl⟩ : k = k' ∧ ks = ks' := by simpa using heq
    split at h
    ·rename_i b1 c1 h1 h2
     cases h
     obtain ⟨hn, ho, hk⟩ := hf 0 f rfl
     simp only [Nat.add_zero, List.getElem?_cons_zero] at ho hk
     obtain ⟨u, hu, hru⟩ := hc 0 _ rfl
     obtain ⟨v, hv, hrv⟩ := hd 0 _ rfl
     simp only [Nat.add_zero] at hu hv
     have hux : us.toArray[i]? = some u := by simpa using hu
     have hvx : vs.toArray[i]? = some v := by simpa using hv
     cases hru with | d hru =>
     cases hrv with | d hrv =>
     have hrec := ih ks xs ys (i + 1) c1 h2 (fun j g hg => by
      have := hf (j + 1) g (by simpa using hg)
      refine ⟨this.1, by omega, by simpa using this.2.2⟩) (by simpa using hl)
      (fun j c hj => by have := hc (j + 1) c (by simpa using hj); rwa [show i + (j + 1) = i + 1 + j from by omega] at this)
      (fun j c hj => by have := hd (j + 1) c (by simpa using hj); rwa [show i + (j + 1) = i + 1 + j from by omega] at this)
     simp only [Op.eqFields, ne_eq, hn, not_false_eq_true, if_true, Sem.run_bind, ho, GL hk hux, GL hk hvx, Result.andThen_ok, Ys h1 hru hrv hk]
     cases b1
     ·simp
     ·simpa using hrec
    ·cases h
   ·cases h
theorem Lj {t : TypeId} {neg : Bool} {cs ds : List AV} {u v : Value} {p : Prop} {c : AV} (h : Hy X.ty t neg cs ds = some (p, c)) (hu : R w S n (.agg cs) u) (hv : R w S n (.agg ds) v) (x y : Operand) :
  ∃ r, (do eqGuard (if neg then .neq else .eql) t x y u v; binOp (if neg then .neq else .eql) t u v : Sem Value).run P w = .ok r w ∧ R w S n c r := by
 unfold Hy at h
 split at h
 ·rename_i fs k ks sz by_ z hty
  cases he : Hi (k :: ks) cs ds with
  | none => rw [he] at h; cases h
  | some b =>
   rw [he] at h
   simp only [Option.map_some, Option.some.injEq, Prod.mk.injEq] at h
   obtain ⟨_, rfl⟩ := h
   cases hu with | agg _ us hul hu1 hur =>
   cases hv with | agg _ vs hvl hv1 hvr =>
   obtain ⟨fields, hd, hfs, _, hF⟩ := (X.facts hty).struct
   obtain ⟨hg, hs, hlen, hF⟩ := hF (by simp)
   have hfo : P.fieldsOf t = fields := by simp [Program.fieldsOf, hd]
   have hE : (Op.equal t (.agg us.toArray) (.agg vs.toArray)).run P w = .ok b w := by
    unfold Op.equal Op.maxDepth
    rw [run_equalIn_struct w 9999 t _ _ (by rw [hfo]; exact hd) hs, hfo]
    refine Ut (d := 9998) (S := S) (n := n) (O := own S) us vs fields.toList (k :: ks) cs ds 0 b he (fun j f hf => ?_) (by simp only [Array.length_toList]; omega) (fun j c hj => ?_) (fun j c hj => ?_)
    ·obtain ⟨a1, a2, _, a4⟩ := hF j f hf
     exact ⟨a1, by omega, a4⟩
    ·have : j < cs.length := (List.getElem?_eq_some_iff.1 hj).1
     exact ⟨us[j]'(by omega), by simp, hur j c _ hj (by simp)⟩
    ·have : j < ds.length := (List.getElem?_eq_some_iff.1 hj).1
     exact ⟨vs[j]'(by omega), by simp, hvr j c _ hj (by simp)⟩
   have hG : (eqGuard (if neg then .neq else .eql) t x y (.agg us.toArray) (.agg vs.toArray)).run P w = .ok () w := by
    cases neg <;> simp [eqGuard, hg]
   cases neg
   ·refine ⟨.bool b, ?_, R.mkBool _⟩
    simp only [Bool.false_eq_true, if_false] at hG ⊢
    simp [binOp, hE, hG]
   ·refine ⟨.bool !b, ?_, R.mkBool _⟩
    simp only [if_true] at hG ⊢
    simp [binOp, hE, hG]
 ·cases h
end
end Go.Vc
/- The Vc layer: addresses, loads, slices, parts: the operations that read memory and leave it alone. -/
set_option linter.all false
namespace Go.Vc
open Go Go.RowKit
variable [Bl]
section
variable {P : Program} {X : LR P} {w : World} {S : Lays} {n : Nat}
theorem Ck (b o k : Nat) : (⟨b, o, none⟩ : Addr).add k = ⟨b, o + k, none⟩ := by
 unfold Addr.add; split <;> simp_all
/-! ### one operand -/
def Zc (op : UnOp) (x : AV) : RV :=
 match op, x with
 | .not, .d (.bool b) => some (True, .d (.bool !b))
 | .neg, .d (.int k a) => some (ar k (0 - a))
 | _, _ => none
theorem Yg {op : UnOp} {x c : AV} {v : Value} {p : Prop} (h : Zc op x = some (p, c)) (hp : p) (hx : R w S n x v) : ∃ r, (Op.unary op v).run P w = .ok r w ∧ R w S n c r := by
 unfold Zc at h
 split at h <;> simp only [Option.some.injEq, Prod.mk.injEq, reduceCtorEq] at h
 ·obtain ⟨_, rfl⟩ := h
  rw [R.bool_iff] at hx; subst hx
  exact ⟨_, by simp [Op.unary], R.mkBool _⟩
 ·rename_i k a
  rw [R.int_iff] at hx; subst hx
  refine ⟨.int k (k.wrap (0 - a)), by simp [Op.unary, Op.intArith], ?_⟩
  rw [show c = (ar k (0 - a)).2 by rw [h]]
  exact Lq (by rw [h]; exact hp)
def Mj (H : Nat → Option B7) (x : AV) : RV :=
 match x with
 | .ptr id e f => match H id with
  | some _ => some (True, .ptr id e f)
  | none => none
 | .ip sz xs e f => some (True, .ip sz xs e f)
 | .d (.ptr cs) => some (True, .ip cs.length [cs] 0 0)
 | .clo (.func g) cs => some (True, .clo (.func g) cs)
 | _ => none
/-! ### pick -/
def EC (c a b : AV) : RV :=
 match AD c, AD a, AD b with
 | .d (.bool c'), .d (.bool x), .d (.bool y) => some (Bw c ∧ (c' = true → Bw a) ∧ (c' = false → Bw b), .d (.bool (bif c' then x else y)))
 | .d (.bool true), .d (.bool x), _ => some (Bw c ∧ Bw a, .d (.bool x))
 | .d (.bool false), _, .d (.bool y) => some (Bw c ∧ Bw b, .d (.bool y))
 | _, _, _ => none
theorem R.bare_of {x : AV} {v : Value} (h : R w S n x v) (hx : Bw x) : R w S n (AD x) v := by
 cases x <;> first | exact h | skip
 cases h with | cond b c v hr _ => exact hr hx
/-! ### extract -/
def FI (x : AV) (i : Nat) : RV :=
 match x with
 | .tup vs => match vs[i]? with
  | some v => some (True, v)
  | none => none
 | _ => none
theorem Nw {x c : AV} {i : Nat} {v : Value} {p : Prop} (h : FI x i = some (p, c)) (hx : R w S n x v) : ∃ r, (Instr.extract v i).run P w = .ok r w ∧ R w S n c r := by
 unfold FI at h
 split at h
 ·split at h
  ·rename_i vs _ v' hv
   simp only [Option.some.injEq, Prod.mk.injEq] at h
   obtain ⟨_, rfl⟩ := h
   cases hx with | tup _ us hl hr =>
   have hi : i < vs.length := (List.getElem?_eq_some_iff.1 hv).1
   have hi' : i < us.length := by omega
   refine ⟨us[i], ?_, hr i _ _ hv (by simp)⟩
   simp [Instr.extract, List.getElem?_eq_getElem hi']
  ·cases h
 ·cases h
/-! ### len -/
def Mi (ty : TypeId → Option TI) (H : Av) (t : TypeId) (x : AV) : RV :=
 match ty t with
 | some ⟨.str, _, _, _⟩ => match x with
  | .d (.str s) => some (True, .d (.int .i64 s.length))
  | _ => none
 | some ⟨.slice _, _, _, _⟩ => match x with
  | .d (.sl xs) => some (True, .d (.int .i64 xs.length))
  | .d .nils => some (True, .d (.int .i64 0))
  | .sl id _ len => match H id with
   | some _ => some (True, .d (.int .i64 len))
   | none => none
  | _ => none
 | some ⟨.array m _, _, _, _⟩ => some (True, .d (.int .i64 m))
 | _ => none
theorem RD.slice_form {O : Nat → Prop} {xs : List (List D)} {v : Value} (h : RD w O (.sl xs) v) : ∃ a cap, v = .slice a xs.length cap ∧ xs.length ≤ cap := by
 cases h with
 | sl0 => exact ⟨_, _, rfl, Nat.zero_le _⟩
 | sl xs sz b o cap u hl => exact ⟨_, _, rfl, hl⟩
theorem R.sl_live {H : Av} {W0 : World} {M0 : Nat → Prop} {id off len : Nat} {v : Value} {b : B7} (h : R w S n (.sl id off len) v) (hH : Ai W0 M0 H n w S) (hb : H id = some b) :
  ∃ l o, S id = some l ∧ BQ w S n b l ∧ v = .slice (l.blk.map fun b => ⟨b, o, none⟩) len (l.cap - off) ∧ off + len ≤ l.cap ∧ (off < l.cap → o = off * l.sz) ∧ (off = 0 → o = 0) := by
 obtain ⟨l, hl, hbox⟩ := hH.box id b hb
 cases h with
 | slDead id off len v hn hS => rw [hl] at hS; cases hS
 | sl id off len o l' hn hS hc ho h0 =>
  rw [hl] at hS; cases hS
  exact ⟨l, o, hl, hbox, rfl, hc, ho, h0⟩
theorem R.ptr_live {H : Av} {W0 : World} {M0 : Nat → Prop} {id e f : Nat} {v : Value} {b : B7} (h : R w S n (.ptr id e f) v) (hH : Ai W0 M0 H n w S) (hb : H id = some b) :
  ∃ l k, S id = some l ∧ BQ w S n b l ∧ l.blk = some k ∧ v = .pointer (some ⟨k, e * l.sz + f, none⟩) := by
 obtain ⟨l, hl, hbox⟩ := hH.box id b hb
 cases h with
 | ptrDead id e f v hn hS => rw [hl] at hS; cases hS
 | ptr id e f k l' hn hS hk => rw [hl] at hS; cases hS; exact ⟨l, k, hl, hbox, hk, rfl⟩
def CW (k : Nat) (xs : List (List D)) : Prop := ∀ x ∈ xs, x.length = k
theorem RD.rect {O : Nat → Prop} {k : Nat} {xs : List (List D)} {a : Option Addr} {len cap : Nat} (h : RD w O (.sl xs) (.slice a len cap)) (hk : CW k xs) (hne : xs ≠ []) :
  ∃ (b o : Nat) (u : Nat → Nat → Value), a = some ⟨b, o, none⟩ ∧ len = xs.length ∧ xs.length ≤ cap ∧ b < w.heap.size ∧ ¬ O b ∧ (∀ e f c, D4 xs e f = some c → w.cell? ⟨b, o + e * k + f, none⟩ = some (u e f)) ∧ (∀ e f c, D4 xs e f = some c → RD w O c (u e f)) := by
 cases h with
 | sl0 => exact absurd rfl hne
 | sl _ sz b o _ u hl hb hO hz hc hr =>
  have : sz = k := by
   cases xs with
   | nil => exact absurd rfl hne
   | cons x xs => rw [← hz x (by simp), hk x (by simp)]
  subst this
  exact ⟨b, o, u, rfl, rfl, hl, hb, hO, hc, hr⟩
/-! ### slice expressions -/
def JY (lo hi : Option AV) (len : Nat) (k : Nat → Nat → AV) : RV :=
 match lo, hi with
 | none, none => some (True, k 0 len)
 | some (.d (.int _ l)), none => some (0 ≤ l ∧ l ≤ len, k l.toNat len)
 | none, some (.d (.int _ h)) => some (0 ≤ h ∧ h ≤ len, k 0 h.toNat)
 | some (.d (.int _ l)), some (.d (.int _ h)) => some (0 ≤ l ∧ l ≤ h ∧ h ≤ len, k l.toNat h.toNat)
 | _, _ => none
def RO (w : World) (S : Lays) (n : Nat) : Option AV → Option Value → Prop
 | none, none => True
 | some c, some v => R w S n c v
 | _, _ => False
theorem J8 {lo hi : Option AV} {vlo vhi : Option Value} {len cap : Nat} {k : Nat → Nat → AV} {p : Prop} {c : AV} (h : JY lo hi len k = some (p, c)) (hp : p) (hc : len ≤ cap) (isS : Bool)
  (hlo : RO w S n lo vlo) (hhi : RO w S n hi vhi) :
  ∃ l h, l ≤ h ∧ h ≤ len ∧ c = k l h ∧ (Instr.sliceBounds isS len cap vlo vhi none).run P w = .ok (l, h, cap) w := by
 unfold JY at h
 split at h <;> simp only [Option.some.injEq, Prod.mk.injEq, reduceCtorEq] at h <;> obtain ⟨rfl, rfl⟩ := h
 ·cases vlo <;> cases vhi <;> simp [RO] at hlo hhi
  exact ⟨0, len, by omega, by omega, rfl, by simp [Instr.sliceBounds]⟩
 ·cases vlo <;> cases vhi <;> simp [RO] at hlo hhi
  rw [R.int_iff] at hlo; subst hlo
  rename_i k0 l
  exact ⟨l.toNat, len, by omega, by omega, rfl, by simp [Instr.sliceBounds, Instr.sliceBound, asIntOf, hp.1, hp.2]⟩
 ·cases vlo <;> cases vhi <;> simp [RO] at hlo hhi
  rw [R.int_iff] at hhi; subst hhi
  rename_i k0 l
  exact ⟨0, l.toNat, by omega, by omega, rfl, by simp [Instr.sliceBounds, Instr.sliceBound, asIntOf, hp.1, show l ≤ (cap : Int) by omega]⟩
 ·cases vlo <;> cases vhi <;> simp [RO] at hlo hhi
  rw [R.int_iff] at hlo hhi; subst hlo hhi
  rename_i k0 l k1 h
  have e1 : ((h.toNat : Nat) : Int) = h := by omega
  exact ⟨l.toNat, h.toNat, by omega, by omega, rfl, by simp [Instr.sliceBounds, Instr.sliceBound, asIntOf, hp.1, show 0 ≤ h by omega, show h ≤ (cap : Int) by omega, e1, show ¬ h < l by omega, hp.2.1]⟩
def EO (ty : TypeId → Option TI) (H : Av) (t : TypeId) (x : AV) (lo hi : Option AV) : RV :=
 match ty t with
 | some ⟨.str, _, _, _⟩ => match x with
  | .d (.str s) => JY lo hi s.length fun l h => .d (.str ((s.drop l).take (h - l)))
  | _ => none
 | some ⟨.slice e, _, _, _⟩ => match ty e with
  | some ti => match x with
   | .d (.sl xs) => (JY lo hi xs.length fun l h => .d (.sl ((xs.drop l).take (h - l)))).map fun r => (r.1 ∧ CW ti.size xs, r.2)
   | .d .nils => JY lo hi 0 fun _ _ => .d .nils
   | .sl id off len => match H id with
    | some (.vec _ sz _) => if ti.size = sz then JY lo hi len fun l h => .sl id (off + l) (h - l) else none
    | _ => none
   | _ => none
  | none => none
 | _ => none
theorem CF {α : Type} {xs : List (List α)} {l m e f : Nat} {c : α} (h : D4 ((xs.drop l).take m) e f = some c) : D4 xs (l + e) f = some c := by
 obtain ⟨x, hx, hf⟩ := B4 h
 rw [List.getElem?_take] at hx
 split at hx
 ·rw [List.getElem?_drop] at hx
  simp [D4, hx, hf]
 ·cases hx
theorem RD.cut {O : Nat → Prop} {sz l h : Nat} {xs : List (List D)} {a : Option Addr} {cap : Nat} (hr : RD w O (.sl xs) (.slice a xs.length cap)) (hk : CW sz xs) (hl : l ≤ h) (hh : h ≤ xs.length) (hc : h ≤ cap) :
  RD w O (.sl ((xs.drop l).take (h - l))) (.slice (if cap = l then a else a.map (·.add (l * sz))) (h - l) (cap - l)) := by
 by_cases h0 : h - l = 0
 ·rw [h0, List.take_zero]; exact .sl0 _ _
 ·have hne : xs ≠ [] := fun e => by subst e; simp at hh; omega
  obtain ⟨b, o, u, rfl, _, hl', hb, hO, hcl, hr⟩ := hr.rect hk hne
  rw [if_neg (by omega)]
  simp only [Option.map_some, Ck]
  have hlen : ((xs.drop l).take (h - l)).length = h - l := by rw [List.length_take, List.length_drop]; omega
  have := RD.sl (w := w) (O := O) ((xs.drop l).take (h - l)) sz b (o + l * sz) (cap - l) (fun e f => u (l + e) f) (by omega) hb hO (fun x hx => hk x (List.mem_of_mem_drop (List.mem_of_mem_take hx))) (fun e f c hc => by
   rw [show o + l * sz + e * sz + f = o + (l + e) * sz + f by rw [Nat.add_mul]; omega]
   exact hcl _ _ _ (CF hc)) (fun e f c hc => hr _ _ _ (CF hc))
  rw [hlen] at this
  exact this
theorem Se {W0 : World} {M0 : Nat → Prop} {H : Av} (hH : Ai W0 M0 H n w S) {t : TypeId} {x c : AV} {v : Value} {lo hi : Option AV} {vlo vhi : Option Value} {p : Prop} (h : EO X.ty H t x lo hi = some (p, c)) (hp : p)
  (hx : R w S n x v) (hlo : RO w S n lo vlo) (hhi : RO w S n hi vhi) :
  ∃ r, (Instr.sliceAt t v vlo vhi none).run P w = .ok r w ∧ R w S n c r := by
 unfold EO at h
 split at h
 ·rename_i _ _ _ hty
  have hu := (X.facts hty).str
  split at h
  ·rename_i s
   obtain ⟨l, m, hl, hm, rfl, hrun⟩ := J8 h hp (Nat.le_refl _) false hlo hhi (P := P)
   rw [R.str_iff] at hx; subst hx
   refine ⟨.string ⟨((s.drop l).take (m - l)).toArray⟩, ?_, R.mkStr _⟩
   unfold Instr.sliceAt
   simp only [Sem.run_bind, run_underlying hu, Result.andThen_ok]
   have hsz : (⟨s.toArray⟩ : ByteArray).size = s.length := rfl
   simp [Instr.slice, run_underlying hu, hsz, hrun, ByteArray.extract_mk, -ByteArray.size_data]
  ·cases h
 ·rename_i e _ _ _ hty
  have hu := (X.facts hty).slice
  split at h
  ·rename_i ti hti
   have hsz := (X.facts hti).sizeOf
   split at h
   ·rename_i xs
    cases hb : JY lo hi xs.length fun l h => .d (.sl ((xs.drop l).take (h - l))) with
    | none => rw [hb] at h; cases h
    | some r =>
     rw [hb] at h
     simp only [Option.map_some, Option.some.injEq, Prod.mk.injEq] at h
     obtain ⟨rfl, rfl⟩ := h
     cases hx with | d hx =>
     obtain ⟨a, cap, rfl, hxs⟩ := hx.slice_form
     obtain ⟨l, m, hl, hm, hr2, hrun⟩ := J8 (p := r.1) (c := r.2) hb hp.1 hxs true hlo hhi (P := P)
     rw [hr2]
     refine ⟨_, ?_, .d (hx.cut hp.2 hl hm (by omega))⟩
     unfold Instr.sliceAt
     simp only [Sem.run_bind, run_underlying hu, Result.andThen_ok]
     simp [Instr.slice, run_underlying hu, hrun, hsz]
   ·cases hx with | d hx =>
    cases hx
    obtain ⟨l, m, hl, hm, rfl, hrun⟩ := J8 h hp (Nat.le_refl 0) true hlo hhi (P := P)
    have hl0 : l = 0 := by omega
    have hm0 : m = 0 := by omega
    subst hl0 hm0
    refine ⟨.slice none 0 0, ?_, .d .nils⟩
    unfold Instr.sliceAt
    simp only [Sem.run_bind, run_underlying hu, Result.andThen_ok]
    simp [Instr.slice, run_underlying hu, hrun, hsz]
   ·rename_i id off len
    split at h
    ·rename_i ty' sz xs hb
     split at h
     ·rename_i hsz'
      obtain ⟨lay, o, hS, hbox, rfl, hc, ho, h0⟩ := hx.sl_live hH hb
      obtain ⟨l, m, hl, hm, rfl, hrun⟩ := J8 h hp (show len ≤ lay.cap - off by omega) true hlo hhi (P := P)
      have hes : ti.size = lay.sz := by rw [hsz']; exact hbox.1.symm
      have hidn : id < n := by
       rcases Nat.lt_or_ge id n with h | h
       ·exact h
       ·rw [hH.bnd id h] at hS; cases hS
      refine ⟨.slice (lay.blk.map fun b => ⟨b, if lay.cap - off = l then o else o + l * lay.sz, none⟩) (m - l) (lay.cap - off - l), ?_, ?_⟩
      ·unfold Instr.sliceAt
       simp only [Sem.run_bind, run_underlying hu, Result.andThen_ok]
       simp [Instr.slice, run_underlying hu, hrun, hsz, hes]
       cases lay.blk <;> simp [Ck] <;> split <;> simp
      ·rw [show lay.cap - off - l = lay.cap - (off + l) by omega]
       refine .sl id (off + l) (m - l) _ lay hidn hS (by omega) (fun hlt => ?_) (fun he => ?_)
       ·rw [if_neg (by omega), ho (by omega), Nat.add_mul]
       ·have h1 : off = 0 := by omega
        have h2 : l = 0 := by omega
        subst h2
        simp [h0 h1]
     ·cases h
    ·cases h
   ·cases h
  ·cases h
 ·cases h
end
end Go.Vc
/- The Vc layer: addresses, loads, parts of structs, conversions. -/
set_option linter.all false
namespace Go.Vc
open Go Go.RowKit
variable [Bl]
section
variable {P : Program} {X : LR P} {w : World} {S : Lays} {n : Nat} {W0 : World} {M0 : Nat → Prop} {H : Av}
theorem W8 (hH : Ai W0 M0 H n w S) {t ty' : TypeId} {x c : AV} {v : Value} {p : Prop} (h : Mi X.ty H t x = some (p, c)) (hx : R w S n x v) : ∃ r, (Builtin.len_ #[t] ty' #[v]).run P w = .ok r w ∧ R w S n c r := by
 unfold Mi at h
 split at h
 ·rename_i hty
  have hu := (X.facts hty).str
  split at h
  ·rename_i s
   simp only [Option.some.injEq, Prod.mk.injEq] at h
   obtain ⟨_, rfl⟩ := h
   rw [R.str_iff] at hx; subst hx
   have hsz : (⟨s.toArray⟩ : ByteArray).size = s.length := rfl
   exact ⟨.int .i64 s.length, by simp [Builtin.len_, run_underlying hu, goInt, hsz, -ByteArray.size_data], R.mkInt _ _⟩
  ·cases h
 ·rename_i hty
  have hu := (X.facts hty).slice
  split at h
  ·rename_i xs
   simp only [Option.some.injEq, Prod.mk.injEq] at h
   obtain ⟨_, rfl⟩ := h
   cases hx with | d hx =>
   obtain ⟨a, cap, rfl, _⟩ := hx.slice_form
   exact ⟨.int .i64 xs.length, by simp [Builtin.len_, run_underlying hu, goInt], R.mkInt _ _⟩
  ·simp only [Option.some.injEq, Prod.mk.injEq] at h
   obtain ⟨_, rfl⟩ := h
   cases hx with | d hx =>
   cases hx
   exact ⟨.int .i64 0, by simp [Builtin.len_, run_underlying hu, goInt], R.mkInt _ _⟩
  ·rename_i id off len
   split at h
   ·rename_i b hb
    simp only [Option.some.injEq, Prod.mk.injEq] at h
    obtain ⟨hp, rfl⟩ := h
    obtain ⟨l, o, _, _, rfl, _⟩ := hx.sl_live hH hb
    exact ⟨.int .i64 len, by simp [Builtin.len_, run_underlying hu, goInt], R.mkInt _ _⟩
   ·cases h
  ·cases h
 ·rename_i hty
  have hu := (X.facts hty).array
  simp only [Option.some.injEq, Prod.mk.injEq] at h
  obtain ⟨_, rfl⟩ := h
  exact ⟨_, by simp [Builtin.len_, run_underlying hu, goInt], R.mkInt _ _⟩
 ·cases h
/-! ### addresses -/
def Dn (ty : TypeId → Option TI) (H : Av) (s : TypeId) (x : AV) (f : Nat) : RV :=
 match ty s with
 | some ⟨.struct fs _, _, _, _⟩ => match fs[f]? with
  | some (off, sz, _) => if sz = 0 then none else match x with
   | .ptr id e g => match H id with
    | some _ => some (True, .ptr id e (g + off))
    | none => none
   | .ip z xs e g => some (True, .ip z xs e (g + off))
   | .d (.ptr ds) => some (True, .ip ds.length [ds] 0 off)
   | _ => none
  | none => none
 | _ => none
theorem Fs {f : Field} {a : Addr} {sz : Nat} (hs : P.cellsOf f.type = sz) (hi : (P.info? f.type).isSome = true) (h0 : sz ≠ 0) (w : World) : (fieldPlace a f).run P w = .ok (a.add f.offset) w := by
 obtain ⟨i, hi⟩ := Option.isSome_iff_exists.1 hi
 have : i.size ≠ 0 := by simp [Program.cellsOf, hi] at hs; omega
 simp [fieldPlace, sizeOf, typeInfo, hi, this]
theorem KO (hH : Ai W0 M0 H n w S) {s : TypeId} {x c : AV} {f : Nat} {v : Value} {p : Prop} (h : Dn X.ty H s x f = some (p, c)) (hx : R w S n x v) :
  ∃ r, (Instr.fieldAt s v f).run P w = .ok r w ∧ R w S n c r := by
 unfold Dn at h
 split at h
 ·rename_i fs eq _ _ _ hty
  obtain ⟨fields, hu, hfs, hinf, _⟩ := (X.facts hty).struct
  split at h
  ·rename_i off sz ag hf
   split at h
   ·cases h
   ·rename_i h0
    rw [← hfs, List.getElem?_map, Array.getElem?_toList] at hf
    cases hff : fields[f]? with
    | none => rw [hff] at hf; cases hf
    | some fld =>
     rw [hff] at hf
     simp only [Option.map_some, Option.some.injEq, Prod.mk.injEq] at hf
     obtain ⟨ho, hsz, _⟩ := hf
     have hin := hinf fld (by rw [← Array.getElem?_toList] at hff; exact List.mem_of_getElem? hff)
     split at h
     ·rename_i id e g
      split at h
      ·rename_i b hb
       simp only [Option.some.injEq, Prod.mk.injEq] at h
       obtain ⟨_, rfl⟩ := h
       obtain ⟨l, k, hS, _, hk, rfl⟩ := hx.ptr_live hH hb
       refine ⟨.pointer (some ⟨k, e * l.sz + (g + off), none⟩), by simp [Instr.fieldAt, run_underlying hu, hff, Instr.sureAddr, Fs hsz hin.1 h0, ho, Ck, Nat.add_assoc], .ptr id e (g + off) k l ?_ hS hk⟩
       rcases Nat.lt_or_ge id n with h' | h'
       ·exact h'
       ·rw [hH.bnd id h'] at hS; cases hS
      ·cases h
     ·rename_i z xs e g
      simp only [Option.some.injEq, Prod.mk.injEq] at h
      obtain ⟨_, rfl⟩ := h
      cases hx with | ip _ _ _ _ b o u hb hO hc hr =>
      refine ⟨.pointer (some ⟨b, o + e * z + (g + off), none⟩), by simp [Instr.fieldAt, run_underlying hu, hff, Instr.sureAddr, Fs hsz hin.1 h0, ho, Ck, Nat.add_assoc], .ip z xs e (g + off) b o u hb hO hc hr⟩
     ·rename_i ds
      simp only [Option.some.injEq, Prod.mk.injEq] at h
      obtain ⟨_, rfl⟩ := h
      cases hx with | d hx =>
      cases hx with | ptr _ b o u hb hO hc hr =>
      have key : ∀ e f c, D4 [ds] e f = some c → e = 0 ∧ ds[f]? = some c := fun e f c hh => by
       obtain ⟨x, h1, h2⟩ := B4 hh
       cases e with
       | zero => simp at h1; subst h1; exact ⟨rfl, h2⟩
       | succ e => simp at h1
      refine ⟨.pointer (some ⟨b, o + 0 * ds.length + off, none⟩), by simp [Instr.fieldAt, run_underlying hu, hff, Instr.sureAddr, Fs hsz hin.1 h0, ho, Ck], .ip ds.length [ds] 0 off b o (fun _ f => u f) hb hO (fun e f c hh => ?_) (fun e f c hh => ?_)⟩
      ·obtain ⟨rfl, h2⟩ := key e f c hh
       rw [Nat.zero_mul, Nat.add_zero]; exact hc f c h2
      ·exact hr f c (key e f c hh).2
     ·cases h
  ·cases h
 ·cases h
def Dp (ty : TypeId → Option TI) (H : Av) (t : TypeId) (x i : AV) : RV :=
 match i with
 | .d (.int _ k) => match ty t with
  | some ⟨.slice e, _, _, _⟩ => match ty e with
   | some ti => match x with
    | .d (.sl xs) => some (0 ≤ k ∧ k < xs.length ∧ CW ti.size xs, .ip ti.size xs k.toNat 0)
    | .sl id off len => match H id with
     | some (.vec _ sz _) => if ti.size = sz then some (0 ≤ k ∧ k < len, .ptr id (off + k.toNat) 0) else none
     | _ => none
    | _ => none
   | none => none
  | some ⟨.array m e, _, _, _⟩ => match ty e with
   | some ti => match x with
    | .ptr id e0 f0 => match H id with
     | some (.vec _ sz _) => if ti.size = sz ∧ f0 = 0 then some (0 ≤ k ∧ k < m, .ptr id (e0 + k.toNat) 0) else some (0 ≤ k ∧ k < m, .ptr id e0 (f0 + k.toNat * ti.size))
     | some (.one _ _) => some (0 ≤ k ∧ k < m, .ptr id e0 (f0 + k.toNat * ti.size))
     | _ => none
    | .ip z xs e0 f0 => some (0 ≤ k ∧ k < m, .ip z xs e0 (f0 + k.toNat * ti.size))
    | .d (.ptr ds) => some (0 ≤ k ∧ k < m, .ip ds.length [ds] 0 (k.toNat * ti.size))
    | _ => none
   | none => none
  | _ => none
 | _ => none
theorem GK {t e : TypeId} {ti : TI} (hu : P.underlying t = some (.slice e)) (hs : ∀ w, (sizeOf e).run P w = .ok ti.size w) {a : Addr} {len cap : Nat} {kk : IntKind} {k : Int} (h0 : 0 ≤ k) (h1 : k < len) (w : World) :
  (Instr.indexAt t (.slice (some a) len cap) (.int kk k)).run P w = .ok (.pointer (some (a.add (k.toNat * ti.size)))) w := by
 simp [Instr.indexAt, run_underlying hu, asIntOf, h0, h1, hs]
theorem DA {t e : TypeId} {ti : TI} {m : Nat} (hu : P.underlying t = some (.array m e)) (hs : ∀ w, (sizeOf e).run P w = .ok ti.size w) {a : Addr} {kk : IntKind} {k : Int} (h0 : 0 ≤ k) (h1 : k < m) (w : World) :
  (Instr.indexAt t (.pointer (some a)) (.int kk k)).run P w = .ok (.pointer (some (a.add (k.toNat * ti.size)))) w := by
 simp [Instr.indexAt, run_underlying hu, asIntOf, Instr.sureAddr, h0, h1, hs]
theorem Ai.lt (hH : Ai W0 M0 H n w S) {id : Nat} {l : Lay} (h : S id = some l) : id < n := by
 rcases Nat.lt_or_ge id n with h' | h'
 ·exact h'
 ·rw [hH.bnd id h'] at h; cases h
theorem KP (hH : Ai W0 M0 H n w S) {t : TypeId} {x i c : AV} {v vi : Value} {p : Prop} (h : Dp X.ty H t x i = some (p, c)) (hp : p) (hx : R w S n x v) (hi : R w S n i vi) :
  ∃ r, (Instr.indexAt t v vi).run P w = .ok r w ∧ R w S n c r := by
 unfold Dp at h
 split at h
 ·rename_i kk k
  rw [R.int_iff] at hi; subst hi
  split at h
  ·rename_i e _ _ _ hty
   have hu := (X.facts hty).slice
   split at h
   ·rename_i ti hti
    have hsz := (X.facts hti).sizeOf
    split at h
    ·rename_i xs
     simp only [Option.some.injEq, Prod.mk.injEq] at h
     obtain ⟨rfl, rfl⟩ := h
     cases hx with | d hx =>
     obtain ⟨a, cap, rfl, _⟩ := hx.slice_form
     obtain ⟨b, o, u, rfl, _, _, hb, hO, hc, hr⟩ := hx.rect hp.2.2 (fun e => by subst e; simp at hp; omega)
     refine ⟨_, GK hu hsz hp.1 hp.2.1 w, ?_⟩
     rw [Ck]
     exact .ip ti.size xs k.toNat 0 b o u hb hO hc hr
    ·rename_i id off len
     split at h
     ·rename_i sz xs hb
      split at h
      ·rename_i hs
       simp only [Option.some.injEq, Prod.mk.injEq] at h
       obtain ⟨rfl, rfl⟩ := h
       obtain ⟨l, o, hS, hbox, rfl, hc, ho, h0⟩ := hx.sl_live hH hb
       cases hk : l.blk with
       | none => have := hbox.2.2.2.2.1 hk; omega
       | some b =>
        refine ⟨_, GK hu hsz hp.1 hp.2 w, ?_⟩
        rw [Ck, hs, ho (by omega), ← hbox.1, ← Nat.add_mul]
        exact .ptr id (off + k.toNat) 0 b l (hH.lt hS) hS hk
      ·cases h
     ·cases h
    ·cases h
   ·cases h
  ·rename_i m e _ _ _ hty
   have hu := (X.facts hty).array
   split at h
   ·rename_i ti hti
    have hsz := (X.facts hti).sizeOf
    split at h
    ·rename_i id e0 f0
     split at h
     ·rename_i sz xs hb
      obtain ⟨l, bk, hS, hbox, hk, rfl⟩ := hx.ptr_live hH hb
      split at h
      ·rename_i hs
       simp only [Option.some.injEq, Prod.mk.injEq] at h
       obtain ⟨rfl, rfl⟩ := h
       obtain ⟨hs, rfl⟩ := hs
       refine ⟨_, DA hu hsz hp.1 hp.2 w, ?_⟩
       rw [Ck, hs, ← hbox.1, Nat.add_zero, ← Nat.add_mul]
       exact .ptr id (e0 + k.toNat) 0 bk l (hH.lt hS) hS hk
      ·simp only [Option.some.injEq, Prod.mk.injEq] at h
       obtain ⟨rfl, rfl⟩ := h
       refine ⟨_, DA hu hsz hp.1 hp.2 w, ?_⟩
       rw [Ck, Nat.add_assoc]
       exact .ptr id e0 _ bk l (hH.lt hS) hS hk
     ·rename_i cells hb
      obtain ⟨l, bk, hS, hbox, hk, rfl⟩ := hx.ptr_live hH hb
      simp only [Option.some.injEq, Prod.mk.injEq] at h
      obtain ⟨rfl, rfl⟩ := h
      refine ⟨_, DA hu hsz hp.1 hp.2 w, ?_⟩
      rw [Ck, Nat.add_assoc]
      exact .ptr id e0 _ bk l (hH.lt hS) hS hk
     ·cases h
    ·rename_i z xs e0 f0
     simp only [Option.some.injEq, Prod.mk.injEq] at h
     obtain ⟨rfl, rfl⟩ := h
     cases hx with | ip _ _ _ _ b o u hb hO hc hr =>
     refine ⟨_, DA hu hsz hp.1 hp.2 w, ?_⟩
     rw [Ck, Nat.add_assoc, Nat.add_assoc, ← Nat.add_assoc o]
     exact .ip z xs e0 _ b o u hb hO hc hr
    ·rename_i ds
     simp only [Option.some.injEq, Prod.mk.injEq] at h
     obtain ⟨rfl, rfl⟩ := h
     cases hx with | d hx =>
     cases hx with | ptr _ b o u hb hO hc hr =>
     refine ⟨_, DA hu hsz hp.1 hp.2 w, ?_⟩
     rw [Ck]
     have := R.ip (w := w) (S := S) (n := n) ds.length [ds] 0 (k.toNat * ti.size) b o (fun _ f => u f) hb hO (fun e f c hh => ?_) (fun e f c hh => ?_)
     ·rw [Nat.zero_mul, Nat.add_zero] at this; exact this
     ·obtain ⟨x, h1, h2⟩ := B4 hh
      cases e with
      | zero => simp at h1; subst h1; rw [Nat.zero_mul, Nat.add_zero]; exact hc f c h2
      | succ e => simp at h1
     ·obtain ⟨x, h1, h2⟩ := B4 hh
      cases e with
      | zero => simp at h1; subst h1; exact hr f c h2
      | succ e => simp at h1
    ·cases h
   ·cases h
  ·cases h
 ·cases h
/-! ### loads -/
def F7 (ti : TI) (row : Option (List D)) (f : Nat) : RV :=
 match row with
 | some x =>
  if CZ ti then some (f + ti.size ≤ x.length, .agg (((x.drop f).take ti.size).map .d))
  else match x[f]? with
   | some c => some (True, .d c)
   | none => none
 | none => none
def FJ (ty : TypeId → Option TI) (H : Av) (t : TypeId) (x : AV) : RV :=
 match ty t with
 | some ti => match x with
  | .ptr id e f => match H id with
   | some (.vec _ _ xs) => F7 ti xs[e]? f
   | some (.one _ cells) => if e = 0 then
     (if CZ ti then some (f + ti.size ≤ cells.length, .agg ((cells.drop f).take ti.size))
     else match cells[f]? with
      | some c => some (True, c)
      | none => none) else none
   | _ => none
  | .ip _ xs e f => F7 ti xs[e]? f
  | .d (.ptr ds) => F7 ti (some ds) 0
  | _ => none
 | none => none
theorem El {t : TypeId} {ti : TI} (h : BE P t ti) {b o : Nat} (us : List Value) (hl : CZ ti = true → us.length = ti.size) (hn : CZ ti = false → us.length = 1)
  (hc : ∀ (j : Nat) (u : Value), us[j]? = some u → w.cell? ⟨b, o + j, none⟩ = some u) :
  (loadVar t ⟨b, o, none⟩).run P w = .ok (if CZ ti then .agg us.toArray else us.getD 0 undef) w := by
 unfold loadVar
 have ha := h.isAgg w
 simp only [Sem.run_bind, ha, Result.andThen_ok]
 cases hag : CZ ti
 ·have h1 := hn hag
  match us, h1 with
  | [u], _ =>
   have := hc 0 u rfl
   simp only [Nat.add_zero] at this
   simp [run_load, this]
 ·simp only [if_true, Sem.run_bind, h.sizeOf, Result.andThen_ok]
  rw [← hl hag, run_loadCells_list w ⟨b, o, none⟩ us (fun j u hj => by rw [Ck]; exact hc j u hj)]
  simp
theorem H7 {t : TypeId} {ti : TI} (h : BE P t ti) {O : Nat → Prop} {row : Option (List D)} {f b o : Nat} {c : AV} {p : Prop} (hr : F7 ti row f = some (p, c)) (hp : p) (hO : O = own S)
  (hc : ∀ x (g : Nat) (d : D), row = some x → x[g]? = some d → ∃ u, w.cell? ⟨b, o + g, none⟩ = some u ∧ RD w O d u) :
  ∃ r, (loadVar t ⟨b, o + f, none⟩).run P w = .ok r w ∧ R w S n c r := by
 subst hO
 unfold F7 at hr
 split at hr
 ·rename_i x
  split at hr
  ·rename_i hag
   simp only [Option.some.injEq, Prod.mk.injEq] at hr
   obtain ⟨rfl, rfl⟩ := hr
   have hall : ∀ (k : Nat) (l : List D), (∀ (g : Nat) (d : D), l[g]? = some d → ∃ u, w.cell? ⟨b, o + f + (k + g), none⟩ = some u ∧ RD w (own S) d u) →
     ∃ us : List Value, us.length = l.length ∧ ∀ (g : Nat) (d : D), l[g]? = some d → ∃ u, us[g]? = some u ∧ w.cell? ⟨b, o + f + (k + g), none⟩ = some u ∧ RD w (own S) d u := by
    intro k l
    induction l generalizing k with
    | nil => exact fun _ => ⟨[], rfl, fun g d h => by simp at h⟩
    | cons d l ih =>
     intro hl
     obtain ⟨u, hu, hru⟩ := hl 0 d rfl
     obtain ⟨us, hlen, hus⟩ := ih (k + 1) (fun g d' hg => by
      have := hl (g + 1) d' (by simpa using hg)
      rwa [show k + (g + 1) = k + 1 + g by omega] at this)
     refine ⟨u :: us, by simp [hlen], fun g d' hg => ?_⟩
     cases g with
     | zero => simp at hg; subst hg; exact ⟨u, rfl, hu, hru⟩
     | succ g =>
      obtain ⟨u', h1, h2, h3⟩ := hus g d' (by simpa using hg)
      exact ⟨u', by simpa using h1, by rwa [show k + (g + 1) = k + 1 + g by omega], h3⟩
   obtain ⟨us, hlen, hus⟩ := hall 0 ((x.drop f).take ti.size) (fun g d hg => by
    rw [List.getElem?_take] at hg
    split at hg
    ·rw [List.getElem?_drop] at hg
     have := hc x (f + g) d rfl hg
     rwa [show o + (f + g) = o + f + (0 + g) by omega] at this
    ·cases hg)
   have hll : ((x.drop f).take ti.size).length = ti.size := by rw [List.length_take, List.length_drop]; omega
   refine ⟨_, El h us (fun _ => by omega) (fun h' => by rw [hag] at h'; cases h') (fun j u hj => ?_), ?_⟩
   ·have hj' : j < us.length := (List.getElem?_eq_some_iff.1 hj).1
    obtain ⟨u', h1, h2, _⟩ := hus j _ (List.getElem?_eq_getElem (by omega))
    rw [hj] at h1; cases h1
    rwa [Nat.zero_add] at h2
   ·rw [hag, if_pos rfl]
    refine .agg _ us (by simp [hlen]) (fun u hu => ?_) (fun i c u hci hui => ?_)
    ·obtain ⟨j, hj⟩ := List.getElem?_of_mem hu
     have hj' : j < us.length := (List.getElem?_eq_some_iff.1 hj).1
     obtain ⟨u', h1, _, h3⟩ := hus j _ (List.getElem?_eq_getElem (by omega))
     rw [hj] at h1; cases h1
     exact h3.one
    ·rw [List.getElem?_map] at hci
     cases hd : ((x.drop f).take ti.size)[i]? with
     | none => rw [hd] at hci; cases hci
     | some d =>
      rw [hd] at hci; cases hci
      obtain ⟨u', h1, _, h3⟩ := hus i d hd
      rw [hui] at h1; cases h1
      exact .d h3
  ·rename_i hag
   split at hr
   ·rename_i d hd
    simp only [Option.some.injEq, Prod.mk.injEq] at hr
    obtain ⟨rfl, rfl⟩ := hr
    obtain ⟨u, hu, hru⟩ := hc x f d rfl hd
    refine ⟨_, El h [u] (fun h' => absurd h' hag) (fun _ => rfl) (fun j u' hj => ?_), ?_⟩
    ·cases j with
     | zero => simp at hj; subst hj; exact hu
     | succ j => simp at hj
    ·have : CZ ti = false := by simpa using hag
     rw [this]
     exact .d hru
   ·cases hr
 ·cases hr
theorem JU (hH : Ai W0 M0 H n w S) {t : TypeId} {x c : AV} {v : Value} {p : Prop} (h : FJ X.ty H t x = some (p, c)) (hp : p) (hx : R w S n x v) :
  ∃ r, (Instr.loadAt t v).run P w = .ok r w ∧ R w S n c r := by
 unfold FJ at h
 split at h
 ·rename_i ti hty
  have hT := X.facts hty
  have run : ∀ (b o : Nat) (r : Value), (loadVar t ⟨b, o, none⟩).run P w = .ok r w → (Instr.loadAt t (.pointer (some ⟨b, o, none⟩))).run P w = .ok r w := fun b o r hr => by simp [Instr.loadAt, Instr.sureAddr, hr]
  split at h
  ·rename_i id e f
   split at h
   ·rename_i sz xs hb
    obtain ⟨l, bk, hS, ⟨hsz, _, _, hz, _, hbk⟩, hk, rfl⟩ := hx.ptr_live hH hb
    obtain ⟨cur, hcur, hsize, hcell⟩ := hbk bk hk
    obtain ⟨r, hr, hR⟩ := H7 (n := n) hT (f := f) (b := bk) (o := e * l.sz) h hp rfl (fun row g d hrow hd => by
     obtain ⟨u, hu, hru⟩ := hcell e g d (by simp [D4, hrow, hd])
     refine ⟨u, ?_, hru⟩
     rw [cell_of_row w bk _ cur _ (0, 0) hcur, hsz]
     exact hu)
    exact ⟨r, run _ _ _ hr, hR⟩
   ·rename_i cells hb
    obtain ⟨l, bk, hS, ⟨hsz, hcap, bk', hk', cur, hcur, hsize, hcell⟩, hk, rfl⟩ := hx.ptr_live hH hb
    have hbb : bk = bk' := by rw [hk] at hk'; injection hk'
    subst hbb
    split at h
    ·rename_i he
     subst he
     rw [Nat.zero_mul, Nat.zero_add]
     split at h
     ·rename_i hag
      simp only [Option.some.injEq, Prod.mk.injEq] at h
      obtain ⟨rfl, rfl⟩ := h
      have hll : ((cells.drop f).take ti.size).length = ti.size := by rw [List.length_take, List.length_drop]; omega
      have hget : ∀ (j : Nat) (u : Value), ((cur.toList.drop f).take ti.size)[j]? = some u → cur[f + j]? = some u ∧ j < ti.size := fun j u hj => by
       rw [List.getElem?_take] at hj
       split at hj
       ·rw [List.getElem?_drop, Array.getElem?_toList] at hj; exact ⟨hj, by assumption⟩
       ·cases hj
      refine ⟨_, run _ _ _ (El hT ((cur.toList.drop f).take ti.size) (fun _ => by rw [List.length_take, List.length_drop, Array.length_toList]; omega) (fun h' => by rw [hag] at h'; cases h') (fun j u hj => ?_)), ?_⟩
      ·rw [cell_of_row w bk _ cur _ (0, 0) hcur]; exact (hget j u hj).1
      ·rw [hag, if_pos rfl]
       have hone : ∀ (j : Nat) (u : Value), ((cur.toList.drop f).take ti.size)[j]? = some u → ∃ c, cells[f + j]? = some c ∧ u.oneCell' = true ∧ R w S n c u := fun j u hj => by
        obtain ⟨h1, h2⟩ := hget j u hj
        have hlt : f + j < cells.length := by have := (Array.getElem?_eq_some_iff.1 h1).1; omega
        obtain ⟨u', h3, h4, h5⟩ := hcell (f + j) _ (List.getElem?_eq_getElem hlt)
        rw [h1] at h3; cases h3
        exact ⟨_, List.getElem?_eq_getElem hlt, h4, h5⟩
       refine .agg _ _ (by rw [List.length_take, List.length_drop, Array.length_toList, List.length_take, List.length_drop, hsize]) (fun u hu => ?_) (fun i c u hci hui => ?_)
       ·obtain ⟨j, hj⟩ := List.getElem?_of_mem hu
        exact (hone j u hj).choose_spec.2.1
       ·obtain ⟨c', h1, _, h3⟩ := hone i u hui
        rw [List.getElem?_take] at hci
        split at hci
        ·rw [List.getElem?_drop] at hci
         rw [h1] at hci; cases hci; exact h3
        ·cases hci
     ·rename_i hag
      split at h
      ·rename_i c' hc'
       simp only [Option.some.injEq, Prod.mk.injEq] at h
       obtain ⟨rfl, rfl⟩ := h
       obtain ⟨u, hu, _, hru⟩ := hcell f _ hc'
       refine ⟨_, run _ _ _ (El hT [u] (fun h' => absurd h' hag) (fun _ => rfl) (fun j u' hj => ?_)), ?_⟩
       ·cases j with
        | zero => simp at hj; subst hj; rw [cell_of_row w bk _ cur _ (0, 0) hcur]; exact hu
        | succ j => simp at hj
       ·have : CZ ti = false := by simpa using hag
        rw [this]
        exact hru
      ·cases h
    ·cases h
   ·cases h
  ·rename_i z xs e f
   cases hx with | ip _ _ _ _ b o u hb hO hc hr' =>
   obtain ⟨r, hr, hR⟩ := H7 (n := n) hT (f := f) (b := b) (o := o + e * z) h hp rfl (fun row g d hrow hd => by
    have : D4 xs e g = some d := by simp [D4, hrow, hd]
    exact ⟨u e g, hc e g d this, hr' e g d this⟩)
   exact ⟨r, run _ _ _ hr, hR⟩
  ·rename_i ds
   cases hx with | d hx =>
   cases hx with | ptr _ b o u hb hO hc hr' =>
   obtain ⟨r, hr, hR⟩ := H7 (n := n) hT (f := 0) (b := b) (o := o) h hp rfl (fun row g d hrow hd => by
    cases hrow
    exact ⟨u g, hc g d hd, hr' g d hd⟩)
   exact ⟨r, run _ _ _ hr, hR⟩
  ·cases h
 ·cases h
end
end Go.Vc
/- The Vc layer: parts of values, building structs, conversions, and all value operations under one name. -/
set_option linter.all false
namespace Go.Vc
open Go Go.RowKit
variable [Bl]
section
variable {P : Program} {X : LR P} {w : World} {S : Lays} {n : Nat} {W0 : World} {M0 : Nat → Prop} {H : Av}
theorem Ai.live (hH : Ai W0 M0 H n w S) {id : Nat} {b : B7} (h : H id = some b) : S id ≠ none := by
 obtain ⟨l, hl, _⟩ := hH.box id b h
 rw [hl]; simp
theorem W9 (hH : Ai W0 M0 H n w S) {x c : AV} {v : Value} {p : Prop} {o : Oper} {a : Act} {y : Operand} (ho : o.op = .nilCheck y) (hv : a.eval y = v) (h : Mj H x = some (p, c)) (hx : R w S n x v) :
  ∃ r, (execOp a.eval o).run P w = .ok (.value r) w ∧ R w S n c r := by
 have run : ∀ r, (∀ (m : String) (f cp : Array Value), r ≠ .func (.method m) f cp) → r ≠ .pointer none → r ≠ .nilIface → r ≠ .nilFunc → v = r → (execOp a.eval o).run P w = .ok (.value r) w := by
  intro r h1 h2 h3 h4 hr
  subst hr
  simp only [execOp, ho, hv]
  first
   | (split <;> simp_all; done)
   | simp
 unfold Mj at h
 split at h
 ·rename_i id e f
  split at h
  ·rename_i b hb
   simp only [Option.some.injEq, Prod.mk.injEq] at h
   obtain ⟨_, rfl⟩ := h
   obtain ⟨l, k, hS, _, hk, rfl⟩ := hx.ptr_live hH hb
   exact ⟨_, run _ (by simp) (by simp) (by simp) (by simp) rfl, .ptr id e f k l (hH.lt hS) hS hk⟩
  ·cases h
 ·rename_i sz xs e f
  simp only [Option.some.injEq, Prod.mk.injEq] at h
  obtain ⟨_, rfl⟩ := h
  cases hx with | ip _ _ _ _ b o' u hb hO hc hr =>
  exact ⟨_, run _ (by simp) (by simp) (by simp) (by simp) rfl, .ip sz xs e f b o' u hb hO hc hr⟩
 ·rename_i cs
  simp only [Option.some.injEq, Prod.mk.injEq] at h
  obtain ⟨_, rfl⟩ := h
  cases hx with | d hx =>
  cases hx with | ptr _ b o' u hb hO hc hr =>
  refine ⟨.pointer (some ⟨b, o', none⟩), run _ (by simp) (by simp) (by simp) (by simp) rfl, ?_⟩
  have := R.ip (w := w) (S := S) (n := n) cs.length [cs] 0 0 b o' (fun _ f => u f) hb hO (fun e f c hh => by
   obtain ⟨x, hx, hf⟩ := B4 hh
   cases e with
   | zero => simp at hx; subst hx; simpa using hc f c hf
   | succ e => simp at hx) (fun e f c hh => by
   obtain ⟨x, hx, hf⟩ := B4 hh
   cases e with
   | zero => simp at hx; subst hx; exact hr f c hf
   | succ e => simp at hx)
  simpa using this
 ·rename_i g cs
  simp only [Option.some.injEq, Prod.mk.injEq] at h
  obtain ⟨_, rfl⟩ := h
  cases hx with | clo fn _ us hl hr => exact ⟨_, run _ (by simp) (by simp) (by simp) (by simp) rfl, .clo _ cs us hl hr⟩
 ·cases h
/-! ### parts -/
def Lm (agg : Bool) (sz : Nat) (cs : List AV) (off : Nat) : RV :=
 if agg then some (off + sz ≤ cs.length, .agg ((cs.drop off).take sz))
 else match cs[off]? with
  | some c => some (True, c)
  | none => none
theorem Nx {t : TypeId} {sz : Nat} {agg : Bool} {cs : List AV} {off : Nat} {v : Value} {c : AV} {p : Prop} (h : Lm agg sz cs off = some (p, c)) (hp : p) (hx : R w S n (.agg cs) v)
  (ha : ∀ w, (isAgg t).run P w = .ok agg w) (hs : ∀ w, (sizeOf t).run P w = .ok sz w) :
  ∃ us, v = .agg us ∧ ∃ r, (part t us off).run P w = .ok r w ∧ R w S n c r := by
 cases hx with | agg _ us hl h1 hr =>
 refine ⟨_, rfl, ?_⟩
 unfold Lm at h
 split at h
 ·rename_i hag
  simp only [Option.some.injEq, Prod.mk.injEq] at h
  obtain ⟨rfl, rfl⟩ := h
  refine ⟨.agg ((us.drop off).take sz).toArray, by simp [part, ha, hag, hs], ?_⟩
  refine .agg _ _ (by simp [hl]) (fun u hu => h1 u (List.mem_of_mem_drop (List.mem_of_mem_take hu))) (fun i c u hc hu => ?_)
  rw [List.getElem?_take] at hc hu
  split at hc
  ·rw [if_pos (by assumption)] at hu
   rw [List.getElem?_drop] at hc hu
   exact hr _ _ _ hc hu
  ·cases hc
 ·rename_i hag
  split at h
  ·rename_i c' hc
   simp only [Option.some.injEq, Prod.mk.injEq] at h
   obtain ⟨rfl, rfl⟩ := h
   have hi : off < cs.length := (List.getElem?_eq_some_iff.1 hc).1
   have hi' : off < us.length := by omega
   refine ⟨us[off], ?_, hr off _ _ hc (by simp)⟩
   have : agg = false := by simpa using hag
   simp [part, ha, this, List.getElem?_eq_getElem hi']
  ·cases h
def I4 (ty : TypeId → Option TI) (s : TypeId) (x : AV) (f : Nat) : RV :=
 match ty s with
 | some ⟨.struct fs _, _, _, _⟩ => match fs[f]? with
  | some (off, sz, ag) => match x with
   | .agg cs => Lm ag sz cs off
   | _ => none
  | none => none
 | _ => none
theorem K9 {t : TypeId} (hi : (P.info? t).isSome = true) (hu : (P.underlying t).isSome = true) (w : World) : (isAgg t).run P w = .ok (WD (P.underlying t)) w := by
 obtain ⟨d, hd⟩ := Option.isSome_iff_exists.1 hu
 rw [hd]
 unfold isAgg WD
 simp only [Sem.run_bind, run_underlying hd, Result.andThen_ok]
 cases d <;> simp
theorem RY {s : TypeId} {x c : AV} {f : Nat} {v : Value} {p : Prop} (h : I4 X.ty s x f = some (p, c)) (hp : p) (hx : R w S n x v) : ∃ r, (Instr.field s v f).run P w = .ok r w ∧ R w S n c r := by
 unfold I4 at h
 split at h
 ·rename_i fs eq _ _ _ hty
  obtain ⟨fields, hu, hfs, hinf, _⟩ := (X.facts hty).struct
  split at h
  ·rename_i off sz ag hf
   rw [← hfs, List.getElem?_map, Array.getElem?_toList] at hf
   cases hff : fields[f]? with
   | none => rw [hff] at hf; cases hf
   | some fld =>
    rw [hff] at hf
    simp only [Option.map_some, Option.some.injEq, Prod.mk.injEq] at hf
    obtain ⟨ho, hsz, hag⟩ := hf
    have hin := hinf fld (by rw [← Array.getElem?_toList] at hff; exact List.mem_of_getElem? hff)
    obtain ⟨i, hi⟩ := Option.isSome_iff_exists.1 hin.1
    split at h
    ·rename_i cs
     obtain ⟨us, rfl, r, hr, hR⟩ := Nx h hp hx (t := fld.type) (fun w => by rw [K9 hin.1 hin.2, hag]) (fun w => by
      have : i.size = sz := by simpa [Program.cellsOf, hi] using hsz
      simp [sizeOf, typeInfo, hi, this])
     exact ⟨r, by simp [Instr.field, run_underlying hu, hff, asAgg, ho, hr], hR⟩
    ·cases h
  ·cases h
 ·cases h
def I5 (ty : TypeId → Option TI) (t : TypeId) (x i : AV) : RV :=
 match i with
 | .d (.int _ k) => match ty t with
  | some ⟨.str, _, _, _⟩ => match x with
   | .d (.str s) => match s[k.toNat]? with
    | some b => some (0 ≤ k, .d (.int .u8 b.toNat))
    | none => none
   | _ => none
  | some ⟨.array m e, _, _, _⟩ => match ty e with
   | some ti => match x with
    | .agg cs => match Lm (CZ ti) ti.size cs (k.toNat * ti.size) with
     | some (p, c) => some (0 ≤ k ∧ k < m ∧ p, c)
     | none => none
    | _ => none
   | none => none
  | _ => none
 | _ => none
theorem RZ {t : TypeId} {x i c : AV} {v vi : Value} {p : Prop} (h : I5 X.ty t x i = some (p, c)) (hp : p) (hx : R w S n x v) (hi : R w S n i vi) : ∃ r, (Instr.index t v vi).run P w = .ok r w ∧ R w S n c r := by
 unfold I5 at h
 split at h
 ·rename_i kk k
  rw [R.int_iff] at hi; subst hi
  split at h
  ·rename_i hty
   have hu := (X.facts hty).str
   split at h
   ·rename_i s
    split at h
    ·rename_i b hb
     simp only [Option.some.injEq, Prod.mk.injEq] at h
     obtain ⟨rfl, rfl⟩ := h
     rw [R.str_iff] at hx; subst hx
     have hlt : k.toNat < s.length := (List.getElem?_eq_some_iff.1 hb).1
     have hg : (⟨s.toArray⟩ : ByteArray)[k.toNat]? = some b := by
      rw [ByteArray.getElem?_lt' _ _ (by simpa [ByteArray.size] using hlt)]
      have := (List.getElem?_eq_some_iff.1 hb).2
      simpa [ByteArray.getElem_eq_getElem_data] using this
     exact ⟨.int .u8 b.toNat, by simp [Instr.index, run_underlying hu, asIntOf, hp, hg], R.mkInt _ _⟩
    ·cases h
   ·cases h
  ·rename_i m e _ _ _ hty
   have hu := (X.facts hty).array
   split at h
   ·rename_i ti hti
    split at h
    ·rename_i cs
     split at h
     ·rename_i p' c' hpart
      simp only [Option.some.injEq, Prod.mk.injEq] at h
      obtain ⟨rfl, rfl⟩ := h
      obtain ⟨us, rfl, r, hr, hR⟩ := Nx hpart hp.2.2 hx (X.facts hti).isAgg (X.facts hti).sizeOf
      exact ⟨r, by simp [Instr.index, run_underlying hu, asIntOf, hp.1, hp.2.1, (X.facts hti).sizeOf, hr], hR⟩
     ·cases h
    ·cases h
   ·cases h
  ·cases h
 ·cases h
/-! ### build -/
def DY (H : Av) : AV → Option (List AV)
 | .agg cs => some cs
 | .d x => some [.d x]
 | .sl i o l => match H i with
  | some _ => some [.sl i o l]
  | none => none
 | .ptr i e f => match H i with
  | some _ => some [.ptr i e f]
  | none => none
 | .ip z xs e f => some [.ip z xs e f]
 | .clo f c => some [.clo f c]
 | _ => none
theorem IB (hH : Ai W0 M0 H n w S) {x : AV} {v : Value} {cs : List AV} (h : DY H x = some cs) (hx : R w S n x v) :
  v.cells.size = cs.length ∧ ∀ (i : Nat) (c : AV), cs[i]? = some c → ∃ u, v.cells[i]? = some u ∧ u.oneCell' = true ∧ R w S n c u := by
 have one : ∀ (c : AV) (u : Value), u.oneCell' = true → R w S n c u → u.cells.size = [c].length ∧ ∀ (i : Nat) (c' : AV), [c][i]? = some c' → ∃ u', u.cells[i]? = some u' ∧ u'.oneCell' = true ∧ R w S n c' u' := by
  intro c u hu hR
  have : u.cells = #[u] := by cases u <;> first | rfl | cases hu
  rw [this]
  refine ⟨rfl, fun i c' hc => ?_⟩
  cases i with
  | zero => simp at hc; subst hc; exact ⟨u, rfl, hu, hR⟩
  | succ i => simp at hc
 unfold DY at h
 split at h
 ·simp only [Option.some.injEq] at h
  subst h
  cases hx with | agg _ us hl h1 hr =>
  refine ⟨by simpa [Value.cells] using hl, fun i c hc => ?_⟩
  have hi : i < us.length := by have := (List.getElem?_eq_some_iff.1 hc).1; omega
  exact ⟨us[i], by simp [Value.cells, List.getElem?_eq_getElem hi], h1 _ (List.getElem_mem hi), hr i c _ hc (List.getElem?_eq_getElem hi)⟩
 ·simp only [Option.some.injEq] at h
  subst h
  cases hx with | d hx => exact one _ _ hx.one (.d hx)
 ·split at h <;> simp only [Option.some.injEq, reduceCtorEq] at h
  rename_i b hb
  subst h
  obtain ⟨l, o, _, _, rfl, _⟩ := hx.sl_live hH hb
  exact one _ _ rfl hx
 ·split at h <;> simp only [Option.some.injEq, reduceCtorEq] at h
  rename_i b hb
  subst h
  obtain ⟨l, _, _, _, _, rfl⟩ := hx.ptr_live hH hb
  exact one _ _ rfl hx
 ·simp only [Option.some.injEq] at h
  subst h
  exact one _ _ (by cases hx; rfl) hx
 ·simp only [Option.some.injEq] at h
  subst h
  exact one _ _ (by cases hx; rfl) hx
 ·cases h
def A6 {α : Type} (cs : List α) (off : Nat) (vs : List α) : List α := cs.take off ++ vs ++ cs.drop (off + vs.length)
theorem CG {α : Type} {cs vs : List α} {off : Nat} (h : off + vs.length ≤ cs.length) : (A6 cs off vs).length = cs.length := by
 simp [A6, List.length_take, List.length_drop]; omega
theorem Ea {α : Type} {cs vs : List α} {off i : Nat} (h : off + vs.length ≤ cs.length) : (A6 cs off vs)[i]? = if off ≤ i ∧ i < off + vs.length then vs[i - off]? else cs[i]? := by
 have hl : (cs.take off).length = off := by rw [List.length_take]; omega
 unfold A6
 by_cases h1 : i < off
 ·rw [if_neg (by omega), List.append_assoc, List.getElem?_append_left (by omega), List.getElem?_take, if_pos h1]
 ·by_cases h2 : i < off + vs.length
  ·rw [if_pos ⟨by omega, h2⟩, List.getElem?_append_left (by rw [List.length_append]; omega), List.getElem?_append_right (by omega), hl]
  ·rw [if_neg (by omega), List.getElem?_append_right (by rw [List.length_append]; omega), List.getElem?_drop, List.length_append, hl]
   congr 1; omega
def EU (H : Av) (place : Nat → Option (Nat × Nat)) (cs : List AV) : List (Nat × AV) → Option (List AV)
 | [] => some cs
 | (i, v) :: rest => match place i, DY H v with
  | some (off, sz), some vs => if vs.length = sz ∧ off + sz ≤ cs.length then EU H place (A6 cs off vs) rest else none
  | _, _ => none
theorem G7 (off : Nat) : ∀ (l : List (Value × Nat)) (cells : Array Value), (l.foldl (fun cs (p : Value × Nat) => cs.setIfInBounds (off + p.2) p.1) cells).size = cells.size := by
 intro l
 induction l with
 | nil => intro cells; rfl
 | cons p l ih => intro cells; rw [List.foldl_cons, ih]; simp
theorem Hj (off : Nat) : ∀ (vs : List Value) (k : Nat) (cells : Array Value) (i : Nat), off + k + vs.length ≤ cells.size →
  ((vs.zipIdx k).foldl (fun cs (p : Value × Nat) => cs.setIfInBounds (off + p.2) p.1) cells)[i]? = if off + k ≤ i ∧ i < off + k + vs.length then vs[i - (off + k)]? else cells[i]? := by
 intro vs
 induction vs with
 | nil => intro k cells i _; simp; intro h1 h2; omega
 | cons v vs ih =>
  intro k cells i h
  simp only [List.length_cons] at h
  rw [List.zipIdx_cons, List.foldl_cons, ih (k + 1) _ i (by simp; omega)]
  by_cases h1 : i = off + k
  ·subst h1
   rw [if_neg (by omega), if_pos (by simp)]
   simp [Array.getElem?_setIfInBounds, show off + k < cells.size by omega]
  ·by_cases h2 : off + k ≤ i ∧ i < off + k + (v :: vs).length
   ·simp only [List.length_cons] at h2
    rw [if_pos (by omega), if_pos (by simp only [List.length_cons]; exact h2), show i - (off + k) = (i - (off + (k + 1))) + 1 by omega]
    simp
   ·have h2' := h2
    simp only [List.length_cons] at h2'
    rw [if_neg (by omega), if_neg h2, Array.getElem?_setIfInBounds, if_neg (by omega)]
theorem NX (hH : Ai W0 M0 H n w S) {placeA place : Nat → Option (Nat × Nat)} (hpl : ∀ i x, placeA i = some x → place i = some x) : ∀ (parts : List (Nat × AV)) (vparts : List (Nat × Value)) (cs : List AV) (cells : Array Value) (out : List AV),
  EU H placeA cs parts = some out → cells.size = cs.length → (∀ (i : Nat) (c : AV), cs[i]? = some c → ∃ u, cells[i]? = some u ∧ u.oneCell' = true ∧ R w S n c u) →
  vparts.length = parts.length → (∀ (i k : Nat) (c : AV), parts[i]? = some (k, c) → ∃ v, vparts[i]? = some (k, v) ∧ R w S n c v) →
  ∃ cells', Instr.fill place cells vparts = some cells' ∧ cells'.size = out.length ∧ ∀ (i : Nat) (c : AV), out[i]? = some c → ∃ u, cells'[i]? = some u ∧ u.oneCell' = true ∧ R w S n c u := by
 intro parts
 induction parts with
 | nil =>
  intro vparts cs cells out h hs hc hl _
  cases vparts with
  | nil => simp [EU] at h; subst h; exact ⟨cells, rfl, hs, hc⟩
  | cons => simp at hl
 | cons pc parts ih =>
  intro vparts cs cells out h hs hc hl hv
  obtain ⟨k, c⟩ := pc
  cases vparts with
  | nil => simp at hl
  | cons kv vparts =>
   obtain ⟨v, hv0, hR⟩ := hv 0 k c rfl
   simp at hv0
   subst hv0
   unfold EU at h
   split at h
   ·rename_i off sz vs hpk hcv
    split at h
    ·rename_i hcond
     obtain ⟨hsz, hfit⟩ := hcond
     obtain ⟨hvs, hcells⟩ := IB hH hcv hR
     have hstep := ih vparts (A6 cs off vs) (v.cells.zipIdx.foldl (fun cs (x : Value × Nat) => cs.setIfInBounds (off + x.2) x.1) cells) out h ?_ ?_ (by simpa using hl) (fun i k' c' hi => hv (i + 1) k' c' (by simpa using hi))
     ·obtain ⟨cells', h1, h2⟩ := hstep
      refine ⟨cells', ?_, h2⟩
      unfold Instr.fill
      rw [hpl k _ hpk]
      simp only
      rw [if_neg (by simp; omega)]
      exact h1
     ·rw [← Array.foldl_toList, Array.toList_zipIdx, G7, CG (by omega), hs]
     ·intro i c' hi
      rw [Ea (by omega)] at hi
      rw [← Array.foldl_toList, Array.toList_zipIdx]
      have := Hj off v.cells.toList 0 cells i (by simp; omega)
      rw [this]
      simp only [Nat.add_zero, Array.length_toList, hvs]
      split at hi
      ·rename_i hin
       rw [if_pos hin, Array.getElem?_toList]
       exact hcells _ _ hi
      ·rename_i hin
       rw [if_neg hin]
       exact hc _ _ hi
    ·cases h
   ·cases h
def Fm (ty : TypeId → Option TI) (H : Av) (t : TypeId) (parts : List (Nat × AV)) : RV :=
 match ty t with
 | some ⟨.struct fs _, sz, _, z :: zs⟩ => (EU H (fun i => (fs[i]?).map fun f => (f.1, f.2.1)) ((z :: zs).map .d) parts).map fun cs => (sz = (z :: zs).length, .agg cs)
 | some ⟨.array m e, sz, _, z :: zs⟩ => match ty e with
  | some ti => (EU H (fun i => some (i * ti.size, ti.size)) ((z :: zs).map .d) parts).map fun cs => (sz = (z :: zs).length, .agg cs)
  | none => none
 | _ => none
theorem HM {out : List AV} {cells : Array Value} (hs : cells.size = out.length) (hc : ∀ (i : Nat) (c : AV), out[i]? = some c → ∃ u, cells[i]? = some u ∧ u.oneCell' = true ∧ R w S n c u) : R w S n (.agg out) (.agg cells) := by
 have := R.agg (w := w) (S := S) (n := n) out cells.toList (by simpa using hs) (fun u hu => ?_) (fun i c u hci hui => ?_)
 ·simpa using this
 ·obtain ⟨j, hj⟩ := List.getElem?_of_mem hu
  have hj' : j < out.length := by have := (List.getElem?_eq_some_iff.1 hj).1; simp at this; omega
  obtain ⟨u', h1, h2, _⟩ := hc j _ (List.getElem?_eq_getElem hj')
  rw [Array.getElem?_toList] at hj
  rw [hj] at h1; cases h1; exact h2
 ·obtain ⟨u', h1, _, h3⟩ := hc i c hci
  rw [Array.getElem?_toList] at hui
  rw [hui] at h1; cases h1; exact h3
theorem Li (hH : Ai W0 M0 H n w S) {t : TypeId} {parts : List (Nat × AV)} {vparts : Array (Nat × Value)} {c : AV} {p : Prop} (h : Fm X.ty H t parts = some (p, c)) (hl : vparts.size = parts.length)
  (hv : ∀ (i k : Nat) (c : AV), parts[i]? = some (k, c) → ∃ v, vparts[i]? = some (k, v) ∧ R w S n c v) :
  ∃ r, (Instr.build t vparts).run P w = .ok r w ∧ R w S n c r := by
 have zc : ∀ {ti : TI}, BE P t ti → ti.zero ≠ [] → ∃ z : Value, (zeroValue t).run P w = .ok z w ∧ z.cells.size = (ti.zero.map AV.d).length ∧ ∀ (i : Nat) (c : AV), (ti.zero.map AV.d)[i]? = some c → ∃ u, z.cells[i]? = some u ∧ u.oneCell' = true ∧ R w S n c u := by
  intro ti hT hne
  obtain ⟨i, z, hi, hsz, _, hz, hzs, hzero⟩ := hT.info
  obtain ⟨hzl, hzr⟩ := hzero hne
  refine ⟨z, by simp [zeroValue, typeInfo, hi, hz], by simp [hzs, hzl], fun j c hc => ?_⟩
  rw [List.getElem?_map] at hc
  cases hd : ti.zero[j]? with
  | none => rw [hd] at hc; cases hc
  | some d =>
   rw [hd] at hc; cases hc
   have hj : j < z.cells.size := by have := (List.getElem?_eq_some_iff.1 hd).1; omega
   have := hzr w (own S) j d _ hd (Array.getElem?_eq_getElem hj)
   exact ⟨_, Array.getElem?_eq_getElem hj, this.one, .d this⟩
 unfold Fm at h
 split at h
 ·rename_i fs eq sz by_ z zs hty
  have hT := X.facts hty
  obtain ⟨fields, hu, hfs, hinf, _⟩ := hT.struct
  cases hf : EU H (fun i => (fs[i]?).map fun f => (f.1, f.2.1)) ((z :: zs).map .d) parts with
  | none => rw [hf] at h; cases h
  | some out =>
   rw [hf] at h
   simp only [Option.map_some, Option.some.injEq, Prod.mk.injEq] at h
   obtain ⟨_, rfl⟩ := h
   obtain ⟨zv, hz1, hz2, hz3⟩ := zc hT (by simp)
   obtain ⟨places, hpl, hplace⟩ : ∃ places : Array (Nat × Nat), (fields.mapM fun f => do pure (f.offset, ← sizeOf f.type) : Sem (Array (Nat × Nat))).run P w = .ok places w ∧ places.toList = fs.map fun f => (f.1, f.2.1) := by
    have key : ∀ (l : List Field), (∀ f ∈ l, (P.info? f.type).isSome = true) → (l.mapM fun f => do pure (f.offset, ← sizeOf f.type) : Sem (List (Nat × Nat))).run P w = .ok (l.map fun f => (f.offset, P.cellsOf f.type)) w := by
     intro l
     induction l with
     | nil => intro _; simp
     | cons f l ih =>
      intro hl
      obtain ⟨i, hi⟩ := Option.isSome_iff_exists.1 (hl f (by simp))
      have e1 : (sizeOf f.type).run P w = .ok (P.cellsOf f.type) w := by simp [sizeOf, typeInfo, hi, Program.cellsOf]
      rw [List.mapM_cons]
      simp only [Sem.run_bind, e1, Result.andThen_ok, Sem.run_pure, ih (fun g hg => hl g (by simp [hg])), List.map_cons]
    refine ⟨(fields.toList.map fun f => (f.offset, P.cellsOf f.type)).toArray, ?_, ?_⟩
    ·rw [Array.mapM_eq_mapM_toList]
     simp only [Sem.run_map, key fields.toList (fun f hf => (hinf f hf).1)]
     simp
    ·rw [← hfs]; simp
   obtain ⟨cells', hfill, hsize, hcells⟩ := NX hH (place := (places[·]?)) (fun i x hx => by
    rw [← Array.getElem?_toList, hplace, List.getElem?_map]; exact hx) parts vparts.toList _ zv.cells out hf hz2 hz3 (by simpa using hl) (fun i k c hi => by
     obtain ⟨v, h1, h2⟩ := hv i k c hi
     exact ⟨v, by rw [Array.getElem?_toList]; exact h1, h2⟩)
   refine ⟨.agg cells', ?_, HM hsize hcells⟩
   simp only [Instr.build, Sem.run_bind, hz1, Result.andThen_ok, run_underlying hu, hpl, hfill, Sem.run_pure]
 ·rename_i m e sz by_ z zs hty
  have hT := X.facts hty
  have hu := hT.array
  split at h
  ·rename_i ti hti
   cases hf : EU H (fun i => some (i * ti.size, ti.size)) ((z :: zs).map .d) parts with
   | none => rw [hf] at h; cases h
   | some out =>
    rw [hf] at h
    simp only [Option.map_some, Option.some.injEq, Prod.mk.injEq] at h
    obtain ⟨_, rfl⟩ := h
    obtain ⟨zv, hz1, hz2, hz3⟩ := zc hT (by simp)
    obtain ⟨cells', hfill, hsize, hcells⟩ := NX hH (place := fun i => some (i * ti.size, ti.size)) (fun i x hx => hx) parts vparts.toList _ zv.cells out hf hz2 hz3 (by simpa using hl) (fun i k c hi => by
      obtain ⟨v, h1, h2⟩ := hv i k c hi
      exact ⟨v, by rw [Array.getElem?_toList]; exact h1, h2⟩)
    refine ⟨.agg cells', ?_, HM hsize hcells⟩
    simp only [Instr.build, Sem.run_bind, hz1, Result.andThen_ok, run_underlying hu, (X.facts hti).sizeOf, hfill, Sem.run_pure]
  ·cases h
 ·cases h
end
end Go.Vc
/- The Vc layer: conversions, and all value operations under one name. -/
set_option linter.all false
namespace Go.Vc
open Go Go.RowKit
variable [Bl]
def Jm (xs : List (List D)) : List UInt8 := xs.map fun x => match x with
 | [.int _ n] => UInt8.ofNat n.toNat
 | _ => 0
def HH (xs : List (List D)) : Prop := ∀ x ∈ xs, ∃ b : UInt8, x = [.int .u8 b.toNat]
def HJ (ty : TypeId → Option TI) (H : Av) (src dst : TypeId) (x : AV) : RV :=
 match ty dst, ty src with
 | some ⟨.int k', _, _, _⟩, some _ => match x with
  | .d (.int _ n) => some (ar k' n)
  | _ => none
 | some ⟨.str, _, _, _⟩, some ⟨.str, _, _, _⟩ => match x with
  | .d (.str s) => some (True, .d (.str s))
  | _ => none
 | some ⟨.str, _, _, _⟩, some ⟨.slice e, _, _, _⟩ => match ty e with
  | some ⟨.int .u8, _, _, _⟩ => match x with
   | .d (.sl xs) => some (HH xs, .d (.str (Jm xs)))
   | .d .nils => some (True, .d (.str []))
   | .sl id off len => match H id with
    | some (.vec _ 1 xs) => some (off + len ≤ xs.length ∧ HH ((xs.drop off).take len), .d (.str (Jm ((xs.drop off).take len))))
    | _ => none
   | _ => none
  | _ => none
 | _, _ => none
section
variable {P : Program} {X : LR P} {w : World} {S : Lays} {n : Nat} {W0 : World} {M0 : Nat → Prop} {H : Av}
theorem P2 {xs : List (List D)} (h : HH xs) : ∃ l : List UInt8, xs = l.map fun b => [D.int .u8 (b.toNat : Int)] := by
 induction xs with
 | nil => exact ⟨[], rfl⟩
 | cons x xs ih =>
  obtain ⟨b, hb⟩ := h x (by simp)
  obtain ⟨l, hl⟩ := ih (fun y hy => h y (by simp [hy]))
  exact ⟨b :: l, by rw [hl, hb]; rfl⟩
theorem OX (l : List UInt8) : Jm (l.map fun b => [D.int .u8 (b.toNat : Int)]) = l := by
 simp [Jm, Function.comp_def]
theorem G3 {src dst e : TypeId} (hs : P.underlying src = some (.slice e)) (he : P.underlying e = some (.int .u8)) (hd : P.underlying dst = some .string) {xs : List (List D)} {b o cap len : Nat} {O : Nat → Prop}
  (hx : HH xs) (hl : xs.length = len) (hc : ∀ e f c, D4 xs e f = some c → ∃ u, w.cell? ⟨b, o + e * 1 + f, none⟩ = some u ∧ RD w O c u) :
  (convert src dst (.slice (some ⟨b, o, none⟩) len cap)).run P w = .ok (.string ⟨(Jm xs).toArray⟩) w := by
 obtain ⟨l, rfl⟩ := P2 hx
 rw [OX]
 have := run_convert_bytes_arg (P := P) w src e hs he b o len cap (l.map fun b => (b.toNat : Int)) (by simpa using hl) (fun i hi => ?_) dst hd
 ·rw [this]
  simp [strOfNums, Function.comp_def]
 ·have hi' : i < l.length := by simpa using (by omega : i < (l.map fun b => [D.int .u8 (b.toNat : Int)]).length)
  obtain ⟨u, hu, hr⟩ := hc i 0 (.int .u8 (l[i].toNat : Int)) (by simp [D4, hi'])
  rw [Nat.mul_one, Nat.add_zero] at hu
  rw [hu]
  cases hr
  simp [List.getD, hi']
theorem TX (hH : Ai W0 M0 H n w S) {src dst : TypeId} {x c : AV} {v : Value} {p : Prop} (h : HJ X.ty H src dst x = some (p, c)) (hp : p) (hx : R w S n x v) : ∃ r, (convert src dst v).run P w = .ok r w ∧ R w S n c r := by
 unfold HJ at h
 split at h
 ·rename_i k' _ _ _ ti hd hs
  have hu := (X.facts hd).int
  obtain ⟨d, hsrc, _⟩ := (X.facts hs).desc
  split at h
  ·rename_i k a
   rw [R.int_iff] at hx; subst hx
   have : P.intKind dst = k' := by simp [Program.intKind, hu]
   have hrun := run_convert_int (P := P) w src dst k a (by rw [hsrc]; rfl) (by rw [this]; exact hu)
   rw [this] at hrun
   refine ⟨_, hrun, ?_⟩
   simp only [Option.some.injEq] at h
   rw [show c = (ar k' a).2 by rw [h]]
   exact Lq (by rw [h]; exact hp)
  ·cases h
 ·rename_i hd hs
  have hu := (X.facts hd).str
  have hus := (X.facts hs).str
  split at h
  ·rename_i s
   simp only [Option.some.injEq, Prod.mk.injEq] at h
   obtain ⟨_, rfl⟩ := h
   rw [R.str_iff] at hx; subst hx
   exact ⟨_, by simp [convert, run_underlying hu, run_underlying hus], R.mkStr _⟩
  ·cases h
 ·rename_i e _ _ _ hd hs
  have hu := (X.facts hd).str
  have hus := (X.facts hs).slice
  split at h
  ·rename_i he
   have hue := (X.facts he).int
   split at h
   ·rename_i xs
    simp only [Option.some.injEq, Prod.mk.injEq] at h
    obtain ⟨rfl, rfl⟩ := h
    cases hx with | d hx =>
    obtain ⟨a, cap, rfl, _⟩ := hx.slice_form
    by_cases hne : xs = []
    ·subst hne
     cases a with
     | none => exact ⟨_, run_convert_bytes_nil w src e hus hue _ _ dst hu, R.mkStr _⟩
     | some ad =>
      have hrun := run_convert_bytes_string (P := P) w src dst e (some ad) 0 cap hus hue hu
      refine ⟨.string ⟨([] : List UInt8).toArray⟩, ?_, R.mkStr _⟩
      show (convert src dst (.slice (some ad) 0 cap)).run P w = _
      rw [hrun, run_bytesToString w ad 0 cap [] (by simp [loadCells, loadCellsFrom])]
      rfl
    ·obtain ⟨b, o, u, rfl, hlen, _, hb, hO, hc, hr⟩ := hx.rect (k := 1) (fun x hx => by obtain ⟨b, rfl⟩ := hp x hx; rfl) hne
     exact ⟨_, G3 hus hue hu hp rfl (fun e f c hh => ⟨_, hc e f c hh, hr e f c hh⟩), R.mkStr _⟩
   ·simp only [Option.some.injEq, Prod.mk.injEq] at h
    obtain ⟨rfl, rfl⟩ := h
    cases hx with | d hx =>
    cases hx
    exact ⟨_, run_convert_bytes_nil w src e hus hue _ _ dst hu, R.mkStr _⟩
   ·rename_i id off len
    split at h
    ·rename_i ty' xs hb
     simp only [Option.some.injEq, Prod.mk.injEq] at h
     obtain ⟨rfl, rfl⟩ := h
     obtain ⟨l, o, hS, ⟨hsz, _, _, hz, hnil, hbk⟩, rfl, hcap, ho, h0⟩ := hx.sl_live hH hb
     have hlen : ((xs.drop off).take len).length = len := by rw [List.length_take, List.length_drop]; omega
     cases hk : l.blk with
     | none =>
      have hc0 := hnil hk
      have : len = 0 := by omega
      subst this
      exact ⟨_, run_convert_bytes_nil w src e hus hue _ _ dst hu, by rw [List.take_zero]; exact R.mkStr _⟩
     | some b =>
      obtain ⟨cur, hcur, hsize, hcell⟩ := hbk b hk
      by_cases hl0 : len = 0
      ·subst hl0
       have hrun := run_convert_bytes_string (P := P) w src dst e (some ⟨b, o, none⟩) 0 (l.cap - off) hus hue hu
       refine ⟨.string ⟨([] : List UInt8).toArray⟩, ?_, by rw [List.take_zero]; exact R.mkStr _⟩
       simp only [Option.map_some]
       rw [hrun, run_bytesToString w _ 0 _ [] (by simp [loadCells, loadCellsFrom])]
       rfl
      ·refine ⟨_, G3 (O := own S) hus hue hu hp.2 hlen (fun e' f c hh => ?_), R.mkStr _⟩
       obtain ⟨u, hu', hr⟩ := hcell _ _ _ (CF hh)
       refine ⟨u, ?_, hr⟩
       rw [cell_of_row w b _ cur _ (0, 0) hcur, ho (by omega), hsz]
       rw [show off * 1 + e' * 1 + f = (off + e') * 1 + f by omega]
       exact hu'
    ·cases h
   ·cases h
  ·cases h
 ·cases h
/-! ### all of them -/
def cv : Value → AV
 | .bool b => .d (.bool b)
 | .int k n => .d (.int k n)
 | .string s => .d (.str s.data.toList)
 | .slice none 0 0 => .d .nils
 | .pointer none => .d .nilp
 | _ => .any
def Bc (fr : Nat → AV) : Operand → AV
 | .tmp t => fr t
 | .const v => cv v
 | .func f => .clo (.func f) []
 | .global g => match GA.lookup g with
  | some cs => .d (.ptr cs)
  | none => .any
theorem Zo (v : Value) : R w S n (cv v) v := by
 unfold cv
 split
 ·exact R.mkBool _
 ·exact R.mkInt _ _
 ·rename_i s
  have : s = ⟨s.data.toList.toArray⟩ := by simp
  conv => rhs; rw [this]
  exact R.mkStr _
 ·exact .d .nils
 ·exact .d .nilp
 ·exact .any _
theorem SV {α : Type} {l : List (Nat × α)} {g : Nat} {x : α} (h : l.lookup g = some x) : (g, x) ∈ l := by
 induction l with
 | nil => cases h
 | cons q l ih =>
  rw [List.lookup_cons] at h
  split at h
  ·rename_i he; cases h
   have : g = q.1 := by simpa using he
   subst this; simp
  ·exact List.mem_cons_of_mem _ (ih h)
theorem EP {fr : Nat → AV} {a : Act} (hg : ∀ p ∈ GA, Mf w (own S) p) (h : ∀ i, R w S n (fr i) (a.tmps.getD i undef)) (x : Operand) : R w S n (Bc fr x) (a.eval x) := by
 cases x with
 | tmp t => exact h t
 | const v => exact Zo v
 | func f => exact .clo (.func f) [] [] rfl (fun i c u hc => by simp at hc)
 | global g =>
  show R w S n (match GA.lookup g with | some cs => .d (.ptr cs) | none => .any) _
  cases hl : GA.lookup g with
  | none => exact .any _
  | some cs => exact .d (hg _ (SV hl)).rd
def nd (fr : Nat → AV) : List Operand → Prop
 | [] => True
 | x :: r => Bw (Bc fr x) ∧ nd fr r
theorem H8 {fr : Nat → AV} {l : List Operand} (h : nd fr l) : ∀ x ∈ l, Bw (Bc fr x) := by
 induction l with
 | nil => intro x hx; cases hx
 | cons y l ih =>
  intro x hx
  rcases List.mem_cons.1 hx with rfl | hx
  ·exact h.1
  ·exact ih h.2 x hx
def Hc (ty : TypeId → Option TI) (H : Av) (fr : Nat → AV) (o : Op) : RV :=
 match o with
 | .move x => some (True, AD (Bc fr x))
 | .assign x => some (True, AD (Bc fr x))
 | .nilCheck x => Mj H (AD (Bc fr x))
 | .binOp op t x y _ => Ey ty op t (AD (Bc fr x)) (AD (Bc fr y))
 | .unOp op _ x => Zc op (AD (Bc fr x))
 | .convert src dst x => HJ ty H src dst (AD (Bc fr x))
 | .slice t x lo hi none => EO ty H t (AD (Bc fr x)) (lo.map fun y => AD (Bc fr y)) (hi.map fun y => AD (Bc fr y))
 | .fieldAddr s x f => Dn ty H s (AD (Bc fr x)) f
 | .field s x f => I4 ty s (AD (Bc fr x)) f
 | .indexAddr t x i => Dp ty H t (AD (Bc fr x)) (AD (Bc fr i))
 | .index t x i => I5 ty t (AD (Bc fr x)) (AD (Bc fr i))
 | .load t a => FJ ty H t (AD (Bc fr a))
 | .extract x i => FI (AD (Bc fr x)) i
 | .build t parts => Fm ty H t (parts.toList.map fun p => (p.1, AD (Bc fr p.2)))
 | .makeFunc fn ⟨[]⟩ cap => some (True, .clo fn (cap.toList.map fun x => AD (Bc fr x)))
 | .call ⟨.builtin .len, ⟨[x]⟩, ⟨[t]⟩⟩ => Mi ty H t (AD (Bc fr x))
 | .call ⟨.builtin .max, ⟨[x, y]⟩, _⟩ => match AD (Bc fr x), AD (Bc fr y) with
  | .d (.int k a), .d (.int _ b) => some (True, .d (.int k (max a b)))
  | _, _ => none
 | .call ⟨.builtin .min, ⟨[x, y]⟩, _⟩ => match AD (Bc fr x), AD (Bc fr y) with
  | .d (.int k a), .d (.int _ b) => some (True, .d (.int k (min a b)))
  | _, _ => none
 | _ => none
theorem PF {op : BinOp} {t : TypeId} {c : AV} {a a' : Option Addr} {b : Bool} {p : Prop} (h : Wz X.ty op t b = some (p, c)) (he : ∀ (d : Nat) (e : TypeId), P.underlying t = some (.pointer e) → (Op.equalIn (d + 1) t (.pointer a) (.pointer a')).run P w = .ok b w) (ox oy : Operand) :
  ∃ r, (do eqGuard op t ox oy (.pointer a) (.pointer a'); binOp op t (.pointer a) (.pointer a') : Sem Value).run P w = .ok r w ∧ R w S n c r := by
 unfold Wz at h
 split at h
 ·rename_i e _ _ _ hty
  have hu := (X.facts hty).ptr
  have h9 := he 9999 _ hu
  split at h <;> simp only [Option.some.injEq, Prod.mk.injEq, reduceCtorEq] at h <;> obtain ⟨_, rfl⟩ := h
  ·exact ⟨_, by simp [eqGuard, binOp, Op.equal, Op.maxDepth, h9], R.mkBool _⟩
  ·exact ⟨_, by simp [eqGuard, binOp, Op.equal, Op.maxDepth, h9], R.mkBool _⟩
 ·cases h
theorem W5 {op : BinOp} {t : TypeId} {x y c : AV} {u v : Value} {p : Prop} (h : Ey X.ty op t x y = some (p, c)) (hp : p) (hx : R w S n x u) (hy : R w S n y v) (ox oy : Operand) :
  ∃ r, (do eqGuard op t ox oy u v; binOp op t u v : Sem Value).run P w = .ok r w ∧ R w S n c r := by
 have fin : (eqGuard op t ox oy u v).run P w = .ok () w → (∃ r, (binOp op t u v).run P w = .ok r w ∧ R w S n c r) → ∃ r, (do eqGuard op t ox oy u v; binOp op t u v : Sem Value).run P w = .ok r w ∧ R w S n c r := by
  rintro hg ⟨r, hr, hR⟩
  exact ⟨r, by simp only [Sem.run_bind, hg, Result.andThen_ok, hr], hR⟩
 unfold Ey at h
 split at h
 ·rename_i k a k' b
  rw [R.int_iff] at hx hy; subst hx hy
  refine fin (by cases op <;> simp [eqGuard]) ?_
  split at h
  ·exact Ln h hp
  ·exact Ln h hp
  ·split at h
   ·rename_i hk; subst hk
    exact W7 h hp
   ·cases h
 ·rw [R.str_iff] at hx hy; subst hx hy
  exact fin (by cases op <;> simp [eqGuard]) (WA h hp)
 ·rw [R.bool_iff] at hx hy; subst hx hy
  refine fin (by cases op <;> simp [eqGuard]) ?_
  split at h
  ·rename_i hty
   have hu := (X.facts hty).bool
   split at h <;> simp only [Option.some.injEq, Prod.mk.injEq, reduceCtorEq] at h <;> obtain ⟨_, rfl⟩ := h
   ·exact ⟨_, run_eql_bool w t _ _ hu, R.mkBool _⟩
   ·exact ⟨_, run_neq_bool w t _ _ hu, R.mkBool _⟩
  ·cases h
 ·split at h
  ·exact Lj (neg := false) h hx hy ox oy
  ·exact Lj (neg := true) h hx hy ox oy
  ·cases h
 ·cases hx with | d hx => cases hx with | nilp => cases hy with | d hy => cases hy with | nilp => exact PF h (fun d e hu => by simp [Op.equalIn, run_underlying hu]) ox oy
 ·cases hx with | d hx => cases hx with | nilp => cases hy with | d hy => cases hy with | ptr => exact PF h (fun d e hu => by simp [Op.equalIn, run_underlying hu]) ox oy
 ·cases hx with | d hx => cases hx with | ptr => cases hy with | d hy => cases hy with | nilp => exact PF h (fun d e hu => by simp [Op.equalIn, run_underlying hu]) ox oy
 ·cases h
theorem WB (hH : Ai W0 M0 H n w S) {fr : Nat → AV} {a : Act} (hF : ∀ i, R w S n (fr i) (a.tmps.getD i undef)) {o : Oper} {c : AV} {p : Prop} (h : Hc X.ty H fr o.op = some (p, c)) (hp : p) (hn : nd fr o.op.operands.toList) :
  ∃ r, (execOp a.eval o).run P w = .ok (.value r) w ∧ R w S n c r := by
 have ev : ∀ x ∈ o.op.operands.toList, R w S n (AD (Bc fr x)) (a.eval x) := fun x hx => (EP hH.gl hF x).bare_of (H8 hn x hx)
 obtain ⟨dst, op, type, pos, after, guard⟩ := o
 simp only at h hn ev
 have val : ∀ {s : Sem Value}, (∃ r, s.run P w = .ok r w ∧ R w S n c r) → ∃ r, (do pure (.value (← s)) : Sem Next).run P w = .ok (.value r) w ∧ R w S n c r := by
  rintro s ⟨r, hr, hR⟩
  exact ⟨r, by simp only [Sem.run_bind, hr, Result.andThen_ok, Sem.run_pure], hR⟩
 unfold Hc at h
 split at h
 ·rename_i x
  simp only [Option.some.injEq, Prod.mk.injEq] at h
  obtain ⟨_, rfl⟩ := h
  exact ⟨_, by simp only [execOp, Sem.run_pure], ev x (by simp [Op.operands])⟩
 ·rename_i x
  simp only [Option.some.injEq, Prod.mk.injEq] at h
  obtain ⟨_, rfl⟩ := h
  exact ⟨_, by simp only [execOp, Sem.run_pure], ev x (by simp [Op.operands])⟩
 ·rename_i x
  exact W9 hH rfl rfl h (ev x (by simp [Op.operands]))
 ·rename_i op t x y yt
  exact val (W5 h hp (ev x (by simp [Op.operands])) (ev y (by simp [Op.operands])) x y)
 ·rename_i op t x
  exact val (Yg h hp (ev x (by simp [Op.operands])))
 ·rename_i src dst x
  exact val (TX hH h hp (ev x (by simp [Op.operands])))
 ·rename_i t x lo hi
  refine val (Se hH h hp (ev x (by simp [Op.operands])) ?_ ?_)
  ·cases lo with
   | none => trivial
   | some y => exact ev y (by simp [Op.operands])
  ·cases hi with
   | none => trivial
   | some y => exact ev y (by simp [Op.operands])
 ·rename_i s x f
  exact val (KO hH h (ev x (by simp [Op.operands])))
 ·rename_i s x f
  exact val (RY h hp (ev x (by simp [Op.operands])))
 ·rename_i t x i
  exact val (KP hH h hp (ev x (by simp [Op.operands])) (ev i (by simp [Op.operands])))
 ·rename_i t x i
  exact val (RZ h hp (ev x (by simp [Op.operands])) (ev i (by simp [Op.operands])))
 ·rename_i t x
  exact val (JU hH h hp (ev x (by simp [Op.operands])))
 ·rename_i x i
  exact val (Nw h (ev x (by simp [Op.operands])))
 ·rename_i t parts
  refine val (Li hH h (by simp) (fun i k c hi => ?_))
  rw [List.getElem?_map] at hi
  cases hq : parts.toList[i]? with
  | none => rw [hq] at hi; cases hi
  | some q =>
   rw [hq] at hi
   simp only [Option.map_some, Option.some.injEq, Prod.mk.injEq] at hi
   obtain ⟨rfl, rfl⟩ := hi
   refine ⟨a.eval q.2, ?_, ev q.2 ?_⟩
   ·rw [Array.getElem?_toList] at hq
    simp [hq]
   ·simp only [Op.operands, List.toList_toArray, List.mem_map]
    exact ⟨q, List.mem_of_getElem? hq, rfl⟩
 ·rename_i fn cap
  simp only [Option.some.injEq, Prod.mk.injEq] at h
  obtain ⟨_, rfl⟩ := h
  refine ⟨.func fn #[] (cap.toList.map a.eval).toArray, ?_, .clo fn _ _ (by simp) (fun i c u hc hu => ?_)⟩
  ·simp [execOp, Instr.makeFunc]
   rw [← Array.toList_map]
  ·rw [List.getElem?_map] at hc hu
   cases hq : cap.toList[i]? with
   | none => rw [hq] at hc; cases hc
   | some q =>
    rw [hq] at hc hu; cases hc; cases hu
    refine ev q ?_
    simp only [Op.operands, Array.toList_append, List.mem_append]
    exact .inr (List.mem_of_getElem? hq)
 ·rename_i x t
  obtain ⟨r, hr, hR⟩ := W8 (ty' := type) hH h (ev x (by simp [Op.operands, Call.operands]))
  refine ⟨r, ?_, hR⟩
  simp only [execOp, resolve, invoke, builtin, Sem.run_bind, Sem.run_pure, Result.andThen_ok, List.map_toArray, List.map_cons, List.map_nil]
  have : (⟨[t]⟩ : Array TypeId) = #[t] := rfl
  rw [hr]
  rfl
 ·rename_i x y ts
  split at h
  ·rename_i k b k' b' h1 h2
   simp only [Option.some.injEq, Prod.mk.injEq] at h
   obtain ⟨_, rfl⟩ := h
   have e1 := ev x (by simp [Op.operands, Call.operands])
   have e2 := ev y (by simp [Op.operands, Call.operands])
   rw [h1, R.int_iff] at e1
   rw [h2, R.int_iff] at e2
   refine ⟨.int k (max b b'), ?_, R.mkInt _ _⟩
   simp only [execOp, resolve, invoke, builtin, Sem.run_bind, Sem.run_pure, Result.andThen_ok, List.map_toArray, List.map_cons, List.map_nil, e1, e2, run_max_int2]
   simp only [Result.ok.injEq, Next.value.injEq, Value.int.injEq, true_and, and_true]
   omega
  ·cases h
 ·rename_i x y ts
  split at h
  ·rename_i k b k' b' h1 h2
   simp only [Option.some.injEq, Prod.mk.injEq] at h
   obtain ⟨_, rfl⟩ := h
   have e1 := ev x (by simp [Op.operands, Call.operands])
   have e2 := ev y (by simp [Op.operands, Call.operands])
   rw [h1, R.int_iff] at e1
   rw [h2, R.int_iff] at e2
   refine ⟨.int k (min b b'), ?_, R.mkInt _ _⟩
   simp only [execOp, resolve, invoke, builtin, Sem.run_bind, Sem.run_pure, Result.andThen_ok, List.map_toArray, List.map_cons, List.map_nil, e1, e2, run_min_int2]
   simp only [Result.ok.injEq, Next.value.injEq, Value.int.injEq, true_and, and_true]
   omega
  ·cases h
 ·cases h
end
end Go.Vc
/- The Vc layer: how memory turns: new boxes, boxes that are let go, boxes that are written; allocations, make. -/
set_option linter.all false
namespace Go.Vc
open Go Go.RowKit
variable [Bl]
def Gs {α : Type} (k : Option Nat) (f : Nat → Option α) : Nat → Option α :=
 match k with
 | some id => CI f id none
 | none => f
theorem D7 {α : Type} (k : Option Nat) (f : Nat → Option α) (i : Nat) : Gs k f i = f i ∧ k ≠ some i ∨ Gs k f i = none := by
 cases k with
 | none => exact .inl ⟨rfl, by simp⟩
 | some id =>
  unfold Gs
  simp only [AA]
  by_cases h : i = id
  ·simp [h]
  ·simp [h, Ne.symm h]
section
variable {P : Program} {X : LR P} {w w' : World} {S : Lays} {n : Nat} {W0 : World} {M0 : Nat → Prop} {H : Av}
theorem QU.ext {S' : Lays} {n' : Nat} {ty : TypeId} {sz : Nat} {xs : List (List D)} {l : Lay} (h : QU w S ty sz xs l) (hE : Cu w S n w' S' n') (hs : ∀ k, l.blk = some k → w'.heap[k]? = w.heap[k]?) : QU w' S' ty sz xs l := by
 obtain ⟨h1, h2, h3, h4, h5, h6⟩ := h
 refine ⟨h1, h2, h3, h4, h5, fun k hk => ?_⟩
 obtain ⟨cur, hc, hz, hr⟩ := h6 k hk
 refine ⟨cur, (hs k hk).trans hc, hz, fun e f c hh => ?_⟩
 obtain ⟨u, hu, hR⟩ := hr e f c hh
 exact ⟨u, hu, hE.rd hR⟩
theorem BQ.ext {S' : Lays} {n' : Nat} {b : B7} {l : Lay} (h : BQ w S n b l) (hE : Cu w S n w' S' n') (hs : ∀ k, l.has k → w'.heap[k]? = w.heap[k]?) : BQ w' S' n' b l := by
 cases b with
 | vec ty sz xs => exact QU.ext h hE fun k hk => hs k (.inl hk)
 | one ty cells =>
  obtain ⟨h1, h2, k, hk, cur, hc, hz, hr⟩ := h
  refine ⟨h1, h2, k, hk, cur, (hs k (.inl hk)).trans hc, hz, fun f c hh => ?_⟩
  obtain ⟨u, hu, h1', hR⟩ := hr f c hh
  exact ⟨u, hu, h1', hE.r hR⟩
 | ob o => exact o.ext h hE.size (fun b cur t z hO hb => (hE.same b (Array.getElem?_eq_some_iff.1 hb).1 hO).trans hb) hE.new hs
theorem Ai.new2 (hH : Ai W0 M0 H n w S) (k : Option Nat) (b : B7) (l : Lay) (hklive : ∀ id, k = some id → (H id).isSome = true)
  (os : w'.os = w.os) (tape : w'.tape = w.tape) (output : w'.output = w.output) (hsz : w.heap.size ≤ w'.heap.size)
  (hsame : ∀ c, c < w.heap.size → (∀ id l', k = some id → S id = some l' → ¬ l'.has c) → w'.heap[c]? = w.heap[c]?)
  (hblk : ∀ c, l.has c → w.heap.size ≤ c ∨ ∃ id l', k = some id ∧ S id = some l' ∧ l'.has c) (hlt : ∀ c, l.has c → c < w'.heap.size) (hnod : l.subs.Nodup ∧ ∀ b, l.blk = some b → b ∉ l.subs) (hpl : G6 b = true → l.subs = [])
  (hbox : Cu w S n w' (CI (Gs k S) n (some l)) (n + 1) → BQ w' (CI (Gs k S) n (some l)) (n + 1) b l) :
  Ai W0 M0 (CI (Gs k H) n (some b)) (n + 1) w' (CI (Gs k S) n (some l)) ∧ Cu w S n w' (CI (Gs k S) n (some l)) (n + 1) := by
 have hE : Cu w S n w' (CI (Gs k S) n (some l)) (n + 1) := by
  refine ⟨by omega, hsz, fun id hid => ?_, fun c hc hO => ?_, fun c hc hO => ?_⟩
  ·rw [AA, if_neg (by omega)]
   rcases D7 k S id with ⟨h, _⟩ | h
   ·exact .inl h
   ·exact .inr h
  ·rintro (hf | ⟨id, l', h1, h2⟩)
   ·exact hO (.inl hf)
   rw [AA] at h1
   split at h1
   ·cases h1
    rcases hblk c h2 with h | ⟨id', l', _, h3, h4⟩
    ·omega
    ·exact hO (.inr ⟨id', l', h3, h4⟩)
   ·rcases D7 k S id with ⟨h, _⟩ | h
    ·exact hO (.inr ⟨id, l', by rw [← h]; exact h1, h2⟩)
    ·rw [h] at h1; cases h1
  ·exact hsame c hc (fun id l' _ h2 h3 => hO (.inr ⟨id, l', h2, h3⟩))
 have get : ∀ i li, CI (Gs k S) n (some l) i = some li → (i = n ∧ li = l) ∨ (i ≠ n ∧ S i = some li ∧ k ≠ some i) := fun i li h => by
  rw [AA] at h
  split at h
  ·cases h; exact .inl ⟨by assumption, rfl⟩
  ·rcases D7 k S i with ⟨h', hk⟩ | h'
   ·exact .inr ⟨by assumption, by rw [← h']; exact h, hk⟩
   ·rw [h'] at h; cases h
 refine ⟨?_, hE⟩
 constructor
 ·intro id hid
  rw [AA, if_neg (by omega)]
  rcases D7 k S id with ⟨h, _⟩ | h
  ·rw [h]; exact hH.bnd id (by omega)
  ·exact h
 ·intro i li c hi hc
  rcases get i li hi with ⟨rfl, rfl⟩ | ⟨_, hSi, _⟩
  ·exact hlt c hc
  ·have := hH.lt2 i li c hSi hc; omega
 ·intro id b' hb'
  rw [AA] at hb'
  split at hb'
  ·rename_i hid
   cases hb'
   exact ⟨l, by rw [AA, if_pos hid], hbox hE⟩
  ·rename_i hid
   rcases D7 k H id with ⟨h, hk⟩ | h
   ·rw [h] at hb'
    obtain ⟨l', hl', hB⟩ := hH.box id b' hb'
    refine ⟨l', ?_, hB.ext hE (fun c hc => ?_)⟩
    ·rw [AA, if_neg hid]
     cases k with
     | none => exact hl'
     | some j =>
      show CI S j none id = some l'
      rw [AA, if_neg (fun e => hk (by rw [e]))]
      exact hl'
    ·refine hsame c (hH.lt2 id l' c hl' hc) (fun id' l'' h1 h2 h3 => ?_)
     have := hH.inj2 id' id l'' l' c h2 hl' h3 hc
     exact hk (by rw [h1, this])
   ·rw [h] at hb'; cases hb'
 ·intro i j li lj c hi hj hci hcj
  rcases get i li hi with ⟨rfl, rfl⟩ | ⟨hin, hSi, hki⟩ <;> rcases get j lj hj with ⟨rfl, rfl⟩ | ⟨hjn, hSj, hkj⟩
  ·rfl
  ·rcases hblk c hci with h | ⟨id, l', h1, h2, h3⟩
   ·have := hH.lt2 j lj c hSj hcj; omega
   ·exact absurd (by rw [h1, hH.inj2 id j l' lj c h2 hSj h3 hcj]) hkj
  ·rcases hblk c hcj with h | ⟨id, l', h1, h2, h3⟩
   ·have := hH.lt2 i li c hSi hci; omega
   ·exact absurd (by rw [h1, hH.inj2 id i l' li c h2 hSi h3 hci]) hki
  ·exact hH.inj2 i j li lj c hSi hSj hci hcj
 ·intro i li hi
  rcases get i li hi with ⟨rfl, rfl⟩ | ⟨_, hSi, _⟩
  ·exact hnod
  ·exact hH.nod i li hSi
 ·intro i li b' hb' hi hp
  rcases get i li hi with ⟨rfl, rfl⟩ | ⟨hin, hSi, _⟩
  ·rw [AA, if_pos rfl] at hb'; cases hb'; exact hpl hp
  ·rw [AA, if_neg hin] at hb'
   rcases D7 k H i with ⟨h', _⟩ | h'
   ·rw [h'] at hb'; exact hH.plain i li b' hb' hSi hp
   ·rw [h'] at hb'; cases hb'
 ·intro i li c hlive hi hc
  rcases get i li hi with ⟨rfl, rfl⟩ | ⟨hin, hSi, hki⟩
  ·rcases hblk c hc with h | ⟨id, l', h1, h2, h3⟩
   ·left; have := hH.size; omega
   ·exact hH.mut2 id l' c (hklive id h1) h2 h3
  ·refine hH.mut2 i li c ?_ hSi hc
   rw [AA, if_neg hin] at hlive
   rcases D7 k H i with ⟨h', _⟩ | h'
   ·rw [← h']; exact hlive
   ·rw [h'] at hlive; cases hlive
 ·exact os.trans hH.os
 ·exact tape.trans hH.tape
 ·exact output.trans hH.output
 ·have := hH.size; omega
 ·intro c hc hM
  rw [hsame c (by have := hH.size; omega) (fun id l' h1 h2 h3 => ?_)]
  ·exact hH.same c hc hM
  ·rcases hH.mut2 id l' c (hklive id h1) h2 h3 with h | h
   ·omega
   ·exact hM h
 ·intro c hf
  obtain ⟨h1, h2⟩ := hH.far c hf
  refine ⟨h1, fun i li hi hc => ?_⟩
  rcases get i li hi with ⟨rfl, rfl⟩ | ⟨_, hSi, _⟩
  ·rcases hblk c hc with h | ⟨id, l', _, h3, h4⟩
   ·have := hH.size; omega
   ·exact h2 id l' h3 h4
  ·exact h2 i li hSi hc
 ·intro i hp
  obtain ⟨h1, h2⟩ := hH.pin i hp
  refine ⟨by omega, ?_⟩
  rw [AA, if_neg (by omega)]
  rcases D7 k S i with ⟨h, _⟩ | h
  ·rw [h]; exact h2
  ·exact .inr h
 ·exact hH.glx hE
theorem Ai.new (hH : Ai W0 M0 H n w S) (k : Option Nat) (b : B7) (l : Lay) (hklive : ∀ id, k = some id → (H id).isSome = true)
  (os : w'.os = w.os) (tape : w'.tape = w.tape) (output : w'.output = w.output) (hsz : w.heap.size ≤ w'.heap.size)
  (hsame : ∀ c, c < w.heap.size → (∀ id l', k = some id → S id = some l' → l'.blk ≠ some c) → w'.heap[c]? = w.heap[c]?)
  (hblk : ∀ c, l.blk = some c → w.heap.size ≤ c ∨ ∃ id l', k = some id ∧ S id = some l' ∧ l'.blk = some c) (hlt : ∀ c, l.blk = some c → c < w'.heap.size)
  (hbox : Cu w S n w' (CI (Gs k S) n (some l)) (n + 1) → BQ w' (CI (Gs k S) n (some l)) (n + 1) b l) (hs : l.subs = [] := by rfl) :
  Ai W0 M0 (CI (Gs k H) n (some b)) (n + 1) w' (CI (Gs k S) n (some l)) ∧ Cu w S n w' (CI (Gs k S) n (some l)) (n + 1) :=
 have hl : ∀ c, l.has c → l.blk = some c := fun c hc => hc.elim id fun h => by rw [hs] at h; cases h
 hH.new2 k b l hklive os tape output hsz (fun c hc h => hsame c hc fun id l' h1 h2 h3 => h id l' h1 h2 (.inl h3))
  (fun c hc => (hblk c (hl c hc)).imp id fun ⟨i, l', h1, h2, h3⟩ => ⟨i, l', h1, h2, .inl h3⟩) (fun c hc => hlt c (hl c hc)) ⟨by rw [hs]; exact List.nodup_nil, fun b _ => by rw [hs]; simp⟩ (fun _ => hs) hbox
theorem Ai.drop (hH : Ai W0 M0 H n w S) (id : Nat) : Ai W0 M0 (CI H id none) n w (CI S id none) ∧ Cu w S n w (CI S id none) n := by
 have hE : Cu w S n w (CI S id none) n := by
  refine ⟨Nat.le_refl _, Nat.le_refl _, fun i hi => ?_, fun c hc hO => ?_, fun _ _ _ => rfl⟩
  ·rw [AA]; split
   ·exact .inr rfl
   ·exact .inl rfl
  ·rintro (hf | ⟨i, l, h1, h2⟩)
   ·exact hO (.inl hf)
   rw [AA] at h1
   split at h1
   ·cases h1
   ·exact hO (.inr ⟨i, l, h1, h2⟩)
 refine ⟨?_, hE⟩
 constructor
 ·intro i hi
  rw [AA]; split
  ·rfl
  ·exact hH.bnd i hi
 ·intro i l c hi hc
  rw [AA] at hi
  split at hi
  ·cases hi
  ·exact hH.lt2 i l c hi hc
 ·intro i b hb
  rw [AA] at hb
  split at hb
  ·cases hb
  ·rename_i h
   obtain ⟨l, hl, hB⟩ := hH.box i b hb
   exact ⟨l, by rw [AA, if_neg h]; exact hl, hB.ext hE (fun _ _ => rfl)⟩
 ·intro i j li lj c hi hj hci hcj
  rw [AA] at hi hj
  split at hi
  ·cases hi
  ·split at hj
   ·cases hj
   ·exact hH.inj2 i j li lj c hi hj hci hcj
 ·intro i l hi
  rw [AA] at hi
  split at hi
  ·cases hi
  ·exact hH.nod i l hi
 ·intro i l b hb hi hp
  rw [AA] at hb hi
  split at hb
  ·cases hb
  ·rename_i h; rw [if_neg h] at hi; exact hH.plain i l b hb hi hp
 ·intro i li c hlive hi hc
  rw [AA] at hi hlive
  split at hi
  ·cases hi
  ·rename_i h
   rw [if_neg h] at hlive
   exact hH.mut2 i li c hlive hi hc
 ·exact hH.os
 ·exact hH.tape
 ·exact hH.output
 ·exact hH.size
 ·exact hH.same
 ·intro c hf
  obtain ⟨h1, h2⟩ := hH.far c hf
  refine ⟨h1, fun i li hi hc => ?_⟩
  rw [AA] at hi
  split at hi
  ·cases hi
  ·exact h2 i li hi hc
 ·intro i hp
  obtain ⟨h1, h2⟩ := hH.pin i hp
  refine ⟨h1, ?_⟩
  rw [AA]
  split
  ·exact .inr rfl
  ·exact h2
 ·exact hH.glx hE
theorem Ai.write2 (hH : Ai W0 M0 H n w S) {id : Nat} {l : Lay} {c : Nat} (hS : S id = some l) (hc : l.has c) (b : B7) (hlive : (H id).isSome = true)
  (os : w'.os = w.os) (tape : w'.tape = w.tape) (output : w'.output = w.output) (hsz : w'.heap.size = w.heap.size)
  (hsame : ∀ d, d ≠ c → w'.heap[d]? = w.heap[d]?) (hbox : Cu w S n w' S n → BQ w' S n b l) (hpl : G6 b = true → l.subs = []) :
  Ai W0 M0 (CI H id (some b)) n w' S ∧ Cu w S n w' S n := by
 have hE : Cu w S n w' S n := ⟨Nat.le_refl _, by omega, fun _ _ => .inl rfl, fun _ _ h => h, fun d hd hO => hsame d (fun e => hO (.inr ⟨id, l, hS, by rw [e]; exact hc⟩))⟩
 refine ⟨?_, hE⟩
 constructor
 ·exact hH.bnd
 ·intro i l' d hi hd
  rw [hsz]; exact hH.lt2 i l' d hi hd
 ·intro i b' hb'
  rw [AA] at hb'
  split at hb'
  ·rename_i h; cases hb'
   exact ⟨l, by rw [h]; exact hS, hbox hE⟩
  ·rename_i h
   obtain ⟨l', hl', hB⟩ := hH.box i b' hb'
   exact ⟨l', hl', hB.ext hE (fun d hd => hsame d (fun e => h (hH.inj2 i id l' l c hl' hS (by rw [← e]; exact hd) hc)))⟩
 ·exact hH.inj2
 ·exact hH.nod
 ·intro i l' b' hb' hi hp
  rw [AA] at hb'
  split at hb'
  ·rename_i h; subst h; cases hb'; rw [hS] at hi; cases hi; exact hpl hp
  ·exact hH.plain i l' b' hb' hi hp
 ·intro i li d hl hi hd
  rw [AA] at hl
  split at hl
  ·rename_i h; subst h
   exact hH.mut2 i li d hlive hi hd
  ·exact hH.mut2 i li d hl hi hd
 ·exact os.trans hH.os
 ·exact tape.trans hH.tape
 ·exact output.trans hH.output
 ·rw [hsz]; exact hH.size
 ·intro d hd hM
  rw [hsame d (fun e => ?_)]
  ·exact hH.same d hd hM
  ·rcases hH.mut2 id l c hlive hS hc with h | h
   ·omega
   ·exact hM (by rw [e]; exact h)
 ·exact hH.far
 ·exact hH.pin
 ·exact hH.glx hE
theorem Ai.write (hH : Ai W0 M0 H n w S) {id : Nat} {l : Lay} {c : Nat} (hS : S id = some l) (hc : l.blk = some c) (hsub : l.subs = []) (b : B7) (hlive : (H id).isSome = true)
  (os : w'.os = w.os) (tape : w'.tape = w.tape) (output : w'.output = w.output) (hsz : w'.heap.size = w.heap.size)
  (hsame : ∀ d, d ≠ c → w'.heap[d]? = w.heap[d]?) (hbox : Cu w S n w' S n → BQ w' S n b l) :
  Ai W0 M0 (CI H id (some b)) n w' S ∧ Cu w S n w' S n := hH.write2 hS (.inl hc) b hlive os tape output hsz hsame hbox fun _ => hsub
theorem Ai.alloc (hH : Ai W0 M0 H n w S) {w1 : World} (hw : w1.heap = w.heap ∧ w1.os = w.os ∧ w1.tape = w.tape ∧ w1.output = w.output) (cur : Array Value) (ty : TypeId) (b : B7) (sz cap : Nat)
  (hbox : ∀ S' n', Cu w S n (w1.alloc (.cells cur ty)) S' n' → (w1.alloc (.cells cur ty)).heap[w.heap.size]? = some (.cells cur ty (0, 0)) → BQ (w1.alloc (.cells cur ty)) S' n' b ⟨some w.heap.size, sz, cap, []⟩) :
  Ai W0 M0 (CI H n (some b)) (n + 1) (w1.alloc (.cells cur ty)) (CI S n (some ⟨some w.heap.size, sz, cap, []⟩)) ∧ Cu w S n (w1.alloc (.cells cur ty)) (CI S n (some ⟨some w.heap.size, sz, cap, []⟩)) (n + 1) := by
 obtain ⟨h1, h2, h3, h4⟩ := hw
 have hnew : (w1.alloc (.cells cur ty)).heap[w.heap.size]? = some (.cells cur ty (0, 0)) := by
  rw [← h1]; exact heap_alloc_new w1 _
 exact hH.new none b ⟨some w.heap.size, sz, cap, []⟩ (fun id h => by cases h) h2 h3 h4 (by rw [World.size_alloc, h1]; omega)
  (fun c hc _ => by rw [Below.heap_alloc w1 _ c (by rw [h1]; exact hc), h1]) (fun c hc => by cases hc; exact .inl (Nat.le_refl _)) (fun c hc => by cases hc; rw [World.size_alloc, h1]; omega) (fun hE => hbox _ _ hE hnew)
theorem EX {ty : TypeId} {cs : List AV} {cells : Array Value} {k : Nat} (hh : w.heap[k]? = some (.cells cells ty (0, 0))) (hs : cells.size = cs.length)
  (hc : ∀ (i : Nat) (c : AV), cs[i]? = some c → ∃ u, cells[i]? = some u ∧ u.oneCell' = true ∧ R w S n c u) : BQ w S n (.one ty cs) ⟨some k, cs.length, 1, []⟩ :=
 ⟨rfl, rfl, k, rfl, cells, hh, hs, hc⟩
end
end Go.Vc
/- The Vc layer: freezing, stores, allocations, make. -/
set_option linter.all false
namespace Go.Vc
open Go Go.RowKit
variable [Bl]
def Bi : D → D
 | .nils => .sl []
 | x => x
def CK : List AV → Option (List D)
 | [] => some []
 | .d x :: cs => match CK cs with
  | some ds => some (Bi x :: ds)
  | none => none
 | _ => none
def XR (H : Av) : AV → Option (Prop × D × Av)
 | .d x => some (True, Bi x, H)
 | .sl id off len => match H id with
  | some (.vec _ _ xs) => some (off + len ≤ xs.length, .sl ((xs.drop off).take len), CI H id none)
  | _ => none
 | .ptr id 0 0 => match H id with
  | some (.one _ cells) => match CK cells with
   | some ds => some (True, .ptr ds, CI H id none)
   | none => none
  | _ => none
 | _ => none
def fz (H : Av) : List AV → Option (Prop × List D × Av)
 | [] => some (True, [], H)
 | c :: cs => match XR H c with
  | some (p, d, H1) => match fz H1 cs with
   | some (q, ds, H2) => some (p ∧ q, d :: ds, H2)
   | none => none
  | none => none
def Bu : AV → List AV
 | .agg cs => cs
 | v => [v]
section
variable {P : Program} {X : LR P} {w w' : World} {S : Lays} {n : Nat} {W0 : World} {M0 : Nat → Prop} {H : Av}
theorem RD.clean {O : Nat → Prop} {x : D} {v : Value} (h : RD w O x v) : RD w O (Bi x) v := by
 cases h with
 | nils => exact .sl0 _ _
 | bool => exact .bool _
 | int => exact .int _ _
 | str => exact .str _
 | sl0 => exact .sl0 _ _
 | sl xs sz b o cap u h1 h2 h3 h4 h5 h6 => exact .sl xs sz b o cap u h1 h2 h3 h4 h5 h6
 | nilp => exact .nilp
 | raw v h1 => exact .raw v h1
 | ifc0 => exact .ifc0
 | ifc1 t p => exact .ifc1 t p
 | ptr cs b o u h1 h2 h3 h4 => exact .ptr cs b o u h1 h2 h3 h4
theorem K4 : ∀ {cs : List AV} {ds : List D}, CK cs = some ds → ds.length = cs.length ∧ ∀ (i : Nat) (c : AV), cs[i]? = some c → ∃ d x, ds[i]? = some d ∧ c = .d x ∧ d = Bi x := by
 intro cs
 induction cs with
 | nil => intro ds h; simp [CK] at h; subst h; exact ⟨rfl, fun i c hc => by simp at hc⟩
 | cons c cs ih =>
  intro ds h
  unfold CK at h
  split at h
  ·rename_i heq; cases heq
  ·rename_i x cs' heq
   simp only [List.cons.injEq] at heq
   obtain ⟨rfl, rfl⟩ := heq
   split at h
   ·rename_i ds' hds
    simp only [Option.some.injEq] at h
    subst h
    obtain ⟨h1, h2⟩ := ih hds
    refine ⟨by simp [h1], fun i c hc => ?_⟩
    cases i with
    | zero => simp at hc; subst hc; exact ⟨_, x, rfl, rfl, rfl⟩
    | succ i => simpa using h2 i c (by simpa using hc)
   ·cases h
  ·cases h
theorem Ky (hH : Ai W0 M0 H n w S) {id : Nat} {l : Lay} {b : Nat} (hS : S id = some l) (hb : l.blk = some b) : ¬ own (CI S id none) b := by
 rintro (hf | ⟨i, l', h1, h2⟩)
 ·exact (hH.far b (Bl.sub b hf)).2 id l hS (.inl hb)
 rw [AA] at h1
 split at h1
 ·cases h1
 ·rename_i h
  exact h (hH.inj2 i id l' l b h1 hS h2 (.inl hb))
theorem PL (hH : Ai W0 M0 H n w S) {c : AV} {p : Prop} {d : D} {H' : Av} (h : XR H c = some (p, d, H')) (hp : p) :
  ∃ S', Ai W0 M0 H' n w S' ∧ Cu w S n w S' n ∧ ∀ u, R w S n c u → RD w (own S') d u := by
 unfold XR at h
 split at h
 ·simp only [Option.some.injEq, Prod.mk.injEq] at h
  obtain ⟨_, rfl, rfl⟩ := h
  exact ⟨S, hH, Cu.refl _ _ _, fun u hu => by cases hu with | d h => exact h.clean⟩
 ·rename_i id off len
  split at h
  ·rename_i ty sz xs hb
   simp only [Option.some.injEq, Prod.mk.injEq] at h
   obtain ⟨rfl, rfl, rfl⟩ := h
   obtain ⟨hH', hE⟩ := hH.drop id
   refine ⟨_, hH', hE, fun u hu => ?_⟩
   obtain ⟨l, o, hS, ⟨hsz, _, _, hz, hnil, hbk⟩, rfl, hcap, ho, h0⟩ := hu.sl_live hH hb
   have hlen : ((xs.drop off).take len).length = len := by rw [List.length_take, List.length_drop]; omega
   by_cases hl0 : len = 0
   ·subst hl0; rw [List.take_zero]; exact .sl0 _ _
   ·cases hk : l.blk with
    | none => have := hnil hk; omega
    | some b =>
     obtain ⟨cur, hcur, hsize, hcell⟩ := hbk b hk
     have hpt : ∀ e f c, D4 ((xs.drop off).take len) e f = some c → ∃ u, w.cell? ⟨b, o + e * sz + f, none⟩ = some u ∧ RD w (own (CI S id none)) c u := fun e f c hh => by
      obtain ⟨u, hu', hr⟩ := hcell _ _ _ (CF hh)
      refine ⟨u, ?_, hE.rd hr⟩
      rw [cell_of_row w b _ cur _ (0, 0) hcur, ho (by omega), hsz, show off * sz + e * sz + f = (off + e) * sz + f by rw [Nat.add_mul]]
      exact hu'
     have := RD.sl (w := w) (O := own (CI S id none)) ((xs.drop off).take len) sz b o (l.cap - off) (fun e f => (w.cell? ⟨b, o + e * sz + f, none⟩).getD undef) (by omega) (Array.getElem?_eq_some_iff.1 hcur).1 (Ky hH hS hk)
      (fun x hx => hz x (List.mem_of_mem_drop (List.mem_of_mem_take hx))) (fun e f c hh => by obtain ⟨u, hu, _⟩ := hpt e f c hh; rw [hu]; rfl) (fun e f c hh => by obtain ⟨u, hu, hr⟩ := hpt e f c hh; rw [hu]; exact hr)
     rw [hlen] at this
     exact this
  ·cases h
 ·rename_i id
  split at h
  ·rename_i ty cells hb
   split at h
   ·rename_i ds hds
    simp only [Option.some.injEq, Prod.mk.injEq] at h
    obtain ⟨_, rfl, rfl⟩ := h
    obtain ⟨hH', hE⟩ := hH.drop id
    refine ⟨_, hH', hE, fun u hu => ?_⟩
    obtain ⟨l, k, hS, ⟨hsz, hcap, k', hk', cur, hcur, hsize, hcell⟩, hk, rfl⟩ := hu.ptr_live hH hb
    rw [hk] at hk'; cases hk'
    obtain ⟨hdl, hdd⟩ := K4 hds
    have hpt : ∀ f c, ds[f]? = some c → ∃ u, w.cell? ⟨k, 0 + f, none⟩ = some u ∧ RD w (own (CI S id none)) c u := fun f c hf => by
     have hlt : f < cells.length := by have := (List.getElem?_eq_some_iff.1 hf).1; omega
     obtain ⟨d, x, h1, h2, h3⟩ := hdd f _ (List.getElem?_eq_getElem hlt)
     rw [hf] at h1; cases h1
     obtain ⟨u, hu', _, hr⟩ := hcell f _ (List.getElem?_eq_getElem hlt)
     rw [h2] at hr
     cases hr with | d hr =>
     refine ⟨u, ?_, h3 ▸ (hE.rd hr).clean⟩
     rw [cell_of_row w k _ cur _ (0, 0) hcur, Nat.zero_add]; exact hu'
    rw [Nat.zero_mul, Nat.zero_add]
    exact .ptr ds k 0 (fun f => (w.cell? ⟨k, 0 + f, none⟩).getD undef) (Array.getElem?_eq_some_iff.1 hcur).1 (Ky hH hS hk)
     (fun f c hh => by obtain ⟨u, hu, _⟩ := hpt f c hh; rw [hu]; rfl) (fun f c hh => by obtain ⟨u, hu, hr⟩ := hpt f c hh; rw [hu]; exact hr)
   ·cases h
  ·cases h
 ·cases h
theorem XS : ∀ {cs : List AV} {H : Av} {S : Lays} {p : Prop} {ds : List D} {H' : Av}, Ai W0 M0 H n w S → fz H cs = some (p, ds, H') → p →
  ds.length = cs.length ∧ ∃ S', Ai W0 M0 H' n w S' ∧ Cu w S n w S' n ∧ ∀ (i : Nat) (c : AV) (u : Value), cs[i]? = some c → R w S n c u → ∃ d, ds[i]? = some d ∧ RD w (own S') d u := by
 intro cs
 induction cs with
 | nil =>
  intro H S p ds H' hH h hp
  simp only [fz, Option.some.injEq, Prod.mk.injEq] at h
  obtain ⟨_, rfl, rfl⟩ := h
  exact ⟨rfl, S, hH, Cu.refl _ _ _, fun i c u hc => by simp at hc⟩
 | cons c cs ih =>
  intro H S p ds H' hH h hp
  unfold fz at h
  split at h
  ·rename_i p1 d H1 h1
   split at h
   ·rename_i q ds' H2 h2
    simp only [Option.some.injEq, Prod.mk.injEq] at h
    obtain ⟨rfl, rfl, rfl⟩ := h
    obtain ⟨S1, hH1, hE1, hr1⟩ := PL hH h1 hp.1
    obtain ⟨hl, S2, hH2, hE2, hr2⟩ := ih hH1 h2 hp.2
    refine ⟨by simp [hl], S2, hH2, hE1.trans hE2, fun i c' u hc hu => ?_⟩
    cases i with
    | zero => simp at hc; subst hc; exact ⟨d, rfl, hE2.rd (hr1 u hu)⟩
    | succ i => simpa using hr2 i c' u (by simpa using hc) (hE1.r hu)
   ·cases h
  ·cases h
/-! ### stores -/
def G0 (ty : TypeId → Option TI) (H : Av) (t : TypeId) (a x : AV) : Option (Prop × Av) :=
 match ty t with
 | some ti => match a with
  | .ptr id e f => match H id with
   | some (.vec t' sz xs) => match fz H (Bu x) with
    | some (p, ds, H1) => match xs[e]?, H1 id with
     | some row, some _ => if ds.length = ti.size then some (p ∧ f + ti.size ≤ sz, CI H1 id (some (.vec t' sz (xs.set e (A6 row f ds))))) else none
     | _, _ => none
    | none => none
   | some (.one t' cells) => match DY H x with
    | some vs => if e = 0 ∧ vs.length = ti.size then some (f + ti.size ≤ cells.length, CI H id (some (.one t' (A6 cells f vs)))) else none
    | none => none
   | _ => none
  | _ => none
 | none => none
theorem DJ (w : World) (g : Nat) (cs : Array Value) : (w.setRow g cs).heap.size = w.heap.size := by simp [World.setRow]
theorem Ji {t : TypeId} {ti : TI} (hT : BE P t ti) {b o : Nat} {v : Value} {cur : Array Value} {e : TypeId} (hcur : w.heap[b]? = some (.cells cur e (0, 0))) (hs : v.cells.size = ti.size) (hfit : o + ti.size ≤ cur.size)
  (h1 : ∀ u ∈ v.cells.toList, u.oneCell' = true) : (Instr.storeAt t (.pointer (some ⟨b, o, none⟩)) v).run P w = .ok () (w.setRow b (A6 cur.toList o v.cells.toList).toArray) := by
 have := run_storeCells_at (P := P) b o e v.cells.toList 0 cur w hcur (by simp; omega) h1
 simp only [Nat.add_zero] at this
 simp only [Instr.storeAt, Instr.sureAddr, storeVar, Sem.run_bind, Sem.run_pure, Result.andThen_ok, hT.sizeOf, hs]
 simp [this, A6]
theorem ZH {sz e e' f f' g : Nat} (hf : f + g ≤ sz) (hf' : f' < sz) (hne : e' ≠ e) : ¬ (e * sz + f ≤ e' * sz + f' ∧ e' * sz + f' < e * sz + f + g) := by
 rintro ⟨h1, h2⟩
 rcases Nat.lt_or_gt_of_ne hne with h | h
 ·have := Nat.mul_le_mul_right sz (show e' + 1 ≤ e from h)
  rw [Nat.add_mul] at this; omega
 ·have := Nat.mul_le_mul_right sz (show e + 1 ≤ e' from h)
  rw [Nat.add_mul] at this; omega
theorem Hl {v : Value} (h : v.oneCell' = true) : v.cells = #[v] := by cases v <;> first | rfl | cases h
theorem Lo (hH : Ai W0 M0 H n w S) {t : TypeId} {a x : AV} {va vx : Value} {p : Prop} {H' : Av} (h : G0 X.ty H t a x = some (p, H')) (hp : p) (ha : R w S n a va) (hx : R w S n x vx) :
  ∃ w' S', (Instr.storeAt t va vx).run P w = .ok () w' ∧ Ai W0 M0 H' n w' S' ∧ Cu w S n w' S' n := by
 unfold G0 at h
 split at h
 ·rename_i ti hty
  have hT := X.facts hty
  split at h
  ·rename_i id e f
   split at h
   ·rename_i t' sz xs hb
    split at h
    ·rename_i q ds H1 hfz
     split at h
     ·rename_i row b1 hrow hb1
      split at h
      ·rename_i hdl
       simp only [Option.some.injEq, Prod.mk.injEq] at h
       obtain ⟨rfl, rfl⟩ := h
       obtain ⟨hdl', S1, hH1, hE1, hr1⟩ := XS hH hfz hp.1
       obtain ⟨l, k, hS, ⟨hsz, hcm, hxl, hz, hnil, hbk⟩, hk, rfl⟩ := ha.ptr_live hH hb
       obtain ⟨cur, hcur, hsize, hcell⟩ := hbk k hk
       subst hsz
       have hel : e < xs.length := (List.getElem?_eq_some_iff.1 hrow).1
       have hrl : row.length = l.sz := hz row (List.mem_of_getElem? hrow)
       -- the value's cells
       have hcells : vx.cells.size = (Bu x).length ∧ ∀ (i : Nat) (c : AV), (Bu x)[i]? = some c → ∃ u, vx.cells[i]? = some u ∧ R w S n c u := by
        cases x with
        | agg cs =>
         cases hx with | agg _ us hl h1 hr =>
         refine ⟨by simpa [Value.cells, Bu] using hl, fun i c hc => ?_⟩
         have hi : i < us.length := by have := (List.getElem?_eq_some_iff.1 hc).1; simp [Bu] at this; omega
         exact ⟨us[i], by simp [Value.cells, List.getElem?_eq_getElem hi], hr i c _ hc (List.getElem?_eq_getElem hi)⟩
        | _ =>
         have hone : vx.oneCell' = true := by
          simp only [Bu, fz] at hfz
          split at hfz
          ·rename_i p1 d1 H2 h1
           obtain ⟨_, _, _, hr⟩ := PL hH h1 (by
            simp only [Option.some.injEq, Prod.mk.injEq] at hfz
            exact (hfz.1 ▸ hp.1).1)
           exact (hr vx hx).one
          ·cases hfz
         rw [Hl hone]
         refine ⟨rfl, fun i c hc => ?_⟩
         cases i with
         | zero => simp [Bu] at hc; subst hc; exact ⟨vx, rfl, hx⟩
         | succ i => simp [Bu] at hc
       have hget : ∀ (j : Nat) (u : Value), vx.cells.toList[j]? = some u → ∃ d, ds[j]? = some d ∧ RD w (own S1) d u := fun j u hj => by
        have hjl : j < (Bu x).length := by have := (List.getElem?_eq_some_iff.1 hj).1; simp at this; omega
        obtain ⟨u', hu', hR⟩ := hcells.2 j _ (List.getElem?_eq_getElem hjl)
        rw [← Array.getElem?_toList, hj] at hu'; cases hu'
        exact hr1 j _ u (List.getElem?_eq_getElem hjl) hR
       have hsizev : vx.cells.size = ti.size := by rw [hcells.1, ← hdl']; exact hdl
       have hcs : cur.size = l.cap * l.sz := hsize
       have hfit : e * l.sz + f + ti.size ≤ cur.size := by
        rw [hcs]
        have := Nat.mul_le_mul_right l.sz (show e + 1 ≤ l.cap by omega)
        rw [Nat.add_mul] at this; omega
       have hrun := Ji hT (o := e * l.sz + f) hcur hsizev hfit (fun u hu => by
        obtain ⟨j, hj⟩ := List.getElem?_of_mem hu
        obtain ⟨d, _, hd⟩ := hget j u hj
        exact hd.one)
       have hS1 : S1 id = some l := by
        obtain ⟨l1, hl1, _⟩ := hH1.box id b1 hb1
        rcases hE1.old id (hH.lt hS) with e' | e'
        ·rw [e', hS]
        ·rw [e'] at hl1; cases hl1
       obtain ⟨hH2, hE2⟩ := hH1.write (w' := w.setRow k (A6 cur.toList (e * l.sz + f) vx.cells.toList).toArray) hS1 hk (hH.plain id l _ hb hS rfl) (.vec t' l.sz (xs.set e (A6 row f ds))) (by rw [hb1]; rfl) (by simp) rfl rfl (DJ _ _ _)
        (fun d hd => setRow_other w k d _ hd) (fun hE => by
         refine ⟨rfl, hcm, by simpa using hxl, fun y hy => ?_, hnil, fun k' hk' => ?_⟩
         ·rcases List.mem_or_eq_of_mem_set hy with hy | rfl
          ·exact hz y hy
          ·rw [CG (by rw [hdl, hrl]; exact hp.2)]; exact hrl
         ·rw [hk] at hk'; cases hk'
          refine ⟨_, setRow_heap w k cur _ t' (0, 0) hcur, ?_, fun e' f' c hh => ?_⟩
          ·simp only [List.size_toArray]
           rw [CG (by simp; omega)]
           simpa using hsize
          ·obtain ⟨row', hrow', hf'⟩ := B4 hh
           simp only [List.getElem?_toArray]
           rw [Ea (by simp; omega)]
           rw [List.getElem?_set] at hrow'
           by_cases hee : e = e'
           ·subst hee
            rw [if_pos rfl, if_pos hel] at hrow'
            cases hrow'
            rw [Ea (by rw [hdl, hrl]; exact hp.2)] at hf'
            simp only [Array.length_toList, hsizev]
            split at hf'
            ·rename_i hin
             rw [hdl] at hin
             rw [if_pos (by omega)]
             have hj : f' - f < vx.cells.toList.length := by simp; omega
             obtain ⟨d, hd, hR⟩ := hget (f' - f) _ (List.getElem?_eq_getElem hj)
             rw [hd] at hf'; cases hf'
             exact ⟨_, by rw [show e * l.sz + f' - (e * l.sz + f) = f' - f by omega]; exact List.getElem?_eq_getElem hj, hE.rd hR⟩
            ·rename_i hin
             rw [hdl] at hin
             rw [if_neg (by omega), Array.getElem?_toList]
             obtain ⟨u, hu, hR⟩ := hcell e f' c (by simp [D4, hrow, hf'])
             exact ⟨u, hu, hE.rd (hE1.rd hR)⟩
           ·rw [if_neg hee] at hrow'
            have hrl' : f' < l.sz := by
             have h1 := (List.getElem?_eq_some_iff.1 hf').1
             rw [hz row' (List.mem_of_getElem? hrow')] at h1; exact h1
            rw [if_neg (by simp only [Array.length_toList, hsizev]; exact ZH hp.2 hrl' (fun h => hee h.symm)), Array.getElem?_toList]
            obtain ⟨u, hu, hR⟩ := hcell e' f' c (by simp [D4, hrow', hf'])
            exact ⟨u, hu, hE.rd (hE1.rd hR)⟩)
       exact ⟨_, _, hrun, hH2, hE1.trans hE2⟩
      ·cases h
     ·cases h
    ·cases h
   ·rename_i t' cells hb
    split at h
    ·rename_i vs hvs
     split at h
     ·rename_i hc
      obtain ⟨rfl, hvl⟩ := hc
      simp only [Option.some.injEq, Prod.mk.injEq] at h
      obtain ⟨rfl, rfl⟩ := h
      obtain ⟨l, k, hS, ⟨hsz, hcap, k', hk', cur, hcur, hsize, hcell⟩, hk, rfl⟩ := ha.ptr_live hH hb
      rw [hk] at hk'; cases hk'
      obtain ⟨hv1, hv2⟩ := IB hH hvs hx
      have hsizev : vx.cells.size = ti.size := by omega
      have hone : ∀ u ∈ vx.cells.toList, u.oneCell' = true := fun u hu => by
       obtain ⟨j, hj⟩ := List.getElem?_of_mem hu
       have hjl : j < vs.length := by have := (List.getElem?_eq_some_iff.1 hj).1; simp at this; omega
       obtain ⟨u', hu', h1, _⟩ := hv2 j _ (List.getElem?_eq_getElem hjl)
       rw [← Array.getElem?_toList, hj] at hu'; cases hu'; exact h1
      rw [Nat.zero_mul, Nat.zero_add]
      have hrun := Ji hT (o := f) hcur hsizev (by omega) hone
      obtain ⟨hH2, hE2⟩ := hH.write (w' := w.setRow k (A6 cur.toList f vx.cells.toList).toArray) hS hk (hH.plain id l _ hb hS rfl) (.one t' (A6 cells f vs)) (by rw [hb]; rfl) (by simp) rfl rfl (DJ _ _ _)
       (fun d hd => setRow_other w k d _ hd) (fun hE => by
        refine ⟨by rw [CG (by omega)]; exact hsz, hcap, k, hk, _, setRow_heap w k cur _ t' (0, 0) hcur, ?_, fun g c hg => ?_⟩
        ·simp only [List.size_toArray]
         rw [CG (by simp; omega), CG (by omega)]
         simpa using hsize
        ·rw [Ea (by omega)] at hg
         simp only [List.getElem?_toArray]
         rw [Ea (by simp; omega)]
         simp only [Array.length_toList, hsizev]
         split at hg
         ·rename_i hin
          rw [hvl] at hin
          rw [if_pos hin]
          obtain ⟨u, hu, h1, hR⟩ := hv2 _ _ hg
          exact ⟨u, by rw [Array.getElem?_toList]; exact hu, h1, hE.r hR⟩
         ·rename_i hin
          rw [hvl] at hin
          rw [if_neg hin, Array.getElem?_toList]
          obtain ⟨u, hu, h1, hR⟩ := hcell g c hg
          exact ⟨u, hu, h1, hE.r hR⟩)
      exact ⟨_, _, hrun, hH2, hE2⟩
     ·cases h
    ·cases h
   ·cases h
  ·cases h
 ·cases h
end
end Go.Vc
/- The Vc layer: allocations, make, slice literals, append, copy. -/
set_option linter.all false
namespace Go.Vc
open Go Go.RowKit
variable [Bl]
abbrev RH := Option (Prop × AV × Av × Nat)
def I3 (ty : TypeId → Option TI) (H : Av) (n : Nat) (e : TypeId) : RH :=
 match ty e with
 | some ⟨.array m e', sz, _, z⟩ => match ty e' with
  | some ti => if sz = 0 then none else some (z = (List.replicate m ti.zero).flatten ∧ sz = m * ti.size ∧ ti.zero.length = ti.size ∧ sz ≤ 16777216, .ptr n 0 0, CI H n (some (.vec e ti.size (List.replicate m (ti.zero.map Bi)))), n + 1)
  | none => none
 | some ⟨_, sz, _, z :: zs⟩ => some (sz = (z :: zs).length, .ptr n 0 0, CI H n (some (.one e ((z :: zs).map .d))), n + 1)
 | _ => none
def RX (H : Av) (n : Nat) (e : TypeId) (x : AV) : RH :=
 match DY H x with
 | some cs => some (True, .ptr n 0 0, CI H n (some (.one e cs)), n + 1)
 | none => none
def Lk (ty : TypeId → Option TI) (H : Av) (n : Nat) (t : TypeId) (l c : AV) : RH :=
 match ty t, l, c with
 | some ⟨.slice e, _, _, _⟩, .d (.int _ l), .d (.int _ c) => match ty e with
  | some ⟨_, sz, by_, z :: zs⟩ => some (0 ≤ l ∧ l ≤ c ∧ by_ * c ≤ 140737488355328 ∧ c ≤ 140737488355328 ∧ sz = (z :: zs).length, .sl n 0 l.toNat, CI H n (some (.vec e sz (List.replicate l.toNat ((z :: zs).map Bi)))), n + 1)
  | _ => none
 | _, _, _ => none
section
variable {P : Program} {X : LR P} {w w' : World} {S : Lays} {n : Nat} {W0 : World} {M0 : Nat → Prop} {H : Av}
theorem NY {α : Type} {row : List α} {k : Nat} (hk : row.length = k) : ∀ (m e f : Nat), e < m → f < k → ((List.replicate m row).flatten)[e * k + f]? = row[f]? := by
 intro m
 induction m with
 | zero => intro e f h; omega
 | succ m ih =>
  intro e f he hf
  rw [List.replicate_succ, List.flatten_cons]
  cases e with
  | zero => rw [Nat.zero_mul, Nat.zero_add, List.getElem?_append_left (by omega)]
  | succ e =>
   rw [List.getElem?_append_right (by rw [hk, Nat.add_mul]; omega), hk, show (e + 1) * k + f - k = e * k + f by rw [Nat.add_mul]; omega]
   exact ih e f (by omega) hf
theorem J7 {α : Type} {row : List α} {m e f : Nat} {c : α} (h : D4 (List.replicate m row) e f = some c) : e < m ∧ row[f]? = some c := by
 obtain ⟨x, hx, hf⟩ := B4 h
 rw [List.getElem?_replicate] at hx
 split at hx
 ·cases hx; exact ⟨by assumption, hf⟩
 ·cases hx
theorem Ai.ptr_new {W0 : World} {M0 : Nat → Prop} {b k sz cap : Nat} (S : Lays) : R w' (CI S n (some ⟨some b, sz, cap, []⟩)) (n + 1) (.ptr n 0 0) (.pointer (some ⟨b, 0, none⟩)) := by
 have := R.ptr (w := w') (S := CI S n (some ⟨some b, sz, cap, []⟩)) (n := n + 1) n 0 0 b ⟨some b, sz, cap, []⟩ (by omega) (by rw [AA, if_pos rfl]) rfl
 simpa using this
theorem RW (hH : Ai W0 M0 H n w S) {e : TypeId} {p : Prop} {c : AV} {H' : Av} {n' : Nat} (h : I3 X.ty H n e = some (p, c, H', n')) (hp : p) :
  ∃ r w' S', (Instr.alloc e true (.tuple #[])).run P w = .ok r w' ∧ Ai W0 M0 H' n' w' S' ∧ Cu w S n w' S' n' ∧ R w' S' n' c r := by
 have run : ∀ {z : Value}, (zeroValue e).run P w = .ok z w → (Instr.alloc e true (.tuple #[])).run P w = .ok (.pointer (some ⟨w.heap.size, 0, none⟩)) (w.alloc (.cells z.cells e)) := by
  intro z hz
  simp only [Instr.alloc, Sem.run_bind, hz, Result.andThen_ok, newVar, newRow, newObj]
  simp [Sem.run]
 unfold I3 at h
 split at h
 ·rename_i m e' sz _ z hty
  split at h
  ·rename_i ti hti
   split at h
   ·cases h
   ·rename_i hsz0
    simp only [Option.some.injEq, Prod.mk.injEq] at h
    obtain ⟨rfl, rfl, rfl, rfl⟩ := h
    obtain ⟨hz, hsz, hzl, hbig⟩ := hp
    obtain ⟨i, zv, hi, his, _, hzv, hzs, hzero⟩ := (X.facts hty).info
    have hzne : z ≠ [] := fun e => by
     have h1 : (List.replicate m ti.zero).flatten.length = 0 := by rw [← hz, e]; rfl
     rw [List.length_flatten, List.map_replicate, List.sum_replicate_nat, hzl] at h1
     omega
    obtain ⟨hzl', hzr⟩ := hzero hzne
    simp only at hzs hzl' his
    obtain ⟨hH', hE⟩ := hH.alloc (w1 := w) ⟨rfl, rfl, rfl, rfl⟩ zv.cells e (.vec e ti.size (List.replicate m (ti.zero.map Bi))) ti.size m (fun S' n' hE hnew => by
     refine ⟨rfl, ?_, by simp, fun x hx => ?_, by simp, fun b hb => ?_⟩
     ·have : m ≤ zv.cells.size := by
       rw [hzs, hsz]
       have hpos : 0 < ti.size := by
        rcases Nat.eq_zero_or_pos ti.size with h0 | h0
        ·rw [h0] at hsz; omega
        ·exact h0
       exact Nat.le_mul_of_pos_right m hpos
      simp only [maxLen]; omega
     ·rw [List.mem_replicate] at hx
      rw [hx.2]; simpa using hzl
     ·cases hb
      refine ⟨_, hnew, by rw [hzs]; exact hsz, fun e1 f1 c1 hh => ?_⟩
      obtain ⟨he1, hf1⟩ := J7 hh
      rw [List.getElem?_map] at hf1
      cases hd : ti.zero[f1]? with
      | none => rw [hd] at hf1; cases hf1
      | some d =>
       rw [hd] at hf1; cases hf1
       have hf1l : f1 < ti.size := by have := (List.getElem?_eq_some_iff.1 hd).1; omega
       have hget : z[e1 * ti.size + f1]? = some d := by rw [hz, NY hzl m e1 f1 he1 hf1l]; exact hd
       have hlt : e1 * ti.size + f1 < zv.cells.size := by have := (List.getElem?_eq_some_iff.1 hget).1; omega
       exact ⟨_, Array.getElem?_eq_getElem hlt, (hzr _ _ _ _ _ hget (Array.getElem?_eq_getElem hlt)).clean⟩)
    exact ⟨_, _, _, run (by simp [zeroValue, typeInfo, hi, hzv]), hH', hE, Ai.ptr_new (W0 := W0) (M0 := M0) (k := 0) S⟩
  ·cases h
 ·rename_i sh sz _ z zs _ hty
  simp only [Option.some.injEq, Prod.mk.injEq] at h
  obtain ⟨rfl, rfl, rfl, rfl⟩ := h
  obtain ⟨i, zv, hi, his, _, hzv, hzs, hzero⟩ := (X.facts hty).info
  obtain ⟨hzl', hzr⟩ := hzero (by simp)
  simp only at hzs hzl' his
  obtain ⟨hH', hE⟩ := hH.alloc (w1 := w) ⟨rfl, rfl, rfl, rfl⟩ zv.cells e (.one e ((z :: zs).map .d)) (z :: zs).length 1 (fun S' n' hE hnew => by
   have := EX (S := S') (n := n') (cs := (z :: zs).map .d) hnew (by rw [hzs, List.length_map]; exact hp) (fun j c hc => by
    rw [List.getElem?_map] at hc
    cases hd : (z :: zs)[j]? with
    | none => rw [hd] at hc; cases hc
    | some d =>
     rw [hd] at hc; cases hc
     have hlt : j < zv.cells.size := by have := (List.getElem?_eq_some_iff.1 hd).1; omega
     have hr := hzr (w.alloc (.cells zv.cells e)) (own S') _ _ _ hd (Array.getElem?_eq_getElem hlt)
     exact ⟨_, Array.getElem?_eq_getElem hlt, hr.one, .d hr⟩)
   simpa using this)
  exact ⟨_, _, _, run (by simp [zeroValue, typeInfo, hi, hzv]), hH', hE, Ai.ptr_new (W0 := W0) (M0 := M0) (k := 0) S⟩
 ·cases h
theorem W6 (hH : Ai W0 M0 H n w S) {e : TypeId} {x : AV} {v : Value} {p : Prop} {c : AV} {H' : Av} {n' : Nat} (h : RX H n e x = some (p, c, H', n')) (hx : R w S n x v) :
  ∃ r w' S', (Instr.box e v).run P w = .ok r w' ∧ Ai W0 M0 H' n' w' S' ∧ Cu w S n w' S' n' ∧ R w' S' n' c r := by
 unfold RX at h
 split at h
 ·rename_i cs hcs
  simp only [Option.some.injEq, Prod.mk.injEq] at h
  obtain ⟨rfl, rfl, rfl, rfl⟩ := h
  obtain ⟨hv1, hv2⟩ := IB hH hcs hx
  obtain ⟨hH', hE⟩ := hH.alloc (w1 := w) ⟨rfl, rfl, rfl, rfl⟩ v.cells e (.one e cs) cs.length 1 (fun S' n' hE hnew => EX hnew hv1 (fun i c hc => by
   obtain ⟨u, hu, h1, hr⟩ := hv2 i c hc
   exact ⟨u, hu, h1, hE.r hr⟩))
  refine ⟨.pointer (some ⟨w.heap.size, 0, none⟩), _, _, ?_, hH', hE, Ai.ptr_new (W0 := W0) (M0 := M0) (k := 0) S⟩
  simp [Instr.box, newVar, newRow, newObj, Sem.run]
 ·cases h
theorem Oz {z : Array Value} {sz c e f : Nat} (hz : z.size = sz) (he : e < c) (hf : f < sz) : (madeCells z (c * sz))[e * sz + f]? = z[f]? := by
 have hlt : e * sz + f < c * sz := by
  have := Nat.mul_le_mul_right sz (show e + 1 ≤ c from he)
  rw [Nat.add_mul] at this; omega
 have hmod : (e * sz + f) % sz = f := by rw [Nat.mul_comm, Nat.mul_add_mod]; exact Nat.mod_eq_of_lt hf
 simp [madeCells, hlt, hz, hmod, hf]
theorem TZ (hH : Ai W0 M0 H n w S) {t : TypeId} {l c : AV} {vl vc : Value} {p : Prop} {r : AV} {H' : Av} {n' : Nat} (h : Lk X.ty H n t l c = some (p, r, H', n')) (hp : p) (hl : R w S n l vl) (hc : R w S n c vc) :
  ∃ v w' S', (Instr.makeSlice t vl vc).run P w = .ok v w' ∧ Ai W0 M0 H' n' w' S' ∧ Cu w S n w' S' n' ∧ R w' S' n' r v := by
 unfold Lk at h
 split at h
 ·rename_i e _ _ _ kl l kc c hty
  rw [R.int_iff] at hl hc; subst hl hc
  split at h
  ·rename_i sh sz by_ z zs hte
   simp only [Option.some.injEq, Prod.mk.injEq] at h
   obtain ⟨rfl, rfl, rfl, rfl⟩ := h
   obtain ⟨h0, hlc, hb, hcm, hsz⟩ := hp
   obtain ⟨i, zv, hi, his, hib, hzv, hzs, hzero⟩ := (X.facts hte).info
   obtain ⟨hzl', hzr⟩ := hzero (by simp)
   have hu := (X.facts hty).slice
   simp only at his hib hzs hzl'
   have hrun := run_make (P := P) w t e i zv hu hi hzv kl kc l c h0 hlc (by rw [hib]; omega) (by omega)
   rw [his] at hrun
   obtain ⟨hH', hE⟩ := hH.alloc (w1 := w) ⟨rfl, rfl, rfl, rfl⟩ (madeCells zv.cells (c.toNat * sz)) e (.vec e sz (List.replicate l.toNat ((z :: zs).map Bi))) sz c.toNat (fun S' n' hE hnew => by
    refine ⟨rfl, by simp [maxLen]; omega, by simp; omega, fun x hx => ?_, by simp, fun b hb => ?_⟩
    ·rw [List.mem_replicate] at hx
     rw [hx.2, List.length_map]; exact hsz.symm
    ·cases hb
     refine ⟨_, hnew, by simp [madeCells], fun e1 f1 c1 hh => ?_⟩
     obtain ⟨he1, hf1⟩ := J7 hh
     rw [List.getElem?_map] at hf1
     cases hd : (z :: zs)[f1]? with
     | none => rw [hd] at hf1; cases hf1
     | some d =>
      rw [hd] at hf1; cases hf1
      have hf1l : f1 < sz := by have := (List.getElem?_eq_some_iff.1 hd).1; omega
      have hlt : f1 < zv.cells.size := by omega
      exact ⟨_, by rw [Oz hzs (by omega) hf1l]; exact Array.getElem?_eq_getElem hlt, (hzr _ _ _ _ _ hd (Array.getElem?_eq_getElem hlt)).clean⟩)
   refine ⟨_, _, _, hrun, hH', hE, ?_⟩
   have := R.sl (w := w.alloc (.cells (madeCells zv.cells (c.toNat * sz)) e)) (S := CI S n (some ⟨some w.heap.size, sz, c.toNat, []⟩)) (n := n + 1) n 0 l.toNat 0 ⟨some w.heap.size, sz, c.toNat, []⟩ (by omega) (by rw [AA, if_pos rfl]) (by simp; omega) (fun _ => by simp) (fun _ => rfl)
   simpa using this
  ·cases h
 ·cases h
/-! ### rows that come in -/
def C7 (H : Av) : AV → Option (Prop × List (List D))
 | .d (.sl ys) => some (True, ys)
 | .d .nils => some (True, [])
 | .sl id off len => match H id with
  | some (.vec _ _ xs) => some (off + len ≤ xs.length, (xs.drop off).take len)
  | _ => none
 | _ => none
structure TW (w : World) (S : Lays) (sz : Nat) (ys : List (List D)) (A : Option Addr) (news : List Value) : Prop where
 len : news.length = ys.length * sz
 none_ : A = none → ys = []
 cells : ∀ ad, A = some ad → ∀ (j : Nat) (u : Value), news[j]? = some u → w.cell? (ad.add j) = some u
 one : ∀ u ∈ news, u.oneCell' = true
 rd : ∀ (e f : Nat) (c : D), D4 ys e f = some c → ∃ u, news[e * sz + f]? = some u ∧ RD w (own S) c u
theorem Sm {ys : List (List D)} {sz j : Nat} (hr : CW sz ys) (hj : j < ys.length * sz) : ∃ c, D4 ys (j / sz) (j % sz) = some c := by
 have hpos : 0 < sz := by
  rcases Nat.eq_zero_or_pos sz with h | h
  ·rw [h] at hj; omega
  ·exact h
 have he : j / sz < ys.length := by rw [Nat.div_lt_iff_lt_mul hpos]; exact hj
 have hf : j % sz < ys[j / sz].length := by rw [hr _ (List.getElem_mem he)]; exact Nat.mod_lt _ hpos
 exact ⟨ys[j / sz][j % sz], by simp [D4, he, hf]⟩
theorem UL {sz e f : Nat} (hf : f < sz) : (e * sz + f) / sz = e ∧ (e * sz + f) % sz = f := by
 constructor
 ·rw [Nat.mul_comm, Nat.mul_add_div (by omega), Nat.div_eq_of_lt hf]; rfl
 ·rw [Nat.mul_comm, Nat.mul_add_mod]; exact Nat.mod_eq_of_lt hf
theorem Pz {ys : List (List D)} {sz e f : Nat} {c : D} (hr : CW sz ys) (h : D4 ys e f = some c) : e < ys.length ∧ f < sz := by
 obtain ⟨x, hx, hf⟩ := B4 h
 refine ⟨(List.getElem?_eq_some_iff.1 hx).1, ?_⟩
 rw [← hr x (List.mem_of_getElem? hx)]
 exact (List.getElem?_eq_some_iff.1 hf).1
theorem TW.empty (A : Option Addr) (sz : Nat) : TW w S sz [] A [] :=
 ⟨by simp, fun _ => rfl, (fun ad _ j u hj => by simp at hj), (fun u hu => by cases hu), (fun e f c hh => by simp [D4] at hh)⟩
theorem TW.mk' {sz : Nat} {ys : List (List D)} {b o : Nat} (hr : CW sz ys) (hc : ∀ e f c, D4 ys e f = some c → ∃ u, w.cell? ⟨b, o + e * sz + f, none⟩ = some u ∧ RD w (own S) c u) :
  ∃ news, TW w S sz ys (some ⟨b, o, none⟩) news := by
 refine ⟨(List.range (ys.length * sz)).map fun j => (w.cell? ⟨b, o + j, none⟩).getD undef, ?_⟩
 have key : ∀ j, j < ys.length * sz → ∃ c u, D4 ys (j / sz) (j % sz) = some c ∧ w.cell? ⟨b, o + j, none⟩ = some u ∧ RD w (own S) c u := fun j hj => by
  obtain ⟨c, hcc⟩ := Sm hr hj
  obtain ⟨u, hu, hR⟩ := hc _ _ _ hcc
  refine ⟨c, u, hcc, ?_, hR⟩
  rw [show o + j / sz * sz + j % sz = o + j by rw [Nat.add_assoc, Nat.mul_comm, Nat.div_add_mod]] at hu
  exact hu
 constructor
 ·simp
 ·intro h; cases h
 ·intro ad had j u hj
  cases had
  have hlt : j < ys.length * sz := by have := (List.getElem?_eq_some_iff.1 hj).1; simpa using this
  rw [List.getElem?_map, List.getElem?_range hlt] at hj
  obtain ⟨c, u', _, hu', _⟩ := key j hlt
  simp only [hu', Option.map_some, Option.getD_some, Option.some.injEq] at hj
  subst hj
  rw [Ck]; exact hu'
 ·intro u hu
  obtain ⟨j, hj, rfl⟩ := List.mem_map.1 hu
  obtain ⟨c, u', _, hu', hR⟩ := key j (List.mem_range.1 hj)
  rw [hu']; exact hR.one
 ·intro e f c hh
  obtain ⟨he, hf⟩ := Pz hr hh
  have hlt : e * sz + f < ys.length * sz := by
   have := Nat.mul_le_mul_right sz (show e + 1 ≤ ys.length from he)
   rw [Nat.add_mul] at this; omega
  obtain ⟨c', u, hc', hu, hR⟩ := key _ hlt
  rw [(UL hf).1, (UL hf).2, hh] at hc'
  cases hc'
  exact ⟨u, by rw [List.getElem?_map, List.getElem?_range hlt]; simp [hu], hR⟩
theorem K8 (hH : Ai W0 M0 H n w S) {x : AV} {v : Value} {q : Prop} {ys : List (List D)} {sz : Nat} (h : C7 H x = some (q, ys)) (hq : q) (hr : CW sz ys) (hx : R w S n x v) :
  ∃ A c news, v = .slice A ys.length c ∧ TW w S sz ys A news := by
 unfold C7 at h
 split at h
 ·rename_i ys'
  simp only [Option.some.injEq, Prod.mk.injEq] at h
  obtain ⟨_, rfl⟩ := h
  cases hx with | d hx =>
  obtain ⟨a, cap, rfl, _⟩ := hx.slice_form
  by_cases hne : ys' = []
  ·subst hne
   exact ⟨a, cap, [], rfl, TW.empty _ _⟩
  ·obtain ⟨b, o, u, rfl, _, _, _, _, hc, hR⟩ := hx.rect hr hne
   obtain ⟨news, hs⟩ := TW.mk' (w := w) (S := S) (b := b) (o := o) hr (fun e f c hh => ⟨u e f, hc e f c hh, hR e f c hh⟩)
   exact ⟨_, cap, news, rfl, hs⟩
 ·simp only [Option.some.injEq, Prod.mk.injEq] at h
  obtain ⟨_, rfl⟩ := h
  cases hx with | d hx =>
  cases hx
  exact ⟨none, 0, [], rfl, TW.empty _ _⟩
 ·rename_i id off len
  split at h
  ·rename_i ty sz' xs hb
   simp only [Option.some.injEq, Prod.mk.injEq] at h
   obtain ⟨rfl, rfl⟩ := h
   obtain ⟨l, o, hS, ⟨hsz, _, _, hz, hnil, hbk⟩, rfl, hcap, ho, h0⟩ := hx.sl_live hH hb
   have hlen : ((xs.drop off).take len).length = len := by rw [List.length_take, List.length_drop]; omega
   rw [hlen]
   by_cases hl0 : len = 0
   ·subst hl0
    rw [List.take_zero]
    exact ⟨_, _, [], rfl, TW.empty _ _⟩
   ·cases hk : l.blk with
    | none => have := hnil hk; omega
    | some b =>
     obtain ⟨cur, hcur, hsize, hcell⟩ := hbk b hk
     have hszz : sz' = sz := by
      have h1 : (xs.drop off).take len ≠ [] := fun e => by rw [e] at hlen; simp at hlen; omega
      obtain ⟨x, hx⟩ := List.exists_mem_of_ne_nil _ h1
      rw [← hr x hx, hz x (List.mem_of_mem_drop (List.mem_of_mem_take hx))]
     subst hszz
     obtain ⟨news, hs⟩ := TW.mk' (w := w) (S := S) (b := b) (o := o) hr (fun e f c hh => by
      obtain ⟨u, hu, hR⟩ := hcell _ _ _ (CF hh)
      refine ⟨u, ?_, hR⟩
      rw [cell_of_row w b _ cur _ (0, 0) hcur, ho (by omega), hsz, show off * sz' + e * sz' + f = (off + e) * sz' + f by rw [Nat.add_mul]]
      exact hu)
     exact ⟨_, _, news, rfl, hs⟩
  ·cases h
 ·cases h
/-! ### append -/
def E3 (ty : TypeId → Option TI) (H : Av) (n : Nat) (t : TypeId) (s x : AV) : RH :=
 match ty t with
 | some ⟨.slice e, _, _, _⟩ => match ty e with
  | some ti => if ti.size = 0 ∨ ti.bytes = 0 then none else match C7 H x with
   | some (q, ys) => match s with
    | .d .nils => some (q ∧ CW ti.size ys ∧ ys.length * ti.bytes ≤ 140737488355328, .sl n 0 ys.length, CI H n (some (.vec e ti.size ys)), n + 1)
    | .sl id off len => match H id with
     | some (.vec e' sz xs) => if off = 0 ∧ e' = e ∧ sz = ti.size then
       some (q ∧ CW ti.size ys ∧ len ≤ xs.length ∧ (len + ys.length) * ti.bytes ≤ 140737488355328, .sl n 0 (len + ys.length), CI (CI H id none) n (some (.vec e ti.size (xs.take len ++ ys))), n + 1) else none
     | _ => none
    | _ => none
   | none => none
  | none => none
 | _ => none
theorem Jw (base : Nat) (t ty e : TypeId) (i : TypeInfo) (size : Nat) (ht : P.underlying t = some (.slice e)) (hi : P.info? e = some i)
  (v : Value) (m : Nat) (xs : List Value) (hown : w.ownsRow base e size v m xs) (c : Nat) : (Builtin.append_ #[t, t] ty #[v, .slice none 0 c]).run P w = .ok v w := by
 rcases hown.2 with ⟨rfl, rfl⟩ | ⟨g, cap, cur, rfl, _, _, hnc, _⟩
 ·simp [Builtin.append_, run_underlying ht, sizeOf, typeInfo, hi, Builtin.lenOf, Builtin.firstCells]
 ·simp [Builtin.append_, run_underlying ht, sizeOf, typeInfo, hi, Builtin.lenOf, Builtin.firstCells, hnc, storeCells]
theorem Px {t ty' e : TypeId} {ti : TI} (hu : P.underlying t = some (.slice e)) (hT : BE P e ti) (hsz : ti.size ≠ 0) (hby : ti.bytes ≠ 0) {v : Value} {k : Nat} {olds : List Value} (hown : w.ownsRow 0 e ti.size v k olds)
  {ys : List (List D)} {A : Option Addr} {news : List Value} {c : Nat} (hs : TW w S ti.size ys A news) (hb : (k + ys.length) * ti.bytes ≤ 140737488355328) :
  ∃ v' w', (Builtin.append_ #[t, t] ty' #[v, .slice A ys.length c]).run P w = .ok v' w' ∧ w'.ownsRow 0 e ti.size v' (k + ys.length) (olds ++ news) ∧ w.grownBy w' v.ownBlock ∧ (v'.ownBlock = v.ownBlock ∨ v'.ownBlock = some w.heap.size) := by
 obtain ⟨i, z, hi, his, hib, hz, hzs, _⟩ := hT.info
 have hmx : k + ys.length ≤ maxLen := by
  have h1 : (k + ys.length) * 1 ≤ (k + ys.length) * ti.bytes := Nat.mul_le_mul_left _ (by omega)
  simp only [maxLen]; omega
 cases A with
 | none =>
  have hy := hs.none_ rfl
  subst hy
  have hn : news = [] := List.eq_nil_of_length_eq_zero (by simpa using hs.len)
  subst hn
  exact ⟨v, w, Jw 0 t ty' e i ti.size hu hi v k olds hown c, by simpa using hown, World.grownBy.refl w _, .inl rfl⟩
 | some ad =>
  obtain ⟨v', w', h1, h2, h3, _, h5⟩ := run_append_own_at (P := P) w 0 t ty' e i z ti.size ti.bytes hu hi hz his hib hzs (by omega) v k olds hown ad ys.length c news hs.len (hs.cells ad rfl) hs.one hmx hb (Nat.zero_le _)
  exact ⟨v', w', h1, h2, h3, h5⟩
theorem MQ {e : TypeId} {sz m : Nat} {v' : Value} {cells : List Value} (h : w'.ownsRow 0 e sz v' m cells) :
  ∃ cap, v' = .slice (v'.ownBlock.map fun b => ⟨b, 0, none⟩) m cap ∧ m ≤ cap ∧ cap ≤ maxLen ∧ (v'.ownBlock = none → cap = 0) ∧
   ∀ b, v'.ownBlock = some b → ∃ cur, w'.heap[b]? = some (.cells cur e (0, 0)) ∧ cur.size = cap * sz ∧ cur.toList.take (m * sz) = cells := by
 rcases h.2 with ⟨rfl, h0⟩ | ⟨g, cap, cur, rfl, _, hg, hmc, hcm, hcs, htake⟩
 ·subst h0
  exact ⟨0, rfl, Nat.le_refl _, by simp [maxLen], fun _ => rfl, fun b hb => by simp [Value.ownBlock] at hb⟩
 ·refine ⟨cap, rfl, hmc, hcm, by simp [Value.ownBlock], fun b hb => ?_⟩
  simp [Value.ownBlock] at hb
  subst hb
  exact ⟨cur, hg, hcs, htake⟩
theorem Hx (hH : Ai W0 M0 H n w S) {t ty' : TypeId} {s x : AV} {vs vx : Value} {p : Prop} {c : AV} {H' : Av} {n' : Nat} (h : E3 X.ty H n t s x = some (p, c, H', n')) (hp : p) (hs : R w S n s vs) (hx : R w S n x vx) :
  ∃ r w' S', (Builtin.append_ #[t, t] ty' #[vs, vx]).run P w = .ok r w' ∧ Ai W0 M0 H' n' w' S' ∧ Cu w S n w' S' n' ∧ R w' S' n' c r := by
 unfold E3 at h
 split at h
 ·rename_i e _ _ _ hty
  have hu := (X.facts hty).slice
  split at h
  ·rename_i ti hte
   have hT := X.facts hte
   split at h
   ·cases h
   ·rename_i hne
    split at h
    ·rename_i q ys hys
     -- the end that both ways share
     have fin : ∀ (k : Option Nat) (v : Value) (m : Nat) (olds : List Value) (zs : List (List D)), w.ownsRow 0 e ti.size v m olds → q → CW ti.size ys → (m + ys.length) * ti.bytes ≤ 140737488355328 → v = vs →
       (∀ b, v.ownBlock = some b → ∃ id l', k = some id ∧ S id = some l' ∧ l'.blk = some b) → (∀ id l' b, k = some id → S id = some l' → l'.blk = some b → v.ownBlock = some b) → zs.length = m → CW ti.size zs → (∀ id, k = some id → (H id).isSome = true) →
       (∀ (e f : Nat) (c : D), D4 zs e f = some c → ∃ u, olds[e * ti.size + f]? = some u ∧ RD w (own S) c u) →
       ∃ r w' S', (Builtin.append_ #[t, t] ty' #[vs, vx]).run P w = .ok r w' ∧ Ai W0 M0 (CI (Gs k H) n (some (.vec e ti.size (zs ++ ys)))) (n + 1) w' S' ∧ Cu w S n w' S' (n + 1) ∧ R w' S' (n + 1) (.sl n 0 (m + ys.length)) r := by
      intro k v m olds zs hown hq hrect hb hv hk1 hk2 hzl hzr hklive hzc
      subst hv
      obtain ⟨A, cx, news, rfl, hsrc⟩ := K8 hH hys hq hrect hx
      obtain ⟨v', w', hrun, hown', hgrow, hat⟩ := Px (ty' := ty') (c := cx) hu hT (by omega) (by omega) hown hsrc hb
      have holdl : olds.length = zs.length * ti.size := by rw [hown.1, hzl]
      have key : ∀ (S' : Lays) (n' : Nat), Cu w S n w' S' n' → ∀ (e f : Nat) (c : D), D4 (zs ++ ys) e f = some c → ∃ u, (olds ++ news)[e * ti.size + f]? = some u ∧ RD w' (own S') c u := by
       intro S' n' hE e1 f1 c1 hh
       obtain ⟨y, hy, hf⟩ := B4 hh
       by_cases he : e1 < zs.length
       ·rw [List.getElem?_append_left he] at hy
        obtain ⟨u, hu', hR⟩ := hzc e1 f1 c1 (by simp [D4, hy, hf])
        refine ⟨u, ?_, hE.rd hR⟩
        rw [List.getElem?_append_left (List.getElem?_eq_some_iff.1 hu').1]; exact hu'
       ·rw [List.getElem?_append_right (by omega)] at hy
        obtain ⟨u, hu', hR⟩ := hsrc.rd (e1 - zs.length) f1 c1 (by simp [D4, hy, hf])
        refine ⟨u, ?_, hE.rd hR⟩
        have : e1 * ti.size + f1 = olds.length + ((e1 - zs.length) * ti.size + f1) := by
         rw [holdl, ← Nat.add_assoc, ← Nat.add_mul]; congr 2; omega
        rw [this, List.getElem?_append_right (by omega), Nat.add_sub_cancel_left]; exact hu'
      have hrect' : CW ti.size (zs ++ ys) := fun y hy => by
       rcases List.mem_append.1 hy with h | h
       ·exact hzr y h
       ·exact hrect y h
      obtain ⟨cap, hv', hmc, hcm, hcn, hcb⟩ := MQ hown'
      obtain ⟨hH', hE⟩ := hH.new (w' := w') k (.vec e ti.size (zs ++ ys)) ⟨v'.ownBlock, ti.size, cap, []⟩ hklive hgrow.os hgrow.tape hgrow.output hgrow.size
       (fun b hb hnk => hgrow.block b hb (fun e => by
        obtain ⟨id, l', h1, h2, h3⟩ := hk1 b e.symm
        exact hnk id l' h1 h2 h3))
       (fun b hb => by
        rcases hat with e | e
        ·rw [e] at hb; exact .inr (hk1 b hb)
        ·rw [e] at hb; cases hb; exact .inl (Nat.le_refl _))
       (fun b hb => by obtain ⟨cur, hcur, _⟩ := hcb b hb; exact (Array.getElem?_eq_some_iff.1 hcur).1)
       (fun hE => by
        refine ⟨rfl, hcm, (by show (zs ++ ys).length ≤ cap; rw [List.length_append]; omega), hrect', hcn, fun b hb => ?_⟩
        obtain ⟨cur, hcur, hcs, htake⟩ := hcb b hb
        refine ⟨cur, hcur, hcs, fun e1 f1 c1 hh => ?_⟩
        obtain ⟨u, hu, hR⟩ := key _ _ hE e1 f1 c1 hh
        rw [← htake, List.getElem?_take] at hu
        split at hu
        ·exact ⟨u, by rw [← Array.getElem?_toList]; exact hu, hR⟩
        ·cases hu)
      refine ⟨v', w', _, hrun, hH', hE, ?_⟩
      have := R.sl (w := w') (S := CI (Gs k S) n (some ⟨v'.ownBlock, ti.size, cap, []⟩)) (n := n + 1) n 0 (m + ys.length) 0 ⟨v'.ownBlock, ti.size, cap, []⟩ (by omega) (by rw [AA, if_pos rfl]) (by simpa using hmc) (fun _ => by simp) (fun _ => rfl)
      simp only [Nat.sub_zero] at this
      rw [← hv'] at this
      exact this
     split at h
     ·simp only [Option.some.injEq, Prod.mk.injEq] at h
      obtain ⟨rfl, rfl, rfl, rfl⟩ := h
      cases hs with | d hs =>
      cases hs
      have := fin none (.slice none 0 0) 0 [] [] (World.ownsRow_nil w 0 e ti.size) hp.1 hp.2.1 (by rw [Nat.zero_add]; exact hp.2.2) rfl (fun b hb => by simp [Value.ownBlock] at hb) (fun id l' b h => by cases h) rfl (fun y hy => by cases hy) (fun id h => by cases h) (fun e f c hh => by simp [D4] at hh)
      simpa [Gs] using this
     ·rename_i id off len
      split at h
      ·rename_i e' sz xs hb
       split at h
       ·rename_i hcond
        obtain ⟨rfl, rfl, rfl⟩ := hcond
        simp only [Option.some.injEq, Prod.mk.injEq] at h
        obtain ⟨rfl, rfl, rfl, rfl⟩ := h
        obtain ⟨hq, hrect, hlx, hbytes⟩ := hp
        obtain ⟨l, o, hS, ⟨hsz, hcm, hxl, hz, hnil, hbk⟩, hv, hcap, ho, h0⟩ := hs.sl_live hH hb
        have ho0 := h0 rfl
        subst ho0
        have hzl : (xs.take len).length = len := by rw [List.length_take]; omega
        have hzr : CW ti.size (xs.take len) := fun y hy => hz y (List.mem_of_mem_take hy)
        cases hk : l.blk with
        | none =>
         have hc0 := hnil hk
         have hl0 : len = 0 := by omega
         subst hl0
         have hvn : vs = .slice none 0 0 := by rw [hv, hk, hc0]; rfl
         exact fin (some id) vs 0 [] (xs.take 0) (by rw [hvn]; exact World.ownsRow_nil w 0 e' ti.size) hq hrect hbytes rfl (fun b hb => by rw [hvn] at hb; simp [Value.ownBlock] at hb)
          (fun id' l' b h1 h2 h3 => by cases h1; rw [hS] at h2; cases h2; rw [hk] at h3; cases h3) (by simp) hzr (fun id' h => by cases h; rw [hb]; rfl) (fun e f c hh => by simp [D4] at hh)
        | some b =>
         obtain ⟨cur, hcur, hsize, hcell⟩ := hbk b hk
         have hvb : vs = .slice (some ⟨b, 0, none⟩) len l.cap := by rw [hv, hk]; rfl
         have hll : (cur.toList.take (len * ti.size)).length = len * ti.size := by
          rw [List.length_take, Array.length_toList, hsize]
          have := Nat.mul_le_mul_right ti.size (show len ≤ l.cap by omega)
          omega
         exact fin (some id) vs len (cur.toList.take (len * ti.size)) (xs.take len) ⟨hll, .inr ⟨b, l.cap, cur, hvb, Nat.zero_le _, hcur, by omega, hcm, hsize, rfl⟩⟩ hq hrect hbytes rfl
          (fun b' hb' => by rw [hvb] at hb'; simp [Value.ownBlock] at hb'; subst hb'; exact ⟨id, l, rfl, hS, hk⟩)
          (fun id' l' b' h1 h2 h3 => by cases h1; rw [hS] at h2; cases h2; rw [hk] at h3; cases h3; rw [hvb]; rfl) hzl hzr (fun id' h => by cases h; rw [hb]; rfl)
          (fun e1 f1 c1 hh => by
           obtain ⟨he1, hf1⟩ := Pz hzr hh
           obtain ⟨x, hx, hf⟩ := B4 hh
           rw [List.getElem?_take] at hx
           split at hx
           ·obtain ⟨u, hu', hR⟩ := hcell e1 f1 c1 (by simp [D4, hx, hf])
            refine ⟨u, ?_, hR⟩
            have : e1 * ti.size + f1 < len * ti.size := by
             have := Nat.mul_le_mul_right ti.size (show e1 + 1 ≤ len by omega)
             rw [Nat.add_mul] at this; omega
            rw [List.getElem?_take, if_pos this, Array.getElem?_toList]; exact hu'
           ·cases hx)
       ·cases h
      ·cases h
     ·cases h
    ·cases h
  ·cases h
 ·cases h
end
end Go.Vc
/- The Vc layer: slice literals, copies, and all operations under one name. -/
set_option linter.all false
namespace Go.Vc
open Go Go.RowKit
variable [Bl]
def G8 (sz : Nat) : Av → Nat → List (Nat × AV) → Option (Prop × List (List D) × Av)
 | H, _, [] => some (True, [], H)
 | H, k, (i, v) :: r => if i = k then match fz H (Bu v) with
  | some (p, ds, H1) => if ds.length = sz then match G8 sz H1 (k + 1) r with
   | some (q, rows, H2) => some (p ∧ q, ds :: rows, H2)
   | none => none else none
  | none => none else none
def Eb (ty : TypeId → Option TI) (H : Av) (n : Nat) (t : TypeId) (len : Nat) (parts : List (Nat × AV)) : RH :=
 match ty t with
 | some ⟨.slice e, _, _, _⟩ => match ty e with
  | some ti => match G8 ti.size H 0 parts with
   | some (p, rows, H1) => if parts.length = len ∧ len ≤ 16777216 ∧ len * ti.size ≤ 16777216 then some (p, .sl n 0 len, CI H1 n (some (.vec e ti.size rows)), n + 1) else none
   | none => none
  | none => none
 | _ => none
section
variable {P : Program} {X : LR P} {w w' : World} {S : Lays} {n : Nat} {W0 : World} {M0 : Nat → Prop} {H : Av}
theorem Y0 (hH : Ai W0 M0 H n w S) {x : AV} {v : Value} {p : Prop} {ds : List D} {H1 : Av} (h : fz H (Bu x) = some (p, ds, H1)) (hp : p) (hx : R w S n x v) :
  ∃ S1, Ai W0 M0 H1 n w S1 ∧ Cu w S n w S1 n ∧ v.cells.size = ds.length ∧ ∀ (j : Nat) (u : Value), v.cells[j]? = some u → ∃ d, ds[j]? = some d ∧ RD w (own S1) d u := by
 obtain ⟨hdl, S1, hH1, hE1, hr1⟩ := XS hH h hp
 have hcells : v.cells.size = (Bu x).length ∧ ∀ (i : Nat) (c : AV), (Bu x)[i]? = some c → ∃ u, v.cells[i]? = some u ∧ R w S n c u := by
  cases x with
  | agg cs =>
   cases hx with | agg _ us hl h1 hr =>
   refine ⟨by simpa [Value.cells, Bu] using hl, fun i c hc => ?_⟩
   have hi : i < us.length := by have := (List.getElem?_eq_some_iff.1 hc).1; simp [Bu] at this; omega
   exact ⟨us[i], by simp [Value.cells, List.getElem?_eq_getElem hi], hr i c _ hc (List.getElem?_eq_getElem hi)⟩
  | _ =>
   have hone : v.oneCell' = true := by
    simp only [Bu, fz] at h
    split at h
    ·rename_i p1 d1 H2 h1
     obtain ⟨_, _, _, hr⟩ := PL hH h1 (by
      simp only [Option.some.injEq, Prod.mk.injEq] at h
      exact (h.1 ▸ hp).1)
     exact (hr v hx).one
    ·cases h
   rw [Hl hone]
   refine ⟨rfl, fun i c hc => ?_⟩
   cases i with
   | zero => simp [Bu] at hc; subst hc; exact ⟨v, rfl, hx⟩
   | succ i => simp [Bu] at hc
 refine ⟨S1, hH1, hE1, by rw [hcells.1, hdl], fun j u hj => ?_⟩
 have hjl : j < (Bu x).length := by have := (Array.getElem?_eq_some_iff.1 hj).1; omega
 obtain ⟨u', hu', hR⟩ := hcells.2 j _ (List.getElem?_eq_getElem hjl)
 rw [hj] at hu'; cases hu'
 exact hr1 j _ u (List.getElem?_eq_getElem hjl) hR
theorem SA {sz : Nat} : ∀ {parts : List (Nat × AV)} {H : Av} {S : Lays} {k : Nat} {p : Prop} {rows : List (List D)} {H' : Av}, Ai W0 M0 H n w S → G8 sz H k parts = some (p, rows, H') → p →
  ∀ {vparts : List (Nat × Value)}, vparts.length = parts.length → (∀ (i j : Nat) (c : AV), parts[i]? = some (j, c) → ∃ v, vparts[i]? = some (j, v) ∧ R w S n c v) →
  rows.length = parts.length ∧ CW sz rows ∧ ∃ S', Ai W0 M0 H' n w S' ∧ Cu w S n w S' n ∧ ∀ (i j : Nat) (v : Value), vparts[i]? = some (j, v) → j = k + i ∧ v.cells.size = sz ∧
   ∀ (f : Nat) (u : Value), v.cells[f]? = some u → ∃ d, D4 rows i f = some d ∧ RD w (own S') d u := by
 intro parts
 induction parts with
 | nil =>
  intro H S k p rows H' hH h hp vparts hl hv
  simp only [G8, Option.some.injEq, Prod.mk.injEq] at h
  obtain ⟨_, rfl, rfl⟩ := h
  have : vparts = [] := List.eq_nil_of_length_eq_zero (by simpa using hl)
  subst this
  exact ⟨rfl, (fun y hy => by cases hy), S, hH, Cu.refl _ _ _, fun i j v h => by simp at h⟩
 | cons pc parts ih =>
  intro H S k p rows H' hH h hp vparts hl hv
  obtain ⟨i, c⟩ := pc
  cases vparts with
  | nil => simp at hl
  | cons vp vparts =>
   unfold G8 at h
   split at h
   ·rename_i hik
    subst hik
    split at h
    ·rename_i q ds H1 hfz
     split at h
     ·rename_i hds
      split at h
      ·rename_i q' rows' H2 hrec
       simp only [Option.some.injEq, Prod.mk.injEq] at h
       obtain ⟨rfl, rfl, rfl⟩ := h
       obtain ⟨v, hv0, hR⟩ := hv 0 i c rfl
       simp at hv0
       subst hv0
       obtain ⟨S1, hH1, hE1, hsz, hcell⟩ := Y0 hH hfz hp.1 hR
       obtain ⟨hrl, hrr, S2, hH2, hE2, hall⟩ := ih hH1 hrec hp.2 (vparts := vparts) (by simpa using hl) (fun i' j c' hc => by
        obtain ⟨v', h1, h2⟩ := hv (i' + 1) j c' (by simpa using hc)
        exact ⟨v', by simpa using h1, hE1.r h2⟩)
       refine ⟨by simp [hrl], fun y hy => ?_, S2, hH2, hE1.trans hE2, fun i' j v' hi' => ?_⟩
       ·rcases List.mem_cons.1 hy with rfl | hy
        ·exact hds
        ·exact hrr y hy
       ·cases i' with
        | zero =>
         simp at hi'
         obtain ⟨rfl, rfl⟩ := hi'
         refine ⟨rfl, by rw [hsz]; exact hds, fun f u hu => ?_⟩
         obtain ⟨d, hd, hR⟩ := hcell f u hu
         exact ⟨d, by simp [D4, hd], hE2.rd hR⟩
        | succ i' =>
         obtain ⟨h1, h2, h3⟩ := hall i' j v' (by simpa using hi')
         refine ⟨by omega, h2, fun f u hu => ?_⟩
         obtain ⟨d, hd, hR⟩ := h3 f u hu
         exact ⟨d, by simpa [D4] using hd, hR⟩
      ·cases h
     ·cases h
    ·cases h
   ·cases h
theorem PJ (sz : Nat) : ∀ (vps : List (Nat × Value)) (k : Nat) (cells : Array Value), (∀ (j i : Nat) (v : Value), vps[j]? = some (i, v) → i = k + j ∧ v.cells.size = sz) → (k + vps.length) * sz ≤ cells.size →
  ∃ cells', Instr.fill (fun i => some (i * sz, sz)) cells vps = some cells' ∧ cells'.size = cells.size ∧ (∀ i, i < k * sz → cells'[i]? = cells[i]?) ∧
   ∀ (j f i : Nat) (v : Value), vps[j]? = some (i, v) → f < sz → cells'[(k + j) * sz + f]? = v.cells[f]? := by
 intro vps
 induction vps with
 | nil => intro k cells _ _; exact ⟨cells, rfl, rfl, fun _ _ => rfl, fun j f i v h => by simp at h⟩
 | cons vp vps ih =>
  intro k cells hv hfit
  obtain ⟨i, v⟩ := vp
  obtain ⟨hi, hvs⟩ := hv 0 i v rfl
  simp only [Nat.add_zero] at hi
  subst hi
  simp only [List.length_cons] at hfit
  have hfit0 : i * sz + sz ≤ cells.size := by
   have := Nat.mul_le_mul_right sz (show i + 1 ≤ i + (vps.length + 1) by omega)
   rw [Nat.add_mul] at this; omega
  have hsize : (v.cells.zipIdx.foldl (fun cs (x : Value × Nat) => cs.setIfInBounds (i * sz + x.2) x.1) cells).size = cells.size := by
   rw [← Array.foldl_toList, Array.toList_zipIdx, G7]
  have hget : ∀ m, (v.cells.zipIdx.foldl (fun cs (x : Value × Nat) => cs.setIfInBounds (i * sz + x.2) x.1) cells)[m]? = if i * sz ≤ m ∧ m < i * sz + sz then v.cells[m - i * sz]? else cells[m]? := fun m => by
   rw [← Array.foldl_toList, Array.toList_zipIdx]
   have := Hj (i * sz) v.cells.toList 0 cells m (by simp; omega)
   rw [this]; simp only [Nat.add_zero, Array.length_toList, hvs, Array.getElem?_toList]
  obtain ⟨cells', h1, h2, h3, h4⟩ := ih (i + 1) _ (fun j i' v' hj => by
   have := hv (j + 1) i' v' (by simpa using hj)
   exact ⟨by omega, this.2⟩) (by rw [hsize, show i + 1 + vps.length = i + (vps.length + 1) by omega]; exact hfit)
  refine ⟨cells', ?_, by rw [h2, hsize], fun m hm => ?_, fun j f i' v' hj hf => ?_⟩
  ·unfold Instr.fill
   simp only
   rw [if_neg (by simp; omega)]
   exact h1
  ·rw [h3 m (by rw [Nat.add_mul]; omega), hget, if_neg (by omega)]
  ·cases j with
   | zero =>
    simp at hj
    obtain ⟨rfl, rfl⟩ := hj
    rw [Nat.add_zero, h3 _ (by rw [Nat.add_mul]; omega), hget, if_pos (by omega), Nat.add_sub_cancel_left]
   | succ j =>
    rw [show i + (j + 1) = i + 1 + j by omega]
    exact h4 j f i' v' (by simpa using hj) hf
theorem JT (hH : Ai W0 M0 H n w S) {t : TypeId} {len : Nat} {parts : List (Nat × AV)} {vparts : Array (Nat × Value)} {p : Prop} {c : AV} {H' : Av} {n' : Nat} (h : Eb X.ty H n t len parts = some (p, c, H', n')) (hp : p)
  (hl : vparts.size = parts.length) (hv : ∀ (i k : Nat) (c : AV), parts[i]? = some (k, c) → ∃ v, vparts[i]? = some (k, v) ∧ R w S n c v) :
  ∃ r w' S', (Instr.buildSlice t len vparts).run P w = .ok r w' ∧ Ai W0 M0 H' n' w' S' ∧ Cu w S n w' S' n' ∧ R w' S' n' c r := by
 unfold Eb at h
 split at h
 ·rename_i e _ _ _ hty
  have hu := (X.facts hty).slice
  split at h
  ·rename_i ti hti
   obtain ⟨i, z, hi, his, hib, hz, hzs, _⟩ := (X.facts hti).info
   split at h
   ·rename_i q rows H1 hfz
    split at h
    ·rename_i hcond
     obtain ⟨hlen, hbl, hbig⟩ := hcond
     simp only [Option.some.injEq, Prod.mk.injEq] at h
     obtain ⟨rfl, rfl, rfl, rfl⟩ := h
     obtain ⟨hrl, hrr, S1, hH1, hE1, hall⟩ := SA hH hfz hp (vparts := vparts.toList) (by simpa using hl) (fun i j c hc => by
      obtain ⟨v, h1, h2⟩ := hv i j c hc
      exact ⟨v, by rw [Array.getElem?_toList]; exact h1, h2⟩)
     obtain ⟨zero, hzero⟩ : ∃ zero : Array Value, zero = if len * ti.size = 0 then #[] else z.cells := ⟨_, rfl⟩
     obtain ⟨cells', hf1, hf2, _, hf4⟩ := PJ ti.size vparts.toList 0 ((Array.range (len * ti.size)).map (zero[· % zero.size]!)) (fun j i' v hj => by
      have := hall j i' v hj
      exact ⟨this.1, this.2.1⟩) (by simp; rw [hl, hlen]; exact Nat.le_refl _)
     have hcs : cells'.size = len * ti.size := by rw [hf2]; simp
     obtain ⟨hH2, hE2⟩ := hH1.alloc (w1 := w) ⟨rfl, rfl, rfl, rfl⟩ cells' e (.vec e ti.size rows) ti.size len (fun S' n' hE hnew => by
      refine ⟨rfl, ?_, by simp; omega, hrr, by simp, fun b hb => ?_⟩
      ·simp only [maxLen]; omega
      ·cases hb
       refine ⟨_, hnew, hcs, fun e1 f1 c1 hh => ?_⟩
       obtain ⟨he1, hf1'⟩ := Pz hrr hh
       have hev : e1 < vparts.toList.length := by simp; omega
       obtain ⟨hj, hvs, hcell⟩ := hall e1 (vparts.toList[e1]).1 (vparts.toList[e1]).2 (List.getElem?_eq_getElem hev)
       have hfl : f1 < (vparts.toList[e1]).2.cells.size := by omega
       obtain ⟨d, hd, hR⟩ := hcell f1 _ (Array.getElem?_eq_getElem hfl)
       rw [hh] at hd; cases hd
       refine ⟨_, ?_, hE.rd hR⟩
       have := hf4 e1 f1 (vparts.toList[e1]).1 (vparts.toList[e1]).2 (List.getElem?_eq_getElem hev) hf1'
       rw [Nat.zero_add] at this
       rw [this]
       exact Array.getElem?_eq_getElem hfl)
     refine ⟨.slice (some ⟨w.heap.size, 0, none⟩) len len, _, _, ?_, hH2, hE1.trans hE2, ?_⟩
     ·have hzv : (zeroValue e).run P w = .ok z w := by simp [zeroValue, typeInfo, hi, hz]
      by_cases h0 : len * ti.size = 0
      ·rw [if_pos h0] at hzero
       rw [hzero] at hf1
       simp only [Instr.buildSlice, Sem.run_bind, run_underlying hu, Result.andThen_ok, (X.facts hti).sizeOf, if_neg (show ¬ len * ti.size > 2 ^ 24 by omega), if_pos h0, Sem.run_pure, hf1, newRow, newObj]
       simp [Sem.run]
      ·rw [if_neg h0] at hzero
       rw [hzero] at hf1
       simp only [Instr.buildSlice, Sem.run_bind, run_underlying hu, Result.andThen_ok, (X.facts hti).sizeOf, if_neg (show ¬ len * ti.size > 2 ^ 24 by omega), if_neg h0, hzv, Sem.run_pure, hf1, newRow, newObj]
       simp [Sem.run]
     ·have := R.sl (w := w.alloc (.cells cells' e)) (S := CI S1 n (some ⟨some w.heap.size, ti.size, len, []⟩)) (n := n + 1) n 0 len 0 ⟨some w.heap.size, ti.size, len, []⟩ (by omega) (by rw [AA, if_pos rfl]) (by simp) (fun _ => by simp) (fun _ => rfl)
      simpa using this
    ·cases h
   ·cases h
  ·cases h
 ·cases h
end
