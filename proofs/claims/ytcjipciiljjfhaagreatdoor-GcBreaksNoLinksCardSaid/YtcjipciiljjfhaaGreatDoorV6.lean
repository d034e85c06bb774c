/- The Vc layer, part 6. -/
import Derived.Test.YtcjipciiljjfhaaGreatDoorV5
import Derived.MapKept
import Derived.Laws.IdiomRangeMap
/- The Vc layer: own rows frozen to data; rows that own slices, kept own with their slices as data. -/
set_option linter.all false
namespace Go.Vc
open Go Go.RowKit

section
variable [Far] {P : Program} {E : Env P} {W0 : World} {M0 : Nat → Prop} {w : World} {S : Lays} {n m : Nat} {H : Heap} {fr : Nat → AV} {K : St → Prop} {d : Option Tmp} {t t2 t' ty' : TypeId} {p : String} {af : Array Edge} {bl : List (Option Box)} {cd : Code} {Q : Exit → St → Prop}

end
end Go.Vc
/- The Vc layer: a closure called with a slice out of a bag, whose result is put back. -/
set_option linter.all false
namespace Go.Vc
open Go Go.RowKit

section
variable [Far] {P : Program} {E : Env P} {W0 : World} {M0 : Nat → Prop} {w : World} {S : Lays} {n m : Nat} {H : Heap} {fr : Nat → AV} {K : St → Prop} {d : Option Tmp} {t t2 t' ty' : TypeId} {p : String} {af : Array Edge} {bl : List (Option Box)} {cd : Code} {Q : Exit → St → Prop}

end
end Go.Vc
/- The Vc layer: maps from numbers to bools, of the function's own. -/
set_option linter.all false
namespace Go.Vc
open Go Go.RowKit

def setI : List (Int × Bool) → Int → Bool → List (Int × Bool)
 | [], k, b => [(k, b)]
 | p :: r, k, b => if p.1 = k then (k, b) :: r else p :: setI r k b
def getI (m : List (Int × Bool)) (k : Int) : Option Bool := m.lookup k
theorem nd_inj {α β : Type} {f : α → β} : ∀ {l : List α}, (l.map f).Nodup → ∀ {a b : α}, a ∈ l → b ∈ l → f a = f b → a = b
 | [], _, _, _, h, _, _ => by cases h
 | x :: l, hn, a, b, ha, hb, e => by
  simp only [List.map_cons, List.nodup_cons] at hn
  rcases List.mem_cons.1 ha with h1 | h1 <;> rcases List.mem_cons.1 hb with h2 | h2
  ·rw [h1, h2]
  ·subst h1; exact absurd (List.mem_map.2 ⟨b, h2, e.symm⟩) hn.1
  ·subst h2; exact absurd (List.mem_map.2 ⟨a, h1, e⟩) hn.1
  ·exact nd_inj hn.2 h1 h2 e
def eM (p : Int × Bool) : Value × Value := (.int .i64 p.1, .bool p.2)
def eE (e : MapEntry) : Value × Value := (e.key, e.val)

theorem find_ok : ∀ {es : List MapEntry} {m : List (Int × Bool)}, es.map eE = m.map eM → ∀ (k : Int) (i : Nat),
  (Instr.findNow (.int .i64) (.int .i64 k) es i = some none ∧ getI m k = none ∧ (∀ b, setI m k b = m ++ [(k, b)]) ∧ k ∉ m.map (·.1)) ∨
  ∃ j b0, Instr.findNow (.int .i64) (.int .i64 k) es i = some (some (i + j, .bool b0)) ∧ getI m k = some b0 ∧ m[j]? = some (k, b0) ∧ ∀ b, setI m k b = m.set j (k, b)
 | [], [], _, k, i => .inl ⟨rfl, rfl, fun _ => rfl, by simp⟩
 | [], _ :: _, h, _, _ => by simp at h
 | _ :: _, [], h, _, _ => by simp at h
 | e :: es, (a, b0) :: m, h, k, i => by
  simp only [List.map_cons, List.cons.injEq] at h
  obtain ⟨h1, h2⟩ := h
  have hk : e.key = .int .i64 a := congrArg Prod.fst h1
  have hv : e.val = .bool b0 := congrArg Prod.snd h1
  have hs : Instr.sameNow (.int .i64) (.int .i64 k) e.key = some (k == a) := by rw [hk]; rfl
  unfold Instr.findNow
  rw [hs]
  by_cases ha : a = k
  ·subst ha
   right
   refine ⟨0, b0, by simp [hv], ?_, rfl, fun b => ?_⟩
   ·unfold getI; simp
   ·unfold setI; rw [if_pos rfl]; rfl
  ·have hka : (k == a) = false := by simpa using fun h => ha h.symm
   rw [hka]
   simp only
   rcases find_ok h2 k (i + 1) with ⟨g1, g2, g3, g4⟩ | ⟨j, b1, g1, g2, g3, g4⟩
   ·left
    refine ⟨g1, ?_, fun b => ?_, ?_⟩
    ·unfold getI at *; rw [List.lookup_cons, hka]; exact g2
    ·unfold setI; rw [if_neg ha, g3 b]; rfl
    ·simp only [List.map_cons, List.mem_cons, not_or]; exact ⟨fun h => ha h.symm, g4⟩
   ·right
    refine ⟨j + 1, b1, by rw [g1, Nat.add_assoc, Nat.add_comm 1 j], ?_, by simpa using g3, fun b => ?_⟩
    ·unfold getI at *; rw [List.lookup_cons, hka]; exact g2
    ·unfold setI; rw [if_neg ha, g4 b]; rfl
theorem setI_keys {m : List (Int × Bool)} {k : Int} {b : Bool} (h : (m.map (·.1)).Nodup) : ((setI m k b).map (·.1)).Nodup ∧ ∀ x, x ∈ (setI m k b).map (·.1) ↔ x = k ∨ x ∈ m.map (·.1) := by
 induction m with
 | nil => exact ⟨by simp [setI], fun x => by simp [setI]⟩
 | cons p m ih =>
  simp only [List.map_cons, List.nodup_cons] at h
  obtain ⟨i1, i2⟩ := ih h.2
  unfold setI
  split
  ·rename_i hp
   subst hp
   exact ⟨by simpa using h, fun x => by simp⟩
  ·rename_i hp
   refine ⟨?_, fun x => ?_⟩
   ·simp only [List.map_cons, List.nodup_cons]
    exact ⟨fun hm => by rcases (i2 _).1 hm with e | e; exact hp e; exact h.1 e, i1⟩
   ·simp only [List.map_cons, List.mem_cons, i2]
    constructor
    ·rintro (h | h | h)
     ·exact .inr (.inl h)
     ·exact .inl h
     ·exact .inr (.inr h)
    ·rintro (h | h | h)
     ·exact .inr (.inl h)
     ·exact .inl h
     ·exact .inr (.inr h)

section
variable [Far] {P : Program} {E : Env P} {W0 : World} {M0 : Nat → Prop} {w : World} {S : Lays} {n m : Nat} {H : Heap} {fr : Nat → AV} {K : St → Prop} {d : Option Tmp} {t t2 t' ty' kt et : TypeId} {p : String} {af : Array Edge} {bl : List (Option Box)} {cd : Code} {Q : Exit → St → Prop}

theorem R.mp_live (hH : HeapOk W0 M0 H n w S) {id : Nat} {b : Box} {v : Value} (hb : H id = some b) (h : R w S n (.mp id) v) : ∃ l, S id = some l ∧ BoxOk w S n b l ∧ v = .map l.blk := by
 obtain ⟨l, h1, h2⟩ := hH.box id b hb
 cases h with
 | mpDead _ _ _ hS => rw [h1] at hS; cases hS
 | mp _ l' _ hS => rw [h1] at hS; cases hS; exact ⟨l, h1, h2, rfl⟩

/-- A map made. -/
theorem sem_makeMap {r : Option Operand} (hr : r = none) (k : K ⟨putD d (.mp n) fr, upd H n (some (.ob (.mapI []))), n + 1⟩) : SemO W0 M0 E ⟨d, .makeMap t r, ty', p, af, none⟩ ⟨fr, H, n⟩ K := by
 subst hr
 refine .value (fun c h => by cases h) fun a w S hH hop => ?_
 have hnew : (w.alloc (.map #[] 0)).heap[w.heap.size]? = some (.map #[] 0) := heap_alloc_new w _
 have key := hH.new (w' := w.alloc (.map #[] 0)) none (.ob (.mapI [])) ⟨some w.heap.size, 0, 0, []⟩ (fun id h => by cases h) rfl rfl rfl (by rw [World.size_alloc]; omega)
  (fun c hc _ => heap_alloc_old w _ hc) (fun c hc => by cases hc; exact .inl (Nat.le_refl _)) (fun c hc => by cases hc; rw [World.size_alloc]; omega)
  (fun hE => ⟨rfl, _, _, _, rfl, hnew, rfl, List.nodup_nil, by simp, List.nodup_nil⟩)
 have hk : kill none H = H := by funext i; simp [kill]
 have hks : kill none S = S := by funext i; simp [kill]
 rw [hk, hks] at key
 refine ⟨_, _, _, .map (some w.heap.size), _, _, ?_, key.1, key.2, ?_, k⟩
 ·simp only [execOp]
  simp [run_makeMap]
 ·exact .mp n ⟨some w.heap.size, 0, 0, []⟩ (Nat.lt_succ_self n) (by rw [upd_app, if_pos rfl])

theorem SemO.skip {o : Oper} {st : St} (hd : ∀ c, o.op ≠ .defer c) (h : ∀ (a : Act) (w : World) (S : Lays), HeapOk W0 M0 st.H st.n w S → (∀ x ∈ o.op.operands.toList, R w S st.n (evO st.fr x) (a.eval x)) →
  ∃ H' n' w' S', (execOp a.eval o).run P w = .ok .skip w' ∧ HeapOk W0 M0 H' n' w' S' ∧ Ext w S st.n w' S' n' ∧ K ⟨putD o.dst .any st.fr, H', n'⟩) : SemO W0 M0 E o st K := by
 intro a w S h1 h2 Q
 obtain ⟨H', n', w', S', e1, e2, e3, e4⟩ := h a w S h1 h2
 refine fen_op hd ?_
 rw [e1]
 exact ⟨.any, H', n', undef, S', rfl, e2, e3, .any _, e4⟩

/-- A look into a map. -/
theorem sem_mapGet {x ix : Operand} {id : Nat} {key : Int} {mm : List (Int × Bool)} {ok : Bool} (hu : P.underlying t = some (.map kt et)) (hk : P.underlying kt = some (.int .i64)) (hz : ∀ w, (zeroValue et).run P w = .ok (.bool false) w)
  (hx : bare (evO fr x) = .mp id) (hnx : needs (evO fr x)) (hi : bare (evO fr ix) = .d (.int .i64 key)) (hni : needs (evO fr ix)) (hb : H id = some (.ob (.mapI mm)))
  (k : K ⟨putD d (if ok then .tup [.d (.bool ((getI mm key).getD false)), .d (.bool (getI mm key).isSome)] else .d (.bool ((getI mm key).getD false))) fr, H, n⟩) : SemO W0 M0 E ⟨d, .lookup t x ix ok, ty', p, af, none⟩ ⟨fr, H, n⟩ K := by
 refine .value (fun c h => by cases h) fun a w S hH hop => ?_
 have hX := (hop x (by simp [Op.operands])).bare_of hnx
 have hI := (hop ix (by simp [Op.operands])).bare_of hni
 rw [hx] at hX
 rw [hi, R.int_iff] at hI
 obtain ⟨l, hS, ⟨_, b, es, clock, h1, h2, h3, _⟩, hv⟩ := R.mp_live hH hb hX
 have hc : ∀ e, (Instr.checkKey e 10000 kt (.int .i64 key)).run P w = .ok () w := fun e => MapKept.run_checkKey (k := .int .i64 key) hk (by simp [MapKept.IsKey]) e 9999
 rw [h1] at hv
 have hrun : ∀ r, Instr.findNow (.int .i64) (.int .i64 key) es.toList 0 = some r → (Instr.lookup t (.map (some b)) (.int .i64 key) ok).run P w = (match r with
   | some (_, v) => .ok (if ok then .tuple #[v, .bool true] else v) w
   | none => .ok (if ok then .tuple #[.bool false, .bool false] else .bool false) w) := fun r hf => by
  cases r with
  | none => simp [Instr.lookup, run_underlying hu, MapKept.run_getObj_map h2, hc, MapKept.run_findKey hk hf, Result.andThen, hz]
  | some q => simp [Instr.lookup, run_underlying hu, MapKept.run_getObj_map h2, hc, MapKept.run_findKey hk hf, Result.andThen]
 rcases find_ok h3 key 0 with ⟨g1, g2, _⟩ | ⟨j, b0, g1, g2, _⟩
 ·refine ⟨_, H, n, (if ok then .tuple #[.bool false, .bool false] else .bool false), w, S, ?_, hH, Ext.refl _ _ _, ?_, k⟩
  ·simp only [execOp, hv, hI, Sem.run_bind, hrun _ g1, Result.andThen_ok, Sem.run_pure]
  ·rw [g2]
   cases ok
   ·exact .d (.bool _)
   ·refine .tup _ [.bool false, .bool false] rfl (fun i c u hc hu => ?_)
    match i, hc, hu with
    | 0, hc, hu => cases hc; cases hu; exact .d (.bool _)
    | 1, hc, hu => cases hc; cases hu; exact .d (.bool _)
 ·refine ⟨_, H, n, (if ok then .tuple #[.bool b0, .bool true] else .bool b0), w, S, ?_, hH, Ext.refl _ _ _, ?_, k⟩
  ·simp only [execOp, hv, hI, Sem.run_bind, hrun _ g1, Result.andThen_ok, Sem.run_pure]
  ·rw [g2]
   cases ok
   ·exact .d (.bool _)
   ·refine .tup _ [.bool b0, .bool true] rfl (fun i c u hc hu => ?_)
    match i, hc, hu with
    | 0, hc, hu => cases hc; cases hu; exact .d (.bool _)
    | 1, hc, hu => cases hc; cases hu; exact .d (.bool _)

theorem mapOk_set {es : Array MapEntry} {clock : Nat} {mm : List (Int × Bool)} {key : Int} {b : Bool} (h : MapOk es clock mm) :
  (∃ r, Instr.findNow (.int .i64) (.int .i64 key) es.toList 0 = some r ∧ match r with
   | none => MapOk (es.push { key := .int .i64 key, val := .bool b, born := clock }) (clock + 1) (setI mm key b)
   | some (i, _) => (es[i]?).map (·.key) = some (.int .i64 key) ∧ MapOk (es.modify i fun e => { e with key := .int .i64 key, val := .bool b }) clock (setI mm key b)) := by
 obtain ⟨h1, h2, h3, h4⟩ := h
 have hn := (setI_keys (k := key) (b := b) h2).1
 rcases find_ok (es := es.toList) h1 key 0 with ⟨g1, g2, g3, g4⟩ | ⟨j, b0, g1, g2, g3, g4⟩
 ·refine ⟨none, g1, ?_, hn, ?_, ?_⟩
  ·rw [g3 b]; simp [h1, eM, eE]
  ·intro e he
   simp only [Array.toList_push, List.mem_append, List.mem_singleton] at he
   rcases he with he | rfl
   ·have := h3 e he; omega
   ·exact Nat.lt_succ_self _
  ·simp only [Array.toList_push, List.map_append, List.map_cons, List.map_nil]
   refine List.nodup_append.2 ⟨h4, by simp, fun a ha c hc => ?_⟩
   simp only [List.mem_singleton] at hc
   subst hc
   obtain ⟨x, hx, rfl⟩ := List.mem_map.1 ha
   exact Nat.ne_of_lt (h3 x hx)
 ·refine ⟨some (0 + j, .bool b0), g1, ?_⟩
  simp only [Nat.zero_add]
  have hj : (es.toList.map eE)[j]? = some (eM (key, b0)) := by rw [show es.toList.map eE = mm.map eM from h1, List.getElem?_map, g3]; rfl
  have hlt : j < es.size := by have := (List.getElem?_eq_some_iff.1 hj).1; simpa using this
  have hkj : es[j].key = .int .i64 key := by
   rw [List.getElem?_map, Array.getElem?_toList, Array.getElem?_eq_getElem hlt] at hj
   exact congrArg Prod.fst (Option.some.inj hj)
  refine ⟨by rw [Array.getElem?_eq_getElem hlt]; exact congrArg some hkj, ?_, hn, ?_, ?_⟩
  ·rw [g4 b]
   apply List.ext_getElem?
   intro i
   rw [List.getElem?_map, List.getElem?_map, List.getElem?_set, Array.getElem?_toList, Array.getElem?_modify]
   have hi : (es.toList.map eE)[i]? = (mm.map eM)[i]? := by rw [show es.toList.map eE = mm.map eM from h1]
   rw [List.getElem?_map, List.getElem?_map, Array.getElem?_toList] at hi
   by_cases hji : j = i
   ·subst hji
    have hml : j < mm.length := (List.getElem?_eq_some_iff.1 g3).1
    rw [if_pos rfl, if_pos rfl, if_pos hml, Array.getElem?_eq_getElem hlt]; rfl
   ·rw [if_neg hji, if_neg hji]; exact hi
  ·intro e he
   obtain ⟨i, hi⟩ := List.getElem?_of_mem he
   rw [Array.getElem?_toList, Array.getElem?_modify] at hi
   split at hi
   ·rename_i hji
    rw [← hji, Array.getElem?_eq_getElem hlt] at hi
    simp only [Option.map_some, Option.some.injEq] at hi
    rw [← hi]
    exact h3 es[j] (by simp)
   ·exact h3 e (Array.mem_toList_iff.2 (Array.mem_of_getElem? hi))
  ·have hborn : (es.modify j fun e => { e with key := .int .i64 key, val := .bool b }).toList.map (·.born) = es.toList.map (·.born) := by
    apply List.ext_getElem?
    intro i
    simp only [List.getElem?_map, Array.getElem?_toList, Array.getElem?_modify]
    by_cases hji : j = i
    ·subst hji
     rw [Array.getElem?_eq_getElem hlt]; simp
    ·simp [hji]
   rw [hborn]; exact h4

/-- An entry of a map written. -/
theorem sem_mapSet {x ix y : Operand} {id : Nat} {key : Int} {v : Bool} {mm : List (Int × Bool)} (hu : P.underlying t = some (.map kt et)) (hk : P.underlying kt = some (.int .i64))
  (hx : bare (evO fr x) = .mp id) (hnx : needs (evO fr x)) (hi : bare (evO fr ix) = .d (.int .i64 key)) (hni : needs (evO fr ix)) (hy : bare (evO fr y) = .d (.bool v)) (hny : needs (evO fr y)) (hb : H id = some (.ob (.mapI mm)))
  (k : K ⟨putD d .any fr, upd H id (some (.ob (.mapI (setI mm key v)))), n⟩) : SemO W0 M0 E ⟨d, .mapUpdate t x ix y, ty', p, af, none⟩ ⟨fr, H, n⟩ K := by
 refine .skip (fun c h => by cases h) fun a w S hH hop => ?_
 have hX := (hop x (by simp [Op.operands])).bare_of hnx
 have hI := (hop ix (by simp [Op.operands])).bare_of hni
 have hY := (hop y (by simp [Op.operands])).bare_of hny
 rw [hx] at hX
 rw [hi, R.int_iff] at hI
 rw [hy, R.bool_iff] at hY
 obtain ⟨l, hS, ⟨h0, b, es, clock, h1, h2, h3⟩, hv⟩ := R.mp_live hH hb hX
 have hc : ∀ e, (Instr.checkKey e 10000 kt (.int .i64 key)).run P w = .ok () w := fun e => MapKept.run_checkKey (k := .int .i64 key) hk (by simp [MapKept.IsKey]) e 9999
 rw [h1] at hv
 obtain ⟨r, hf, hr⟩ := mapOk_set (key := key) (b := v) h3
 obtain ⟨es', clock', hrun, hok⟩ : ∃ es' clock', (Instr.mapUpdate t (.map (some b)) (.int .i64 key) (.bool v)).run P w = .ok () { w with heap := w.heap.setIfInBounds b (.map es' clock') } ∧ MapOk es' clock' (setI mm key v) := by
  cases r with
  | none => exact ⟨_, _, by simp [Instr.mapUpdate, run_underlying hu, MapKept.run_getObj_map h2, hc, MapKept.run_findKey hk hf, Result.andThen, MapKept.run_setObj_map _ h2], hr⟩
  | some q =>
   obtain ⟨i, v0⟩ := q
   obtain ⟨g1, g2⟩ := hr
   have hsb : ∀ w, (Instr.keyThatStays (.int .i64 key) (.int .i64 key)).run P w = .ok (.int .i64 key) w := fun w => by simp [Instr.keyThatStays, Instr.sameBits]
   exact ⟨_, _, by simp [Instr.mapUpdate, run_underlying hu, MapKept.run_getObj_map h2, hc, MapKept.run_findKey hk hf, Result.andThen, MapKept.run_setObj_map _ h2, g1, hsb], g2⟩
 obtain ⟨hs1, hs2⟩ := MapKept.heap_set (o' := .map es' clock') h2
 have key := hH.write2 (w' := { w with heap := w.heap.setIfInBounds b (.map es' clock') }) hS (.inl h1) (.ob (.mapI (setI mm key v))) (by show (H id).isSome = true; rw [hb]; rfl) rfl rfl rfl (by simp) (fun c hc => hs2 c hc) (fun _ => ⟨h0, b, es', clock', h1, hs1, hok⟩) (fun h => by cases h)
 refine ⟨_, n, _, S, ?_, key.1, key.2, k⟩
 simp only [execOp, hv, hI, hY, Sem.run_bind, hrun, Result.andThen_ok, Sem.run_pure]

/-- A range over a map that the loop does not write: the iterator. -/
theorem sem_rangeMap {x : Operand} {id : Nat} {mm : List (Int × Bool)} (hu : P.underlying t = some (.map kt et)) (hx : bare (evO fr x) = .mp id) (hnx : needs (evO fr x)) (hb : H id = some (.ob (.mapI mm)))
  (k : ∀ bi, K ⟨putD d (.d (.raw (.pointer (some ⟨bi, 0, none⟩)))) fr, upd (kill (some id) H) n (some (.ob (.rng bi mm []))), n + 1⟩) : SemO W0 M0 E ⟨d, .range t x, ty', p, af, none⟩ ⟨fr, H, n⟩ K := by
 refine .value (fun c h => by cases h) fun a w S hH hop => ?_
 have hX := (hop x (by simp [Op.operands])).bare_of hnx
 rw [hx] at hX
 obtain ⟨l, hS, ⟨h0, b, es, clock, h1, h2, h3⟩, hv⟩ := R.mp_live hH hb hX
 rw [h1] at hv
 have hrun : (Instr.range t (.map (some b))).run P w = .ok (.pointer (some ⟨w.heap.size, 0, none⟩)) (w.alloc (.mapIter (some b) clock #[] clock)) := run_range_map w t kt et b es clock hu h2
 have hlt : b < w.heap.size := hH.lt2 id l b hS (.inl h1)
 have hold : (w.alloc (.mapIter (some b) clock #[] clock)).heap[b]? = some (.map es clock) := by rw [heap_alloc_old w _ hlt]; exact h2
 have hnew : (w.alloc (.mapIter (some b) clock #[] clock)).heap[w.heap.size]? = some (.mapIter (some b) clock #[] clock) := heap_alloc_new w _
 have key := hH.new2 (w' := w.alloc (.mapIter (some b) clock #[] clock)) (some id) (.ob (.rng w.heap.size mm [])) ⟨some b, l.sz, l.cap, [w.heap.size]⟩ (fun i h => by cases h; show (H id).isSome = true; rw [hb]; rfl) rfl rfl rfl (by rw [World.size_alloc]; omega)
  (fun c hc _ => heap_alloc_old w _ hc)
  (fun c hc => by
   rcases hc with hc | hc
   ·cases hc; exact .inr ⟨id, l, rfl, hS, .inl h1⟩
   ·simp only [List.mem_cons, List.not_mem_nil, or_false] at hc; exact .inl (by omega))
  (fun c hc => by
   rw [World.size_alloc]
   rcases hc with hc | hc
   ·cases hc; omega
   ·simp only [List.mem_cons, List.not_mem_nil, or_false] at hc; omega)
  ⟨by simp, fun c hc hm => by cases hc; simp only [List.mem_cons, List.not_mem_nil, or_false] at hm; omega⟩ (fun h => by cases h)
  (fun hE => ⟨rfl, b, es, clock, clock, #[], rfl, hold, h3, hnew, h3.2.2.1, Nat.le_refl _, fun e he => by simp, fun k hk => by simp at hk⟩)
 refine ⟨_, _, _, .pointer (some ⟨w.heap.size, 0, none⟩), _, _, ?_, key.1, key.2, .d (.raw _ rfl), k _⟩
 simp only [execOp, hv, Sem.run_bind, hrun, Result.andThen_ok, Sem.run_pure]

theorem raw_is {v u : Value} (h : R w S n (.d (.raw v)) u) : u = v := by
 cases h with | d h => cases h; rfl

/-- The next entry, in any order. -/
theorem sem_nextMap {x : Operand} {id bi : Nat} {mm : List (Int × Bool)} {seen : List Int} (hx : bare (evO fr x) = .d (.raw (.pointer (some ⟨bi, 0, none⟩)))) (hnx : needs (evO fr x)) (hb : H id = some (.ob (.rng bi mm seen)))
  (k1 : (∀ q ∈ mm, q.1 ∈ seen) → K ⟨putD d (.tup [.d (.bool false)]) fr, H, n⟩)
  (k2 : ∀ q ∈ mm, q.1 ∉ seen → K ⟨putD d (.tup [.d (.bool true), .d (.int .i64 q.1), .d (.bool q.2)]) fr, upd H id (some (.ob (.rng bi mm (seen ++ [q.1])))), n⟩) : SemO W0 M0 E ⟨d, .next x false, ty', p, af, none⟩ ⟨fr, H, n⟩ K := by
 refine .value (fun c h => by cases h) fun a w S hH hop => ?_
 have hX := (hop x (by simp [Op.operands])).bare_of hnx
 rw [hx] at hX
 have hv := raw_is hX
 obtain ⟨l, hS, h0, b, es, clock, since, sb, h1, h2, h3, h4, h5, h6, h7, h8⟩ := hH.box id _ hb
 obtain ⟨g1, g2, g3, g4⟩ := h3
 have ent : ∀ e ∈ es.toList, ∃ q ∈ mm, e.key = .int .i64 q.1 ∧ e.val = .bool q.2 := fun e he => by
  have : (e.key, e.val) ∈ es.toList.map (fun e => (e.key, e.val)) := List.mem_map.2 ⟨e, he, rfl⟩
  rw [g1] at this
  obtain ⟨q, hq, e1⟩ := List.mem_map.1 this
  exact ⟨q, hq, (congrArg Prod.fst e1).symm, (congrArg Prod.snd e1).symm⟩
 have ent2 : ∀ q ∈ mm, ∃ e ∈ es.toList, e.key = .int .i64 q.1 ∧ e.val = .bool q.2 := fun q hq => by
  have : (Value.int .i64 q.1, Value.bool q.2) ∈ mm.map (fun p => (Value.int .i64 p.1, Value.bool p.2)) := List.mem_map.2 ⟨q, hq, rfl⟩
  rw [← g1] at this
  obtain ⟨e, he, e1⟩ := List.mem_map.1 this
  exact ⟨e, he, congrArg Prod.fst e1, congrArg Prod.snd e1⟩
 have htest := next_test_false sb es since clock h5 h6
 have hmem : ∀ x ∈ (leftOf es sb).toList, x.born < since := fun x hx => h5 x (by unfold leftOf at hx; simp at hx ⊢; exact hx.1)
 have e1 : (leftOf es sb).filter (fun x => decide (x.born < since)) = leftOf es sb := Array.filter_eq_self.2 (fun x hx => by simpa using hmem x (by simpa using hx))
 have e2 : (leftOf es sb).filter (fun x => decide (x.born ≥ since)) = #[] := by
  rw [Array.filter_eq_empty_iff]
  intro x hx
  have := hmem x (by simpa using hx)
  simp; omega
 have hbi : bi < w.heap.size := (Array.getElem?_eq_some_iff.1 h4).1
 by_cases hL : (leftOf es sb).size = 0
 ·have hLe : leftOf es sb = #[] := Array.eq_empty_of_size_eq_zero hL
  refine ⟨_, H, n, .tuple #[.bool false], w, S, ?_, hH, Ext.refl _ _ _, ?_, k1 fun q hq => ?_⟩
  ·simp only [execOp, hv]
   have : (Instr.next (.pointer (some ⟨bi, 0, none⟩)) false ty').run P w = .ok (.tuple #[.bool false]) w := by
    simp only [Instr.next, getObj, Sem.run_bind, Sem.run, h4, h2, Result.andThen, htest, Bool.false_eq_true, if_false]
    rw [show (Array.filter (fun e => !sb.contains e.born) es) = leftOf es sb from rfl, hLe]
    simp [choose, Sem.run, Question.forced]
   simp only [Sem.run_bind, this, Result.andThen_ok, Sem.run_pure]
  ·exact .tup _ [.bool false] rfl (fun i c u hc hu => by
    match i, hc, hu with
    | 0, hc, hu => cases hc; cases hu; exact .d (.bool _))
  ·obtain ⟨e, he, e3, _⟩ := ent2 q hq
   have hc : sb.contains e.born = true := by
    cases hc : sb.contains e.born with
    | true => rfl
    | false =>
     have : e ∈ leftOf es sb := by unfold leftOf; rw [Array.mem_filter]; exact ⟨by simpa using he, by rw [hc]; rfl⟩
     rw [hLe] at this; simp at this
   obtain ⟨k', e4, e5⟩ := (h7 e he).1 hc
   rw [e3] at e4; cases e4; exact e5
 ·obtain ⟨j, w1, hj, hal, htp, hch⟩ : ∃ (j : Nat) (w1 : World), j < (leftOf es sb).size ∧ w1.Alike w ∧ w1.tape = w.tape ∧ (choose (Question.mapNext (leftOf es sb).size)).run P w = .ok j w1 := by
   by_cases hf : (leftOf es sb).size ≤ 1
   ·exact ⟨0, w, by omega, ⟨rfl, rfl, rfl⟩, rfl, by simp [choose, Sem.run, Question.forced, hf]⟩
   ·exact ⟨_, w.drew, Nat.mod_lt _ (by omega), ⟨rfl, rfl, rfl⟩, rfl, by
     simp only [choose, Sem.run, Question.forced, decide_eq_true_eq, hf, if_false, Question.cut]
     rfl⟩
  have hne : (leftOf es sb).isEmpty = false := by simp [Array.isEmpty, hL]
  have hall : ∀ x, x ∈ leftOf es sb → x ∈ es.toList ∧ sb.contains x.born = false := fun x hx => by
   unfold leftOf at hx; rw [Array.mem_filter] at hx; exact ⟨by simpa using hx.1, by simpa using hx.2⟩
  obtain ⟨hje, hjn⟩ := hall _ (Array.getElem_mem hj)
  obtain ⟨q, hq, e3, e4⟩ := ent _ hje
  have hqs : q.1 ∉ seen := fun hm => by rw [(h7 _ hje).2 ⟨q.1, e3, hm⟩] at hjn; cases hjn
  have h41 : w1.heap[bi]? = some (.mapIter (some b) since sb clock) := by rw [hal.1]; exact h4
  have h21 : w1.heap[b]? = some (.map es clock) := by rw [hal.1]; exact h2
  have hne2 : b ≠ bi := fun e => by rw [e, h4] at h2; cases h2
  let o' : Obj := .mapIter (some b) since (sb.push (leftOf es sb)[j].born) clock
  let w2 : World := { w1 with heap := w1.heap.setIfInBounds bi o' }
  have hset := MapKept.heap_set (o' := o') h41
  have hs1 : w2.heap[bi]? = some o' := hset.1
  have hs2 : ∀ c, c ≠ bi → w2.heap[c]? = w.heap[c]? := fun c hc => (hset.2 c hc).trans (by rw [hal.1])
  have hrun : (Instr.next (.pointer (some ⟨bi, 0, none⟩)) false ty').run P w = .ok (.tuple #[.bool true, (leftOf es sb)[j].key, (leftOf es sb)[j].val]) w2 := by
   have hst : (setObj bi o').run P w1 = .ok () w2 := by simp [setObj, Sem.run, h41, w2]
   simp only [Instr.next, getObj, Sem.run_bind, Sem.run, h4, h2, Result.andThen, htest, Bool.false_eq_true, if_false]
   rw [show (Array.filter (fun e => !sb.contains e.born) es) = leftOf es sb from rfl, e1, e2]
   simp only [hne, Bool.false_eq_true, if_false, Array.append_empty, Array.empty_append, Array.size_map, hch, Array.getElem?_map, Array.getElem?_eq_getElem hj, Option.map_some]
   rw [Sem.run_bind, hst]; rfl
  have key := hH.write2 (w' := w2) hS (.inr (by rw [h0]; simp)) (.ob (.rng bi mm (seen ++ [q.1]))) (by show (H id).isSome = true; rw [hb]; rfl) hal.2.1 htp hal.2.2 (by show (w1.heap.setIfInBounds bi o').size = _; simp [hal.1]) hs2
   (fun _ => ⟨h0, b, es, clock, since, _, h1, (hs2 b hne2).trans h2, ⟨g1, g2, g3, g4⟩, hs1, h5, h6, fun e he => ?_, fun k hk => ?_⟩) (fun h => by cases h)
  ·refine ⟨_, _, n, .tuple #[.bool true, (leftOf es sb)[j].key, (leftOf es sb)[j].val], w2, S, ?_, key.1, key.2, ?_, k2 q hq hqs⟩
   ·simp only [execOp, hv, Sem.run_bind, hrun, Result.andThen_ok, Sem.run_pure]
   ·rw [e3, e4]
    refine .tup _ [.bool true, .int .i64 q.1, .bool q.2] rfl (fun i c u hc hu => ?_)
    match i, hc, hu with
    | 0, hc, hu => cases hc; cases hu; exact .d (.bool _)
    | 1, hc, hu => cases hc; cases hu; exact .d (.int _ _)
    | 2, hc, hu => cases hc; cases hu; exact .d (.bool _)
  ·rw [Array.contains_push, Bool.or_eq_true, h7 e he]
   constructor
   ·rintro (⟨k, e5, e6⟩ | hb')
    ·exact ⟨k, e5, List.mem_append.2 (.inl e6)⟩
    ·have : e = (leftOf es sb)[j] := nd_inj g4 he hje (beq_iff_eq.1 hb')
     exact ⟨q.1, by rw [this]; exact e3, by simp⟩
   ·rintro ⟨k, e5, e6⟩
    rcases List.mem_append.1 e6 with e6 | e6
    ·exact .inl ⟨k, e5, e6⟩
    ·simp only [List.mem_singleton] at e6
     subst e6
     have hkn : (es.toList.map (·.key)).Nodup := by
      have e7 := congrArg (List.map Prod.fst) g1
      rw [List.map_map, List.map_map] at e7
      rw [show es.toList.map (·.key) = mm.map (Prod.fst ∘ fun p => (Value.int .i64 p.1, Value.bool p.2)) from e7]
      have := g2
      rw [List.Nodup, List.pairwise_map] at this ⊢
      exact this.imp fun h e => h (by simpa using e)
     have : e = (leftOf es sb)[j] := nd_inj hkn he hje (e5.trans e3.symm)
     exact .inr (by rw [this]; simp)
  ·rw [List.getLast?_append] at hk
   simp only [List.getLast?_singleton, Option.some_or, Option.some.injEq] at hk
   subst hk
   exact ⟨_, hje, e3, by simp⟩
/-- What the entry read last holds. -/
theorem sem_entryMap {x : Operand} {id bi : Nat} {mm : List (Int × Bool)} {seen : List Int} {q : Int × Bool} (hx : bare (evO fr x) = .d (.raw (.pointer (some ⟨bi, 0, none⟩)))) (hnx : needs (evO fr x)) (hb : H id = some (.ob (.rng bi mm (seen ++ [q.1])))) (hq : q ∈ mm)
  (k : K ⟨putD d (.tup [.d (.int .i64 q.1), .d (.bool q.2)]) fr, H, n⟩) : SemO W0 M0 E ⟨d, .entry x, ty', p, af, none⟩ ⟨fr, H, n⟩ K := by
 refine .value (fun c h => by cases h) fun a w S hH hop => ?_
 have hX := (hop x (by simp [Op.operands])).bare_of hnx
 rw [hx] at hX
 have hv := raw_is hX
 obtain ⟨l, hS, h0, b, es, clock, since, sb, h1, h2, h3, h4, h5, h6, h7, h8⟩ := hH.box id _ hb
 obtain ⟨g1, g2, g3, g4⟩ := h3
 obtain ⟨e, he, e1, e2⟩ := h8 q.1 (by simp)
 have e3 : e.val = .bool q.2 := by
  have : (e.key, e.val) ∈ es.toList.map (fun e => (e.key, e.val)) := List.mem_map.2 ⟨e, he, rfl⟩
  rw [g1] at this
  obtain ⟨r, hr, e4⟩ := List.mem_map.1 this
  have e5 : r.1 = q.1 := by have := (congrArg Prod.fst e4).trans e1; simpa using this
  have e6 : Value.bool r.2 = e.val := congrArg Prod.snd e4
  rw [← e6, nd_inj g2 hr hq e5]
 have hf : es.find? (·.born == e.born) = some e := by rw [← Array.find?_toList]; exact find_born e es.toList g4 he
 have hrun : (Instr.entry (.pointer (some ⟨bi, 0, none⟩))).run P w = .ok (.tuple #[e.key, e.val]) w := by
  simp only [Instr.entry, getObj, Sem.run_bind, Sem.run, h4, h2, Result.andThen, e2, bne_self_eq_false, Bool.false_eq_true, if_false, hf]
  rfl
 refine ⟨_, H, n, .tuple #[e.key, e.val], w, S, ?_, hH, Ext.refl _ _ _, ?_, k⟩
 ·simp only [execOp, hv, Sem.run_bind, hrun, Result.andThen_ok, Sem.run_pure]
 ·rw [e1, e3]
  refine .tup _ [.int .i64 q.1, .bool q.2] rfl (fun i c u hc hu => ?_)
  match i, hc, hu with
  | 0, hc, hu => cases hc; cases hu; exact .d (.int _ _)
  | 1, hc, hu => cases hc; cases hu; exact .d (.bool _)
end
end Go.Vc
/- The Vc layer: a row of one's own made shorter, over states by lists. -/
set_option linter.all false
namespace Go.Vc
open Go Go.RowKit
section
variable [Far] {P : Program} {E : Env P} {W0 : World} {M0 : Nat → Prop} {m : Nat} {fr : Nat → AV} {bl : List (Option Box)} {cd : Code} {Q : Exit → St → Prop}
theorem vc_shortL (id k : Nat) {tb sz : Nat} {xs : List (List D)} (hb : getB bl id = some (.vec tb sz xs)) (h : VC E W0 M0 cd ⟨fr, getB (updL bl id (some (.vec tb sz (xs.take k)))), m⟩ Q) : VC E W0 M0 cd ⟨fr, getB bl, m⟩ Q :=
 vc_short k hb (by rw [upd_getB]; exact h)
end
end Go.Vc
/- The Vc layer: a variable as one box of cells; slices that lie in a bag, read and written in place. -/
set_option linter.all false
namespace Go.Vc
open Go Go.RowKit
variable [Far] {P : Program} {E : Env P} {W0 : World} {M0 : Nat → Prop} {fr : Nat → AV} {H : Heap} {n : Nat} {K : St → Prop} {d : Option Tmp} {ty' t : TypeId} {p : String} {af : Array Edge} {cd : Code} {Q : Exit → St → Prop} {bl : List (Option Box)} {m : Nat}

theorem SemV.value {o : Oper} {st : St} {c : AV} (hd : ∀ c, o.op ≠ .defer c) (h : ∀ (H' : Heap) (n' : Nat), HLe st.H H' → ∀ (a : Act) (w : World) (S : Lays), HeapOk W0 M0 H' n' w S → (∀ x ∈ o.op.operands.toList, R w S n' (evO st.fr x) (a.eval x)) →
  ∃ r, (execOp a.eval o).run P w = .ok (.value r) w ∧ R w S n' c r) : SemV W0 M0 E o st c := by
 intro H' n' hle a w S h1 h2 Q
 obtain ⟨r, e1, e2⟩ := h H' n' hle a w S h1 h2
 refine fen_op hd ?_
 rw [e1]
 exact ⟨r, rfl, rfl, e2⟩

end Go.Vc
