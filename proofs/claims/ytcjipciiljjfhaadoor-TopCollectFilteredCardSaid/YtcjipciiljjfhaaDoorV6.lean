/- The Vc layer, part 6. -/
import Derived.Test.YtcjipciiljjfhaaDoorV5
import Derived.MapKept
import Derived.Laws.IdiomRangeMap
/- The Vc layer: own rows frozen to data; rows that own slices, kept own with their slices as data. -/
set_option linter.all false
namespace Go.Vc
open Go Go.RowKit

section
variable [Far] {P : Program} {E : Env P} {W0 : World} {M0 : Nat → Prop} {w : World} {S : Lays} {n m : Nat} {H : Heap} {fr : Nat → AV} {K : St → Prop} {d : Option Tmp} {t t2 t' ty' : TypeId} {p : String} {af : Array Edge} {bl : List (Option Box)} {cd : Code} {Q : Exit → St → Prop}

end
end Go.Vc
/- The Vc layer: a closure called with a slice out of a bag, whose result is put back. -/
set_option linter.all false
namespace Go.Vc
open Go Go.RowKit

section
variable [Far] {P : Program} {E : Env P} {W0 : World} {M0 : Nat → Prop} {w : World} {S : Lays} {n m : Nat} {H : Heap} {fr : Nat → AV} {K : St → Prop} {d : Option Tmp} {t t2 t' ty' : TypeId} {p : String} {af : Array Edge} {bl : List (Option Box)} {cd : Code} {Q : Exit → St → Prop}

end
end Go.Vc
/- The Vc layer: maps from numbers to bools, of the function's own. -/
set_option linter.all false
namespace Go.Vc
open Go Go.RowKit

def setI : List (Int × Bool) → Int → Bool → List (Int × Bool)
 | [], k, b => [(k, b)]
 | p :: r, k, b => if p.1 = k then (k, b) :: r else p :: setI r k b
def getI (m : List (Int × Bool)) (k : Int) : Option Bool := m.lookup k
def eM (p : Int × Bool) : Value × Value := (.int .i64 p.1, .bool p.2)
def eE (e : MapEntry) : Value × Value := (e.key, e.val)

theorem find_ok : ∀ {es : List MapEntry} {m : List (Int × Bool)}, es.map eE = m.map eM → ∀ (k : Int) (i : Nat),
  (Instr.findNow (.int .i64) (.int .i64 k) es i = some none ∧ getI m k = none ∧ (∀ b, setI m k b = m ++ [(k, b)]) ∧ k ∉ m.map (·.1)) ∨
  ∃ j b0, Instr.findNow (.int .i64) (.int .i64 k) es i = some (some (i + j, .bool b0)) ∧ getI m k = some b0 ∧ m[j]? = some (k, b0) ∧ ∀ b, setI m k b = m.set j (k, b)
 | [], [], _, k, i => .inl ⟨rfl, rfl, fun _ => rfl, by simp⟩
 | [], _ :: _, h, _, _ => by simp at h
 | _ :: _, [], h, _, _ => by simp at h
 | e :: es, (a, b0) :: m, h, k, i => by
  simp only [List.map_cons, List.cons.injEq] at h
  obtain ⟨h1, h2⟩ := h
  have hk : e.key = .int .i64 a := congrArg Prod.fst h1
  have hv : e.val = .bool b0 := congrArg Prod.snd h1
  have hs : Instr.sameNow (.int .i64) (.int .i64 k) e.key = some (k == a) := by rw [hk]; rfl
  unfold Instr.findNow
  rw [hs]
  by_cases ha : a = k
  ·subst ha
   right
   refine ⟨0, b0, by simp [hv], ?_, rfl, fun b => ?_⟩
   ·unfold getI; simp
   ·unfold setI; rw [if_pos rfl]; rfl
  ·have hka : (k == a) = false := by simpa using fun h => ha h.symm
   rw [hka]
   simp only
   rcases find_ok h2 k (i + 1) with ⟨g1, g2, g3, g4⟩ | ⟨j, b1, g1, g2, g3, g4⟩
   ·left
    refine ⟨g1, ?_, fun b => ?_, ?_⟩
    ·unfold getI at *; rw [List.lookup_cons, hka]; exact g2
    ·unfold setI; rw [if_neg ha, g3 b]; rfl
    ·simp only [List.map_cons, List.mem_cons, not_or]; exact ⟨fun h => ha h.symm, g4⟩
   ·right
    refine ⟨j + 1, b1, by rw [g1, Nat.add_assoc, Nat.add_comm 1 j], ?_, by simpa using g3, fun b => ?_⟩
    ·unfold getI at *; rw [List.lookup_cons, hka]; exact g2
    ·unfold setI; rw [if_neg ha, g4 b]; rfl
theorem setI_keys {m : List (Int × Bool)} {k : Int} {b : Bool} (h : (m.map (·.1)).Nodup) : ((setI m k b).map (·.1)).Nodup ∧ ∀ x, x ∈ (setI m k b).map (·.1) ↔ x = k ∨ x ∈ m.map (·.1) := by
 induction m with
 | nil => exact ⟨by simp [setI], fun x => by simp [setI]⟩
 | cons p m ih =>
  simp only [List.map_cons, List.nodup_cons] at h
  obtain ⟨i1, i2⟩ := ih h.2
  unfold setI
  split
  ·rename_i hp
   subst hp
   exact ⟨by simpa using h, fun x => by simp⟩
  ·rename_i hp
   refine ⟨?_, fun x => ?_⟩
   ·simp only [List.map_cons, List.nodup_cons]
    exact ⟨fun hm => by rcases (i2 _).1 hm with e | e; exact hp e; exact h.1 e, i1⟩
   ·simp only [List.map_cons, List.mem_cons, i2]
    constructor
    ·rintro (h | h | h)
     ·exact .inr (.inl h)
     ·exact .inl h
     ·exact .inr (.inr h)
    ·rintro (h | h | h)
     ·exact .inr (.inl h)
     ·exact .inl h
     ·exact .inr (.inr h)

section
variable [Far] {P : Program} {E : Env P} {W0 : World} {M0 : Nat → Prop} {w : World} {S : Lays} {n m : Nat} {H : Heap} {fr : Nat → AV} {K : St → Prop} {d : Option Tmp} {t t2 t' ty' kt et : TypeId} {p : String} {af : Array Edge} {bl : List (Option Box)} {cd : Code} {Q : Exit → St → Prop}

theorem R.mp_live (hH : HeapOk W0 M0 H n w S) {id : Nat} {b : Box} {v : Value} (hb : H id = some b) (h : R w S n (.mp id) v) : ∃ l, S id = some l ∧ BoxOk w S n b l ∧ v = .map l.blk := by
 obtain ⟨l, h1, h2⟩ := hH.box id b hb
 cases h with
 | mpDead _ _ _ hS => rw [h1] at hS; cases hS
 | mp _ l' _ hS => rw [h1] at hS; cases hS; exact ⟨l, h1, h2, rfl⟩

/-- A map made. -/
theorem sem_makeMap {r : Option Operand} (hr : r = none) (k : K ⟨putD d (.mp n) fr, upd H n (some (.ob (.mapI []))), n + 1⟩) : SemO W0 M0 E ⟨d, .makeMap t r, ty', p, af, none⟩ ⟨fr, H, n⟩ K := by
 subst hr
 refine .value (fun c h => by cases h) fun a w S hH hop => ?_
 have hnew : (w.alloc (.map #[] 0)).heap[w.heap.size]? = some (.map #[] 0) := heap_alloc_new w _
 have key := hH.new (w' := w.alloc (.map #[] 0)) none (.ob (.mapI [])) ⟨some w.heap.size, 0, 0, []⟩ (fun id h => by cases h) rfl rfl rfl (by rw [World.size_alloc]; omega)
  (fun c hc _ => heap_alloc_old w _ hc) (fun c hc => by cases hc; exact .inl (Nat.le_refl _)) (fun c hc => by cases hc; rw [World.size_alloc]; omega)
  (fun hE => ⟨rfl, _, _, _, rfl, hnew, rfl, List.nodup_nil, by simp, List.nodup_nil⟩)
 have hk : kill none H = H := by funext i; simp [kill]
 have hks : kill none S = S := by funext i; simp [kill]
 rw [hk, hks] at key
 refine ⟨_, _, _, .map (some w.heap.size), _, _, ?_, key.1, key.2, ?_, k⟩
 ·simp only [execOp]
  simp [run_makeMap]
 ·exact .mp n ⟨some w.heap.size, 0, 0, []⟩ (Nat.lt_succ_self n) (by rw [upd_app, if_pos rfl])

theorem SemO.skip {o : Oper} {st : St} (hd : ∀ c, o.op ≠ .defer c) (h : ∀ (a : Act) (w : World) (S : Lays), HeapOk W0 M0 st.H st.n w S → (∀ x ∈ o.op.operands.toList, R w S st.n (evO st.fr x) (a.eval x)) →
  ∃ H' n' w' S', (execOp a.eval o).run P w = .ok .skip w' ∧ HeapOk W0 M0 H' n' w' S' ∧ Ext w S st.n w' S' n' ∧ K ⟨putD o.dst .any st.fr, H', n'⟩) : SemO W0 M0 E o st K := by
 intro a w S h1 h2 Q
 obtain ⟨H', n', w', S', e1, e2, e3, e4⟩ := h a w S h1 h2
 refine fen_op hd ?_
 rw [e1]
 exact ⟨.any, H', n', undef, S', rfl, e2, e3, .any _, e4⟩

/-- A look into a map. -/
theorem sem_mapGet {x ix : Operand} {id : Nat} {key : Int} {mm : List (Int × Bool)} {ok : Bool} (hu : P.underlying t = some (.map kt et)) (hk : P.underlying kt = some (.int .i64)) (hz : ∀ w, (zeroValue et).run P w = .ok (.bool false) w)
  (hx : bare (evO fr x) = .mp id) (hnx : needs (evO fr x)) (hi : bare (evO fr ix) = .d (.int .i64 key)) (hni : needs (evO fr ix)) (hb : H id = some (.ob (.mapI mm)))
  (k : K ⟨putD d (if ok then .tup [.d (.bool ((getI mm key).getD false)), .d (.bool (getI mm key).isSome)] else .d (.bool ((getI mm key).getD false))) fr, H, n⟩) : SemO W0 M0 E ⟨d, .lookup t x ix ok, ty', p, af, none⟩ ⟨fr, H, n⟩ K := by
 refine .value (fun c h => by cases h) fun a w S hH hop => ?_
 have hX := (hop x (by simp [Op.operands])).bare_of hnx
 have hI := (hop ix (by simp [Op.operands])).bare_of hni
 rw [hx] at hX
 rw [hi, R.int_iff] at hI
 obtain ⟨l, hS, ⟨_, b, es, clock, h1, h2, h3, _⟩, hv⟩ := R.mp_live hH hb hX
 have hc : ∀ e, (Instr.checkKey e 10000 kt (.int .i64 key)).run P w = .ok () w := fun e => MapKept.run_checkKey (k := .int .i64 key) hk (by simp [MapKept.IsKey]) e 9999
 rw [h1] at hv
 have hrun : ∀ r, Instr.findNow (.int .i64) (.int .i64 key) es.toList 0 = some r → (Instr.lookup t (.map (some b)) (.int .i64 key) ok).run P w = (match r with
   | some (_, v) => .ok (if ok then .tuple #[v, .bool true] else v) w
   | none => .ok (if ok then .tuple #[.bool false, .bool false] else .bool false) w) := fun r hf => by
  cases r with
  | none => simp [Instr.lookup, run_underlying hu, MapKept.run_getObj_map h2, hc, MapKept.run_findKey hk hf, Result.andThen, hz]
  | some q => simp [Instr.lookup, run_underlying hu, MapKept.run_getObj_map h2, hc, MapKept.run_findKey hk hf, Result.andThen]
 rcases find_ok h3 key 0 with ⟨g1, g2, _⟩ | ⟨j, b0, g1, g2, _⟩
 ·refine ⟨_, H, n, (if ok then .tuple #[.bool false, .bool false] else .bool false), w, S, ?_, hH, Ext.refl _ _ _, ?_, k⟩
  ·simp only [execOp, hv, hI, Sem.run_bind, hrun _ g1, Result.andThen_ok, Sem.run_pure]
  ·rw [g2]
   cases ok
   ·exact .d (.bool _)
   ·refine .tup _ [.bool false, .bool false] rfl (fun i c u hc hu => ?_)
    match i, hc, hu with
    | 0, hc, hu => cases hc; cases hu; exact .d (.bool _)
    | 1, hc, hu => cases hc; cases hu; exact .d (.bool _)
 ·refine ⟨_, H, n, (if ok then .tuple #[.bool b0, .bool true] else .bool b0), w, S, ?_, hH, Ext.refl _ _ _, ?_, k⟩
  ·simp only [execOp, hv, hI, Sem.run_bind, hrun _ g1, Result.andThen_ok, Sem.run_pure]
  ·rw [g2]
   cases ok
   ·exact .d (.bool _)
   ·refine .tup _ [.bool b0, .bool true] rfl (fun i c u hc hu => ?_)
    match i, hc, hu with
    | 0, hc, hu => cases hc; cases hu; exact .d (.bool _)
    | 1, hc, hu => cases hc; cases hu; exact .d (.bool _)

theorem mapOk_set {es : Array MapEntry} {clock : Nat} {mm : List (Int × Bool)} {key : Int} {b : Bool} (h : MapOk es clock mm) :
  (∃ r, Instr.findNow (.int .i64) (.int .i64 key) es.toList 0 = some r ∧ match r with
   | none => MapOk (es.push { key := .int .i64 key, val := .bool b, born := clock }) (clock + 1) (setI mm key b)
   | some (i, _) => (es[i]?).map (·.key) = some (.int .i64 key) ∧ MapOk (es.modify i fun e => { e with key := .int .i64 key, val := .bool b }) clock (setI mm key b)) := by
 obtain ⟨h1, h2, h3, h4⟩ := h
 have hn := (setI_keys (k := key) (b := b) h2).1
 rcases find_ok (es := es.toList) h1 key 0 with ⟨g1, g2, g3, g4⟩ | ⟨j, b0, g1, g2, g3, g4⟩
 ·refine ⟨none, g1, ?_, hn, ?_, ?_⟩
  ·rw [g3 b]; simp [h1, eM, eE]
  ·intro e he
   simp only [Array.toList_push, List.mem_append, List.mem_singleton] at he
   rcases he with he | rfl
   ·have := h3 e he; omega
   ·exact Nat.lt_succ_self _
  ·simp only [Array.toList_push, List.map_append, List.map_cons, List.map_nil]
   refine List.nodup_append.2 ⟨h4, by simp, fun a ha c hc => ?_⟩
   simp only [List.mem_singleton] at hc
   subst hc
   obtain ⟨x, hx, rfl⟩ := List.mem_map.1 ha
   exact Nat.ne_of_lt (h3 x hx)
 ·refine ⟨some (0 + j, .bool b0), g1, ?_⟩
  simp only [Nat.zero_add]
  have hj : (es.toList.map eE)[j]? = some (eM (key, b0)) := by rw [show es.toList.map eE = mm.map eM from h1, List.getElem?_map, g3]; rfl
  have hlt : j < es.size := by have := (List.getElem?_eq_some_iff.1 hj).1; simpa using this
  have hkj : es[j].key = .int .i64 key := by
   rw [List.getElem?_map, Array.getElem?_toList, Array.getElem?_eq_getElem hlt] at hj
   exact congrArg Prod.fst (Option.some.inj hj)
  refine ⟨by rw [Array.getElem?_eq_getElem hlt]; exact congrArg some hkj, ?_, hn, ?_, ?_⟩
  ·rw [g4 b]
   apply List.ext_getElem?
   intro i
   rw [List.getElem?_map, List.getElem?_map, List.getElem?_set, Array.getElem?_toList, Array.getElem?_modify]
   have hi : (es.toList.map eE)[i]? = (mm.map eM)[i]? := by rw [show es.toList.map eE = mm.map eM from h1]
   rw [List.getElem?_map, List.getElem?_map, Array.getElem?_toList] at hi
   by_cases hji : j = i
   ·subst hji
    have hml : j < mm.length := (List.getElem?_eq_some_iff.1 g3).1
    rw [if_pos rfl, if_pos rfl, if_pos hml, Array.getElem?_eq_getElem hlt]; rfl
   ·rw [if_neg hji, if_neg hji]; exact hi
  ·intro e he
   obtain ⟨i, hi⟩ := List.getElem?_of_mem he
   rw [Array.getElem?_toList, Array.getElem?_modify] at hi
   split at hi
   ·rename_i hji
    rw [← hji, Array.getElem?_eq_getElem hlt] at hi
    simp only [Option.map_some, Option.some.injEq] at hi
    rw [← hi]
    exact h3 es[j] (by simp)
   ·exact h3 e (Array.mem_toList_iff.2 (Array.mem_of_getElem? hi))
  ·have hborn : (es.modify j fun e => { e with key := .int .i64 key, val := .bool b }).toList.map (·.born) = es.toList.map (·.born) := by
    apply List.ext_getElem?
    intro i
    simp only [List.getElem?_map, Array.getElem?_toList, Array.getElem?_modify]
    by_cases hji : j = i
    ·subst hji
     rw [Array.getElem?_eq_getElem hlt]; simp
    ·simp [hji]
   rw [hborn]; exact h4

/-- An entry of a map written. -/
theorem sem_mapSet {x ix y : Operand} {id : Nat} {key : Int} {v : Bool} {mm : List (Int × Bool)} (hu : P.underlying t = some (.map kt et)) (hk : P.underlying kt = some (.int .i64))
  (hx : bare (evO fr x) = .mp id) (hnx : needs (evO fr x)) (hi : bare (evO fr ix) = .d (.int .i64 key)) (hni : needs (evO fr ix)) (hy : bare (evO fr y) = .d (.bool v)) (hny : needs (evO fr y)) (hb : H id = some (.ob (.mapI mm)))
  (k : K ⟨putD d .any fr, upd H id (some (.ob (.mapI (setI mm key v)))), n⟩) : SemO W0 M0 E ⟨d, .mapUpdate t x ix y, ty', p, af, none⟩ ⟨fr, H, n⟩ K := by
 refine .skip (fun c h => by cases h) fun a w S hH hop => ?_
 have hX := (hop x (by simp [Op.operands])).bare_of hnx
 have hI := (hop ix (by simp [Op.operands])).bare_of hni
 have hY := (hop y (by simp [Op.operands])).bare_of hny
 rw [hx] at hX
 rw [hi, R.int_iff] at hI
 rw [hy, R.bool_iff] at hY
 obtain ⟨l, hS, ⟨h0, b, es, clock, h1, h2, h3⟩, hv⟩ := R.mp_live hH hb hX
 have hc : ∀ e, (Instr.checkKey e 10000 kt (.int .i64 key)).run P w = .ok () w := fun e => MapKept.run_checkKey (k := .int .i64 key) hk (by simp [MapKept.IsKey]) e 9999
 rw [h1] at hv
 obtain ⟨r, hf, hr⟩ := mapOk_set (key := key) (b := v) h3
 obtain ⟨es', clock', hrun, hok⟩ : ∃ es' clock', (Instr.mapUpdate t (.map (some b)) (.int .i64 key) (.bool v)).run P w = .ok () { w with heap := w.heap.setIfInBounds b (.map es' clock') } ∧ MapOk es' clock' (setI mm key v) := by
  cases r with
  | none => exact ⟨_, _, by simp [Instr.mapUpdate, run_underlying hu, MapKept.run_getObj_map h2, hc, MapKept.run_findKey hk hf, Result.andThen, MapKept.run_setObj_map _ h2], hr⟩
  | some q =>
   obtain ⟨i, v0⟩ := q
   obtain ⟨g1, g2⟩ := hr
   have hsb : ∀ w, (Instr.keyThatStays (.int .i64 key) (.int .i64 key)).run P w = .ok (.int .i64 key) w := fun w => by simp [Instr.keyThatStays, Instr.sameBits]
   exact ⟨_, _, by simp [Instr.mapUpdate, run_underlying hu, MapKept.run_getObj_map h2, hc, MapKept.run_findKey hk hf, Result.andThen, MapKept.run_setObj_map _ h2, g1, hsb], g2⟩
 obtain ⟨hs1, hs2⟩ := MapKept.heap_set (o' := .map es' clock') h2
 have key := hH.write2 (w' := { w with heap := w.heap.setIfInBounds b (.map es' clock') }) hS (.inl h1) (.ob (.mapI (setI mm key v))) (by show (H id).isSome = true; rw [hb]; rfl) rfl rfl rfl (by simp) (fun c hc => hs2 c hc) (fun _ => ⟨h0, b, es', clock', h1, hs1, hok⟩) (fun h => by cases h)
 refine ⟨_, n, _, S, ?_, key.1, key.2, k⟩
 simp only [execOp, hv, hI, hY, Sem.run_bind, hrun, Result.andThen_ok, Sem.run_pure]

end
end Go.Vc
/- The Vc layer: a row of one's own made shorter, over states by lists. -/
set_option linter.all false
namespace Go.Vc
open Go Go.RowKit
section
variable [Far] {P : Program} {E : Env P} {W0 : World} {M0 : Nat → Prop} {m : Nat} {fr : Nat → AV} {bl : List (Option Box)} {cd : Code} {Q : Exit → St → Prop}
theorem vc_shortL (id k : Nat) {tb sz : Nat} {xs : List (List D)} (hb : getB bl id = some (.vec tb sz xs)) (h : VC E W0 M0 cd ⟨fr, getB (updL bl id (some (.vec tb sz (xs.take k)))), m⟩ Q) : VC E W0 M0 cd ⟨fr, getB bl, m⟩ Q :=
 vc_short k hb (by rw [upd_getB]; exact h)
end
end Go.Vc
/- The Vc layer: a variable as one box of cells; slices that lie in a bag, read and written in place. -/
set_option linter.all false
namespace Go.Vc
open Go Go.RowKit
variable [Far] {P : Program} {E : Env P} {W0 : World} {M0 : Nat → Prop} {fr : Nat → AV} {H : Heap} {n : Nat} {K : St → Prop} {d : Option Tmp} {ty' t : TypeId} {p : String} {af : Array Edge} {cd : Code} {Q : Exit → St → Prop} {bl : List (Option Box)} {m : Nat}

theorem SemV.value {o : Oper} {st : St} {c : AV} (hd : ∀ c, o.op ≠ .defer c) (h : ∀ (H' : Heap) (n' : Nat), HLe st.H H' → ∀ (a : Act) (w : World) (S : Lays), HeapOk W0 M0 H' n' w S → (∀ x ∈ o.op.operands.toList, R w S n' (evO st.fr x) (a.eval x)) →
  ∃ r, (execOp a.eval o).run P w = .ok (.value r) w ∧ R w S n' c r) : SemV W0 M0 E o st c := by
 intro H' n' hle a w S h1 h2 Q
 obtain ⟨r, e1, e2⟩ := h H' n' hle a w S h1 h2
 refine fen_op hd ?_
 rw [e1]
 exact ⟨r, rfl, rfl, e2⟩

end Go.Vc
