/- The Vc layer: parts of values, building structs, conversions, and all value operations under one name. -/
import Derived.Test.YtaoifpmifpmhmaaVc4
set_option linter.all false
namespace Go.Vc
open Go Go.RowKit
variable [Far]

section
variable {P : Program} {X : Ctx P} {w : World} {S : Lays} {n : Nat} {W0 : World} {M0 : Nat → Prop} {H : Heap}

theorem HeapOk.live (hH : HeapOk W0 M0 H n w S) {id : Nat} {b : Box} (h : H id = some b) : S id ≠ none := by
  obtain ⟨l, hl, _⟩ := hH.box id b h
  rw [hl]; simp

theorem aNil_ok (hH : HeapOk W0 M0 H n w S) {x c : AV} {v : Value} {p : Prop} {o : Oper} {a : Act} {y : Operand} (ho : o.op = .nilCheck y) (hv : a.eval y = v) (h : aNil H x = some (p, c)) (hx : R w S n x v) :
    ∃ r, (execOp a.eval o).run P w = .ok (.value r) w ∧ R w S n c r := by
  have run : ∀ r, (∀ (m : String) (f cp : Array Value), r ≠ .func (.method m) f cp) → r ≠ .pointer none → r ≠ .nilIface → r ≠ .nilFunc → v = r → (execOp a.eval o).run P w = .ok (.value r) w := by
    intro r h1 h2 h3 h4 hr
    subst hr
    simp only [execOp, ho, hv]
    first
      | (split <;> simp_all; done)
      | simp
  unfold aNil at h
  split at h
  · rename_i id e f
    split at h
    · rename_i b hb
      simp only [Option.some.injEq, Prod.mk.injEq] at h
      obtain ⟨_, rfl⟩ := h
      obtain ⟨l, k, hS, _, hk, rfl⟩ := hx.ptr_live hH hb
      exact ⟨_, run _ (by simp) (by simp) (by simp) (by simp) rfl, .ptr id e f k l (hH.lt hS) hS hk⟩
    · cases h
  · rename_i sz xs e f
    simp only [Option.some.injEq, Prod.mk.injEq] at h
    obtain ⟨_, rfl⟩ := h
    cases hx with | ip _ _ _ _ b o' u hb hO hc hr =>
    exact ⟨_, run _ (by simp) (by simp) (by simp) (by simp) rfl, .ip sz xs e f b o' u hb hO hc hr⟩
  · rename_i cs
    simp only [Option.some.injEq, Prod.mk.injEq] at h
    obtain ⟨_, rfl⟩ := h
    cases hx with | d hx =>
    cases hx with | ptr _ b o' u hb hO hc hr =>
    refine ⟨.pointer (some ⟨b, o', none⟩), run _ (by simp) (by simp) (by simp) (by simp) rfl, ?_⟩
    have := R.ip (w := w) (S := S) (n := n) cs.length [cs] 0 0 b o' (fun _ f => u f) hb hO (fun e f c hh => by
      obtain ⟨x, hx, hf⟩ := at2_some hh
      cases e with
      | zero => simp at hx; subst hx; simpa using hc f c hf
      | succ e => simp at hx) (fun e f c hh => by
      obtain ⟨x, hx, hf⟩ := at2_some hh
      cases e with
      | zero => simp at hx; subst hx; exact hr f c hf
      | succ e => simp at hx)
    simpa using this
  · rename_i g cs
    simp only [Option.some.injEq, Prod.mk.injEq] at h
    obtain ⟨_, rfl⟩ := h
    cases hx with | clo fn _ us hl hr => exact ⟨_, run _ (by simp) (by simp) (by simp) (by simp) rfl, .clo _ cs us hl hr⟩
  · cases h

/-! ### parts -/
def aPart (agg : Bool) (sz : Nat) (cs : List AV) (off : Nat) : RV :=
  if agg then some (off + sz ≤ cs.length, .agg ((cs.drop off).take sz))
  else match cs[off]? with
    | some c => some (True, c)
    | none => none

theorem aPart_ok {t : TypeId} {sz : Nat} {agg : Bool} {cs : List AV} {off : Nat} {v : Value} {c : AV} {p : Prop} (h : aPart agg sz cs off = some (p, c)) (hp : p) (hx : R w S n (.agg cs) v)
    (ha : ∀ w, (isAgg t).run P w = .ok agg w) (hs : ∀ w, (sizeOf t).run P w = .ok sz w) :
    ∃ us, v = .agg us ∧ ∃ r, (part t us off).run P w = .ok r w ∧ R w S n c r := by
  cases hx with | agg _ us hl h1 hr =>
  refine ⟨_, rfl, ?_⟩
  unfold aPart at h
  split at h
  · rename_i hag
    simp only [Option.some.injEq, Prod.mk.injEq] at h
    obtain ⟨rfl, rfl⟩ := h
    refine ⟨.agg ((us.drop off).take sz).toArray, by simp [part, ha, hag, hs], ?_⟩
    refine .agg _ _ (by simp [hl]) (fun u hu => h1 u (List.mem_of_mem_drop (List.mem_of_mem_take hu))) (fun i c u hc hu => ?_)
    rw [List.getElem?_take] at hc hu
    split at hc
    · rw [if_pos (by assumption)] at hu
      rw [List.getElem?_drop] at hc hu
      exact hr _ _ _ hc hu
    · cases hc
  · rename_i hag
    split at h
    · rename_i c' hc
      simp only [Option.some.injEq, Prod.mk.injEq] at h
      obtain ⟨rfl, rfl⟩ := h
      have hi : off < cs.length := (List.getElem?_eq_some_iff.1 hc).1
      have hi' : off < us.length := by omega
      refine ⟨us[off], ?_, hr off _ _ hc (by simp)⟩
      have : agg = false := by simpa using hag
      simp [part, ha, this, List.getElem?_eq_getElem hi']
    · cases h

def aField (ty : TypeId → Option TI) (s : TypeId) (x : AV) (f : Nat) : RV :=
  match ty s with
  | some ⟨.struct fs _, _, _, _⟩ => match fs[f]? with
    | some (off, sz, ag) => match x with
      | .agg cs => aPart ag sz cs off
      | _ => none
    | none => none
  | _ => none

theorem run_isAgg_aggB {t : TypeId} (hi : (P.info? t).isSome = true) (hu : (P.underlying t).isSome = true) (w : World) : (isAgg t).run P w = .ok (aggB (P.underlying t)) w := by
  obtain ⟨d, hd⟩ := Option.isSome_iff_exists.1 hu
  rw [hd]
  unfold isAgg aggB
  simp only [Sem.run_bind, run_underlying hd, Result.andThen_ok]
  cases d <;> simp

theorem aField_ok {s : TypeId} {x c : AV} {f : Nat} {v : Value} {p : Prop} (h : aField X.ty s x f = some (p, c)) (hp : p) (hx : R w S n x v) : ∃ r, (Instr.field s v f).run P w = .ok r w ∧ R w S n c r := by
  unfold aField at h
  split at h
  · rename_i fs eq _ _ _ hty
    obtain ⟨fields, hu, hfs, hinf, _⟩ := (X.facts hty).struct
    split at h
    · rename_i off sz ag hf
      rw [← hfs, List.getElem?_map, Array.getElem?_toList] at hf
      cases hff : fields[f]? with
      | none => rw [hff] at hf; cases hf
      | some fld =>
        rw [hff] at hf
        simp only [Option.map_some, Option.some.injEq, Prod.mk.injEq] at hf
        obtain ⟨ho, hsz, hag⟩ := hf
        have hin := hinf fld (by rw [← Array.getElem?_toList] at hff; exact List.mem_of_getElem? hff)
        obtain ⟨i, hi⟩ := Option.isSome_iff_exists.1 hin.1
        split at h
        · rename_i cs
          obtain ⟨us, rfl, r, hr, hR⟩ := aPart_ok h hp hx (t := fld.type) (fun w => by rw [run_isAgg_aggB hin.1 hin.2, hag]) (fun w => by
            have : i.size = sz := by simpa [Program.cellsOf, hi] using hsz
            simp [sizeOf, typeInfo, hi, this])
          exact ⟨r, by simp [Instr.field, run_underlying hu, hff, asAgg, ho, hr], hR⟩
        · cases h
    · cases h
  · cases h

def aIndex (ty : TypeId → Option TI) (t : TypeId) (x i : AV) : RV :=
  match i with
  | .d (.int _ k) => match ty t with
    | some ⟨.str, _, _, _⟩ => match x with
      | .d (.str s) => match s[k.toNat]? with
        | some b => some (0 ≤ k, .d (.int .u8 b.toNat))
        | none => none
      | _ => none
    | some ⟨.array m e, _, _, _⟩ => match ty e with
      | some ti => match x with
        | .agg cs => match aPart (tiAgg ti) ti.size cs (k.toNat * ti.size) with
          | some (p, c) => some (0 ≤ k ∧ k < m ∧ p, c)
          | none => none
        | _ => none
      | none => none
    | _ => none
  | _ => none

theorem aIndex_ok {t : TypeId} {x i c : AV} {v vi : Value} {p : Prop} (h : aIndex X.ty t x i = some (p, c)) (hp : p) (hx : R w S n x v) (hi : R w S n i vi) : ∃ r, (Instr.index t v vi).run P w = .ok r w ∧ R w S n c r := by
  unfold aIndex at h
  split at h
  · rename_i kk k
    rw [R.int_iff] at hi; subst hi
    split at h
    · rename_i hty
      have hu := (X.facts hty).str
      split at h
      · rename_i s
        split at h
        · rename_i b hb
          simp only [Option.some.injEq, Prod.mk.injEq] at h
          obtain ⟨rfl, rfl⟩ := h
          rw [R.str_iff] at hx; subst hx
          have hlt : k.toNat < s.length := (List.getElem?_eq_some_iff.1 hb).1
          have hg : (⟨s.toArray⟩ : ByteArray)[k.toNat]? = some b := by
            rw [ByteArray.getElem?_lt' _ _ (by simpa [ByteArray.size] using hlt)]
            have := (List.getElem?_eq_some_iff.1 hb).2
            simpa [ByteArray.getElem_eq_getElem_data] using this
          exact ⟨.int .u8 b.toNat, by simp [Instr.index, run_underlying hu, asIntOf, hp, hg], R.mkInt _ _⟩
        · cases h
      · cases h
    · rename_i m e _ _ _ hty
      have hu := (X.facts hty).array
      split at h
      · rename_i ti hti
        split at h
        · rename_i cs
          split at h
          · rename_i p' c' hpart
            simp only [Option.some.injEq, Prod.mk.injEq] at h
            obtain ⟨rfl, rfl⟩ := h
            obtain ⟨us, rfl, r, hr, hR⟩ := aPart_ok hpart hp.2.2 hx (X.facts hti).isAgg (X.facts hti).sizeOf
            exact ⟨r, by simp [Instr.index, run_underlying hu, asIntOf, hp.1, hp.2.1, (X.facts hti).sizeOf, hr], hR⟩
          · cases h
        · cases h
      · cases h
    · cases h
  · cases h

/-! ### build -/
def cellsA (H : Heap) : AV → Option (List AV)
  | .agg cs => some cs
  | .d x => some [.d x]
  | .sl i o l => match H i with
    | some _ => some [.sl i o l]
    | none => none
  | .ptr i e f => match H i with
    | some _ => some [.ptr i e f]
    | none => none
  | .ip z xs e f => some [.ip z xs e f]
  | .clo f c => some [.clo f c]
  | _ => none

theorem cellsA_ok (hH : HeapOk W0 M0 H n w S) {x : AV} {v : Value} {cs : List AV} (h : cellsA H x = some cs) (hx : R w S n x v) :
    v.cells.size = cs.length ∧ ∀ (i : Nat) (c : AV), cs[i]? = some c → ∃ u, v.cells[i]? = some u ∧ u.oneCell' = true ∧ R w S n c u := by
  have one : ∀ (c : AV) (u : Value), u.oneCell' = true → R w S n c u → u.cells.size = [c].length ∧ ∀ (i : Nat) (c' : AV), [c][i]? = some c' → ∃ u', u.cells[i]? = some u' ∧ u'.oneCell' = true ∧ R w S n c' u' := by
    intro c u hu hR
    have : u.cells = #[u] := by cases u <;> first | rfl | cases hu
    rw [this]
    refine ⟨rfl, fun i c' hc => ?_⟩
    cases i with
    | zero => simp at hc; subst hc; exact ⟨u, rfl, hu, hR⟩
    | succ i => simp at hc
  unfold cellsA at h
  split at h
  · simp only [Option.some.injEq] at h
    subst h
    cases hx with | agg _ us hl h1 hr =>
    refine ⟨by simpa [Value.cells] using hl, fun i c hc => ?_⟩
    have hi : i < us.length := by have := (List.getElem?_eq_some_iff.1 hc).1; omega
    exact ⟨us[i], by simp [Value.cells, List.getElem?_eq_getElem hi], h1 _ (List.getElem_mem hi), hr i c _ hc (List.getElem?_eq_getElem hi)⟩
  · simp only [Option.some.injEq] at h
    subst h
    cases hx with | d hx => exact one _ _ hx.one (.d hx)
  · split at h <;> simp only [Option.some.injEq, reduceCtorEq] at h
    rename_i b hb
    subst h
    obtain ⟨l, o, _, _, rfl, _⟩ := hx.sl_live hH hb
    exact one _ _ rfl hx
  · split at h <;> simp only [Option.some.injEq, reduceCtorEq] at h
    rename_i b hb
    subst h
    obtain ⟨l, _, _, _, _, rfl⟩ := hx.ptr_live hH hb
    exact one _ _ rfl hx
  · simp only [Option.some.injEq] at h
    subst h
    exact one _ _ (by cases hx; rfl) hx
  · simp only [Option.some.injEq] at h
    subst h
    exact one _ _ (by cases hx; rfl) hx
  · cases h

def splice {α : Type} (cs : List α) (off : Nat) (vs : List α) : List α := cs.take off ++ vs ++ cs.drop (off + vs.length)

theorem splice_length {α : Type} {cs vs : List α} {off : Nat} (h : off + vs.length ≤ cs.length) : (splice cs off vs).length = cs.length := by
  simp [splice, List.length_take, List.length_drop]; omega
theorem splice_get {α : Type} {cs vs : List α} {off i : Nat} (h : off + vs.length ≤ cs.length) : (splice cs off vs)[i]? = if off ≤ i ∧ i < off + vs.length then vs[i - off]? else cs[i]? := by
  have hl : (cs.take off).length = off := by rw [List.length_take]; omega
  unfold splice
  by_cases h1 : i < off
  · rw [if_neg (by omega), List.append_assoc, List.getElem?_append_left (by omega), List.getElem?_take, if_pos h1]
  · by_cases h2 : i < off + vs.length
    · rw [if_pos ⟨by omega, h2⟩, List.getElem?_append_left (by rw [List.length_append]; omega), List.getElem?_append_right (by omega), hl]
    · rw [if_neg (by omega), List.getElem?_append_right (by rw [List.length_append]; omega), List.getElem?_drop, List.length_append, hl]
      congr 1; omega

def fillA (H : Heap) (place : Nat → Option (Nat × Nat)) (cs : List AV) : List (Nat × AV) → Option (List AV)
  | [] => some cs
  | (i, v) :: rest => match place i, cellsA H v with
    | some (off, sz), some vs => if vs.length = sz ∧ off + sz ≤ cs.length then fillA H place (splice cs off vs) rest else none
    | _, _ => none

theorem foldl_set_size (off : Nat) : ∀ (l : List (Value × Nat)) (cells : Array Value), (l.foldl (fun cs (p : Value × Nat) => cs.setIfInBounds (off + p.2) p.1) cells).size = cells.size := by
  intro l
  induction l with
  | nil => intro cells; rfl
  | cons p l ih => intro cells; rw [List.foldl_cons, ih]; simp

theorem foldl_set_get (off : Nat) : ∀ (vs : List Value) (k : Nat) (cells : Array Value) (i : Nat), off + k + vs.length ≤ cells.size →
    ((vs.zipIdx k).foldl (fun cs (p : Value × Nat) => cs.setIfInBounds (off + p.2) p.1) cells)[i]? = if off + k ≤ i ∧ i < off + k + vs.length then vs[i - (off + k)]? else cells[i]? := by
  intro vs
  induction vs with
  | nil => intro k cells i _; simp; intro h1 h2; omega
  | cons v vs ih =>
    intro k cells i h
    simp only [List.length_cons] at h
    rw [List.zipIdx_cons, List.foldl_cons, ih (k + 1) _ i (by simp; omega)]
    by_cases h1 : i = off + k
    · subst h1
      rw [if_neg (by omega), if_pos (by simp)]
      simp [Array.getElem?_setIfInBounds, show off + k < cells.size by omega]
    · by_cases h2 : off + k ≤ i ∧ i < off + k + (v :: vs).length
      · simp only [List.length_cons] at h2
        rw [if_pos (by omega), if_pos (by simp only [List.length_cons]; exact h2), show i - (off + k) = (i - (off + (k + 1))) + 1 by omega]
        simp
      · have h2' := h2
        simp only [List.length_cons] at h2'
        rw [if_neg (by omega), if_neg h2, Array.getElem?_setIfInBounds, if_neg (by omega)]

theorem fillA_ok (hH : HeapOk W0 M0 H n w S) {placeA place : Nat → Option (Nat × Nat)} (hpl : ∀ i x, placeA i = some x → place i = some x) : ∀ (parts : List (Nat × AV)) (vparts : List (Nat × Value)) (cs : List AV) (cells : Array Value) (out : List AV),
    fillA H placeA cs parts = some out → cells.size = cs.length → (∀ (i : Nat) (c : AV), cs[i]? = some c → ∃ u, cells[i]? = some u ∧ u.oneCell' = true ∧ R w S n c u) →
    vparts.length = parts.length → (∀ (i k : Nat) (c : AV), parts[i]? = some (k, c) → ∃ v, vparts[i]? = some (k, v) ∧ R w S n c v) →
    ∃ cells', Instr.fill place cells vparts = some cells' ∧ cells'.size = out.length ∧ ∀ (i : Nat) (c : AV), out[i]? = some c → ∃ u, cells'[i]? = some u ∧ u.oneCell' = true ∧ R w S n c u := by
  intro parts
  induction parts with
  | nil =>
    intro vparts cs cells out h hs hc hl _
    cases vparts with
    | nil => simp [fillA] at h; subst h; exact ⟨cells, rfl, hs, hc⟩
    | cons => simp at hl
  | cons pc parts ih =>
    intro vparts cs cells out h hs hc hl hv
    obtain ⟨k, c⟩ := pc
    cases vparts with
    | nil => simp at hl
    | cons kv vparts =>
      obtain ⟨v, hv0, hR⟩ := hv 0 k c rfl
      simp at hv0
      subst hv0
      unfold fillA at h
      split at h
      · rename_i off sz vs hpk hcv
        split at h
        · rename_i hcond
          obtain ⟨hsz, hfit⟩ := hcond
          obtain ⟨hvs, hcells⟩ := cellsA_ok hH hcv hR
          have hstep := ih vparts (splice cs off vs) (v.cells.zipIdx.foldl (fun cs (x : Value × Nat) => cs.setIfInBounds (off + x.2) x.1) cells) out h ?_ ?_ (by simpa using hl) (fun i k' c' hi => hv (i + 1) k' c' (by simpa using hi))
          · obtain ⟨cells', h1, h2⟩ := hstep
            refine ⟨cells', ?_, h2⟩
            unfold Instr.fill
            rw [hpl k _ hpk]
            simp only
            rw [if_neg (by simp; omega)]
            exact h1
          · rw [← Array.foldl_toList, Array.toList_zipIdx, foldl_set_size, splice_length (by omega), hs]
          · intro i c' hi
            rw [splice_get (by omega)] at hi
            rw [← Array.foldl_toList, Array.toList_zipIdx]
            have := foldl_set_get off v.cells.toList 0 cells i (by simp; omega)
            rw [this]
            simp only [Nat.add_zero, Array.length_toList, hvs]
            split at hi
            · rename_i hin
              rw [if_pos hin, Array.getElem?_toList]
              exact hcells _ _ hi
            · rename_i hin
              rw [if_neg hin]
              exact hc _ _ hi
        · cases h
      · cases h

def aBuild (ty : TypeId → Option TI) (H : Heap) (t : TypeId) (parts : List (Nat × AV)) : RV :=
  match ty t with
  | some ⟨.struct fs _, sz, _, z :: zs⟩ => (fillA H (fun i => (fs[i]?).map fun f => (f.1, f.2.1)) ((z :: zs).map .d) parts).map fun cs => (sz = (z :: zs).length, .agg cs)
  | some ⟨.array m e, sz, _, z :: zs⟩ => match ty e with
    | some ti => (fillA H (fun i => some (i * ti.size, ti.size)) ((z :: zs).map .d) parts).map fun cs => (sz = (z :: zs).length, .agg cs)
    | none => none
  | _ => none

theorem agg_of_cells {out : List AV} {cells : Array Value} (hs : cells.size = out.length) (hc : ∀ (i : Nat) (c : AV), out[i]? = some c → ∃ u, cells[i]? = some u ∧ u.oneCell' = true ∧ R w S n c u) : R w S n (.agg out) (.agg cells) := by
  have := R.agg (w := w) (S := S) (n := n) out cells.toList (by simpa using hs) (fun u hu => ?_) (fun i c u hci hui => ?_)
  · simpa using this
  · obtain ⟨j, hj⟩ := List.getElem?_of_mem hu
    have hj' : j < out.length := by have := (List.getElem?_eq_some_iff.1 hj).1; simp at this; omega
    obtain ⟨u', h1, h2, _⟩ := hc j _ (List.getElem?_eq_getElem hj')
    rw [Array.getElem?_toList] at hj
    rw [hj] at h1; cases h1; exact h2
  · obtain ⟨u', h1, _, h3⟩ := hc i c hci
    rw [Array.getElem?_toList] at hui
    rw [hui] at h1; cases h1; exact h3

theorem aBuild_ok (hH : HeapOk W0 M0 H n w S) {t : TypeId} {parts : List (Nat × AV)} {vparts : Array (Nat × Value)} {c : AV} {p : Prop} (h : aBuild X.ty H t parts = some (p, c)) (hl : vparts.size = parts.length)
    (hv : ∀ (i k : Nat) (c : AV), parts[i]? = some (k, c) → ∃ v, vparts[i]? = some (k, v) ∧ R w S n c v) :
    ∃ r, (Instr.build t vparts).run P w = .ok r w ∧ R w S n c r := by
  have zc : ∀ {ti : TI}, TyFacts P t ti → ti.zero ≠ [] → ∃ z : Value, (zeroValue t).run P w = .ok z w ∧ z.cells.size = (ti.zero.map AV.d).length ∧ ∀ (i : Nat) (c : AV), (ti.zero.map AV.d)[i]? = some c → ∃ u, z.cells[i]? = some u ∧ u.oneCell' = true ∧ R w S n c u := by
    intro ti hT hne
    obtain ⟨i, z, hi, hsz, _, hz, hzs, hzero⟩ := hT.info
    obtain ⟨hzl, hzr⟩ := hzero hne
    refine ⟨z, by simp [zeroValue, typeInfo, hi, hz], by simp [hzs, hzl], fun j c hc => ?_⟩
    rw [List.getElem?_map] at hc
    cases hd : ti.zero[j]? with
    | none => rw [hd] at hc; cases hc
    | some d =>
      rw [hd] at hc; cases hc
      have hj : j < z.cells.size := by have := (List.getElem?_eq_some_iff.1 hd).1; omega
      have := hzr w (own S) j d _ hd (Array.getElem?_eq_getElem hj)
      exact ⟨_, Array.getElem?_eq_getElem hj, this.one, .d this⟩
  unfold aBuild at h
  split at h
  · rename_i fs eq sz by_ z zs hty
    have hT := X.facts hty
    obtain ⟨fields, hu, hfs, hinf, _⟩ := hT.struct
    cases hf : fillA H (fun i => (fs[i]?).map fun f => (f.1, f.2.1)) ((z :: zs).map .d) parts with
    | none => rw [hf] at h; cases h
    | some out =>
      rw [hf] at h
      simp only [Option.map_some, Option.some.injEq, Prod.mk.injEq] at h
      obtain ⟨_, rfl⟩ := h
      obtain ⟨zv, hz1, hz2, hz3⟩ := zc hT (by simp)
      obtain ⟨places, hpl, hplace⟩ : ∃ places : Array (Nat × Nat), (fields.mapM fun f => do pure (f.offset, ← sizeOf f.type) : Sem (Array (Nat × Nat))).run P w = .ok places w ∧ places.toList = fs.map fun f => (f.1, f.2.1) := by
        have key : ∀ (l : List Field), (∀ f ∈ l, (P.info? f.type).isSome = true) → (l.mapM fun f => do pure (f.offset, ← sizeOf f.type) : Sem (List (Nat × Nat))).run P w = .ok (l.map fun f => (f.offset, P.cellsOf f.type)) w := by
          intro l
          induction l with
          | nil => intro _; simp
          | cons f l ih =>
            intro hl
            obtain ⟨i, hi⟩ := Option.isSome_iff_exists.1 (hl f (by simp))
            have e1 : (sizeOf f.type).run P w = .ok (P.cellsOf f.type) w := by simp [sizeOf, typeInfo, hi, Program.cellsOf]
            rw [List.mapM_cons]
            simp only [Sem.run_bind, e1, Result.andThen_ok, Sem.run_pure, ih (fun g hg => hl g (by simp [hg])), List.map_cons]
        refine ⟨(fields.toList.map fun f => (f.offset, P.cellsOf f.type)).toArray, ?_, ?_⟩
        · rw [Array.mapM_eq_mapM_toList]
          simp only [Sem.run_map, key fields.toList (fun f hf => (hinf f hf).1)]
          simp
        · rw [← hfs]; simp
      obtain ⟨cells', hfill, hsize, hcells⟩ := fillA_ok hH (place := (places[·]?)) (fun i x hx => by
        rw [← Array.getElem?_toList, hplace, List.getElem?_map]; exact hx) parts vparts.toList _ zv.cells out hf hz2 hz3 (by simpa using hl) (fun i k c hi => by
          obtain ⟨v, h1, h2⟩ := hv i k c hi
          exact ⟨v, by rw [Array.getElem?_toList]; exact h1, h2⟩)
      refine ⟨.agg cells', ?_, agg_of_cells hsize hcells⟩
      simp only [Instr.build, Sem.run_bind, hz1, Result.andThen_ok, run_underlying hu, hpl, hfill, Sem.run_pure]
  · rename_i m e sz by_ z zs hty
    have hT := X.facts hty
    have hu := hT.array
    split at h
    · rename_i ti hti
      cases hf : fillA H (fun i => some (i * ti.size, ti.size)) ((z :: zs).map .d) parts with
      | none => rw [hf] at h; cases h
      | some out =>
        rw [hf] at h
        simp only [Option.map_some, Option.some.injEq, Prod.mk.injEq] at h
        obtain ⟨_, rfl⟩ := h
        obtain ⟨zv, hz1, hz2, hz3⟩ := zc hT (by simp)
        obtain ⟨cells', hfill, hsize, hcells⟩ := fillA_ok hH (place := fun i => some (i * ti.size, ti.size)) (fun i x hx => hx) parts vparts.toList _ zv.cells out hf hz2 hz3 (by simpa using hl) (fun i k c hi => by
            obtain ⟨v, h1, h2⟩ := hv i k c hi
            exact ⟨v, by rw [Array.getElem?_toList]; exact h1, h2⟩)
        refine ⟨.agg cells', ?_, agg_of_cells hsize hcells⟩
        simp only [Instr.build, Sem.run_bind, hz1, Result.andThen_ok, run_underlying hu, (X.facts hti).sizeOf, hfill, Sem.run_pure]
    · cases h
  · cases h
end
end Go.Vc
