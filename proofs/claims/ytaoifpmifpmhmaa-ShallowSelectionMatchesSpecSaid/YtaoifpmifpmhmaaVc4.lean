/- The Vc layer: addresses, loads, parts of structs, conversions. -/
import Derived.Test.YtaoifpmifpmhmaaVc3
set_option linter.all false
namespace Go.Vc
open Go Go.RowKit
variable [Far]

section
variable {P : Program} {X : Ctx P} {w : World} {S : Lays} {n : Nat} {W0 : World} {M0 : Nat → Prop} {H : Heap}

theorem aLen_ok (hH : HeapOk W0 M0 H n w S) {t ty' : TypeId} {x c : AV} {v : Value} {p : Prop} (h : aLen X.ty H t x = some (p, c)) (hx : R w S n x v) : ∃ r, (Builtin.len_ #[t] ty' #[v]).run P w = .ok r w ∧ R w S n c r := by
  unfold aLen at h
  split at h
  · rename_i hty
    have hu := (X.facts hty).str
    split at h
    · rename_i s
      simp only [Option.some.injEq, Prod.mk.injEq] at h
      obtain ⟨_, rfl⟩ := h
      rw [R.str_iff] at hx; subst hx
      have hsz : (⟨s.toArray⟩ : ByteArray).size = s.length := rfl
      exact ⟨.int .i64 s.length, by simp [Builtin.len_, run_underlying hu, goInt, hsz, -ByteArray.size_data], R.mkInt _ _⟩
    · cases h
  · rename_i hty
    have hu := (X.facts hty).slice
    split at h
    · rename_i xs
      simp only [Option.some.injEq, Prod.mk.injEq] at h
      obtain ⟨_, rfl⟩ := h
      cases hx with | d hx =>
      obtain ⟨a, cap, rfl, _⟩ := hx.slice_form
      exact ⟨.int .i64 xs.length, by simp [Builtin.len_, run_underlying hu, goInt], R.mkInt _ _⟩
    · simp only [Option.some.injEq, Prod.mk.injEq] at h
      obtain ⟨_, rfl⟩ := h
      cases hx with | d hx =>
      cases hx
      exact ⟨.int .i64 0, by simp [Builtin.len_, run_underlying hu, goInt], R.mkInt _ _⟩
    · rename_i id off len
      split at h
      · rename_i b hb
        simp only [Option.some.injEq, Prod.mk.injEq] at h
        obtain ⟨hp, rfl⟩ := h
        obtain ⟨l, o, _, _, rfl, _⟩ := hx.sl_live hH hb
        exact ⟨.int .i64 len, by simp [Builtin.len_, run_underlying hu, goInt], R.mkInt _ _⟩
      · cases h
    · cases h
  · rename_i hty
    have hu := (X.facts hty).array
    simp only [Option.some.injEq, Prod.mk.injEq] at h
    obtain ⟨_, rfl⟩ := h
    exact ⟨_, by simp [Builtin.len_, run_underlying hu, goInt], R.mkInt _ _⟩
  · cases h

/-! ### addresses -/
def aFieldAddr (ty : TypeId → Option TI) (H : Heap) (s : TypeId) (x : AV) (f : Nat) : RV :=
  match ty s with
  | some ⟨.struct fs _, _, _, _⟩ => match fs[f]? with
    | some (off, sz, _) => if sz = 0 then none else match x with
      | .ptr id e g => match H id with
        | some _ => some (True, .ptr id e (g + off))
        | none => none
      | .ip z xs e g => some (True, .ip z xs e (g + off))
      | _ => none
    | none => none
  | _ => none

theorem fieldPlace_run {f : Field} {a : Addr} {sz : Nat} (hs : P.cellsOf f.type = sz) (hi : (P.info? f.type).isSome = true) (h0 : sz ≠ 0) (w : World) : (fieldPlace a f).run P w = .ok (a.add f.offset) w := by
  obtain ⟨i, hi⟩ := Option.isSome_iff_exists.1 hi
  have : i.size ≠ 0 := by simp [Program.cellsOf, hi] at hs; omega
  simp [fieldPlace, sizeOf, typeInfo, hi, this]

theorem aFieldAddr_ok (hH : HeapOk W0 M0 H n w S) {s : TypeId} {x c : AV} {f : Nat} {v : Value} {p : Prop} (h : aFieldAddr X.ty H s x f = some (p, c)) (hx : R w S n x v) :
    ∃ r, (Instr.fieldAt s v f).run P w = .ok r w ∧ R w S n c r := by
  unfold aFieldAddr at h
  split at h
  · rename_i fs eq _ _ _ hty
    obtain ⟨fields, hu, hfs, hinf, _⟩ := (X.facts hty).struct
    split at h
    · rename_i off sz ag hf
      split at h
      · cases h
      · rename_i h0
        rw [← hfs, List.getElem?_map, Array.getElem?_toList] at hf
        cases hff : fields[f]? with
        | none => rw [hff] at hf; cases hf
        | some fld =>
          rw [hff] at hf
          simp only [Option.map_some, Option.some.injEq, Prod.mk.injEq] at hf
          obtain ⟨ho, hsz, _⟩ := hf
          have hin := hinf fld (by rw [← Array.getElem?_toList] at hff; exact List.mem_of_getElem? hff)
          split at h
          · rename_i id e g
            split at h
            · rename_i b hb
              simp only [Option.some.injEq, Prod.mk.injEq] at h
              obtain ⟨_, rfl⟩ := h
              obtain ⟨l, k, hS, _, hk, rfl⟩ := hx.ptr_live hH hb
              refine ⟨.pointer (some ⟨k, e * l.sz + (g + off), none⟩), by simp [Instr.fieldAt, run_underlying hu, hff, Instr.sureAddr, fieldPlace_run hsz hin.1 h0, ho, add_none, Nat.add_assoc], .ptr id e (g + off) k l ?_ hS hk⟩
              rcases Nat.lt_or_ge id n with h' | h'
              · exact h'
              · rw [hH.bnd id h'] at hS; cases hS
            · cases h
          · rename_i z xs e g
            simp only [Option.some.injEq, Prod.mk.injEq] at h
            obtain ⟨_, rfl⟩ := h
            cases hx with | ip _ _ _ _ b o u hb hO hc hr =>
            refine ⟨.pointer (some ⟨b, o + e * z + (g + off), none⟩), by simp [Instr.fieldAt, run_underlying hu, hff, Instr.sureAddr, fieldPlace_run hsz hin.1 h0, ho, add_none, Nat.add_assoc], .ip z xs e (g + off) b o u hb hO hc hr⟩
          · cases h
    · cases h
  · cases h

def aIndexAddr (ty : TypeId → Option TI) (H : Heap) (t : TypeId) (x i : AV) : RV :=
  match i with
  | .d (.int _ k) => match ty t with
    | some ⟨.slice e, _, _, _⟩ => match ty e with
      | some ti => match x with
        | .d (.sl xs) => some (0 ≤ k ∧ k < xs.length ∧ Rect ti.size xs, .ip ti.size xs k.toNat 0)
        | .sl id off len => match H id with
          | some (.vec _ sz _) => if ti.size = sz then some (0 ≤ k ∧ k < len, .ptr id (off + k.toNat) 0) else none
          | _ => none
        | _ => none
      | none => none
    | some ⟨.array m e, _, _, _⟩ => match ty e with
      | some ti => match x with
        | .ptr id e0 f0 => match H id with
          | some (.vec _ sz _) => if ti.size = sz ∧ f0 = 0 then some (0 ≤ k ∧ k < m, .ptr id (e0 + k.toNat) 0) else some (0 ≤ k ∧ k < m, .ptr id e0 (f0 + k.toNat * ti.size))
          | some (.one _ _) => some (0 ≤ k ∧ k < m, .ptr id e0 (f0 + k.toNat * ti.size))
          | none => none
        | .ip z xs e0 f0 => some (0 ≤ k ∧ k < m, .ip z xs e0 (f0 + k.toNat * ti.size))
        | _ => none
      | none => none
    | _ => none
  | _ => none

theorem run_indexAt_sl {t e : TypeId} {ti : TI} (hu : P.underlying t = some (.slice e)) (hs : ∀ w, (sizeOf e).run P w = .ok ti.size w) {a : Addr} {len cap : Nat} {kk : IntKind} {k : Int} (h0 : 0 ≤ k) (h1 : k < len) (w : World) :
    (Instr.indexAt t (.slice (some a) len cap) (.int kk k)).run P w = .ok (.pointer (some (a.add (k.toNat * ti.size)))) w := by
  simp [Instr.indexAt, run_underlying hu, asIntOf, h0, h1, hs]
theorem run_indexAt_ar {t e : TypeId} {ti : TI} {m : Nat} (hu : P.underlying t = some (.array m e)) (hs : ∀ w, (sizeOf e).run P w = .ok ti.size w) {a : Addr} {kk : IntKind} {k : Int} (h0 : 0 ≤ k) (h1 : k < m) (w : World) :
    (Instr.indexAt t (.pointer (some a)) (.int kk k)).run P w = .ok (.pointer (some (a.add (k.toNat * ti.size)))) w := by
  simp [Instr.indexAt, run_underlying hu, asIntOf, Instr.sureAddr, h0, h1, hs]

theorem HeapOk.lt (hH : HeapOk W0 M0 H n w S) {id : Nat} {l : Lay} (h : S id = some l) : id < n := by
  rcases Nat.lt_or_ge id n with h' | h'
  · exact h'
  · rw [hH.bnd id h'] at h; cases h

theorem aIndexAddr_ok (hH : HeapOk W0 M0 H n w S) {t : TypeId} {x i c : AV} {v vi : Value} {p : Prop} (h : aIndexAddr X.ty H t x i = some (p, c)) (hp : p) (hx : R w S n x v) (hi : R w S n i vi) :
    ∃ r, (Instr.indexAt t v vi).run P w = .ok r w ∧ R w S n c r := by
  unfold aIndexAddr at h
  split at h
  · rename_i kk k
    rw [R.int_iff] at hi; subst hi
    split at h
    · rename_i e _ _ _ hty
      have hu := (X.facts hty).slice
      split at h
      · rename_i ti hti
        have hsz := (X.facts hti).sizeOf
        split at h
        · rename_i xs
          simp only [Option.some.injEq, Prod.mk.injEq] at h
          obtain ⟨rfl, rfl⟩ := h
          cases hx with | d hx =>
          obtain ⟨a, cap, rfl, _⟩ := hx.slice_form
          obtain ⟨b, o, u, rfl, _, _, hb, hO, hc, hr⟩ := hx.rect hp.2.2 (fun e => by subst e; simp at hp; omega)
          refine ⟨_, run_indexAt_sl hu hsz hp.1 hp.2.1 w, ?_⟩
          rw [add_none]
          exact .ip ti.size xs k.toNat 0 b o u hb hO hc hr
        · rename_i id off len
          split at h
          · rename_i sz xs hb
            split at h
            · rename_i hs
              simp only [Option.some.injEq, Prod.mk.injEq] at h
              obtain ⟨rfl, rfl⟩ := h
              obtain ⟨l, o, hS, hbox, rfl, hc, ho, h0⟩ := hx.sl_live hH hb
              cases hk : l.blk with
              | none => have := hbox.2.2.2.2.1 hk; omega
              | some b =>
                refine ⟨_, run_indexAt_sl hu hsz hp.1 hp.2 w, ?_⟩
                rw [add_none, hs, ho (by omega), ← hbox.1, ← Nat.add_mul]
                exact .ptr id (off + k.toNat) 0 b l (hH.lt hS) hS hk
            · cases h
          · cases h
        · cases h
      · cases h
    · rename_i m e _ _ _ hty
      have hu := (X.facts hty).array
      split at h
      · rename_i ti hti
        have hsz := (X.facts hti).sizeOf
        split at h
        · rename_i id e0 f0
          split at h
          · rename_i sz xs hb
            obtain ⟨l, bk, hS, hbox, hk, rfl⟩ := hx.ptr_live hH hb
            split at h
            · rename_i hs
              simp only [Option.some.injEq, Prod.mk.injEq] at h
              obtain ⟨rfl, rfl⟩ := h
              obtain ⟨hs, rfl⟩ := hs
              refine ⟨_, run_indexAt_ar hu hsz hp.1 hp.2 w, ?_⟩
              rw [add_none, hs, ← hbox.1, Nat.add_zero, ← Nat.add_mul]
              exact .ptr id (e0 + k.toNat) 0 bk l (hH.lt hS) hS hk
            · simp only [Option.some.injEq, Prod.mk.injEq] at h
              obtain ⟨rfl, rfl⟩ := h
              refine ⟨_, run_indexAt_ar hu hsz hp.1 hp.2 w, ?_⟩
              rw [add_none, Nat.add_assoc]
              exact .ptr id e0 _ bk l (hH.lt hS) hS hk
          · rename_i cells hb
            obtain ⟨l, bk, hS, hbox, hk, rfl⟩ := hx.ptr_live hH hb
            simp only [Option.some.injEq, Prod.mk.injEq] at h
            obtain ⟨rfl, rfl⟩ := h
            refine ⟨_, run_indexAt_ar hu hsz hp.1 hp.2 w, ?_⟩
            rw [add_none, Nat.add_assoc]
            exact .ptr id e0 _ bk l (hH.lt hS) hS hk
          · cases h
        · rename_i z xs e0 f0
          simp only [Option.some.injEq, Prod.mk.injEq] at h
          obtain ⟨rfl, rfl⟩ := h
          cases hx with | ip _ _ _ _ b o u hb hO hc hr =>
          refine ⟨_, run_indexAt_ar hu hsz hp.1 hp.2 w, ?_⟩
          rw [add_none, Nat.add_assoc, Nat.add_assoc, ← Nat.add_assoc o]
          exact .ip z xs e0 _ b o u hb hO hc hr
        · cases h
      · cases h
    · cases h
  · cases h

/-! ### loads -/
def loadRow (ti : TI) (row : Option (List D)) (f : Nat) : RV :=
  match row with
  | some x =>
    if tiAgg ti then some (f + ti.size ≤ x.length, .agg (((x.drop f).take ti.size).map .d))
    else match x[f]? with
      | some c => some (True, .d c)
      | none => none
  | none => none

def aLoad (ty : TypeId → Option TI) (H : Heap) (t : TypeId) (x : AV) : RV :=
  match ty t with
  | some ti => match x with
    | .ptr id e f => match H id with
      | some (.vec _ _ xs) => loadRow ti xs[e]? f
      | some (.one _ cells) => if e = 0 then
          (if tiAgg ti then some (f + ti.size ≤ cells.length, .agg ((cells.drop f).take ti.size))
          else match cells[f]? with
            | some c => some (True, c)
            | none => none) else none
      | none => none
    | .ip _ xs e f => loadRow ti xs[e]? f
    | .d (.ptr ds) => loadRow ti (some ds) 0
    | _ => none
  | none => none

theorem run_loadVar_of {t : TypeId} {ti : TI} (h : TyFacts P t ti) {b o : Nat} (us : List Value) (hl : tiAgg ti = true → us.length = ti.size) (hn : tiAgg ti = false → us.length = 1)
    (hc : ∀ (j : Nat) (u : Value), us[j]? = some u → w.cell? ⟨b, o + j, none⟩ = some u) :
    (loadVar t ⟨b, o, none⟩).run P w = .ok (if tiAgg ti then .agg us.toArray else us.getD 0 undef) w := by
  unfold loadVar
  have ha := h.isAgg w
  simp only [Sem.run_bind, ha, Result.andThen_ok]
  cases hag : tiAgg ti
  · have h1 := hn hag
    match us, h1 with
    | [u], _ =>
      have := hc 0 u rfl
      simp only [Nat.add_zero] at this
      simp [run_load, this]
  · simp only [if_true, Sem.run_bind, h.sizeOf, Result.andThen_ok]
    rw [← hl hag, run_loadCells_list w ⟨b, o, none⟩ us (fun j u hj => by rw [add_none]; exact hc j u hj)]
    simp

theorem loadRow_ok {t : TypeId} {ti : TI} (h : TyFacts P t ti) {O : Nat → Prop} {row : Option (List D)} {f b o : Nat} {c : AV} {p : Prop} (hr : loadRow ti row f = some (p, c)) (hp : p) (hO : O = own S)
    (hc : ∀ x (g : Nat) (d : D), row = some x → x[g]? = some d → ∃ u, w.cell? ⟨b, o + g, none⟩ = some u ∧ RD w O d u) :
    ∃ r, (loadVar t ⟨b, o + f, none⟩).run P w = .ok r w ∧ R w S n c r := by
  subst hO
  unfold loadRow at hr
  split at hr
  · rename_i x
    split at hr
    · rename_i hag
      simp only [Option.some.injEq, Prod.mk.injEq] at hr
      obtain ⟨rfl, rfl⟩ := hr
      have hall : ∀ (k : Nat) (l : List D), (∀ (g : Nat) (d : D), l[g]? = some d → ∃ u, w.cell? ⟨b, o + f + (k + g), none⟩ = some u ∧ RD w (own S) d u) →
          ∃ us : List Value, us.length = l.length ∧ ∀ (g : Nat) (d : D), l[g]? = some d → ∃ u, us[g]? = some u ∧ w.cell? ⟨b, o + f + (k + g), none⟩ = some u ∧ RD w (own S) d u := by
        intro k l
        induction l generalizing k with
        | nil => exact fun _ => ⟨[], rfl, fun g d h => by simp at h⟩
        | cons d l ih =>
          intro hl
          obtain ⟨u, hu, hru⟩ := hl 0 d rfl
          obtain ⟨us, hlen, hus⟩ := ih (k + 1) (fun g d' hg => by
            have := hl (g + 1) d' (by simpa using hg)
            rwa [show k + (g + 1) = k + 1 + g by omega] at this)
          refine ⟨u :: us, by simp [hlen], fun g d' hg => ?_⟩
          cases g with
          | zero => simp at hg; subst hg; exact ⟨u, rfl, hu, hru⟩
          | succ g =>
            obtain ⟨u', h1, h2, h3⟩ := hus g d' (by simpa using hg)
            exact ⟨u', by simpa using h1, by rwa [show k + (g + 1) = k + 1 + g by omega], h3⟩
      obtain ⟨us, hlen, hus⟩ := hall 0 ((x.drop f).take ti.size) (fun g d hg => by
        rw [List.getElem?_take] at hg
        split at hg
        · rw [List.getElem?_drop] at hg
          have := hc x (f + g) d rfl hg
          rwa [show o + (f + g) = o + f + (0 + g) by omega] at this
        · cases hg)
      have hll : ((x.drop f).take ti.size).length = ti.size := by rw [List.length_take, List.length_drop]; omega
      refine ⟨_, run_loadVar_of h us (fun _ => by omega) (fun h' => by rw [hag] at h'; cases h') (fun j u hj => ?_), ?_⟩
      · have hj' : j < us.length := (List.getElem?_eq_some_iff.1 hj).1
        obtain ⟨u', h1, h2, _⟩ := hus j _ (List.getElem?_eq_getElem (by omega))
        rw [hj] at h1; cases h1
        rwa [Nat.zero_add] at h2
      · rw [hag, if_pos rfl]
        refine .agg _ us (by simp [hlen]) (fun u hu => ?_) (fun i c u hci hui => ?_)
        · obtain ⟨j, hj⟩ := List.getElem?_of_mem hu
          have hj' : j < us.length := (List.getElem?_eq_some_iff.1 hj).1
          obtain ⟨u', h1, _, h3⟩ := hus j _ (List.getElem?_eq_getElem (by omega))
          rw [hj] at h1; cases h1
          exact h3.one
        · rw [List.getElem?_map] at hci
          cases hd : ((x.drop f).take ti.size)[i]? with
          | none => rw [hd] at hci; cases hci
          | some d =>
            rw [hd] at hci; cases hci
            obtain ⟨u', h1, _, h3⟩ := hus i d hd
            rw [hui] at h1; cases h1
            exact .d h3
    · rename_i hag
      split at hr
      · rename_i d hd
        simp only [Option.some.injEq, Prod.mk.injEq] at hr
        obtain ⟨rfl, rfl⟩ := hr
        obtain ⟨u, hu, hru⟩ := hc x f d rfl hd
        refine ⟨_, run_loadVar_of h [u] (fun h' => absurd h' hag) (fun _ => rfl) (fun j u' hj => ?_), ?_⟩
        · cases j with
          | zero => simp at hj; subst hj; exact hu
          | succ j => simp at hj
        · have : tiAgg ti = false := by simpa using hag
          rw [this]
          exact .d hru
      · cases hr
  · cases hr

theorem aLoad_ok (hH : HeapOk W0 M0 H n w S) {t : TypeId} {x c : AV} {v : Value} {p : Prop} (h : aLoad X.ty H t x = some (p, c)) (hp : p) (hx : R w S n x v) :
    ∃ r, (Instr.loadAt t v).run P w = .ok r w ∧ R w S n c r := by
  unfold aLoad at h
  split at h
  · rename_i ti hty
    have hT := X.facts hty
    have run : ∀ (b o : Nat) (r : Value), (loadVar t ⟨b, o, none⟩).run P w = .ok r w → (Instr.loadAt t (.pointer (some ⟨b, o, none⟩))).run P w = .ok r w := fun b o r hr => by simp [Instr.loadAt, Instr.sureAddr, hr]
    split at h
    · rename_i id e f
      split at h
      · rename_i sz xs hb
        obtain ⟨l, bk, hS, ⟨hsz, _, _, hz, _, hbk⟩, hk, rfl⟩ := hx.ptr_live hH hb
        obtain ⟨cur, hcur, hsize, hcell⟩ := hbk bk hk
        obtain ⟨r, hr, hR⟩ := loadRow_ok (n := n) hT (f := f) (b := bk) (o := e * l.sz) h hp rfl (fun row g d hrow hd => by
          obtain ⟨u, hu, hru⟩ := hcell e g d (by simp [at2, hrow, hd])
          refine ⟨u, ?_, hru⟩
          rw [cell_of_row w bk _ cur _ (0, 0) hcur, hsz]
          exact hu)
        exact ⟨r, run _ _ _ hr, hR⟩
      · rename_i cells hb
        obtain ⟨l, bk, hS, ⟨hsz, hcap, bk', hk', cur, hcur, hsize, hcell⟩, hk, rfl⟩ := hx.ptr_live hH hb
        have hbb : bk = bk' := by rw [hk] at hk'; injection hk'
        subst hbb
        split at h
        · rename_i he
          subst he
          rw [Nat.zero_mul, Nat.zero_add]
          split at h
          · rename_i hag
            simp only [Option.some.injEq, Prod.mk.injEq] at h
            obtain ⟨rfl, rfl⟩ := h
            have hll : ((cells.drop f).take ti.size).length = ti.size := by rw [List.length_take, List.length_drop]; omega
            have hget : ∀ (j : Nat) (u : Value), ((cur.toList.drop f).take ti.size)[j]? = some u → cur[f + j]? = some u ∧ j < ti.size := fun j u hj => by
              rw [List.getElem?_take] at hj
              split at hj
              · rw [List.getElem?_drop, Array.getElem?_toList] at hj; exact ⟨hj, by assumption⟩
              · cases hj
            refine ⟨_, run _ _ _ (run_loadVar_of hT ((cur.toList.drop f).take ti.size) (fun _ => by rw [List.length_take, List.length_drop, Array.length_toList]; omega) (fun h' => by rw [hag] at h'; cases h') (fun j u hj => ?_)), ?_⟩
            · rw [cell_of_row w bk _ cur _ (0, 0) hcur]; exact (hget j u hj).1
            · rw [hag, if_pos rfl]
              have hone : ∀ (j : Nat) (u : Value), ((cur.toList.drop f).take ti.size)[j]? = some u → ∃ c, cells[f + j]? = some c ∧ u.oneCell' = true ∧ R w S n c u := fun j u hj => by
                obtain ⟨h1, h2⟩ := hget j u hj
                have hlt : f + j < cells.length := by have := (Array.getElem?_eq_some_iff.1 h1).1; omega
                obtain ⟨u', h3, h4, h5⟩ := hcell (f + j) _ (List.getElem?_eq_getElem hlt)
                rw [h1] at h3; cases h3
                exact ⟨_, List.getElem?_eq_getElem hlt, h4, h5⟩
              refine .agg _ _ (by rw [List.length_take, List.length_drop, Array.length_toList, List.length_take, List.length_drop, hsize]) (fun u hu => ?_) (fun i c u hci hui => ?_)
              · obtain ⟨j, hj⟩ := List.getElem?_of_mem hu
                exact (hone j u hj).choose_spec.2.1
              · obtain ⟨c', h1, _, h3⟩ := hone i u hui
                rw [List.getElem?_take] at hci
                split at hci
                · rw [List.getElem?_drop] at hci
                  rw [h1] at hci; cases hci; exact h3
                · cases hci
          · rename_i hag
            split at h
            · rename_i c' hc'
              simp only [Option.some.injEq, Prod.mk.injEq] at h
              obtain ⟨rfl, rfl⟩ := h
              obtain ⟨u, hu, _, hru⟩ := hcell f _ hc'
              refine ⟨_, run _ _ _ (run_loadVar_of hT [u] (fun h' => absurd h' hag) (fun _ => rfl) (fun j u' hj => ?_)), ?_⟩
              · cases j with
                | zero => simp at hj; subst hj; rw [cell_of_row w bk _ cur _ (0, 0) hcur]; exact hu
                | succ j => simp at hj
              · have : tiAgg ti = false := by simpa using hag
                rw [this]
                exact hru
            · cases h
        · cases h
      · cases h
    · rename_i z xs e f
      cases hx with | ip _ _ _ _ b o u hb hO hc hr' =>
      obtain ⟨r, hr, hR⟩ := loadRow_ok (n := n) hT (f := f) (b := b) (o := o + e * z) h hp rfl (fun row g d hrow hd => by
        have : at2 xs e g = some d := by simp [at2, hrow, hd]
        exact ⟨u e g, hc e g d this, hr' e g d this⟩)
      exact ⟨r, run _ _ _ hr, hR⟩
    · rename_i ds
      cases hx with | d hx =>
      cases hx with | ptr _ b o u hb hO hc hr' =>
      obtain ⟨r, hr, hR⟩ := loadRow_ok (n := n) hT (f := 0) (b := b) (o := o) h hp rfl (fun row g d hrow hd => by
        cases hrow
        exact ⟨u g, hc g d hd, hr' g d hd⟩)
      exact ⟨r, run _ _ _ hr, hR⟩
    · cases h
  · cases h
end
end Go.Vc
