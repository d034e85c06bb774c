/- The Vc layer: allocations, make, slice literals, append, copy. -/
import Derived.Test.YtaoifpmifpmhmaaVc8
set_option linter.all false
namespace Go.Vc
open Go Go.RowKit
variable [Far]

/-- What a heap operation gives: its condition, its value, the boxes, the next number. -/
abbrev RH := Option (Prop × AV × Heap × Nat)

def aAlloc (ty : TypeId → Option TI) (H : Heap) (n : Nat) (e : TypeId) : RH :=
  match ty e with
  | some ⟨.array m e', sz, _, z⟩ => match ty e' with
    | some ti => if sz = 0 then none else some (z = (List.replicate m ti.zero).flatten ∧ sz = m * ti.size ∧ ti.zero.length = ti.size ∧ sz ≤ 16777216, .ptr n 0 0, upd H n (some (.vec e ti.size (List.replicate m (ti.zero.map cleanD)))), n + 1)
    | none => none
  | some ⟨_, sz, _, z :: zs⟩ => some (sz = (z :: zs).length, .ptr n 0 0, upd H n (some (.one e ((z :: zs).map .d))), n + 1)
  | _ => none

def aBox (H : Heap) (n : Nat) (e : TypeId) (x : AV) : RH :=
  match cellsA H x with
  | some cs => some (True, .ptr n 0 0, upd H n (some (.one e cs)), n + 1)
  | none => none

def aMake (ty : TypeId → Option TI) (H : Heap) (n : Nat) (t : TypeId) (l c : AV) : RH :=
  match ty t, l, c with
  | some ⟨.slice e, _, _, _⟩, .d (.int _ l), .d (.int _ c) => match ty e with
    | some ⟨_, sz, by_, z :: zs⟩ => some (0 ≤ l ∧ l ≤ c ∧ by_ * c ≤ 140737488355328 ∧ c ≤ 140737488355328 ∧ sz = (z :: zs).length, .sl n 0 l.toNat, upd H n (some (.vec e sz (List.replicate l.toNat ((z :: zs).map cleanD)))), n + 1)
    | _ => none
  | _, _, _ => none

section
variable {P : Program} {X : Ctx P} {w w' : World} {S : Lays} {n : Nat} {W0 : World} {M0 : Nat → Prop} {H : Heap}

theorem flatten_rep {α : Type} {row : List α} {k : Nat} (hk : row.length = k) : ∀ (m e f : Nat), e < m → f < k → ((List.replicate m row).flatten)[e * k + f]? = row[f]? := by
  intro m
  induction m with
  | zero => intro e f h; omega
  | succ m ih =>
    intro e f he hf
    rw [List.replicate_succ, List.flatten_cons]
    cases e with
    | zero => rw [Nat.zero_mul, Nat.zero_add, List.getElem?_append_left (by omega)]
    | succ e =>
      rw [List.getElem?_append_right (by rw [hk, Nat.add_mul]; omega), hk, show (e + 1) * k + f - k = e * k + f by rw [Nat.add_mul]; omega]
      exact ih e f (by omega) hf

theorem at2_rep {α : Type} {row : List α} {m e f : Nat} {c : α} (h : at2 (List.replicate m row) e f = some c) : e < m ∧ row[f]? = some c := by
  obtain ⟨x, hx, hf⟩ := at2_some h
  rw [List.getElem?_replicate] at hx
  split at hx
  · cases hx; exact ⟨by assumption, hf⟩
  · cases hx

theorem HeapOk.ptr_new {W0 : World} {M0 : Nat → Prop} {b k sz cap : Nat} (S : Lays) : R w' (upd S n (some ⟨some b, sz, cap⟩)) (n + 1) (.ptr n 0 0) (.pointer (some ⟨b, 0, none⟩)) := by
  have := R.ptr (w := w') (S := upd S n (some ⟨some b, sz, cap⟩)) (n := n + 1) n 0 0 b ⟨some b, sz, cap⟩ (by omega) (by rw [upd_app, if_pos rfl]) rfl
  simpa using this

theorem aAlloc_ok (hH : HeapOk W0 M0 H n w S) {e : TypeId} {p : Prop} {c : AV} {H' : Heap} {n' : Nat} (h : aAlloc X.ty H n e = some (p, c, H', n')) (hp : p) :
    ∃ r w' S', (Instr.alloc e true (.tuple #[])).run P w = .ok r w' ∧ HeapOk W0 M0 H' n' w' S' ∧ Ext w S n w' S' n' ∧ R w' S' n' c r := by
  have run : ∀ {z : Value}, (zeroValue e).run P w = .ok z w → (Instr.alloc e true (.tuple #[])).run P w = .ok (.pointer (some ⟨w.heap.size, 0, none⟩)) (w.alloc (.cells z.cells e)) := by
    intro z hz
    simp only [Instr.alloc, Sem.run_bind, hz, Result.andThen_ok, newVar, newRow, newObj]
    simp [Sem.run]
  unfold aAlloc at h
  split at h
  · rename_i m e' sz _ z hty
    split at h
    · rename_i ti hti
      split at h
      · cases h
      · rename_i hsz0
        simp only [Option.some.injEq, Prod.mk.injEq] at h
        obtain ⟨rfl, rfl, rfl, rfl⟩ := h
        obtain ⟨hz, hsz, hzl, hbig⟩ := hp
        obtain ⟨i, zv, hi, his, _, hzv, hzs, hzero⟩ := (X.facts hty).info
        have hzne : z ≠ [] := fun e => by
          have h1 : (List.replicate m ti.zero).flatten.length = 0 := by rw [← hz, e]; rfl
          rw [List.length_flatten, List.map_replicate, List.sum_replicate_nat, hzl] at h1
          omega
        obtain ⟨hzl', hzr⟩ := hzero hzne
        simp only at hzs hzl' his
        obtain ⟨hH', hE⟩ := hH.alloc (w1 := w) ⟨rfl, rfl, rfl, rfl⟩ zv.cells e (.vec e ti.size (List.replicate m (ti.zero.map cleanD))) ti.size m (fun S' n' hE hnew => by
          refine ⟨rfl, ?_, by simp, fun x hx => ?_, by simp, fun b hb => ?_⟩
          · have : m ≤ zv.cells.size := by
              rw [hzs, hsz]
              have hpos : 0 < ti.size := by
                rcases Nat.eq_zero_or_pos ti.size with h0 | h0
                · rw [h0] at hsz; omega
                · exact h0
              exact Nat.le_mul_of_pos_right m hpos
            simp only [maxLen]; omega
          · rw [List.mem_replicate] at hx
            rw [hx.2]; simpa using hzl
          · cases hb
            refine ⟨_, hnew, by rw [hzs]; exact hsz, fun e1 f1 c1 hh => ?_⟩
            obtain ⟨he1, hf1⟩ := at2_rep hh
            rw [List.getElem?_map] at hf1
            cases hd : ti.zero[f1]? with
            | none => rw [hd] at hf1; cases hf1
            | some d =>
              rw [hd] at hf1; cases hf1
              have hf1l : f1 < ti.size := by have := (List.getElem?_eq_some_iff.1 hd).1; omega
              have hget : z[e1 * ti.size + f1]? = some d := by rw [hz, flatten_rep hzl m e1 f1 he1 hf1l]; exact hd
              have hlt : e1 * ti.size + f1 < zv.cells.size := by have := (List.getElem?_eq_some_iff.1 hget).1; omega
              exact ⟨_, Array.getElem?_eq_getElem hlt, (hzr _ _ _ _ _ hget (Array.getElem?_eq_getElem hlt)).clean⟩)
        exact ⟨_, _, _, run (by simp [zeroValue, typeInfo, hi, hzv]), hH', hE, HeapOk.ptr_new (W0 := W0) (M0 := M0) (k := 0) S⟩
    · cases h
  · rename_i sh sz _ z zs _ hty
    simp only [Option.some.injEq, Prod.mk.injEq] at h
    obtain ⟨rfl, rfl, rfl, rfl⟩ := h
    obtain ⟨i, zv, hi, his, _, hzv, hzs, hzero⟩ := (X.facts hty).info
    obtain ⟨hzl', hzr⟩ := hzero (by simp)
    simp only at hzs hzl' his
    obtain ⟨hH', hE⟩ := hH.alloc (w1 := w) ⟨rfl, rfl, rfl, rfl⟩ zv.cells e (.one e ((z :: zs).map .d)) (z :: zs).length 1 (fun S' n' hE hnew => by
      have := one_of_cells (S := S') (n := n') (cs := (z :: zs).map .d) hnew (by rw [hzs, List.length_map]; exact hp) (fun j c hc => by
        rw [List.getElem?_map] at hc
        cases hd : (z :: zs)[j]? with
        | none => rw [hd] at hc; cases hc
        | some d =>
          rw [hd] at hc; cases hc
          have hlt : j < zv.cells.size := by have := (List.getElem?_eq_some_iff.1 hd).1; omega
          have hr := hzr (w.alloc (.cells zv.cells e)) (own S') _ _ _ hd (Array.getElem?_eq_getElem hlt)
          exact ⟨_, Array.getElem?_eq_getElem hlt, hr.one, .d hr⟩)
      simpa using this)
    exact ⟨_, _, _, run (by simp [zeroValue, typeInfo, hi, hzv]), hH', hE, HeapOk.ptr_new (W0 := W0) (M0 := M0) (k := 0) S⟩
  · cases h

theorem aBox_ok (hH : HeapOk W0 M0 H n w S) {e : TypeId} {x : AV} {v : Value} {p : Prop} {c : AV} {H' : Heap} {n' : Nat} (h : aBox H n e x = some (p, c, H', n')) (hx : R w S n x v) :
    ∃ r w' S', (Instr.box e v).run P w = .ok r w' ∧ HeapOk W0 M0 H' n' w' S' ∧ Ext w S n w' S' n' ∧ R w' S' n' c r := by
  unfold aBox at h
  split at h
  · rename_i cs hcs
    simp only [Option.some.injEq, Prod.mk.injEq] at h
    obtain ⟨rfl, rfl, rfl, rfl⟩ := h
    obtain ⟨hv1, hv2⟩ := cellsA_ok hH hcs hx
    obtain ⟨hH', hE⟩ := hH.alloc (w1 := w) ⟨rfl, rfl, rfl, rfl⟩ v.cells e (.one e cs) cs.length 1 (fun S' n' hE hnew => one_of_cells hnew hv1 (fun i c hc => by
      obtain ⟨u, hu, h1, hr⟩ := hv2 i c hc
      exact ⟨u, hu, h1, hE.r hr⟩))
    refine ⟨.pointer (some ⟨w.heap.size, 0, none⟩), _, _, ?_, hH', hE, HeapOk.ptr_new (W0 := W0) (M0 := M0) (k := 0) S⟩
    simp [Instr.box, newVar, newRow, newObj, Sem.run]
  · cases h

theorem made_get {z : Array Value} {sz c e f : Nat} (hz : z.size = sz) (he : e < c) (hf : f < sz) : (madeCells z (c * sz))[e * sz + f]? = z[f]? := by
  have hlt : e * sz + f < c * sz := by
    have := Nat.mul_le_mul_right sz (show e + 1 ≤ c from he)
    rw [Nat.add_mul] at this; omega
  have hmod : (e * sz + f) % sz = f := by rw [Nat.mul_comm, Nat.mul_add_mod]; exact Nat.mod_eq_of_lt hf
  simp [madeCells, hlt, hz, hmod, hf]

theorem aMake_ok (hH : HeapOk W0 M0 H n w S) {t : TypeId} {l c : AV} {vl vc : Value} {p : Prop} {r : AV} {H' : Heap} {n' : Nat} (h : aMake X.ty H n t l c = some (p, r, H', n')) (hp : p) (hl : R w S n l vl) (hc : R w S n c vc) :
    ∃ v w' S', (Instr.makeSlice t vl vc).run P w = .ok v w' ∧ HeapOk W0 M0 H' n' w' S' ∧ Ext w S n w' S' n' ∧ R w' S' n' r v := by
  unfold aMake at h
  split at h
  · rename_i e _ _ _ kl l kc c hty
    rw [R.int_iff] at hl hc; subst hl hc
    split at h
    · rename_i sh sz by_ z zs hte
      simp only [Option.some.injEq, Prod.mk.injEq] at h
      obtain ⟨rfl, rfl, rfl, rfl⟩ := h
      obtain ⟨h0, hlc, hb, hcm, hsz⟩ := hp
      obtain ⟨i, zv, hi, his, hib, hzv, hzs, hzero⟩ := (X.facts hte).info
      obtain ⟨hzl', hzr⟩ := hzero (by simp)
      have hu := (X.facts hty).slice
      simp only at his hib hzs hzl'
      have hrun := run_make (P := P) w t e i zv hu hi hzv kl kc l c h0 hlc (by rw [hib]; omega) (by omega)
      rw [his] at hrun
      obtain ⟨hH', hE⟩ := hH.alloc (w1 := w) ⟨rfl, rfl, rfl, rfl⟩ (madeCells zv.cells (c.toNat * sz)) e (.vec e sz (List.replicate l.toNat ((z :: zs).map cleanD))) sz c.toNat (fun S' n' hE hnew => by
        refine ⟨rfl, by simp [maxLen]; omega, by simp; omega, fun x hx => ?_, by simp, fun b hb => ?_⟩
        · rw [List.mem_replicate] at hx
          rw [hx.2, List.length_map]; exact hsz.symm
        · cases hb
          refine ⟨_, hnew, by simp [madeCells], fun e1 f1 c1 hh => ?_⟩
          obtain ⟨he1, hf1⟩ := at2_rep hh
          rw [List.getElem?_map] at hf1
          cases hd : (z :: zs)[f1]? with
          | none => rw [hd] at hf1; cases hf1
          | some d =>
            rw [hd] at hf1; cases hf1
            have hf1l : f1 < sz := by have := (List.getElem?_eq_some_iff.1 hd).1; omega
            have hlt : f1 < zv.cells.size := by omega
            exact ⟨_, by rw [made_get hzs (by omega) hf1l]; exact Array.getElem?_eq_getElem hlt, (hzr _ _ _ _ _ hd (Array.getElem?_eq_getElem hlt)).clean⟩)
      refine ⟨_, _, _, hrun, hH', hE, ?_⟩
      have := R.sl (w := w.alloc (.cells (madeCells zv.cells (c.toNat * sz)) e)) (S := upd S n (some ⟨some w.heap.size, sz, c.toNat⟩)) (n := n + 1) n 0 l.toNat 0 ⟨some w.heap.size, sz, c.toNat⟩ (by omega) (by rw [upd_app, if_pos rfl]) (by simp; omega) (fun _ => by simp) (fun _ => rfl)
      simpa using this
    · cases h
  · cases h

/-! ### rows that come in -/
def rowsSrc (H : Heap) : AV → Option (Prop × List (List D))
  | .d (.sl ys) => some (True, ys)
  | .d .nils => some (True, [])
  | .sl id off len => match H id with
    | some (.vec _ _ xs) => some (off + len ≤ xs.length, (xs.drop off).take len)
    | _ => none
  | _ => none

/-- What a slice of rows gives to the one who copies it. -/
structure Src (w : World) (S : Lays) (sz : Nat) (ys : List (List D)) (A : Option Addr) (news : List Value) : Prop where
  len : news.length = ys.length * sz
  none_ : A = none → ys = []
  cells : ∀ ad, A = some ad → ∀ (j : Nat) (u : Value), news[j]? = some u → w.cell? (ad.add j) = some u
  one : ∀ u ∈ news, u.oneCell' = true
  rd : ∀ (e f : Nat) (c : D), at2 ys e f = some c → ∃ u, news[e * sz + f]? = some u ∧ RD w (own S) c u

theorem at2_of_lt {ys : List (List D)} {sz j : Nat} (hr : Rect sz ys) (hj : j < ys.length * sz) : ∃ c, at2 ys (j / sz) (j % sz) = some c := by
  have hpos : 0 < sz := by
    rcases Nat.eq_zero_or_pos sz with h | h
    · rw [h] at hj; omega
    · exact h
  have he : j / sz < ys.length := by rw [Nat.div_lt_iff_lt_mul hpos]; exact hj
  have hf : j % sz < ys[j / sz].length := by rw [hr _ (List.getElem_mem he)]; exact Nat.mod_lt _ hpos
  exact ⟨ys[j / sz][j % sz], by simp [at2, he, hf]⟩

theorem ix_div {sz e f : Nat} (hf : f < sz) : (e * sz + f) / sz = e ∧ (e * sz + f) % sz = f := by
  constructor
  · rw [Nat.mul_comm, Nat.mul_add_div (by omega), Nat.div_eq_of_lt hf]; rfl
  · rw [Nat.mul_comm, Nat.mul_add_mod]; exact Nat.mod_eq_of_lt hf

theorem at2_lt {ys : List (List D)} {sz e f : Nat} {c : D} (hr : Rect sz ys) (h : at2 ys e f = some c) : e < ys.length ∧ f < sz := by
  obtain ⟨x, hx, hf⟩ := at2_some h
  refine ⟨(List.getElem?_eq_some_iff.1 hx).1, ?_⟩
  rw [← hr x (List.mem_of_getElem? hx)]
  exact (List.getElem?_eq_some_iff.1 hf).1

theorem Src.empty (A : Option Addr) (sz : Nat) : Src w S sz [] A [] :=
  ⟨by simp, fun _ => rfl, (fun ad _ j u hj => by simp at hj), (fun u hu => by cases hu), (fun e f c hh => by simp [at2] at hh)⟩

theorem Src.mk' {sz : Nat} {ys : List (List D)} {b o : Nat} (hr : Rect sz ys) (hc : ∀ e f c, at2 ys e f = some c → ∃ u, w.cell? ⟨b, o + e * sz + f, none⟩ = some u ∧ RD w (own S) c u) :
    ∃ news, Src w S sz ys (some ⟨b, o, none⟩) news := by
  refine ⟨(List.range (ys.length * sz)).map fun j => (w.cell? ⟨b, o + j, none⟩).getD undef, ?_⟩
  have key : ∀ j, j < ys.length * sz → ∃ c u, at2 ys (j / sz) (j % sz) = some c ∧ w.cell? ⟨b, o + j, none⟩ = some u ∧ RD w (own S) c u := fun j hj => by
    obtain ⟨c, hcc⟩ := at2_of_lt hr hj
    obtain ⟨u, hu, hR⟩ := hc _ _ _ hcc
    refine ⟨c, u, hcc, ?_, hR⟩
    rw [show o + j / sz * sz + j % sz = o + j by rw [Nat.add_assoc, Nat.mul_comm, Nat.div_add_mod]] at hu
    exact hu
  constructor
  · simp
  · intro h; cases h
  · intro ad had j u hj
    cases had
    have hlt : j < ys.length * sz := by have := (List.getElem?_eq_some_iff.1 hj).1; simpa using this
    rw [List.getElem?_map, List.getElem?_range hlt] at hj
    obtain ⟨c, u', _, hu', _⟩ := key j hlt
    simp only [hu', Option.map_some, Option.getD_some, Option.some.injEq] at hj
    subst hj
    rw [add_none]; exact hu'
  · intro u hu
    obtain ⟨j, hj, rfl⟩ := List.mem_map.1 hu
    obtain ⟨c, u', _, hu', hR⟩ := key j (List.mem_range.1 hj)
    rw [hu']; exact hR.one
  · intro e f c hh
    obtain ⟨he, hf⟩ := at2_lt hr hh
    have hlt : e * sz + f < ys.length * sz := by
      have := Nat.mul_le_mul_right sz (show e + 1 ≤ ys.length from he)
      rw [Nat.add_mul] at this; omega
    obtain ⟨c', u, hc', hu, hR⟩ := key _ hlt
    rw [(ix_div hf).1, (ix_div hf).2, hh] at hc'
    cases hc'
    exact ⟨u, by rw [List.getElem?_map, List.getElem?_range hlt]; simp [hu], hR⟩

theorem rowsSrc_ok (hH : HeapOk W0 M0 H n w S) {x : AV} {v : Value} {q : Prop} {ys : List (List D)} {sz : Nat} (h : rowsSrc H x = some (q, ys)) (hq : q) (hr : Rect sz ys) (hx : R w S n x v) :
    ∃ A c news, v = .slice A ys.length c ∧ Src w S sz ys A news := by
  unfold rowsSrc at h
  split at h
  · rename_i ys'
    simp only [Option.some.injEq, Prod.mk.injEq] at h
    obtain ⟨_, rfl⟩ := h
    cases hx with | d hx =>
    obtain ⟨a, cap, rfl, _⟩ := hx.slice_form
    by_cases hne : ys' = []
    · subst hne
      exact ⟨a, cap, [], rfl, Src.empty _ _⟩
    · obtain ⟨b, o, u, rfl, _, _, _, _, hc, hR⟩ := hx.rect hr hne
      obtain ⟨news, hs⟩ := Src.mk' (w := w) (S := S) (b := b) (o := o) hr (fun e f c hh => ⟨u e f, hc e f c hh, hR e f c hh⟩)
      exact ⟨_, cap, news, rfl, hs⟩
  · simp only [Option.some.injEq, Prod.mk.injEq] at h
    obtain ⟨_, rfl⟩ := h
    cases hx with | d hx =>
    cases hx
    exact ⟨none, 0, [], rfl, Src.empty _ _⟩
  · rename_i id off len
    split at h
    · rename_i ty sz' xs hb
      simp only [Option.some.injEq, Prod.mk.injEq] at h
      obtain ⟨rfl, rfl⟩ := h
      obtain ⟨l, o, hS, ⟨hsz, _, _, hz, hnil, hbk⟩, rfl, hcap, ho, h0⟩ := hx.sl_live hH hb
      have hlen : ((xs.drop off).take len).length = len := by rw [List.length_take, List.length_drop]; omega
      rw [hlen]
      by_cases hl0 : len = 0
      · subst hl0
        rw [List.take_zero]
        exact ⟨_, _, [], rfl, Src.empty _ _⟩
      · cases hk : l.blk with
        | none => have := hnil hk; omega
        | some b =>
          obtain ⟨cur, hcur, hsize, hcell⟩ := hbk b hk
          have hszz : sz' = sz := by
            have h1 : (xs.drop off).take len ≠ [] := fun e => by rw [e] at hlen; simp at hlen; omega
            obtain ⟨x, hx⟩ := List.exists_mem_of_ne_nil _ h1
            rw [← hr x hx, hz x (List.mem_of_mem_drop (List.mem_of_mem_take hx))]
          subst hszz
          obtain ⟨news, hs⟩ := Src.mk' (w := w) (S := S) (b := b) (o := o) hr (fun e f c hh => by
            obtain ⟨u, hu, hR⟩ := hcell _ _ _ (at2_drop_take hh)
            refine ⟨u, ?_, hR⟩
            rw [cell_of_row w b _ cur _ (0, 0) hcur, ho (by omega), hsz, show off * sz' + e * sz' + f = (off + e) * sz' + f by rw [Nat.add_mul]]
            exact hu)
          exact ⟨_, _, news, rfl, hs⟩
    · cases h
  · cases h

/-! ### append -/
def aAppend (ty : TypeId → Option TI) (H : Heap) (n : Nat) (t : TypeId) (s x : AV) : RH :=
  match ty t with
  | some ⟨.slice e, _, _, _⟩ => match ty e with
    | some ti => if ti.size = 0 ∨ ti.bytes = 0 then none else match rowsSrc H x with
      | some (q, ys) => match s with
        | .d .nils => some (q ∧ Rect ti.size ys ∧ ys.length * ti.bytes ≤ 140737488355328, .sl n 0 ys.length, upd H n (some (.vec e ti.size ys)), n + 1)
        | .sl id off len => match H id with
          | some (.vec e' sz xs) => if off = 0 ∧ e' = e ∧ sz = ti.size then
              some (q ∧ Rect ti.size ys ∧ len ≤ xs.length ∧ (len + ys.length) * ti.bytes ≤ 140737488355328, .sl n 0 (len + ys.length), upd (upd H id none) n (some (.vec e ti.size (xs.take len ++ ys))), n + 1) else none
          | _ => none
        | _ => none
      | none => none
    | none => none
  | _ => none

theorem run_append_none (base : Nat) (t ty e : TypeId) (i : TypeInfo) (size : Nat) (ht : P.underlying t = some (.slice e)) (hi : P.info? e = some i)
    (v : Value) (m : Nat) (xs : List Value) (hown : w.ownsRow base e size v m xs) (c : Nat) : (Builtin.append_ #[t, t] ty #[v, .slice none 0 c]).run P w = .ok v w := by
  rcases hown.2 with ⟨rfl, rfl⟩ | ⟨g, cap, cur, rfl, _, _, hnc, _⟩
  · simp [Builtin.append_, run_underlying ht, sizeOf, typeInfo, hi, Builtin.lenOf, Builtin.firstCells]
  · simp [Builtin.append_, run_underlying ht, sizeOf, typeInfo, hi, Builtin.lenOf, Builtin.firstCells, hnc, storeCells]

/-- The append itself, onto a row that is nobody else's. -/
theorem append_run {t ty' e : TypeId} {ti : TI} (hu : P.underlying t = some (.slice e)) (hT : TyFacts P e ti) (hsz : ti.size ≠ 0) (hby : ti.bytes ≠ 0) {v : Value} {k : Nat} {olds : List Value} (hown : w.ownsRow 0 e ti.size v k olds)
    {ys : List (List D)} {A : Option Addr} {news : List Value} {c : Nat} (hs : Src w S ti.size ys A news) (hb : (k + ys.length) * ti.bytes ≤ 140737488355328) :
    ∃ v' w', (Builtin.append_ #[t, t] ty' #[v, .slice A ys.length c]).run P w = .ok v' w' ∧ w'.ownsRow 0 e ti.size v' (k + ys.length) (olds ++ news) ∧ w.grownBy w' v.ownBlock ∧ (v'.ownBlock = v.ownBlock ∨ v'.ownBlock = some w.heap.size) := by
  obtain ⟨i, z, hi, his, hib, hz, hzs, _⟩ := hT.info
  have hmx : k + ys.length ≤ maxLen := by
    have h1 : (k + ys.length) * 1 ≤ (k + ys.length) * ti.bytes := Nat.mul_le_mul_left _ (by omega)
    simp only [maxLen]; omega
  cases A with
  | none =>
    have hy := hs.none_ rfl
    subst hy
    have hn : news = [] := List.eq_nil_of_length_eq_zero (by simpa using hs.len)
    subst hn
    exact ⟨v, w, run_append_none 0 t ty' e i ti.size hu hi v k olds hown c, by simpa using hown, World.grownBy.refl w _, .inl rfl⟩
  | some ad =>
    obtain ⟨v', w', h1, h2, h3, _, h5⟩ := run_append_own_at (P := P) w 0 t ty' e i z ti.size ti.bytes hu hi hz his hib hzs (by omega) v k olds hown ad ys.length c news hs.len (hs.cells ad rfl) hs.one hmx hb (Nat.zero_le _)
    exact ⟨v', w', h1, h2, h3, h5⟩

theorem ownsRow_form {e : TypeId} {sz m : Nat} {v' : Value} {cells : List Value} (h : w'.ownsRow 0 e sz v' m cells) :
    ∃ cap, v' = .slice (v'.ownBlock.map fun b => ⟨b, 0, none⟩) m cap ∧ m ≤ cap ∧ cap ≤ maxLen ∧ (v'.ownBlock = none → cap = 0) ∧
      ∀ b, v'.ownBlock = some b → ∃ cur, w'.heap[b]? = some (.cells cur e (0, 0)) ∧ cur.size = cap * sz ∧ cur.toList.take (m * sz) = cells := by
  rcases h.2 with ⟨rfl, h0⟩ | ⟨g, cap, cur, rfl, _, hg, hmc, hcm, hcs, htake⟩
  · subst h0
    exact ⟨0, rfl, Nat.le_refl _, by simp [maxLen], fun _ => rfl, fun b hb => by simp [Value.ownBlock] at hb⟩
  · refine ⟨cap, rfl, hmc, hcm, by simp [Value.ownBlock], fun b hb => ?_⟩
    simp [Value.ownBlock] at hb
    subst hb
    exact ⟨cur, hg, hcs, htake⟩

theorem aAppend_ok (hH : HeapOk W0 M0 H n w S) {t ty' : TypeId} {s x : AV} {vs vx : Value} {p : Prop} {c : AV} {H' : Heap} {n' : Nat} (h : aAppend X.ty H n t s x = some (p, c, H', n')) (hp : p) (hs : R w S n s vs) (hx : R w S n x vx) :
    ∃ r w' S', (Builtin.append_ #[t, t] ty' #[vs, vx]).run P w = .ok r w' ∧ HeapOk W0 M0 H' n' w' S' ∧ Ext w S n w' S' n' ∧ R w' S' n' c r := by
  unfold aAppend at h
  split at h
  · rename_i e _ _ _ hty
    have hu := (X.facts hty).slice
    split at h
    · rename_i ti hte
      have hT := X.facts hte
      split at h
      · cases h
      · rename_i hne
        split at h
        · rename_i q ys hys
          -- the end that both ways share
          have fin : ∀ (k : Option Nat) (v : Value) (m : Nat) (olds : List Value) (zs : List (List D)), w.ownsRow 0 e ti.size v m olds → q → Rect ti.size ys → (m + ys.length) * ti.bytes ≤ 140737488355328 → v = vs →
              (∀ b, v.ownBlock = some b → ∃ id l', k = some id ∧ S id = some l' ∧ l'.blk = some b) → (∀ id l' b, k = some id → S id = some l' → l'.blk = some b → v.ownBlock = some b) → zs.length = m → Rect ti.size zs → (∀ id, k = some id → (H id).isSome = true) →
              (∀ (e f : Nat) (c : D), at2 zs e f = some c → ∃ u, olds[e * ti.size + f]? = some u ∧ RD w (own S) c u) →
              ∃ r w' S', (Builtin.append_ #[t, t] ty' #[vs, vx]).run P w = .ok r w' ∧ HeapOk W0 M0 (upd (kill k H) n (some (.vec e ti.size (zs ++ ys)))) (n + 1) w' S' ∧ Ext w S n w' S' (n + 1) ∧ R w' S' (n + 1) (.sl n 0 (m + ys.length)) r := by
            intro k v m olds zs hown hq hrect hb hv hk1 hk2 hzl hzr hklive hzc
            subst hv
            obtain ⟨A, cx, news, rfl, hsrc⟩ := rowsSrc_ok hH hys hq hrect hx
            obtain ⟨v', w', hrun, hown', hgrow, hat⟩ := append_run (ty' := ty') (c := cx) hu hT (by omega) (by omega) hown hsrc hb
            have holdl : olds.length = zs.length * ti.size := by rw [hown.1, hzl]
            have key : ∀ (S' : Lays) (n' : Nat), Ext w S n w' S' n' → ∀ (e f : Nat) (c : D), at2 (zs ++ ys) e f = some c → ∃ u, (olds ++ news)[e * ti.size + f]? = some u ∧ RD w' (own S') c u := by
              intro S' n' hE e1 f1 c1 hh
              obtain ⟨y, hy, hf⟩ := at2_some hh
              by_cases he : e1 < zs.length
              · rw [List.getElem?_append_left he] at hy
                obtain ⟨u, hu', hR⟩ := hzc e1 f1 c1 (by simp [at2, hy, hf])
                refine ⟨u, ?_, hE.rd hR⟩
                rw [List.getElem?_append_left (List.getElem?_eq_some_iff.1 hu').1]; exact hu'
              · rw [List.getElem?_append_right (by omega)] at hy
                obtain ⟨u, hu', hR⟩ := hsrc.rd (e1 - zs.length) f1 c1 (by simp [at2, hy, hf])
                refine ⟨u, ?_, hE.rd hR⟩
                have : e1 * ti.size + f1 = olds.length + ((e1 - zs.length) * ti.size + f1) := by
                  rw [holdl, ← Nat.add_assoc, ← Nat.add_mul]; congr 2; omega
                rw [this, List.getElem?_append_right (by omega), Nat.add_sub_cancel_left]; exact hu'
            have hrect' : Rect ti.size (zs ++ ys) := fun y hy => by
              rcases List.mem_append.1 hy with h | h
              · exact hzr y h
              · exact hrect y h
            obtain ⟨cap, hv', hmc, hcm, hcn, hcb⟩ := ownsRow_form hown'
            obtain ⟨hH', hE⟩ := hH.new (w' := w') k (.vec e ti.size (zs ++ ys)) ⟨v'.ownBlock, ti.size, cap⟩ hklive hgrow.os hgrow.tape hgrow.output hgrow.size
              (fun b hb hnk => hgrow.block b hb (fun e => by
                obtain ⟨id, l', h1, h2, h3⟩ := hk1 b e.symm
                exact hnk id l' h1 h2 h3))
              (fun b hb => by
                rcases hat with e | e
                · rw [e] at hb; exact .inr (hk1 b hb)
                · rw [e] at hb; cases hb; exact .inl (Nat.le_refl _))
              (fun b hb => by obtain ⟨cur, hcur, _⟩ := hcb b hb; exact (Array.getElem?_eq_some_iff.1 hcur).1)
              (fun hE => by
                refine ⟨rfl, hcm, (by show (zs ++ ys).length ≤ cap; rw [List.length_append]; omega), hrect', hcn, fun b hb => ?_⟩
                obtain ⟨cur, hcur, hcs, htake⟩ := hcb b hb
                refine ⟨cur, hcur, hcs, fun e1 f1 c1 hh => ?_⟩
                obtain ⟨u, hu, hR⟩ := key _ _ hE e1 f1 c1 hh
                rw [← htake, List.getElem?_take] at hu
                split at hu
                · exact ⟨u, by rw [← Array.getElem?_toList]; exact hu, hR⟩
                · cases hu)
            refine ⟨v', w', _, hrun, hH', hE, ?_⟩
            have := R.sl (w := w') (S := upd (kill k S) n (some ⟨v'.ownBlock, ti.size, cap⟩)) (n := n + 1) n 0 (m + ys.length) 0 ⟨v'.ownBlock, ti.size, cap⟩ (by omega) (by rw [upd_app, if_pos rfl]) (by simpa using hmc) (fun _ => by simp) (fun _ => rfl)
            simp only [Nat.sub_zero] at this
            rw [← hv'] at this
            exact this
          split at h
          · simp only [Option.some.injEq, Prod.mk.injEq] at h
            obtain ⟨rfl, rfl, rfl, rfl⟩ := h
            cases hs with | d hs =>
            cases hs
            have := fin none (.slice none 0 0) 0 [] [] (World.ownsRow_nil w 0 e ti.size) hp.1 hp.2.1 (by rw [Nat.zero_add]; exact hp.2.2) rfl (fun b hb => by simp [Value.ownBlock] at hb) (fun id l' b h => by cases h) rfl (fun y hy => by cases hy) (fun id h => by cases h) (fun e f c hh => by simp [at2] at hh)
            simpa [kill] using this
          · rename_i id off len
            split at h
            · rename_i e' sz xs hb
              split at h
              · rename_i hcond
                obtain ⟨rfl, rfl, rfl⟩ := hcond
                simp only [Option.some.injEq, Prod.mk.injEq] at h
                obtain ⟨rfl, rfl, rfl, rfl⟩ := h
                obtain ⟨hq, hrect, hlx, hbytes⟩ := hp
                obtain ⟨l, o, hS, ⟨hsz, hcm, hxl, hz, hnil, hbk⟩, hv, hcap, ho, h0⟩ := hs.sl_live hH hb
                have ho0 := h0 rfl
                subst ho0
                have hzl : (xs.take len).length = len := by rw [List.length_take]; omega
                have hzr : Rect ti.size (xs.take len) := fun y hy => hz y (List.mem_of_mem_take hy)
                cases hk : l.blk with
                | none =>
                  have hc0 := hnil hk
                  have hl0 : len = 0 := by omega
                  subst hl0
                  have hvn : vs = .slice none 0 0 := by rw [hv, hk, hc0]; rfl
                  exact fin (some id) vs 0 [] (xs.take 0) (by rw [hvn]; exact World.ownsRow_nil w 0 e' ti.size) hq hrect hbytes rfl (fun b hb => by rw [hvn] at hb; simp [Value.ownBlock] at hb)
                    (fun id' l' b h1 h2 h3 => by cases h1; rw [hS] at h2; cases h2; rw [hk] at h3; cases h3) (by simp) hzr (fun id' h => by cases h; rw [hb]; rfl) (fun e f c hh => by simp [at2] at hh)
                | some b =>
                  obtain ⟨cur, hcur, hsize, hcell⟩ := hbk b hk
                  have hvb : vs = .slice (some ⟨b, 0, none⟩) len l.cap := by rw [hv, hk]; rfl
                  have hll : (cur.toList.take (len * ti.size)).length = len * ti.size := by
                    rw [List.length_take, Array.length_toList, hsize]
                    have := Nat.mul_le_mul_right ti.size (show len ≤ l.cap by omega)
                    omega
                  exact fin (some id) vs len (cur.toList.take (len * ti.size)) (xs.take len) ⟨hll, .inr ⟨b, l.cap, cur, hvb, Nat.zero_le _, hcur, by omega, hcm, hsize, rfl⟩⟩ hq hrect hbytes rfl
                    (fun b' hb' => by rw [hvb] at hb'; simp [Value.ownBlock] at hb'; subst hb'; exact ⟨id, l, rfl, hS, hk⟩)
                    (fun id' l' b' h1 h2 h3 => by cases h1; rw [hS] at h2; cases h2; rw [hk] at h3; cases h3; rw [hvb]; rfl) hzl hzr (fun id' h => by cases h; rw [hb]; rfl)
                    (fun e1 f1 c1 hh => by
                      obtain ⟨he1, hf1⟩ := at2_lt hzr hh
                      obtain ⟨x, hx, hf⟩ := at2_some hh
                      rw [List.getElem?_take] at hx
                      split at hx
                      · obtain ⟨u, hu', hR⟩ := hcell e1 f1 c1 (by simp [at2, hx, hf])
                        refine ⟨u, ?_, hR⟩
                        have : e1 * ti.size + f1 < len * ti.size := by
                          have := Nat.mul_le_mul_right ti.size (show e1 + 1 ≤ len by omega)
                          rw [Nat.add_mul] at this; omega
                        rw [List.getElem?_take, if_pos this, Array.getElem?_toList]; exact hu'
                      · cases hx)
              · cases h
            · cases h
          · cases h
        · cases h
    · cases h
  · cases h
end
end Go.Vc
