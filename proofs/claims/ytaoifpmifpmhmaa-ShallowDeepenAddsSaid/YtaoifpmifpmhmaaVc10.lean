/- The Vc layer: slice literals, copies, and all operations under one name. -/
import Derived.Test.YtaoifpmifpmhmaaVc9
import Derived.Laws.IdiomCopy
set_option linter.all false
namespace Go.Vc
open Go Go.RowKit
variable [Far]

def fzRows (sz : Nat) : Heap → Nat → List (Nat × AV) → Option (Prop × List (List D) × Heap)
  | H, _, [] => some (True, [], H)
  | H, k, (i, v) :: r => if i = k then match fz H (cellsOfA v) with
    | some (p, ds, H1) => if ds.length = sz then match fzRows sz H1 (k + 1) r with
      | some (q, rows, H2) => some (p ∧ q, ds :: rows, H2)
      | none => none else none
    | none => none else none

def aBuildSlice (ty : TypeId → Option TI) (H : Heap) (n : Nat) (t : TypeId) (len : Nat) (parts : List (Nat × AV)) : RH :=
  match ty t with
  | some ⟨.slice e, _, _, _⟩ => match ty e with
    | some ti => match fzRows ti.size H 0 parts with
      | some (p, rows, H1) => if parts.length = len ∧ len ≤ 16777216 ∧ len * ti.size ≤ 16777216 then some (p, .sl n 0 len, upd H1 n (some (.vec e ti.size rows)), n + 1) else none
      | none => none
    | none => none
  | _ => none

section
variable {P : Program} {X : Ctx P} {w w' : World} {S : Lays} {n : Nat} {W0 : World} {M0 : Nat → Prop} {H : Heap}

theorem fzv_ok (hH : HeapOk W0 M0 H n w S) {x : AV} {v : Value} {p : Prop} {ds : List D} {H1 : Heap} (h : fz H (cellsOfA x) = some (p, ds, H1)) (hp : p) (hx : R w S n x v) :
    ∃ S1, HeapOk W0 M0 H1 n w S1 ∧ Ext w S n w S1 n ∧ v.cells.size = ds.length ∧ ∀ (j : Nat) (u : Value), v.cells[j]? = some u → ∃ d, ds[j]? = some d ∧ RD w (own S1) d u := by
  obtain ⟨hdl, S1, hH1, hE1, hr1⟩ := fz_ok hH h hp
  have hcells : v.cells.size = (cellsOfA x).length ∧ ∀ (i : Nat) (c : AV), (cellsOfA x)[i]? = some c → ∃ u, v.cells[i]? = some u ∧ R w S n c u := by
    cases x with
    | agg cs =>
      cases hx with | agg _ us hl h1 hr =>
      refine ⟨by simpa [Value.cells, cellsOfA] using hl, fun i c hc => ?_⟩
      have hi : i < us.length := by have := (List.getElem?_eq_some_iff.1 hc).1; simp [cellsOfA] at this; omega
      exact ⟨us[i], by simp [Value.cells, List.getElem?_eq_getElem hi], hr i c _ hc (List.getElem?_eq_getElem hi)⟩
    | _ =>
      have hone : v.oneCell' = true := by
        simp only [cellsOfA, fz] at h
        split at h
        · rename_i p1 d1 H2 h1
          obtain ⟨_, _, _, hr⟩ := fz1_ok hH h1 (by
            simp only [Option.some.injEq, Prod.mk.injEq] at h
            exact (h.1 ▸ hp).1)
          exact (hr v hx).one
        · cases h
      rw [oneCell_cells hone]
      refine ⟨rfl, fun i c hc => ?_⟩
      cases i with
      | zero => simp [cellsOfA] at hc; subst hc; exact ⟨v, rfl, hx⟩
      | succ i => simp [cellsOfA] at hc
  refine ⟨S1, hH1, hE1, by rw [hcells.1, hdl], fun j u hj => ?_⟩
  have hjl : j < (cellsOfA x).length := by have := (Array.getElem?_eq_some_iff.1 hj).1; omega
  obtain ⟨u', hu', hR⟩ := hcells.2 j _ (List.getElem?_eq_getElem hjl)
  rw [hj] at hu'; cases hu'
  exact hr1 j _ u (List.getElem?_eq_getElem hjl) hR

theorem fzRows_ok {sz : Nat} : ∀ {parts : List (Nat × AV)} {H : Heap} {S : Lays} {k : Nat} {p : Prop} {rows : List (List D)} {H' : Heap}, HeapOk W0 M0 H n w S → fzRows sz H k parts = some (p, rows, H') → p →
    ∀ {vparts : List (Nat × Value)}, vparts.length = parts.length → (∀ (i j : Nat) (c : AV), parts[i]? = some (j, c) → ∃ v, vparts[i]? = some (j, v) ∧ R w S n c v) →
    rows.length = parts.length ∧ Rect sz rows ∧ ∃ S', HeapOk W0 M0 H' n w S' ∧ Ext w S n w S' n ∧ ∀ (i j : Nat) (v : Value), vparts[i]? = some (j, v) → j = k + i ∧ v.cells.size = sz ∧
      ∀ (f : Nat) (u : Value), v.cells[f]? = some u → ∃ d, at2 rows i f = some d ∧ RD w (own S') d u := by
  intro parts
  induction parts with
  | nil =>
    intro H S k p rows H' hH h hp vparts hl hv
    simp only [fzRows, Option.some.injEq, Prod.mk.injEq] at h
    obtain ⟨_, rfl, rfl⟩ := h
    have : vparts = [] := List.eq_nil_of_length_eq_zero (by simpa using hl)
    subst this
    exact ⟨rfl, (fun y hy => by cases hy), S, hH, Ext.refl _ _ _, fun i j v h => by simp at h⟩
  | cons pc parts ih =>
    intro H S k p rows H' hH h hp vparts hl hv
    obtain ⟨i, c⟩ := pc
    cases vparts with
    | nil => simp at hl
    | cons vp vparts =>
      unfold fzRows at h
      split at h
      · rename_i hik
        subst hik
        split at h
        · rename_i q ds H1 hfz
          split at h
          · rename_i hds
            split at h
            · rename_i q' rows' H2 hrec
              simp only [Option.some.injEq, Prod.mk.injEq] at h
              obtain ⟨rfl, rfl, rfl⟩ := h
              obtain ⟨v, hv0, hR⟩ := hv 0 i c rfl
              simp at hv0
              subst hv0
              obtain ⟨S1, hH1, hE1, hsz, hcell⟩ := fzv_ok hH hfz hp.1 hR
              obtain ⟨hrl, hrr, S2, hH2, hE2, hall⟩ := ih hH1 hrec hp.2 (vparts := vparts) (by simpa using hl) (fun i' j c' hc => by
                obtain ⟨v', h1, h2⟩ := hv (i' + 1) j c' (by simpa using hc)
                exact ⟨v', by simpa using h1, hE1.r h2⟩)
              refine ⟨by simp [hrl], fun y hy => ?_, S2, hH2, hE1.trans hE2, fun i' j v' hi' => ?_⟩
              · rcases List.mem_cons.1 hy with rfl | hy
                · exact hds
                · exact hrr y hy
              · cases i' with
                | zero =>
                  simp at hi'
                  obtain ⟨rfl, rfl⟩ := hi'
                  refine ⟨rfl, by rw [hsz]; exact hds, fun f u hu => ?_⟩
                  obtain ⟨d, hd, hR⟩ := hcell f u hu
                  exact ⟨d, by simp [at2, hd], hE2.rd hR⟩
                | succ i' =>
                  obtain ⟨h1, h2, h3⟩ := hall i' j v' (by simpa using hi')
                  refine ⟨by omega, h2, fun f u hu => ?_⟩
                  obtain ⟨d, hd, hR⟩ := h3 f u hu
                  exact ⟨d, by simpa [at2] using hd, hR⟩
            · cases h
          · cases h
        · cases h
      · cases h

theorem fill_dense (sz : Nat) : ∀ (vps : List (Nat × Value)) (k : Nat) (cells : Array Value), (∀ (j i : Nat) (v : Value), vps[j]? = some (i, v) → i = k + j ∧ v.cells.size = sz) → (k + vps.length) * sz ≤ cells.size →
    ∃ cells', Instr.fill (fun i => some (i * sz, sz)) cells vps = some cells' ∧ cells'.size = cells.size ∧ (∀ i, i < k * sz → cells'[i]? = cells[i]?) ∧
      ∀ (j f i : Nat) (v : Value), vps[j]? = some (i, v) → f < sz → cells'[(k + j) * sz + f]? = v.cells[f]? := by
  intro vps
  induction vps with
  | nil => intro k cells _ _; exact ⟨cells, rfl, rfl, fun _ _ => rfl, fun j f i v h => by simp at h⟩
  | cons vp vps ih =>
    intro k cells hv hfit
    obtain ⟨i, v⟩ := vp
    obtain ⟨hi, hvs⟩ := hv 0 i v rfl
    simp only [Nat.add_zero] at hi
    subst hi
    simp only [List.length_cons] at hfit
    have hfit0 : i * sz + sz ≤ cells.size := by
      have := Nat.mul_le_mul_right sz (show i + 1 ≤ i + (vps.length + 1) by omega)
      rw [Nat.add_mul] at this; omega
    have hsize : (v.cells.zipIdx.foldl (fun cs (x : Value × Nat) => cs.setIfInBounds (i * sz + x.2) x.1) cells).size = cells.size := by
      rw [← Array.foldl_toList, Array.toList_zipIdx, foldl_set_size]
    have hget : ∀ m, (v.cells.zipIdx.foldl (fun cs (x : Value × Nat) => cs.setIfInBounds (i * sz + x.2) x.1) cells)[m]? = if i * sz ≤ m ∧ m < i * sz + sz then v.cells[m - i * sz]? else cells[m]? := fun m => by
      rw [← Array.foldl_toList, Array.toList_zipIdx]
      have := foldl_set_get (i * sz) v.cells.toList 0 cells m (by simp; omega)
      rw [this]; simp only [Nat.add_zero, Array.length_toList, hvs, Array.getElem?_toList]
    obtain ⟨cells', h1, h2, h3, h4⟩ := ih (i + 1) _ (fun j i' v' hj => by
      have := hv (j + 1) i' v' (by simpa using hj)
      exact ⟨by omega, this.2⟩) (by rw [hsize, show i + 1 + vps.length = i + (vps.length + 1) by omega]; exact hfit)
    refine ⟨cells', ?_, by rw [h2, hsize], fun m hm => ?_, fun j f i' v' hj hf => ?_⟩
    · unfold Instr.fill
      simp only
      rw [if_neg (by simp; omega)]
      exact h1
    · rw [h3 m (by rw [Nat.add_mul]; omega), hget, if_neg (by omega)]
    · cases j with
      | zero =>
        simp at hj
        obtain ⟨rfl, rfl⟩ := hj
        rw [Nat.add_zero, h3 _ (by rw [Nat.add_mul]; omega), hget, if_pos (by omega), Nat.add_sub_cancel_left]
      | succ j =>
        rw [show i + (j + 1) = i + 1 + j by omega]
        exact h4 j f i' v' (by simpa using hj) hf

theorem aBuildSlice_ok (hH : HeapOk W0 M0 H n w S) {t : TypeId} {len : Nat} {parts : List (Nat × AV)} {vparts : Array (Nat × Value)} {p : Prop} {c : AV} {H' : Heap} {n' : Nat} (h : aBuildSlice X.ty H n t len parts = some (p, c, H', n')) (hp : p)
    (hl : vparts.size = parts.length) (hv : ∀ (i k : Nat) (c : AV), parts[i]? = some (k, c) → ∃ v, vparts[i]? = some (k, v) ∧ R w S n c v) :
    ∃ r w' S', (Instr.buildSlice t len vparts).run P w = .ok r w' ∧ HeapOk W0 M0 H' n' w' S' ∧ Ext w S n w' S' n' ∧ R w' S' n' c r := by
  unfold aBuildSlice at h
  split at h
  · rename_i e _ _ _ hty
    have hu := (X.facts hty).slice
    split at h
    · rename_i ti hti
      obtain ⟨i, z, hi, his, hib, hz, hzs, _⟩ := (X.facts hti).info
      split at h
      · rename_i q rows H1 hfz
        split at h
        · rename_i hcond
          obtain ⟨hlen, hbl, hbig⟩ := hcond
          simp only [Option.some.injEq, Prod.mk.injEq] at h
          obtain ⟨rfl, rfl, rfl, rfl⟩ := h
          obtain ⟨hrl, hrr, S1, hH1, hE1, hall⟩ := fzRows_ok hH hfz hp (vparts := vparts.toList) (by simpa using hl) (fun i j c hc => by
            obtain ⟨v, h1, h2⟩ := hv i j c hc
            exact ⟨v, by rw [Array.getElem?_toList]; exact h1, h2⟩)
          obtain ⟨zero, hzero⟩ : ∃ zero : Array Value, zero = if len * ti.size = 0 then #[] else z.cells := ⟨_, rfl⟩
          obtain ⟨cells', hf1, hf2, _, hf4⟩ := fill_dense ti.size vparts.toList 0 ((Array.range (len * ti.size)).map (zero[· % zero.size]!)) (fun j i' v hj => by
            have := hall j i' v hj
            exact ⟨this.1, this.2.1⟩) (by simp; rw [hl, hlen]; exact Nat.le_refl _)
          have hcs : cells'.size = len * ti.size := by rw [hf2]; simp
          obtain ⟨hH2, hE2⟩ := hH1.alloc (w1 := w) ⟨rfl, rfl, rfl, rfl⟩ cells' e (.vec e ti.size rows) ti.size len (fun S' n' hE hnew => by
            refine ⟨rfl, ?_, by simp; omega, hrr, by simp, fun b hb => ?_⟩
            · simp only [maxLen]; omega
            · cases hb
              refine ⟨_, hnew, hcs, fun e1 f1 c1 hh => ?_⟩
              obtain ⟨he1, hf1'⟩ := at2_lt hrr hh
              have hev : e1 < vparts.toList.length := by simp; omega
              obtain ⟨hj, hvs, hcell⟩ := hall e1 (vparts.toList[e1]).1 (vparts.toList[e1]).2 (List.getElem?_eq_getElem hev)
              have hfl : f1 < (vparts.toList[e1]).2.cells.size := by omega
              obtain ⟨d, hd, hR⟩ := hcell f1 _ (Array.getElem?_eq_getElem hfl)
              rw [hh] at hd; cases hd
              refine ⟨_, ?_, hE.rd hR⟩
              have := hf4 e1 f1 (vparts.toList[e1]).1 (vparts.toList[e1]).2 (List.getElem?_eq_getElem hev) hf1'
              rw [Nat.zero_add] at this
              rw [this]
              exact Array.getElem?_eq_getElem hfl)
          refine ⟨.slice (some ⟨w.heap.size, 0, none⟩) len len, _, _, ?_, hH2, hE1.trans hE2, ?_⟩
          · have hzv : (zeroValue e).run P w = .ok z w := by simp [zeroValue, typeInfo, hi, hz]
            by_cases h0 : len * ti.size = 0
            · rw [if_pos h0] at hzero
              rw [hzero] at hf1
              simp only [Instr.buildSlice, Sem.run_bind, run_underlying hu, Result.andThen_ok, (X.facts hti).sizeOf, if_neg (show ¬ len * ti.size > 2 ^ 24 by omega), if_pos h0, Sem.run_pure, hf1, newRow, newObj]
              simp [Sem.run]
            · rw [if_neg h0] at hzero
              rw [hzero] at hf1
              simp only [Instr.buildSlice, Sem.run_bind, run_underlying hu, Result.andThen_ok, (X.facts hti).sizeOf, if_neg (show ¬ len * ti.size > 2 ^ 24 by omega), if_neg h0, hzv, Sem.run_pure, hf1, newRow, newObj]
              simp [Sem.run]
          · have := R.sl (w := w.alloc (.cells cells' e)) (S := upd S1 n (some ⟨some w.heap.size, ti.size, len⟩)) (n := n + 1) n 0 len 0 ⟨some w.heap.size, ti.size, len⟩ (by omega) (by rw [upd_app, if_pos rfl]) (by simp) (fun _ => by simp) (fun _ => rfl)
            simpa using this
        · cases h
      · cases h
    · cases h
  · cases h
end
end Go.Vc
