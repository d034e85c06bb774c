/- The Vc layer: freezing, stores, allocations, make. -/
import Derived.Test.YtaoifpmifpmhmaaVc7
set_option linter.all false
namespace Go.Vc
open Go Go.RowKit
variable [Far]

def cleanD : D → D
  | .nils => .sl []
  | x => x

def pureL : List AV → Option (List D)
  | [] => some []
  | .d x :: cs => match pureL cs with
    | some ds => some (cleanD x :: ds)
    | none => none
  | _ => none

/-- A value as data: a box that it leads to is let go. -/
def fz1 (H : Heap) : AV → Option (Prop × D × Heap)
  | .d x => some (True, cleanD x, H)
  | .sl id off len => match H id with
    | some (.vec _ _ xs) => some (off + len ≤ xs.length, .sl ((xs.drop off).take len), upd H id none)
    | _ => none
  | .ptr id 0 0 => match H id with
    | some (.one _ cells) => match pureL cells with
      | some ds => some (True, .ptr ds, upd H id none)
      | none => none
    | _ => none
  | _ => none

def fz (H : Heap) : List AV → Option (Prop × List D × Heap)
  | [] => some (True, [], H)
  | c :: cs => match fz1 H c with
    | some (p, d, H1) => match fz H1 cs with
      | some (q, ds, H2) => some (p ∧ q, d :: ds, H2)
      | none => none
    | none => none

def cellsOfA : AV → List AV
  | .agg cs => cs
  | v => [v]

section
variable {P : Program} {X : Ctx P} {w w' : World} {S : Lays} {n : Nat} {W0 : World} {M0 : Nat → Prop} {H : Heap}

theorem RD.clean {O : Nat → Prop} {x : D} {v : Value} (h : RD w O x v) : RD w O (cleanD x) v := by
  cases h with
  | nils => exact .sl0 _ _
  | bool => exact .bool _
  | int => exact .int _ _
  | str => exact .str _
  | sl0 => exact .sl0 _ _
  | sl xs sz b o cap u h1 h2 h3 h4 h5 h6 => exact .sl xs sz b o cap u h1 h2 h3 h4 h5 h6
  | nilp => exact .nilp
  | ptr cs b o u h1 h2 h3 h4 => exact .ptr cs b o u h1 h2 h3 h4

theorem pureL_ok : ∀ {cs : List AV} {ds : List D}, pureL cs = some ds → ds.length = cs.length ∧ ∀ (i : Nat) (c : AV), cs[i]? = some c → ∃ d x, ds[i]? = some d ∧ c = .d x ∧ d = cleanD x := by
  intro cs
  induction cs with
  | nil => intro ds h; simp [pureL] at h; subst h; exact ⟨rfl, fun i c hc => by simp at hc⟩
  | cons c cs ih =>
    intro ds h
    unfold pureL at h
    split at h
    · rename_i heq; cases heq
    · rename_i x cs' heq
      simp only [List.cons.injEq] at heq
      obtain ⟨rfl, rfl⟩ := heq
      split at h
      · rename_i ds' hds
        simp only [Option.some.injEq] at h
        subst h
        obtain ⟨h1, h2⟩ := ih hds
        refine ⟨by simp [h1], fun i c hc => ?_⟩
        cases i with
        | zero => simp at hc; subst hc; exact ⟨_, x, rfl, rfl, rfl⟩
        | succ i => simpa using h2 i c (by simpa using hc)
      · cases h
    · cases h

theorem not_own_of (hH : HeapOk W0 M0 H n w S) {id : Nat} {l : Lay} {b : Nat} (hS : S id = some l) (hb : l.blk = some b) : ¬ own (upd S id none) b := by
  rintro (hf | ⟨i, l', h1, h2⟩)
  · exact (hH.far b (Far.sub b hf)).2 id l hS hb
  rw [upd_app] at h1
  split at h1
  · cases h1
  · rename_i h
    exact h (hH.inj i id l' l b h1 hS h2 hb)

theorem fz1_ok (hH : HeapOk W0 M0 H n w S) {c : AV} {p : Prop} {d : D} {H' : Heap} (h : fz1 H c = some (p, d, H')) (hp : p) :
    ∃ S', HeapOk W0 M0 H' n w S' ∧ Ext w S n w S' n ∧ ∀ u, R w S n c u → RD w (own S') d u := by
  unfold fz1 at h
  split at h
  · simp only [Option.some.injEq, Prod.mk.injEq] at h
    obtain ⟨_, rfl, rfl⟩ := h
    exact ⟨S, hH, Ext.refl _ _ _, fun u hu => by cases hu with | d h => exact h.clean⟩
  · rename_i id off len
    split at h
    · rename_i ty sz xs hb
      simp only [Option.some.injEq, Prod.mk.injEq] at h
      obtain ⟨rfl, rfl, rfl⟩ := h
      obtain ⟨hH', hE⟩ := hH.drop id
      refine ⟨_, hH', hE, fun u hu => ?_⟩
      obtain ⟨l, o, hS, ⟨hsz, _, _, hz, hnil, hbk⟩, rfl, hcap, ho, h0⟩ := hu.sl_live hH hb
      have hlen : ((xs.drop off).take len).length = len := by rw [List.length_take, List.length_drop]; omega
      by_cases hl0 : len = 0
      · subst hl0; rw [List.take_zero]; exact .sl0 _ _
      · cases hk : l.blk with
        | none => have := hnil hk; omega
        | some b =>
          obtain ⟨cur, hcur, hsize, hcell⟩ := hbk b hk
          have hpt : ∀ e f c, at2 ((xs.drop off).take len) e f = some c → ∃ u, w.cell? ⟨b, o + e * sz + f, none⟩ = some u ∧ RD w (own (upd S id none)) c u := fun e f c hh => by
            obtain ⟨u, hu', hr⟩ := hcell _ _ _ (at2_drop_take hh)
            refine ⟨u, ?_, hE.rd hr⟩
            rw [cell_of_row w b _ cur _ (0, 0) hcur, ho (by omega), hsz, show off * sz + e * sz + f = (off + e) * sz + f by rw [Nat.add_mul]]
            exact hu'
          have := RD.sl (w := w) (O := own (upd S id none)) ((xs.drop off).take len) sz b o (l.cap - off) (fun e f => (w.cell? ⟨b, o + e * sz + f, none⟩).getD undef) (by omega) (Array.getElem?_eq_some_iff.1 hcur).1 (not_own_of hH hS hk)
            (fun x hx => hz x (List.mem_of_mem_drop (List.mem_of_mem_take hx))) (fun e f c hh => by obtain ⟨u, hu, _⟩ := hpt e f c hh; rw [hu]; rfl) (fun e f c hh => by obtain ⟨u, hu, hr⟩ := hpt e f c hh; rw [hu]; exact hr)
          rw [hlen] at this
          exact this
    · cases h
  · rename_i id
    split at h
    · rename_i ty cells hb
      split at h
      · rename_i ds hds
        simp only [Option.some.injEq, Prod.mk.injEq] at h
        obtain ⟨_, rfl, rfl⟩ := h
        obtain ⟨hH', hE⟩ := hH.drop id
        refine ⟨_, hH', hE, fun u hu => ?_⟩
        obtain ⟨l, k, hS, ⟨hsz, hcap, k', hk', cur, hcur, hsize, hcell⟩, hk, rfl⟩ := hu.ptr_live hH hb
        rw [hk] at hk'; cases hk'
        obtain ⟨hdl, hdd⟩ := pureL_ok hds
        have hpt : ∀ f c, ds[f]? = some c → ∃ u, w.cell? ⟨k, 0 + f, none⟩ = some u ∧ RD w (own (upd S id none)) c u := fun f c hf => by
          have hlt : f < cells.length := by have := (List.getElem?_eq_some_iff.1 hf).1; omega
          obtain ⟨d, x, h1, h2, h3⟩ := hdd f _ (List.getElem?_eq_getElem hlt)
          rw [hf] at h1; cases h1
          obtain ⟨u, hu', _, hr⟩ := hcell f _ (List.getElem?_eq_getElem hlt)
          rw [h2] at hr
          cases hr with | d hr =>
          refine ⟨u, ?_, h3 ▸ (hE.rd hr).clean⟩
          rw [cell_of_row w k _ cur _ (0, 0) hcur, Nat.zero_add]; exact hu'
        rw [Nat.zero_mul, Nat.zero_add]
        exact .ptr ds k 0 (fun f => (w.cell? ⟨k, 0 + f, none⟩).getD undef) (Array.getElem?_eq_some_iff.1 hcur).1 (not_own_of hH hS hk)
          (fun f c hh => by obtain ⟨u, hu, _⟩ := hpt f c hh; rw [hu]; rfl) (fun f c hh => by obtain ⟨u, hu, hr⟩ := hpt f c hh; rw [hu]; exact hr)
      · cases h
    · cases h
  · cases h

theorem fz_ok : ∀ {cs : List AV} {H : Heap} {S : Lays} {p : Prop} {ds : List D} {H' : Heap}, HeapOk W0 M0 H n w S → fz H cs = some (p, ds, H') → p →
    ds.length = cs.length ∧ ∃ S', HeapOk W0 M0 H' n w S' ∧ Ext w S n w S' n ∧ ∀ (i : Nat) (c : AV) (u : Value), cs[i]? = some c → R w S n c u → ∃ d, ds[i]? = some d ∧ RD w (own S') d u := by
  intro cs
  induction cs with
  | nil =>
    intro H S p ds H' hH h hp
    simp only [fz, Option.some.injEq, Prod.mk.injEq] at h
    obtain ⟨_, rfl, rfl⟩ := h
    exact ⟨rfl, S, hH, Ext.refl _ _ _, fun i c u hc => by simp at hc⟩
  | cons c cs ih =>
    intro H S p ds H' hH h hp
    unfold fz at h
    split at h
    · rename_i p1 d H1 h1
      split at h
      · rename_i q ds' H2 h2
        simp only [Option.some.injEq, Prod.mk.injEq] at h
        obtain ⟨rfl, rfl, rfl⟩ := h
        obtain ⟨S1, hH1, hE1, hr1⟩ := fz1_ok hH h1 hp.1
        obtain ⟨hl, S2, hH2, hE2, hr2⟩ := ih hH1 h2 hp.2
        refine ⟨by simp [hl], S2, hH2, hE1.trans hE2, fun i c' u hc hu => ?_⟩
        cases i with
        | zero => simp at hc; subst hc; exact ⟨d, rfl, hE2.rd (hr1 u hu)⟩
        | succ i => simpa using hr2 i c' u (by simpa using hc) (hE1.r hu)
      · cases h
    · cases h

/-! ### stores -/
def aStore (ty : TypeId → Option TI) (H : Heap) (t : TypeId) (a x : AV) : Option (Prop × Heap) :=
  match ty t with
  | some ti => match a with
    | .ptr id e f => match H id with
      | some (.vec t' sz xs) => match fz H (cellsOfA x) with
        | some (p, ds, H1) => match xs[e]?, H1 id with
          | some row, some _ => if ds.length = ti.size then some (p ∧ f + ti.size ≤ sz, upd H1 id (some (.vec t' sz (xs.set e (splice row f ds))))) else none
          | _, _ => none
        | none => none
      | some (.one t' cells) => match cellsA H x with
        | some vs => if e = 0 ∧ vs.length = ti.size then some (f + ti.size ≤ cells.length, upd H id (some (.one t' (splice cells f vs)))) else none
        | none => none
      | none => none
    | _ => none
  | none => none

theorem setRow_same_size (w : World) (g : Nat) (cs : Array Value) : (w.setRow g cs).heap.size = w.heap.size := by simp [World.setRow]

theorem run_storeAt {t : TypeId} {ti : TI} (hT : TyFacts P t ti) {b o : Nat} {v : Value} {cur : Array Value} {e : TypeId} (hcur : w.heap[b]? = some (.cells cur e (0, 0))) (hs : v.cells.size = ti.size) (hfit : o + ti.size ≤ cur.size)
    (h1 : ∀ u ∈ v.cells.toList, u.oneCell' = true) : (Instr.storeAt t (.pointer (some ⟨b, o, none⟩)) v).run P w = .ok () (w.setRow b (splice cur.toList o v.cells.toList).toArray) := by
  have := run_storeCells_at (P := P) b o e v.cells.toList 0 cur w hcur (by simp; omega) h1
  simp only [Nat.add_zero] at this
  simp only [Instr.storeAt, Instr.sureAddr, storeVar, Sem.run_bind, Sem.run_pure, Result.andThen_ok, hT.sizeOf, hs]
  simp [this, splice]

theorem rowIx {sz e e' f f' g : Nat} (hf : f + g ≤ sz) (hf' : f' < sz) (hne : e' ≠ e) : ¬ (e * sz + f ≤ e' * sz + f' ∧ e' * sz + f' < e * sz + f + g) := by
  rintro ⟨h1, h2⟩
  rcases Nat.lt_or_gt_of_ne hne with h | h
  · have := Nat.mul_le_mul_right sz (show e' + 1 ≤ e from h)
    rw [Nat.add_mul] at this; omega
  · have := Nat.mul_le_mul_right sz (show e + 1 ≤ e' from h)
    rw [Nat.add_mul] at this; omega

theorem oneCell_cells {v : Value} (h : v.oneCell' = true) : v.cells = #[v] := by cases v <;> first | rfl | cases h

theorem aStore_ok (hH : HeapOk W0 M0 H n w S) {t : TypeId} {a x : AV} {va vx : Value} {p : Prop} {H' : Heap} (h : aStore X.ty H t a x = some (p, H')) (hp : p) (ha : R w S n a va) (hx : R w S n x vx) :
    ∃ w' S', (Instr.storeAt t va vx).run P w = .ok () w' ∧ HeapOk W0 M0 H' n w' S' ∧ Ext w S n w' S' n := by
  unfold aStore at h
  split at h
  · rename_i ti hty
    have hT := X.facts hty
    split at h
    · rename_i id e f
      split at h
      · rename_i t' sz xs hb
        split at h
        · rename_i q ds H1 hfz
          split at h
          · rename_i row b1 hrow hb1
            split at h
            · rename_i hdl
              simp only [Option.some.injEq, Prod.mk.injEq] at h
              obtain ⟨rfl, rfl⟩ := h
              obtain ⟨hdl', S1, hH1, hE1, hr1⟩ := fz_ok hH hfz hp.1
              obtain ⟨l, k, hS, ⟨hsz, hcm, hxl, hz, hnil, hbk⟩, hk, rfl⟩ := ha.ptr_live hH hb
              obtain ⟨cur, hcur, hsize, hcell⟩ := hbk k hk
              subst hsz
              have hel : e < xs.length := (List.getElem?_eq_some_iff.1 hrow).1
              have hrl : row.length = l.sz := hz row (List.mem_of_getElem? hrow)
              -- the value's cells
              have hcells : vx.cells.size = (cellsOfA x).length ∧ ∀ (i : Nat) (c : AV), (cellsOfA x)[i]? = some c → ∃ u, vx.cells[i]? = some u ∧ R w S n c u := by
                cases x with
                | agg cs =>
                  cases hx with | agg _ us hl h1 hr =>
                  refine ⟨by simpa [Value.cells, cellsOfA] using hl, fun i c hc => ?_⟩
                  have hi : i < us.length := by have := (List.getElem?_eq_some_iff.1 hc).1; simp [cellsOfA] at this; omega
                  exact ⟨us[i], by simp [Value.cells, List.getElem?_eq_getElem hi], hr i c _ hc (List.getElem?_eq_getElem hi)⟩
                | _ =>
                  have hone : vx.oneCell' = true := by
                    simp only [cellsOfA, fz] at hfz
                    split at hfz
                    · rename_i p1 d1 H2 h1
                      obtain ⟨_, _, _, hr⟩ := fz1_ok hH h1 (by
                        simp only [Option.some.injEq, Prod.mk.injEq] at hfz
                        exact (hfz.1 ▸ hp.1).1)
                      exact (hr vx hx).one
                    · cases hfz
                  rw [oneCell_cells hone]
                  refine ⟨rfl, fun i c hc => ?_⟩
                  cases i with
                  | zero => simp [cellsOfA] at hc; subst hc; exact ⟨vx, rfl, hx⟩
                  | succ i => simp [cellsOfA] at hc
              have hget : ∀ (j : Nat) (u : Value), vx.cells.toList[j]? = some u → ∃ d, ds[j]? = some d ∧ RD w (own S1) d u := fun j u hj => by
                have hjl : j < (cellsOfA x).length := by have := (List.getElem?_eq_some_iff.1 hj).1; simp at this; omega
                obtain ⟨u', hu', hR⟩ := hcells.2 j _ (List.getElem?_eq_getElem hjl)
                rw [← Array.getElem?_toList, hj] at hu'; cases hu'
                exact hr1 j _ u (List.getElem?_eq_getElem hjl) hR
              have hsizev : vx.cells.size = ti.size := by rw [hcells.1, ← hdl']; exact hdl
              have hcs : cur.size = l.cap * l.sz := hsize
              have hfit : e * l.sz + f + ti.size ≤ cur.size := by
                rw [hcs]
                have := Nat.mul_le_mul_right l.sz (show e + 1 ≤ l.cap by omega)
                rw [Nat.add_mul] at this; omega
              have hrun := run_storeAt hT (o := e * l.sz + f) hcur hsizev hfit (fun u hu => by
                obtain ⟨j, hj⟩ := List.getElem?_of_mem hu
                obtain ⟨d, _, hd⟩ := hget j u hj
                exact hd.one)
              have hS1 : S1 id = some l := by
                obtain ⟨l1, hl1, _⟩ := hH1.box id b1 hb1
                rcases hE1.old id (hH.lt hS) with e' | e'
                · rw [e', hS]
                · rw [e'] at hl1; cases hl1
              obtain ⟨hH2, hE2⟩ := hH1.write (w' := w.setRow k (splice cur.toList (e * l.sz + f) vx.cells.toList).toArray) hS1 hk (.vec t' l.sz (xs.set e (splice row f ds))) (by rw [hb1]; rfl) (by simp) rfl rfl (setRow_same_size _ _ _)
                (fun d hd => setRow_other w k d _ hd) (fun hE => by
                  refine ⟨rfl, hcm, by simpa using hxl, fun y hy => ?_, hnil, fun k' hk' => ?_⟩
                  · rcases List.mem_or_eq_of_mem_set hy with hy | rfl
                    · exact hz y hy
                    · rw [splice_length (by rw [hdl, hrl]; exact hp.2)]; exact hrl
                  · rw [hk] at hk'; cases hk'
                    refine ⟨_, setRow_heap w k cur _ t' (0, 0) hcur, ?_, fun e' f' c hh => ?_⟩
                    · simp only [List.size_toArray]
                      rw [splice_length (by simp; omega)]
                      simpa using hsize
                    · obtain ⟨row', hrow', hf'⟩ := at2_some hh
                      simp only [List.getElem?_toArray]
                      rw [splice_get (by simp; omega)]
                      rw [List.getElem?_set] at hrow'
                      by_cases hee : e = e'
                      · subst hee
                        rw [if_pos rfl, if_pos hel] at hrow'
                        cases hrow'
                        rw [splice_get (by rw [hdl, hrl]; exact hp.2)] at hf'
                        simp only [Array.length_toList, hsizev]
                        split at hf'
                        · rename_i hin
                          rw [hdl] at hin
                          rw [if_pos (by omega)]
                          have hj : f' - f < vx.cells.toList.length := by simp; omega
                          obtain ⟨d, hd, hR⟩ := hget (f' - f) _ (List.getElem?_eq_getElem hj)
                          rw [hd] at hf'; cases hf'
                          exact ⟨_, by rw [show e * l.sz + f' - (e * l.sz + f) = f' - f by omega]; exact List.getElem?_eq_getElem hj, hE.rd hR⟩
                        · rename_i hin
                          rw [hdl] at hin
                          rw [if_neg (by omega), Array.getElem?_toList]
                          obtain ⟨u, hu, hR⟩ := hcell e f' c (by simp [at2, hrow, hf'])
                          exact ⟨u, hu, hE.rd (hE1.rd hR)⟩
                      · rw [if_neg hee] at hrow'
                        have hrl' : f' < l.sz := by
                          have h1 := (List.getElem?_eq_some_iff.1 hf').1
                          rw [hz row' (List.mem_of_getElem? hrow')] at h1; exact h1
                        rw [if_neg (by simp only [Array.length_toList, hsizev]; exact rowIx hp.2 hrl' (fun h => hee h.symm)), Array.getElem?_toList]
                        obtain ⟨u, hu, hR⟩ := hcell e' f' c (by simp [at2, hrow', hf'])
                        exact ⟨u, hu, hE.rd (hE1.rd hR)⟩)
              exact ⟨_, _, hrun, hH2, hE1.trans hE2⟩
            · cases h
          · cases h
        · cases h
      · rename_i t' cells hb
        split at h
        · rename_i vs hvs
          split at h
          · rename_i hc
            obtain ⟨rfl, hvl⟩ := hc
            simp only [Option.some.injEq, Prod.mk.injEq] at h
            obtain ⟨rfl, rfl⟩ := h
            obtain ⟨l, k, hS, ⟨hsz, hcap, k', hk', cur, hcur, hsize, hcell⟩, hk, rfl⟩ := ha.ptr_live hH hb
            rw [hk] at hk'; cases hk'
            obtain ⟨hv1, hv2⟩ := cellsA_ok hH hvs hx
            have hsizev : vx.cells.size = ti.size := by omega
            have hone : ∀ u ∈ vx.cells.toList, u.oneCell' = true := fun u hu => by
              obtain ⟨j, hj⟩ := List.getElem?_of_mem hu
              have hjl : j < vs.length := by have := (List.getElem?_eq_some_iff.1 hj).1; simp at this; omega
              obtain ⟨u', hu', h1, _⟩ := hv2 j _ (List.getElem?_eq_getElem hjl)
              rw [← Array.getElem?_toList, hj] at hu'; cases hu'; exact h1
            rw [Nat.zero_mul, Nat.zero_add]
            have hrun := run_storeAt hT (o := f) hcur hsizev (by omega) hone
            obtain ⟨hH2, hE2⟩ := hH.write (w' := w.setRow k (splice cur.toList f vx.cells.toList).toArray) hS hk (.one t' (splice cells f vs)) (by rw [hb]; rfl) (by simp) rfl rfl (setRow_same_size _ _ _)
              (fun d hd => setRow_other w k d _ hd) (fun hE => by
                refine ⟨by rw [splice_length (by omega)]; exact hsz, hcap, k, hk, _, setRow_heap w k cur _ t' (0, 0) hcur, ?_, fun g c hg => ?_⟩
                · simp only [List.size_toArray]
                  rw [splice_length (by simp; omega), splice_length (by omega)]
                  simpa using hsize
                · rw [splice_get (by omega)] at hg
                  simp only [List.getElem?_toArray]
                  rw [splice_get (by simp; omega)]
                  simp only [Array.length_toList, hsizev]
                  split at hg
                  · rename_i hin
                    rw [hvl] at hin
                    rw [if_pos hin]
                    obtain ⟨u, hu, h1, hR⟩ := hv2 _ _ hg
                    exact ⟨u, by rw [Array.getElem?_toList]; exact hu, h1, hE.r hR⟩
                  · rename_i hin
                    rw [hvl] at hin
                    rw [if_neg hin, Array.getElem?_toList]
                    obtain ⟨u, hu, h1, hR⟩ := hcell g c hg
                    exact ⟨u, hu, h1, hE.r hR⟩)
            exact ⟨_, _, hrun, hH2, hE2⟩
          · cases h
        · cases h
      · cases h
    · cases h
  · cases h
end
end Go.Vc
