/- Walks, printed by wip/gen/walk.py. -/
import Derived.Test.YtcjipciiljjfhaaDoorT31
import Derived.Test.YtcjipciiljjfhaaDoorV5
import Derived.Test.YtcjipciiljjfhaaDoorChecked
import Derived.RangeFuncBox
import Derived.RangeFuncLeaves
import Derived.Shelf.Abstract
import Derived.WalkKit
import Derived.OwnWalkIn
import Derived.TacticsInMore
import Derived.LoopNIn
import Derived.LoopIn
import Derived.RegionIn
set_option linter.all false
set_option maxRecDepth 100000
set_option maxHeartbeats 4000000
namespace Go.Proofs.YtcjipciiljjfhaaDoor
open Go Go.Vc Go.RowKit
end Go.Proofs.YtcjipciiljjfhaaDoor
namespace Go.Vc
open Go Go.RowKit
/-- An iterator that keeps its place in a variable of its own: the closure g over pointers to own cells; that at q holds v0 k in round k, the others hold cs. -/
structure IterW (P : Program) (g : FuncId) (ar : Nat) (xs : List (List AV)) (q : Nat) (v0 : Nat → Value) (cs : List Value) : Prop where
  ent : enters P g = true
  len : ∀ x ∈ xs, x.length = ar
  pos : 0 < xs.length
  run : ∃ encs : Nat → List Value, (∀ k, (encs k).length = ar) ∧ (∀ [Far] (w : World) (S : Lays) (n : Nat) (k : Nat) (x : List AV), xs[k]? = some x → ∀ (i : Nat) (c : AV) (u : Value), x[i]? = some c → (encs k)[i]? = some u → R w S n c u) ∧
    ∀ (b0 : Nat) (bs : List Nat) (l : Nat) (J Ja : Nat → World → Prop) (Jx : World → Prop) (W : World), bs[q]? = some b0 →
      (∀ k W, J k W ∨ Ja k W → (W.cell? ⟨b0, 0, none⟩ = some (v0 k) ∧ W.frozen? ⟨b0, 0, none⟩ = false) ∧ ∀ (j : Nat) (b : Nat) (v : Value), j ≠ q → bs[j]? = some b → cs[j]? = some v → W.cell? ⟨b, 0, none⟩ = some v) →
      (∀ (k : Nat) (W : World) (d : Nat), J k W → J k { W with drawn := d }) → (∀ (k : Nat) (W : World) (d : Nat), Ja k W → Ja k { W with drawn := d }) →
      (∀ k W, Ja k W → J (k + 1) (W.setCell ⟨b0, 0, none⟩ (v0 (k + 1)))) → bs.length = cs.length →
      (∀ k W1, J k W1 → k < xs.length → YieldAt Fence.wide 0 P l (encs k).toArray W1 fun e W' => (e = .returned (.bool true) ∧ Ja k W') ∨ (e = .returned (.bool false) ∧ Jx W')) → J 0 W →
      CallsIn Fence.wide 0 P g (#[.func (.yield l) #[] #[]] ++ (bs.map fun b => Value.pointer (some ⟨b, 0, none⟩)).toArray) W fun e W' => (∃ v, e = .returned v) ∧ (Ja (xs.length - 1) W' ∨ Jx W')
theorem ptrs_of [Far] {w : World} {S : Lays} {n : Nat} : ∀ (ids : List Nat) (lb : List Value), lb.length = ids.length → (∀ (i : Nat) (c : AV) (u : Value), (ids.map fun i => AV.ptr i 0 0)[i]? = some c → lb[i]? = some u → R w S n c u) → (∀ id ∈ ids, ∃ l b, S id = some l ∧ l.blk = some b) →
    ∃ bks : List Nat, bks.length = ids.length ∧ lb = (bks.map fun b => Value.pointer (some ⟨b, 0, none⟩)) ∧ ∀ (j id b : Nat), ids[j]? = some id → bks[j]? = some b → ∃ l, S id = some l ∧ l.blk = some b
  | [], lb, hl, _, _ => by
    have : lb = [] := List.eq_nil_of_length_eq_zero hl
    subst this
    exact ⟨[], rfl, rfl, fun j id b h => by simp at h⟩
  | id :: ids, [], hl, _, _ => by cases hl
  | id :: ids, v :: lb, hl, hr, hlv => by
    obtain ⟨bks, h1, h2, h3⟩ := ptrs_of ids lb (by simpa using hl) (fun i c u hc hu => hr (i + 1) c u (by simpa using hc) (by simpa using hu)) (fun id hid => hlv id (by simp [hid]))
    obtain ⟨l, b, hS, hb⟩ := hlv id (by simp)
    have hv := hr 0 _ v rfl rfl
    have he : v = .pointer (some ⟨b, 0, none⟩) := by
      cases hv with
      | ptrDead _ _ _ _ _ h => rw [hS] at h; cases h
      | ptr _ _ _ b' l' _ h hb' =>
        rw [hS] at h; cases h
        rw [hb] at hb'; cases hb'
        simp
    refine ⟨b :: bks, by simp [h1], by rw [h2, he]; rfl, fun j id' b' hj hb' => ?_⟩
    cases j with
    | zero => simp at hj hb'; subst hj hb'; exact ⟨l, hS, hb⟩
    | succ j => exact h3 j id' b' (by simpa using hj) (by simpa using hb')
section
variable [F : Far] {P : Program} {E : Env P} {W0 : World} {M0 : Nat → Prop}
theorem vc_rangeW (hρ : E.ρ = none) {fl : List (Nat × AV)} {bl : List (Option Box)} {f : Operand} {ps : List Tmp} {assign body : Code} {g : FuncId} {id0 : Nat} {ids : List Nat} {ar q : Nat} {xs : List (List AV)} {v0 : Nat → Value} {cs : List Value} {K : Exit → St → Prop}
    (hit : IterW P g ar xs q v0 cs) (hf : evO (getF fl) f = .clo (.func g) (ids.map fun i => .ptr i 0 0)) (hqi : ids[q]? = some id0) (hps : (decide (ps.length = ar) && decide ps.Nodup && ps.all (fun p => decide (p < E.N))) = true) (m : Nat) (hm : (fl.all (fun q => lt3 m q.2)) = true) (hids : ∀ id ∈ ids, id < m) (hml : m ≤ bl.length) (hnp : Far.np ≤ m) (hmk : Far.marks = true)
    (bs be : Nat → List (Option Box)) (h0 : bs 0 = bl) (hbs : ∀ k, m ≤ (bs k).length) (ty0 : TypeId) (d0 : Nat → D) (hd0 : ∀ k (w : World) (O : Nat → Prop) (u : Value), RD w O (d0 k) u ↔ u = v0 k)
    (hb0 : ∀ k, getB (bs k) id0 = some (.one ty0 [.d (d0 k)]) ∧ getB (be k) id0 = some (.one ty0 [.d (d0 k)]))
    (hb1 : ∀ (k j id : Nat), j ≠ q → ids[j]? = some id → ∃ ty d v, cs[j]? = some v ∧ getB (bs k) id = some (.one ty [.d d]) ∧ getB (be k) id = some (.one ty [.d d]) ∧ ∀ (w : World) (O : Nat → Prop) (u : Value), RD w O d u → u = v)
    (hcl : cs.length = ids.length) (hst : ∀ k, getB (bs (k + 1)) = upd (getB (be k)) id0 (some (.one ty0 [.d (d0 (k + 1))])) ∧ (bs (k + 1)).length = (be k).length)
    (fa : Nat → List AV → List (Nat × AV)) (ba : Nat → List (Option Box))
    (hass : ∀ (k : Nat) (x : List AV) (l : Nat), xs[k]? = some x → ∀ [Far] (W0 : World) (M0 : Nat → Prop), Far.np = m → VC (E.inR l) W0 M0 assign (mkSt (setPs ps x fl) (bs k)) (fun e st => e = .normal ∧ ∃ ρ : Ren, subOk m ρ st (fa k x) (ba k)))
    (Q : Nat → Prop) (hQ : Q 0) (hbody : ∀ (k : Nat) (x : List AV) (l : Nat), xs[k]? = some x → Q k → ∀ [Far] (W0 : World) (M0 : Nat → Prop), Far.np = m → VC (E.inR l) W0 M0 body (mkSt (fa k x) (ba k)) (fun e st => roundK E fl m (be k) K e st ∧ (e = .normal → Q (k + 1))))
    (hK : Q xs.length → K .normal (mkSt fl (be (xs.length - 1)))) : VC E W0 M0 (.rangeFunc f ps.toArray assign body) (mkSt fl bl) K := by
  intro a w hs
  obtain ⟨S, hH, hF, hM⟩ := hs
  simp only [Bool.and_eq_true, decide_eq_true_eq] at hps
  obtain ⟨⟨hpl, hpn⟩, hpN⟩ := hps
  have hH : HeapOk W0 M0 (getB bl) bl.length w S := hH
  have hfl : ∀ i, R w S m (getF fl i) (a.tmps.getD i undef) := fun i => by
    have h1 : R w S bl.length (getF fl i) (a.tmps.getD i undef) := hF.at_ i
    have h2 : ∀ (fl : List (Nat × AV)), (fl.all fun q => lt3 m q.2) = true → lt3 m (getF fl i) = true := by
      intro fl
      induction fl with
      | nil => intro _; rfl
      | cons q fl ih =>
        intro h
        obtain ⟨j, c⟩ := q
        simp only [List.all_cons, Bool.and_eq_true] at h
        simp only [getF]
        split
        · exact h.1
        · exact ih h.2
    exact lt3_ok (h2 fl hm) h1
  have hev : R w S bl.length (evO (getF fl) f) (a.eval f) := evO_ok hH.gl (a := a) hF.at_ f
  rw [hf] at hev
  generalize hvf : a.eval f = vf at hev
  cases hev with | clo _ _ lb hlb hlr =>
  obtain ⟨encs, hel, her, hrun⟩ := hit.run
  have hlive : ∀ id ∈ ids, ∃ l b, S id = some l ∧ l.blk = some b := fun id hid => by
    have : ∃ ty d, getB bl id = some (.one ty [.d d]) := by
      obtain ⟨j, hj⟩ := List.getElem?_of_mem hid
      by_cases hjq : j = q
      · subst hjq
        rw [hqi] at hj; cases hj
        exact ⟨_, _, by rw [← h0]; exact (hb0 0).1⟩
      · obtain ⟨ty, d, v, _, h, _⟩ := hb1 0 j id hjq hj
        exact ⟨ty, d, by rw [← h0]; exact h⟩
    obtain ⟨ty, d, h⟩ := this
    obtain ⟨l, hl, _, _, b, hb, _⟩ := hH.box id _ h
    exact ⟨l, b, hl, hb⟩
  obtain ⟨bks, hbl, rfl, hbk⟩ := ptrs_of ids lb (by simpa using hlb) hlr hlive
  have hid0 : id0 ∈ ids := List.mem_of_getElem? hqi
  obtain ⟨b0, hqb⟩ : ∃ b0, bks[q]? = some b0 := ⟨_, List.getElem?_eq_getElem (by rw [hbl]; exact (List.getElem?_eq_some_iff.1 hqi).1)⟩
  obtain ⟨l0, hS0, hlb0⟩ := hbk q id0 b0 hqi hqb
  have hseq := fun l J Ja Jx W => hrun b0 bks l J Ja Jx W hqb
  show Code.wpIn (fen E.ρ) 0 P _ _ a w
  rw [show fen E.ρ = Fence.wide by rw [hρ]; rfl]
  refine wpIn_rangeFunc ?_
  intro fn hfn
  obtain ⟨rec, hrec⟩ : ∃ rec : LoopState → Option Code → Loop, rec = fun st pe => { state := st, pending := pe, fn, tmps := a.tmps, params := ps.toArray, assign, body, defers := w.heap.size } := ⟨_, rfl⟩
  obtain ⟨W1, hW1⟩ : ∃ W1, (w.alloc (.deferred (some []))).alloc (.loop (rec .ready none)) = W1 := ⟨_, rfl⟩
  have hL1 : W1.heap[w.heap.size + 1]? = some (.loop (rec .ready none)) := by
    rw [← hW1]; have := World.alloc_heap_new (w.alloc (.deferred (some []))) (.loop (rec .ready none)); rwa [World.size_alloc] at this
  have hK1 : W1.heap[w.heap.size]? = some (.deferred (some [])) := by
    rw [← hW1]; exact (Below.heap_alloc _ _ _ (by simp)).trans (World.alloc_heap_new w _)
  obtain ⟨hHa, hEa⟩ := hH.alloc_other (.deferred (some []))
  obtain ⟨hHb, hEb⟩ := hHa.alloc_other (.loop (rec .ready none))
  rw [hW1] at hHb hEb
  have hE1 : Ext w S m W1 S m := by
    have h := hEa.trans hEb
    exact ⟨Nat.le_refl _, h.size, fun _ _ => .inl rfl, h.new, h.same⟩
  have hsz := hH.size
  have hown : ∀ b, own S b → b < w.heap.size := own_lt hH
  -- what holds between two rounds
  obtain ⟨J0, hJ0⟩ : ∃ J0 : Obj → List (Option Box) → World → Prop, J0 = fun o bk W => ∃ Sk, HeapOk W0 M0 (getB bk) bk.length W Sk ∧ Ext w S m W Sk bk.length ∧ ¬ own Sk w.heap.size ∧ ¬ own Sk (w.heap.size + 1) ∧
      W.heap[w.heap.size + 1]? = some o ∧ W.heap[w.heap.size]? = some (.deferred (some [])) := ⟨_, rfl⟩
  have hbusy : ∀ (o o' : Obj) bk W, (∀ cur t z, o ≠ .cells cur t z) → J0 o bk W → J0 o' bk (W.putObj (w.heap.size + 1) o') := by
    intro o o' bk W ho hj
    rw [hJ0] at hj ⊢
    obtain ⟨Sk, h1, h2, h3, h4, h5, h6⟩ := hj
    refine ⟨Sk, h1.of_putObj h5 ho (by omega) h4, ?_, h3, h4, World.putObj_heap_same (Array.getElem?_eq_some_iff.1 h5).1, (World.putObj_heap_other (by omega)).trans h6⟩
    exact ⟨h2.le, by simp; exact h2.size, h2.old, h2.new, fun b hb hno => (World.putObj_heap_other (by omega)).trans (h2.same b hb hno)⟩
  have cellof : ∀ {o : Obj} {bk : List (Option Box)} {W : World} {id : Nat} {l : Lay} {b : Nat} {ty : TypeId} {d : D} {v : Value}, J0 o bk W → id < m → S id = some l → l.blk = some b → getB bk id = some (.one ty [.d d]) → (∀ (w : World) (O : Nat → Prop) (u : Value), RD w O d u → u = v) →
      W.cell? ⟨b, 0, none⟩ = some v ∧ W.frozen? ⟨b, 0, none⟩ = false := by
    intro o bk W id l b ty d v hj hid hS hb hbx hv
    rw [hJ0] at hj
    obtain ⟨Sk, h1, h2, _⟩ := hj
    obtain ⟨l', hl', hB⟩ := h1.box id _ hbx
    have : l' = l := by
      rcases h2.old id hid with e | e
      · rw [e, hS] at hl'; exact (Option.some.inj hl').symm
      · rw [e] at hl'; cases hl'
    subst this
    obtain ⟨e1, e2, b', hb', cur, hcur, hsz, hcell⟩ := hB
    rw [hb] at hb'; cases hb'
    obtain ⟨u, hu, _, hr⟩ := hcell 0 _ rfl
    cases hr with | d hr =>
    have := hv _ _ _ hr
    subst this
    exact ⟨by simp [World.cell?, hcur, hu], by simp [World.frozen?, hcur]⟩
  have hJc : ∀ (bb : Nat → List (Option Box)) k W, (∀ (j id : Nat), j ≠ q → ids[j]? = some id → ∃ ty d v, cs[j]? = some v ∧ getB (bb k) id = some (.one ty [.d d]) ∧ ∀ (w : World) (O : Nat → Prop) (u : Value), RD w O d u → u = v) → getB (bb k) id0 = some (.one ty0 [.d (d0 k)]) → J0 (.loop (rec .ready none)) (bb k) W →
      (W.cell? ⟨b0, 0, none⟩ = some (v0 k) ∧ W.frozen? ⟨b0, 0, none⟩ = false) ∧ ∀ (j : Nat) (b : Nat) (v : Value), j ≠ q → bks[j]? = some b → cs[j]? = some v → W.cell? ⟨b, 0, none⟩ = some v := by
    intro bb k W g1 g2 hj
    refine ⟨cellof hj (hids id0 hid0) hS0 hlb0 g2 fun w O u => (hd0 k w O u).1, fun j b v hjq hb hv => ?_⟩
    have hjl : j < ids.length := by rw [← hcl]; exact (List.getElem?_eq_some_iff.1 hv).1
    obtain ⟨id, hid⟩ : ∃ id, ids[j]? = some id := ⟨_, List.getElem?_eq_getElem hjl⟩
    obtain ⟨l, hS, hlb'⟩ := hbk j id b hid hb
    obtain ⟨ty, d, v', hv', hbx, hd⟩ := g1 j id hjq hid
    rw [hv] at hv'; cases hv'
    exact (cellof hj (hids id (List.mem_of_getElem? hid)) hS hlb' hbx hd).1
  have hJs : ∀ k W, J0 (.loop (rec .ready none)) (be k) W → J0 (.loop (rec .ready none)) (bs (k + 1)) (W.setCell ⟨b0, 0, none⟩ (v0 (k + 1))) := by
    intro k W hj
    have hj' := hj
    rw [hJ0] at hj ⊢
    obtain ⟨Sk, h1, h2, h3, h4, h5, h6⟩ := hj
    obtain ⟨l', hl', hB⟩ := h1.box id0 _ (hb0 k).2
    have : l' = l0 := by
      rcases h2.old id0 (hids id0 hid0) with e | e
      · rw [e, hS0] at hl'; exact (Option.some.inj hl').symm
      · rw [e] at hl'; cases hl'
    subst this
    obtain ⟨e1, e2, b', hb', cur, hcur, hsz, hcell⟩ := hB
    rw [hlb0] at hb'; cases hb'
    have hne : ∀ d, d ≠ b0 → (W.setCell ⟨b0, 0, none⟩ (v0 (k + 1))).heap[d]? = W.heap[d]? := fun d hd => by
      have hd' : b0 ≠ d := fun e => hd e.symm
      simp [World.setCell, Array.getElem?_modify, hd']
    have hat : (W.setCell ⟨b0, 0, none⟩ (v0 (k + 1))).heap[b0]? = some (.cells (cur.setIfInBounds 0 (v0 (k + 1))) ty0 (0, 0)) := by
      simp [World.setCell, Array.getElem?_modify, hcur]
    have hown0 : own Sk b0 := .inr ⟨id0, l', hl', .inl hlb0⟩
    have hone : (v0 (k + 1)).oneCell' = true := ((hd0 (k + 1) W (own Sk) _).2 rfl).one
    obtain ⟨w1, w2⟩ := h1.write2 (w' := W.setCell ⟨b0, 0, none⟩ (v0 (k + 1))) hl' (.inl hlb0) (.one ty0 [.d (d0 (k + 1))]) (by rw [(hb0 k).2]; rfl) rfl rfl rfl (by simp [World.setCell]) hne
      (fun hE => ⟨e1, e2, b0, hlb0, _, hat, by simpa using hsz, fun f c hc => by
        cases f with
        | zero =>
          simp only [List.getElem?_cons_zero, Option.some.injEq] at hc
          subst hc
          have : 0 < cur.size := by rw [hsz]; simp
          exact ⟨v0 (k + 1), by simp [this], hone, .d ((hd0 (k + 1) _ _ _).2 rfl)⟩
        | succ f => simp at hc⟩) (fun _ => h1.plain id0 _ _ (hb0 k).2 hl' rfl)
    obtain ⟨s1, s2⟩ := hst k
    dsimp only
    rw [s1, s2]
    refine ⟨Sk, w1, ⟨h2.le, by have := h2.size; have := w2.size; omega, h2.old, h2.new, fun b hb hno => ?_⟩, h3, h4, (hne _ (fun e => h4 (by rw [e]; exact hown0))).trans h5, (hne _ (fun e => h3 (by rw [e]; exact hown0))).trans h6⟩
    exact (hne b (fun e => hno (by rw [e]; exact .inr ⟨id0, l', hS0, .inl hlb0⟩))).trans (h2.same b hb hno)
  -- a piece of a round, walked in a view of its own
  have piece : ∀ {o : Obj} {bk : List (Option Box)} {W : World} {c : Code} {fk : List (Nat × AV)} {t : Array Value} {l : Nat} {Q : Exit → Act → World → Prop} {K1 : Exit → St → Prop},
      m ≤ bk.length → J0 o bk W → (∀ Sk, HeapOk W0 M0 (getB bk) bk.length W Sk → Ext w S m W Sk bk.length → ∀ i, R W Sk bk.length (getF fk i) (t.getD i undef)) → t.size = E.N →
      (∀ [Far] (W0 : World) (M0 : Nat → Prop), Far.np = m → VC (E.inR l) W0 M0 c (mkSt fk bk) K1) →
      (∀ e st a' W', K1 e st → (∀ {ρ : Ren} {fl' : List (Nat × AV)} {bn : List (Option Box)}, subOk m ρ st fl' bn → J0 o bn W' ∧ ∀ Sk', HeapOk W0 M0 (getB bn) bn.length W' Sk' → True) →
        (∀ {ρ : Ren} {fl' : List (Nat × AV)} {bn : List (Option Box)}, subOk m ρ st fl' bn → ∃ Sk', HeapOk W0 M0 (getB bn) bn.length W' Sk' ∧ Ext w S m W' Sk' bn.length ∧ ¬ own Sk' w.heap.size ∧ ¬ own Sk' (w.heap.size + 1) ∧ ∀ i, R W' Sk' bn.length (getF fl' i) (a'.tmps.getD i undef)) →
        W'.heap[w.heap.size + 1]? = some o → W'.heap[w.heap.size]? = some (.deferred (some [])) → a'.tmps.size = E.N → a'.defers = [] → Q e a' W') →
      c.wpIn (Fence.wide.inRound l) 0 P Q { tmps := t, defers := [] } W := by
    intro o bk W c fk t l Q K1 hmk hj hfk ht hvc hQ
    rw [hJ0] at hj
    obtain ⟨Sk, h1, h2, h3, h4, h5, h6⟩ := hj
    have hd := h1.down hmk
    have hv := @hvc (own_view F W Sk m (far_lt h1) (far_no h1)) W (liveM (getB bk) Sk) rfl { tmps := t, defers := [] } W
      ⟨Sk, hd, @FrOk.mk (own_view F W Sk m (far_lt h1) (far_no h1)) _ _ _ _ _ _ ht (fun i => R.far (G := F) (G' := own_view F W Sk m (far_lt h1) (far_no h1)) (fun _ _ h => h) (hfk Sk h1 h2 i)), @Marks.nil (own_view F W Sk m (far_lt h1) (far_no h1)) _ _ _⟩
    have hv : c.wpIn (Fence.wide.inRound l) 0 P _ { tmps := t, defers := [] } W := hv
    refine wpIn_mono hv ?_
    rintro e a' W' ⟨st, hK1, S1, hH1, hF1, hM1⟩
    have hde : a'.defers = [] := @Marks.let_ (own_view F W Sk m (far_lt h1) (far_no h1)) _ _ _ _ hM1 rfl
    have hno : ∀ b, b < W.heap.size → ¬ own Sk b → W'.heap[b]? = W.heap[b]? := fun b hb hno => (HeapOk.up h1 hmk hnp hH1).2.same b hb hno
    have hlt1 : w.heap.size + 1 < W.heap.size := (Array.getElem?_eq_some_iff.1 h5).1
    have e5 := (hno _ hlt1 h4).trans h5
    have e6 := (hno _ (by omega) h3).trans h6
    have main : ∀ {ρ : Ren} {fl' : List (Nat × AV)} {bn : List (Option Box)}, subOk m ρ st fl' bn → ∃ Sk', HeapOk W0 M0 (getB bn) bn.length W' Sk' ∧ Ext w S m W' Sk' bn.length ∧ ¬ own Sk' w.heap.size ∧ ¬ own Sk' (w.heap.size + 1) ∧ ∀ i, R W' Sk' bn.length (getF fl' i) (a'.tmps.getD i undef) := by
      intro ρ fl' bn hsub
      obtain ⟨g1, g2, g3⟩ := hsub
      rw [Bool.and_eq_true] at g1
      have hren := @HeapOk.ren (own_view F W Sk m (far_lt h1) (far_no h1)) W' S1 st.n W _ st.H ρ bn hH1 g1.1 (fun i hi => pins_ok g1.2 i hi) g2
      have hlen := (mtBs_ok g2).1
      obtain ⟨k1, k2⟩ := HeapOk.up h1 hmk hnp hren
      refine ⟨renS ρ bn S1, k1, ?_, k2.new _ (by omega) h3, k2.new _ hlt1 h4, fun i => ?_⟩
      · refine ⟨k2.le, Nat.le_trans h2.size k2.size, fun i hi => ?_, fun b hb hno => k2.new b (by have := h2.size; omega) (h2.new b hb hno), fun b hb hno => (k2.same b (by have := h2.size; omega) (h2.new b hb hno)).trans (h2.same b hb hno)⟩
        rcases k2.old i hi with e | e
        · rw [e]; exact h2.old i hi
        · exact .inr e
      · rw [← hlen]
        exact R.far (G := own_view F W Sk m (far_lt h1) (far_no h1)) (G' := F) (fun _ _ h => h) <| @mtFr_ok (own_view F W Sk m (far_lt h1) (far_no h1)) W' S1 st.n W _ st.H ρ bn hH1 st.fr fl' g3 i _ (@FrOk.at_ (own_view F W Sk m (far_lt h1) (far_no h1)) _ _ _ _ _ _ hF1 i)
    refine hQ e st a' W' hK1 (fun {ρ fl' bn} hsub => ?_) main e5 e6 (@FrOk.size (own_view F W Sk m (far_lt h1) (far_no h1)) _ _ _ _ _ _ hF1) hde
    obtain ⟨Sk', k1, k2, k3, k4, _⟩ := main hsub
    exact ⟨by rw [hJ0]; exact ⟨Sk', k1, k2, k3, k4, e5, e6⟩, fun _ _ => trivial⟩
  -- what is left behind the loop
  have behind : ∀ (o : Obj) (bx : List (Option Box)) (W2 : World), (∀ cur t z, o ≠ .cells cur t z) → J0 o bx W2 → ∀ o', Sim W0 M0 E.N (mkSt fl bx) { a with defers := { target := .collected w.heap.size, args := #[] } :: a.defers } (W2.putObj (w.heap.size + 1) o') := by
    intro o bx W2 ho hj o'
    rw [hJ0] at hj
    obtain ⟨Sk, h1, h2, h3, h4, h5, h6⟩ := hj
    have hc : Cells W2 (W2.putObj (w.heap.size + 1) o') := cells_of_putObj h5 ho
    refine ⟨Sk, h1.of_putObj h5 ho (by omega) h4, ⟨hF.size, fun i => hc.r (h2.r (hfl i))⟩, fun h => (by rw [hmk] at h; cases h), ?_, ?_⟩
    · refine List.pairwise_cons.2 ⟨fun d hd => ?_, hM.apart⟩
      obtain ⟨D, e1, e2, e3, e4⟩ := hM.at_ d hd
      have : D < w.heap.size := (Array.getElem?_eq_some_iff.1 e3).1
      rw [e1]
      intro h; cases h; omega
    · intro d hd
      rcases List.mem_cons.1 hd with rfl | hd
      · exact ⟨_, rfl, by omega, (World.putObj_heap_other (by omega)).trans h6, h3⟩
      · obtain ⟨D, e1, e2, e3, e4⟩ := (hM.ext h2).at_ d hd
        obtain ⟨D', f1, _, f3, _⟩ := hM.at_ d hd
        have hD : D = D' := by rw [e1] at f1; cases f1; rfl
        have : D' < w.heap.size := (Array.getElem?_eq_some_iff.1 f3).1
        exact ⟨D, e1, e2, (World.putObj_heap_other (by omega)).trans e3, e4⟩
  have hdr : ∀ (bb : Nat → List (Option Box)) k (W : World) (d : Nat), J0 (.loop (rec .ready none)) (bb k) W → J0 (.loop (rec .ready none)) (bb k) { W with drawn := d } := by
    intro bb k W d hj
    rw [hJ0] at hj ⊢
    obtain ⟨Sk, h1, h2, h3, h4, h5, h6⟩ := hj
    have hc : Cells W { W with drawn := d } := ⟨rfl, fun _ _ _ _ h => h⟩
    exact ⟨Sk, h1.shut hc (fun _ _ => rfl) (fun _ _ => rfl) rfl rfl rfl, ⟨h2.le, h2.size, h2.old, h2.new, h2.same⟩, h3, h4, h5, h6⟩
  refine ⟨w.heap.size + 1, [{ target := .collected w.heap.size, args := #[] }], W1, { target := .fn (.func g) ((bks.map fun b => Value.pointer (some ⟨b, 0, none⟩))).toArray, args := #[.func (.yield (w.heap.size + 1)) #[] #[]] }, W1, g,
    #[.func (.yield (w.heap.size + 1)) #[] #[]] ++ ((bks.map fun b => Value.pointer (some ⟨b, 0, none⟩))).toArray, W1, ?_, ?_, fun _ _ => trivial, ?_, fun h => (by cases h), ?_⟩
  · rw [← hW1, hrec]; exact run_enterLoop_outer _ _ _ _ _
  · simp only [resolve, hvf]
    simp [go_sem]
  · simp [invoke, go_sem, enters_run hit.ent]
  · refine (hseq (w.heap.size + 1) (fun k W => Q k ∧ J0 (.loop (rec .ready none)) (bs k) W) (fun k W => Q (k + 1) ∧ J0 (.loop (rec .ready none)) (be k) W)
      (fun W => ∃ (c : Code) (bx : List (Option Box)), J0 (.loop (rec .done (some c))) bx W ∧ m ≤ bx.length ∧ ((c = .ret ∧ K .ret (mkSt fl bx)) ∨ ∃ id, c = .exit id ∧ K (.exit id) (mkSt fl bx))) W1 ?_ ?_ ?_ ?_ (by rw [hcl]; exact hbl) ?_ ?_).mono ?_
    · rintro k W (⟨_, hj⟩ | ⟨_, hj⟩)
      · exact hJc bs k W (fun j id hjq hid => by obtain ⟨ty, d, v, g1, g2, _, g3⟩ := hb1 k j id hjq hid; exact ⟨ty, d, v, g1, g2, g3⟩) (hb0 k).1 hj
      · exact hJc be k W (fun j id hjq hid => by obtain ⟨ty, d, v, g1, _, g2, g3⟩ := hb1 k j id hjq hid; exact ⟨ty, d, v, g1, g2, g3⟩) (hb0 k).2 hj
    · exact fun k W d hj => ⟨hj.1, hdr bs k W d hj.2⟩
    · exact fun k W d hj => ⟨hj.1, hdr be k W d hj.2⟩
    · exact fun k W hj => ⟨hj.1, hJs k W hj.2⟩
    · -- one round
      rintro k W ⟨hqk, hj⟩ hk
      obtain ⟨x, hx⟩ : ∃ x, xs[k]? = some x := ⟨_, List.getElem?_eq_getElem hk⟩
      have hxl : x.length = ar := hit.len x (List.mem_of_getElem? hx)
      have hl : W.heap[w.heap.size + 1]? = some (.loop (rec .ready none)) := by rw [hJ0] at hj; exact hj.choose_spec.2.2.2.2.1
      have hy := run_yield (P := P) (args := (encs k).toArray) hl (by rw [hrec]; simp [hel k, hpl])
      rw [hrec] at hy
      refine ⟨fn, _, assign, body, hy, roundIn_of_wpIn trivial ?_⟩
      have htm : ((ps.toArray.zip (encs k).toArray).foldl (fun t (p : Tmp × Value) => t.setIfInBounds p.1 p.2) a.tmps) = ((ps.zip (encs k)).foldl (fun t (p : Tmp × Value) => t.setIfInBounds p.1 p.2) a.tmps) := by
        rw [List.zip_toArray, List.foldl_toArray]
      refine piece (l := w.heap.size + 1) (fk := setPs ps x fl) (hbs k) hj (fun Sk h1 h2 i => ?_) ?_ (fun W0 M0 hn => hass k x _ hx W0 M0 hn) ?_
      · show R W Sk (bs k).length (getF (setPs ps x fl) i) (((ps.toArray.zip (encs k).toArray).foldl (fun t (p : Tmp × Value) => t.setIfInBounds p.1 p.2) a.tmps).getD i undef)
        rw [htm]
        exact setPs_ok ps x (encs k) fl a.tmps (by omega) (by rw [hel k]; omega) hpn (fun p hp => by rw [hF.size]; exact of_decide_eq_true (List.all_eq_true.1 hpN p hp)) (fun j c u hc hu => her W Sk (bs k).length k x hx j c u hc hu) (fun j => h2.r (hfl j)) i
      · show ((ps.toArray.zip (encs k).toArray).foldl (fun t (p : Tmp × Value) => t.setIfInBounds p.1 p.2) a.tmps).size = E.N
        rw [htm, foldl_set_size', hF.size]
      · rintro e st a1 Wa ⟨rfl, ρ, hsub⟩ hj1 hmain e5 e6 hsz1 hde
        refine ⟨_, run_beginRound e5 (by rw [hrec]), ?_⟩
        have hjb := hbusy _ (.loop { rec .ready none with state := .busy }) _ _ (fun _ _ _ h => by cases h) (hj1 hsub).1
        have hmb : m ≤ (ba k).length := by obtain ⟨Sk', _, k2, _⟩ := hmain hsub; exact k2.le
        obtain ⟨at1, ad1⟩ := a1
        simp only at hde
        subst hde
        obtain ⟨Sk', k1, k2, k3, k4, k5⟩ := hmain hsub
        have hc : Cells Wa (Wa.putObj (w.heap.size + 1) (.loop { rec .ready none with state := .busy })) := cells_of_putObj e5 (fun _ _ _ h => by cases h)
        -- the body is walked from the very layout that the assignment has left
        have hd := (k1.of_putObj (o := .loop { rec .ready none with state := .busy }) e5 (fun _ _ _ h => by cases h) (by omega) k4)
        have hdn := hd.down hmb
        have hv := @hbody k x (w.heap.size + 1) hx hqk (own_view F (Wa.putObj (w.heap.size + 1) (.loop { rec .ready none with state := .busy })) Sk' m (far_lt hd) (far_no hd)) (Wa.putObj (w.heap.size + 1) (.loop { rec .ready none with state := .busy })) (liveM (getB (ba k)) Sk') rfl
          { tmps := at1, defers := [] } (Wa.putObj (w.heap.size + 1) (.loop { rec .ready none with state := .busy }))
          ⟨Sk', hdn, @FrOk.mk (own_view F _ Sk' m (far_lt hd) (far_no hd)) _ _ _ _ _ _ hsz1 (fun i => R.far (G := F) (G' := own_view F _ Sk' m (far_lt hd) (far_no hd)) (fun _ _ h => h) (hc.r (k5 i))), @Marks.nil (own_view F _ Sk' m (far_lt hd) (far_no hd)) _ _ _⟩
        have hv : body.wpIn (Fence.wide.inRound (w.heap.size + 1)) 0 P _ { tmps := at1, defers := [] } (Wa.putObj (w.heap.size + 1) (.loop { rec .ready none with state := .busy })) := hv
        refine wpIn_mono hv ?_
        rintro e a' W' ⟨st, ⟨hK1, hQn⟩, S1, hH1, hF1, _⟩
        have hlt1 : w.heap.size + 1 < Wa.heap.size := (Array.getElem?_eq_some_iff.1 e5).1
        have hup := HeapOk.up hd hmb hnp hH1
        have g5 : W'.heap[w.heap.size + 1]? = some (.loop { rec .ready none with state := .busy }) := (hup.2.same _ (by simp; omega) k4).trans (World.putObj_heap_same hlt1)
        have g6 : W'.heap[w.heap.size]? = some (.deferred (some [])) := (hup.2.same _ (by simp; omega) k3).trans ((World.putObj_heap_other (by omega)).trans e6)
        have done : ∀ {ρ : Ren} {bn : List (Option Box)}, subOk m ρ st [] bn → J0 (.loop { rec .ready none with state := .busy }) bn W' := by
          intro ρ bn hsub'
          obtain ⟨g1, g2, _⟩ := hsub'
          rw [Bool.and_eq_true] at g1
          have hren := @HeapOk.ren (own_view F _ Sk' m (far_lt hd) (far_no hd)) W' S1 st.n _ _ st.H ρ bn hH1 g1.1 (fun i hi => pins_ok g1.2 i hi) g2
          obtain ⟨p1, p2⟩ := HeapOk.up hd hmb hnp hren
          rw [hJ0]
          refine ⟨renS ρ bn S1, p1, ?_, p2.new _ (by simp; omega) k3, p2.new _ (by simp; omega) k4, g5, g6⟩
          have hk2s := k2.size
          refine ⟨p2.le, by have := p2.size; simp at this; omega, fun i hi => ?_, fun b hb hno => p2.new b (by simp; omega) (k2.new b hb hno), fun b hb hno => (p2.same b (by simp; omega) (k2.new b hb hno)).trans ((World.putObj_heap_other (by omega)).trans (k2.same b hb hno))⟩
          rcases p2.old i hi with e | e
          · rw [e]; exact k2.old i hi
          · exact .inr e
        have fin : ∀ (jump : Option Code), (Instr.endRound (w.heap.size + 1) jump).run P W' = .ok (.bool jump.isNone) (W'.putObj (w.heap.size + 1) (.loop (rec (if jump.isNone then .ready else .done) jump))) := by
          intro jump
          have := run_endRound (P := P) jump g5
          rw [hrec] at this ⊢
          exact this
        cases e with
        | normal =>
          obtain ⟨ρ', hs'⟩ := hK1
          exact ⟨_, _, fin none, .inl ⟨rfl, hQn rfl, hbusy _ _ _ _ (fun _ _ _ h => by cases h) (done hs')⟩⟩
        | ret =>
          obtain ⟨bx, ρ', hs', hb', hk'⟩ := hK1
          exact ⟨_, _, fin (some .ret), .inr ⟨rfl, .ret, bx, hbusy _ _ _ _ (fun _ _ _ h => by cases h) (done hs'), hb', .inl ⟨rfl, hk'⟩⟩⟩
        | exit id =>
          obtain ⟨bx, ρ', hs', hb', hk'⟩ := hK1
          exact ⟨_, _, fin (some (.exit id)), .inr ⟨rfl, .exit id, bx, hbusy _ _ _ _ (fun _ _ _ h => by cases h) (done hs'), hb', .inr ⟨id, rfl, hk'⟩⟩⟩
        | goto t => exact hK1.elim
        | panic ch => exact hK1.elim
        | outgrown => exact hK1.elim
    · refine ⟨hQ, ?_⟩
      show J0 _ (bs 0) W1
      rw [hJ0, h0]
      refine ⟨S, hHb, ⟨hml, hE1.size, fun _ _ => .inl rfl, hE1.new, hE1.same⟩, fun h => ?_, fun h => ?_, hL1, hK1⟩
      · have := hown _ h; omega
      · have := hown _ h; omega
    · rintro e W2 ⟨⟨v, rfl⟩, ⟨hqe, hj⟩ | ⟨c, bx, hj, hbx, hc⟩⟩
      · have hl : W2.heap[w.heap.size + 1]? = some (.loop (rec .ready none)) := by rw [hJ0] at hj; exact hj.choose_spec.2.2.2.2.1
        refine ⟨none, _, by have := run_endLoop (P := P) hl (by rw [hrec]; simp); rw [hrec] at this; exact this, ?_⟩
        have hpos := hit.pos
        exact ⟨_, hK (by rw [show xs.length - 1 + 1 = xs.length by omega] at hqe; exact hqe), behind _ _ _ (fun _ _ _ h => by cases h) hj _⟩
      · have hl : W2.heap[w.heap.size + 1]? = some (.loop (rec .done (some c))) := by rw [hJ0] at hj; exact hj.choose_spec.2.2.2.2.1
        refine ⟨some c, _, by have := run_endLoop (P := P) hl (by rw [hrec]; simp); rw [hrec] at this; exact this, ?_⟩
        have hb := fun o' => behind _ _ _ (fun _ _ _ h => by cases h) hj o'
        rcases hc with ⟨rfl, hk⟩ | ⟨id, rfl, hk⟩
        · exact wpIn_ret ⟨_, hk, hb _⟩
        · exact wpIn_exit ⟨_, hk, hb _⟩
end
end Go.Vc
namespace Go.Proofs.YtcjipciiljjfhaaDoor
open Go Go.Vc Go.RowKit

def lenAt (W : World) (b : Nat) : Nat := match W.cell? ⟨b, 0, none⟩ with
  | some (.string s) => s.size
  | _ => 0
section
open Go.Shelf
attribute [local go_sem] Oper.semAt_some
theorem splitP (s : List UInt8) (hs : s.length ≤ 1000000000) : IterW Tryd.prog 57 1 ((cps s).map fun x => [.d (.str x)]) 1 (fun k => .string ⟨(restS s k).toArray⟩) [.string ⟨#[47]⟩, .string ⟨#[]⟩, .int .i64 0] where
  ent := by kernel_rfl
  len := by
    intro x hx
    obtain ⟨i, _, rfl⟩ := List.mem_map.1 hx
    rfl
  pos := by rw [List.length_map]; exact cps_pos s
  run := by
    refine ⟨fun k => [.string ⟨((cps s).getD k []).toArray⟩], fun _ => rfl, ?_, ?_⟩
    · intro F w S n k x hx i c u hc hu
      rw [List.getElem?_map] at hx
      cases hk : (cps s)[k]? with
      | none => rw [hk] at hx; cases hx
      | some y =>
        rw [hk] at hx; cases hx
        cases i with
        | succ i => simp at hc
        | zero =>
          simp only [List.getElem?_cons_zero, Option.some.injEq] at hc hu
          subst hc hu
          rw [getD_at hk]
          exact R.mkStr _
    · intro b0 bs l J Ja Jx W hq hJc hJd hJe hJs hbl hY h0
      match bs, hbl with
      | [b1, b0', b2], _ =>
      simp only [List.getElem?_cons_succ, List.getElem?_cons_zero, Option.some.injEq] at hq
      subst hq
      have hc : ∀ k W, J k W ∨ Ja k W → W.cell? ⟨b0', 0, none⟩ = some (.string ⟨(restS s k).toArray⟩) ∧ W.frozen? ⟨b0', 0, none⟩ = false ∧ W.cell? ⟨b1, 0, none⟩ = some (.string ⟨#[47]⟩) ∧ W.cell? ⟨b2, 0, none⟩ = some (.int .i64 0) := fun k W h => by
        obtain ⟨⟨h1, h2⟩, h3⟩ := hJc k W h
        exact ⟨h1, h2, h3 0 b1 _ (by decide) rfl rfl, h3 2 b2 _ (by decide) rfl rfl⟩
      clear hJc
      rw [List.length_map] at hY ⊢
      refine callsIn_of_wp Tryd.func57 rfl trivial ?_ rfl
      simp only [Tryd.ntmps57, List.map_cons, List.map_nil, List.size_toArray, List.length_cons, List.length_nil, Nat.reduceAdd, Nat.reduceSub, Array.replicate_succ, Array.replicate_zero, List.push_toArray, List.append_toArray, List.nil_append, List.cons_append]
      obtain ⟨c1, c2, c3, c4⟩ := hc 0 W (.inl h0)
      gi_wp2
      gi_loopw [7] (fun _ wr => ∃ k : Nat, k < (cps s).length ∧ J k wr) (fun _ wr => lenAt wr b0')
      case atStart => exact ⟨0, cps_pos s, h0⟩
      case round =>
        obtain ⟨k, hk, hJk⟩ := hrel
        obtain ⟨d1, d2, d3, d4⟩ := hc k wr (.inl hJk)
        obtain ⟨x, hx, hno, ⟨hk2, hr⟩ | ⟨hk2, hr⟩⟩ := restS_cut hk
        · obtain ⟨fn, tmps, assign, body, hy, hR⟩ := hY k wr hJk hk
          rw [hr] at d1
          have hxl : x.length ≤ 1000000000 := by have := restS_len (s := s) (k := k); rw [hr, List.length_append] at this; omega
          have hw : wrap64 ((x.length : Nat) : Int) = (x.length : Nat) := by simp [wrap64, IntKind.wrap, IntKind.signed, IntKind.bits]; omega
          have hw1 : wrap64 ((x.length : Nat) + 1 : Int) = (x.length : Nat) + 1 := by simp [wrap64, IntKind.wrap, IntKind.signed, IntKind.bits]; omega
          have he1 : (⟨(x ++ 47 :: restS s (k + 1)).toArray⟩ : ByteArray).extract 0 x.length = ⟨x.toArray⟩ := by
            simp [ByteArray.extract_mk]
          have he2 : (⟨(x ++ 47 :: restS s (k + 1)).toArray⟩ : ByteArray).extract (x.length + 1) (x.length + ((restS s (k + 1)).length + 1)) = ⟨(restS s (k + 1)).toArray⟩ := by
            simp [ByteArray.extract_mk]
            exact List.take_of_length_le (by omega)
          have hgx : (cps s).getD k [] = x := getD_at hx
          rw [hgx] at hy
          gi_wp2_with (refine ⟨trivial, rfl, ?_⟩; gi_at_call 59; refine (callsIn_wide.2 (Any.strings_Index_one Tryd.lays143 ⟨(x ++ 47 :: restS s (k + 1)).toArray⟩ 47 wr)).mono ?_; rintro e w' ⟨rfl, rfl⟩; rw [show Lib.indexByte (⟨(x ++ 47 :: restS s (k + 1)).toArray⟩ : ByteArray).data.toList 47 = ((x.length : Nat) : Int) from idx_sl hno _])
          refine ⟨rfl, hR.mono ?_⟩
          rintro e W3 (⟨rfl, hJ3⟩ | ⟨rfl, hJx3⟩)
          · obtain ⟨f1, f2, f3, f4⟩ := hc k W3 (.inr hJ3)
            rw [hr] at f1
            have hJ4 := hJs k W3 hJ3
            obtain ⟨g1, _⟩ := hc (k + 1) _ (.inl hJ4)
            gi_wp2
            refine ⟨⟨k + 1, hk2, hJ4⟩, ?_⟩
            unfold lenAt
            rw [g1, d1]
            show (restS s (k + 1)).length < (x ++ 47 :: restS s (k + 1)).length
            simp; omega
          · gi_wp2
            refine bodyPost_ret (results_none rfl _ _ _) rfl ?_
            exact ⟨⟨_, rfl⟩, .inr hJx3⟩
        · obtain ⟨fn, tmps, assign, body, hy, hR⟩ := hY k wr hJk hk
          rw [hr] at d1
          have hgx : (cps s).getD k [] = x := getD_at hx
          rw [hgx] at hy
          have hk3 : k = (cps s).length - 1 := by omega
          gi_wp2_with (refine ⟨trivial, rfl, ?_⟩; gi_at_call 59; refine (callsIn_wide.2 (Any.strings_Index_one Tryd.lays143 ⟨x.toArray⟩ 47 wr)).mono ?_; rintro e w' ⟨rfl, rfl⟩; rw [show Lib.indexByte (⟨x.toArray⟩ : ByteArray).data.toList 47 = (-1 : Int) from idx_no hno])
          refine ⟨rfl, hR.mono ?_⟩
          rintro e W3 (⟨rfl, hJ3⟩ | ⟨rfl, hJx3⟩)
          · gi_wp2
            go_end0
            exact ⟨⟨_, rfl⟩, .inl (hk3 ▸ hJ3)⟩
          · gi_wp2
            go_end0
            exact ⟨⟨_, rfl⟩, .inr hJx3⟩
end
end Go.Proofs.YtcjipciiljjfhaaDoor
