/- Walks, printed by wip/gen/walk.py. -/
import Derived.Test.YtcjipciiljjfhaaDoorT14
import Derived.Test.YtcjipciiljjfhaaDoorSo
import Derived.Test.YtcjipciiljjfhaaDoorV5
set_option linter.all false
set_option maxRecDepth 100000
set_option maxHeartbeats 4000000
namespace Go.Proofs.YtcjipciiljjfhaaDoor
open Go Go.Vc Go.RowKit
open Go.Sort
/-- In order. -/
def sortI (l : List Int) : List Int := l.mergeSort fun x y => decide (x ≤ y)
theorem sortI_len (l : List Int) : (sortI l).length = l.length := List.length_mergeSort ..
def sortG : GFun
  | [.sl 0 0 n], [some (.vec t s xs)] => some (t = 3 ∧ s = 1 ∧ xs = rows eI (dI xs) ∧ n = (dI xs).length ∧ (dI xs).length ≤ 1000000000, .tup [], [some (.vec 3 1 (rows eI (sortI (dI xs))))])
  | _, _ => none
theorem ix2_sl {ds : List Nat} {c : AV} {j off len : Nat} (h : ix2 ds c = some (.sl j off len)) : ∃ id, c = .sl id off len ∧ ixOf ds id = some j := by
  cases c with
  | sl id o l =>
    simp only [ix2, ix1] at h
    split at h
    · rename_i j' hj; cases h; exact ⟨id, rfl, hj⟩
    · cases h
  | agg cs => simp only [ix2] at h; split at h <;> cases h
  | clo f cs => simp only [ix2] at h; split at h <;> cases h
  | ptr id e f => simp only [ix2, ix1] at h; split at h <;> cases h
  | mp id => simp only [ix2, ix1] at h; split at h <;> cases h
  | d x => simp only [ix2, ix1] at h; cases h
  | ip a b c d => simp only [ix2, ix1] at h; cases h
  | any => simp only [ix2, ix1] at h; cases h
  | tup vs => simp only [ix2, ix1] at h; cases h
  | cond b v => simp only [ix2, ix1] at h; cases h
theorem ixBox_vec {ds : List Nat} {b : Option Box} {t : TypeId} {s : Nat} {xs : List (List D)} (h : ixBox ds b = some (.vec t s xs)) : b = some (.vec t s xs) := by
  unfold ixBox at h
  split at h
  · cases h; rfl
  · split at h <;> cases h
  · cases h
  · cases h
theorem ouH1 [Far] {H : Heap} {n id : Nat} {b : Box} (hid : id < n) (hb : ouBox [id] n (some b) = some b) (hn : ∀ i, n ≤ i → H i = none) : ouH [id] n H [some b] = upd H id (some b) := by
  funext i
  unfold ouH
  rw [upd_app]
  by_cases hi : i < n
  · rw [if_pos hi]
    by_cases h : i = id
    · subst h
      have : ixOf [i] i = some 0 := by unfold ixOf; rw [if_pos rfl]
      rw [this, if_pos rfl]; exact hb
    · have : ixOf [id] i = none := by unfold ixOf; rw [if_neg h]; rfl
      rw [this, if_neg h]
  · rw [if_neg hi, if_neg (by omega), hn i (by omega)]
    have : getB [some b] ([id].length + (i - n)) = none := by unfold getB; simp
    rw [this]; rfl
theorem alloc_all [Far] {W0 : World} {M0 : Nat → Prop} {H : Heap} {n : Nat} {S : Lays} : ∀ (os : List Go.Obj) {w : World}, HeapOk W0 M0 H n w S → HeapOk W0 M0 H n (grow w os.toArray) S ∧ Ext w S n (grow w os.toArray) S n
  | [], w, h => by rw [show grow w ([] : List Go.Obj).toArray = w from grow_empty w]; exact ⟨h, Ext.refl _ _ _⟩
  | o :: os, w, h => by
    obtain ⟨h1, e1⟩ := h.alloc_other o
    obtain ⟨h2, e2⟩ := alloc_all os h1
    have : grow (w.alloc o) os.toArray = grow w (o :: os).toArray := by rw [alloc_eq_grow, grow_grow]; simp
    rw [this] at h2 e2
    exact ⟨h2, e1.trans e2⟩
theorem at2_rows {l : List Int} {e f : Nat} {c : D} (h : at2 (rows eI l) e f = some c) : f = 0 ∧ ∃ x, l[e]? = some x ∧ c = .int .i64 x := by
  obtain ⟨x, h1, h2⟩ := at2_some h
  unfold rows at h1
  rw [List.getElem?_map] at h1
  cases hx : l[e]? with
  | none => rw [hx] at h1; cases h1
  | some y =>
    rw [hx] at h1; cases h1
    cases f with
    | zero => cases h2; exact ⟨rfl, y, rfl, rfl⟩
    | succ f => simp [eI] at h2
theorem rd_int {w : World} {O : Nat → Prop} {k : IntKind} {x : Int} {u : Value} (h : RD w O (.int k x) u) : u = .int k x := by cases h; rfl
theorem meets_sort {P : Program} {f : FuncId} (hnone : ∀ (p : Option Addr) (cap : Nat) (w : World), Calls P f #[.slice p 0 cap] w fun e w' => e = .returned (.tuple #[]) ∧ w' = w)
    (hsome : ∀ (blk off cap : Nat) (zs : List Int) (w : World), Holds (Value.int .i64) w blk off zs.toArray → blk < w.heap.size → zs.length < 4611686018427387904 →
      Calls P f #[.slice (some ⟨blk, off, none⟩) zs.length cap] w fun e w' => e = .returned (.tuple #[]) ∧ ∃ n os, w' = grow (putRow (Value.int .i64) (Sort.ahead w n) blk off (zs.mergeSort fun x y => decide (x ≤ y)).toArray) os) :
    Meets P f (Spec.gen sortG) := by
  intro args H n p r o hrun hp F w S vs hH hl hr
  have hrun' : genRun sortG (reach args H) args H n = some (p, r, o) := hrun
  unfold genRun at hrun'
  generalize reach args H = ds at hrun'
  split at hrun'
  · rename_i ia bl hia hbl
    split at hrun'
    · rename_i p' r' bf hg
      split at hrun'
      · rename_i hc
        simp only [Option.some.injEq, Prod.mk.injEq] at hrun'
        obtain ⟨rfl, rfl, rfl⟩ := hrun'
        unfold sortG at hg
        split at hg
        · rename_i m t s xs
          simp only [Option.some.injEq, Prod.mk.injEq] at hg
          obtain ⟨rfl, rfl, rfl⟩ := hg
          obtain ⟨rfl, rfl, he, rfl, hlen⟩ := hp
          generalize dI xs = zs at *
          subst he
          obtain ⟨g1, g2⟩ := ixA_ok hia
          match args, g1 with
          | [c], _ =>
          obtain ⟨c0, e0, e1⟩ := g2 0 _ rfl
          cases e0
          obtain ⟨id, rfl, hix⟩ := ix2_sl e1
          obtain ⟨b1, b2⟩ := ixBs_ok hbl
          match ds, b1 with
          | [d0], _ =>
          obtain ⟨d1, e2, e3⟩ := b2 0 _ rfl
          cases e2
          have hid : id = d0 := by have := ixOf_get hix; simpa using this.symm
          subst hid
          have hbox := ixBox_vec e3
          match vs, hl with
          | [v], _ =>
          obtain ⟨l, hS, hB⟩ := hH.box id _ hbox
          have hlt : id < n := hH.lt hS
          have hn0 : ∀ i, n ≤ i → H i = none := fun i hi => by
            cases hb : H i with
            | none => rfl
            | some b => obtain ⟨l', h1, _⟩ := hH.box i b hb; rw [hH.bnd i hi] at h1; cases h1
          have hou := ouH1 (b := .vec 3 1 (rows eI (sortI zs))) hlt rfl hn0
          have hv : v = .slice (l.blk.map fun b => ⟨b, 0, none⟩) zs.length l.cap := by
            have h0 := hr 0 _ _ rfl rfl
            cases h0 with
            | slDead _ _ _ _ _ h => rw [hS] at h; cases h
            | sl _ _ _ o l' _ h hc' ho h0 =>
              rw [hS] at h; cases h
              have : o = 0 := h0 rfl
              subst this; rfl
          have fin : ∀ w', HeapOk w (liveB H S) (upd H id (some (.vec 3 1 (rows eI (sortI zs))))) n w' S → Ext w S n w' S n →
              ∃ v S', Ending.returned (.tuple #[]) = .returned v ∧ Go.Vc.Left H n w S (upd H id (some (.vec 3 1 (rows eI (sortI zs))))) n w' S' ∧ (some (upd H id (some (.vec 3 1 (rows eI (sortI zs)))), n) = (none : Option (Heap × Nat)) → S' = S ∧ ∀ b, b < w.heap.size → w'.heap[b]? = w.heap[b]?) ∧ R w' S' n (.tup []) v := fun w' h1 h2 =>
            ⟨_, S, rfl, ⟨h1, h2, fun _ _ _ => rfl, fun i hi _ => hH.bnd i hi⟩, (fun h => by cases h), .tup [] [] rfl (fun i c u h => by simp at h)⟩
          have hz : [some (Box.vec 3 1 (rows eI (sortI zs)))].length - [id].length = 0 := rfl
          rw [hz, hou]
          simp only [Nat.add_zero, Option.getD_some]
          obtain ⟨hB1, hB2, hB3, hB4, hB5, hB6⟩ := hB
          rw [rows_len] at hB3
          cases hbk : l.blk with
          | none =>
            have h0 : zs = [] := List.eq_nil_of_length_eq_zero (by have := hB5 hbk; omega)
            subst h0
            rw [hv, hbk]
            refine (hnone _ _ w).mono ?_
            rintro e w' ⟨rfl, rfl⟩
            refine fin _ ?_ (Ext.refl _ _ _)
            have : upd H id (some (.vec 3 1 (rows eI (sortI [])))) = H := by
              funext i; rw [upd_app]; split
              · rename_i h; subst h; rw [hbox, List.eq_nil_of_length_eq_zero (sortI_len [])]
              · rfl
            rw [this]; exact hH
          | some b =>
            obtain ⟨cur, c1, c2, c3⟩ := hB6 b hbk
            have hblt : b < w.heap.size := hH.lt2 id l b hS (.inl hbk)
            have hcell : ∀ (j : Nat) (x : Int), zs[j]? = some x → cur[j]? = some (.int .i64 x) := fun j x hx => by
              obtain ⟨u, h1, h2⟩ := c3 j 0 (.int .i64 x) (by unfold at2 rows; rw [List.getElem?_map, hx]; rfl)
              rw [rd_int h2] at h1
              simpa using h1
            have hhold : Holds (Value.int .i64) w b 0 zs.toArray := by
              intro j hj
              have hj' : j < zs.length := by simpa using hj
              refine ⟨?_, by simp [World.frozen?, c1]⟩
              have h1 := hcell j zs[j] (List.getElem?_eq_getElem hj')
              simp only [World.cell?, c1, Nat.zero_add]
              simp only [Option.isSome_none, Bool.false_eq_true, if_false]
              rw [h1]; simp [hj']
            rw [hv, hbk]
            refine (hsome b 0 l.cap zs w hhold hblt (by omega)).mono ?_
            rintro e w' ⟨rfl, k, os, rfl⟩
            obtain ⟨os⟩ := os
            have hsz : (zs.mergeSort fun x y => decide (x ≤ y)).length = zs.length := List.length_mergeSort ..
            have hpb : (putRow (Value.int .i64) (Sort.ahead w k) b 0 (zs.mergeSort fun x y => decide (x ≤ y)).toArray).heap[b]? = some (.cells (putCells (Value.int .i64) 0 (zs.mergeSort fun x y => decide (x ≤ y)).toArray cur) 3 (0, 0)) := by
              simp [putRow, mapBlock, Sort.ahead, Array.getElem?_modify, c1, onCells]
            have key := hH.write2 (w' := putRow (Value.int .i64) (Sort.ahead w k) b 0 (zs.mergeSort fun x y => decide (x ≤ y)).toArray) hS (.inl hbk) (.vec 3 1 (rows eI (sortI zs))) (by rw [hbox]; rfl) rfl rfl rfl (by simp [putRow, mapBlock, Sort.ahead])
              (fun d hd => by
                have : b ≠ d := fun e => hd e.symm
                simp [putRow, mapBlock, Sort.ahead, Array.getElem?_modify, this])
              (fun _ => ⟨hB1, hB2, by rw [rows_len, sortI_len]; exact hB3, rect_eI _, hB5, fun b' hb' => by
                rw [hbk] at hb'; cases hb'
                refine ⟨_, hpb, by simp [putCells, c2], fun e f c hc => ?_⟩
                obtain ⟨rfl, x, hx, rfl⟩ := at2_rows hc
                have hel : e < zs.length := by have := (List.getElem?_eq_some_iff.1 hx).1; rw [sortI_len] at this; exact this
                refine ⟨.int .i64 x, ?_, .int _ _⟩
                have he : e < cur.size := by omega
                unfold sortI at hx
                have hx2 := (List.getElem?_eq_some_iff.1 hx)
                simp [putCells, hsz, hel, he, hx2.2]⟩)
              (fun _ => hH.plain id l _ hbox hS rfl)
            obtain ⟨h2, e2⟩ := alloc_all os key.1
            exact fin _ h2 (key.2.trans e2)
        · cases hg
      · cases hrun'
    · cases hrun'
  · cases hrun'
end Go.Proofs.YtcjipciiljjfhaaDoor
