/- The Vc layer: from a row's reading of the arguments to data, and from a contract to the row. -/
import Derived.Test.YtaoifpmifpmhmaaVc23
import Derived.ProofKit
import Derived.DataOpen
import Derived.OpenShut
set_option linter.all false
namespace Go.Vc
open Go Go.RowKit

/-- Cells that hold data of a type. -/
def WT (P : Program) : Nat → TypeId → List D → Prop
  | 0, _, _ => False
  | k + 1, t, ds => match P.underlying t with
    | some .bool => ∃ b, ds = [.bool b]
    | some (.int q) => ∃ n, ds = [.int q n] ∧ (Lit.int q n).wf = true
    | some .string => ∃ s, ds = [.str s] ∧ s.length ≤ maxLen
    | some (.slice e) => ∃ xs, ds = [.sl xs] ∧ xs.length ≤ maxLen ∧ ∀ x ∈ xs, WT P k e x
    | some (.struct fs) => ds.length = P.cellsOf t ∧ ∀ f ∈ fs.toList, WT P k f.type ((ds.drop f.offset).take (P.cellsOf f.type))
    | some (.array n e) => ds.length = P.cellsOf t ∧ ∀ i, i < n → WT P k e ((ds.drop (i * P.cellsOf e)).take (P.cellsOf e))
    | _ => False

/-- Types of plain data. -/
def plainB (P : Program) : Nat → TypeId → Bool
  | 0, _ => false
  | k + 1, t => match P.underlying t with
    | some .bool => true
    | some (.int _) => true
    | some .string => true
    | some (.slice e) => decide (0 < P.cellsOf e) && plainB P k e
    | some (.struct fs) => P.consecB fs.toList 0 (P.cellsOf t) && fs.toList.all fun f => plainB P k f.type
    | some (.array n e) => (P.cellsOf t == n * P.cellsOf e) && plainB P k e
    | _ => false

def RDs (w : World) (O : Nat → Prop) (ds : List D) (cs : List Value) : Prop := ds.length = cs.length ∧ ∀ (j : Nat) (c : D) (u : Value), ds[j]? = some c → cs[j]? = some u → RD w O c u

theorem RDs.one {w : World} {O : Nat → Prop} {d : D} {u : Value} (h : RD w O d u) : RDs w O [d] [u] := ⟨rfl, fun j c v h1 h2 => by
  cases j with
  | zero => simp at h1 h2; subst h1 h2; exact h
  | succ j => simp at h1⟩

theorem RDs.app {w : World} {O : Nat → Prop} {d d' : List D} {u u' : List Value} (h : RDs w O d u) (h' : RDs w O d' u') : RDs w O (d ++ d') (u ++ u') := by
  refine ⟨by simp [h.1, h'.1], fun j c v h1 h2 => ?_⟩
  by_cases hj : j < d.length
  · rw [List.getElem?_append_left hj] at h1
    rw [List.getElem?_append_left (by have := h.1; omega)] at h2
    exact h.2 j c v h1 h2
  · rw [List.getElem?_append_right (by omega)] at h1
    rw [List.getElem?_append_right (by have := h.1; omega), ← h.1] at h2
    exact h'.2 _ c v h1 h2

section
variable {P : Program} {w : World}

theorem fields_read {k : Nat} {cs : List Value} {total : Nat} (htot : cs.length = total) : ∀ (fs : List Field) (off : Nat), P.consecB fs off total = true → off ≤ total →
    (∀ f ∈ fs, ∃ ds, RDs w (fun _ => False) ds ((cs.drop f.offset).take (P.cellsOf f.type)) ∧ ds.length = P.cellsOf f.type ∧ WT P k f.type ds) →
    ∃ ds, RDs w (fun _ => False) ds (cs.drop off) ∧ (∀ f ∈ fs, off ≤ f.offset ∧ WT P k f.type ((ds.drop (f.offset - off)).take (P.cellsOf f.type))) := by
  intro fs
  induction fs with
  | nil =>
    intro off hc _ _
    simp only [Program.consecB, beq_iff_eq] at hc
    refine ⟨[], ⟨by simp; omega, fun j c u h => by simp at h⟩, fun f hf => by cases hf⟩
  | cons f fs ih =>
    intro off hc ho h
    simp only [Program.consecB, Bool.and_eq_true, beq_iff_eq] at hc
    obtain ⟨hoff, hc⟩ := hc
    obtain ⟨d0, h0, hl0, hw0⟩ := h f (by simp)
    have hle : off + P.cellsOf f.type ≤ total := by
      have := h0.1
      rw [List.length_take, List.length_drop, hl0] at this
      omega
    obtain ⟨ds, h1, h2⟩ := ih (off + P.cellsOf f.type) hc hle (fun g hg => h g (by simp [hg]))
    refine ⟨d0 ++ ds, ?_, fun g hg => ?_⟩
    · have := h0.app h1
      rwa [hoff, take_drop_step] at this
    · rcases List.mem_cons.1 hg with rfl | hg
      · refine ⟨by omega, ?_⟩
        rw [hoff, Nat.sub_self, List.drop_zero, List.take_append_of_le_length (by omega), List.take_of_length_le (by omega)]
        exact hw0
      · obtain ⟨h3, h4⟩ := h2 g hg
        refine ⟨by omega, ?_⟩
        rw [List.drop_append, show d0.drop (g.offset - off) = [] from List.drop_eq_nil_of_le (by omega), List.nil_append, hl0, show g.offset - off - P.cellsOf f.type = g.offset - (off + P.cellsOf f.type) by omega]
        exact h4

theorem elems_read {k n e sz : Nat} {cs : List Value} (hlen : cs.length = n * sz) : ∀ (m s : Nat), s + m = n →
    (∀ i, i < n → ∃ ds, RDs w (fun _ => False) ds ((cs.drop (i * sz)).take sz) ∧ ds.length = sz ∧ WT P k e ds) →
    ∃ ds, RDs w (fun _ => False) ds (cs.drop (s * sz)) ∧ (∀ i, s ≤ i → i < n → WT P k e ((ds.drop ((i - s) * sz)).take sz)) := by
  intro m
  induction m with
  | zero =>
    intro s hs _
    refine ⟨[], ⟨by simp; rw [hlen, ← hs]; simp, fun j c u h => by simp at h⟩, fun i h1 h2 => by omega⟩
  | succ m ih =>
    intro s hs h
    obtain ⟨d0, h0, hl0, hw0⟩ := h s (by omega)
    obtain ⟨ds, h1, h2⟩ := ih (s + 1) (by omega) h
    refine ⟨d0 ++ ds, ?_, fun i hi1 hi2 => ?_⟩
    · have := h0.app h1
      rwa [Nat.add_mul, Nat.one_mul, take_drop_step] at this
    · rcases Nat.eq_or_lt_of_le hi1 with rfl | hlt
      · rw [Nat.sub_self, Nat.zero_mul, List.drop_zero, List.take_append_of_le_length (by omega), List.take_of_length_le (by omega)]
        exact hw0
      · have h3 := h2 i hlt hi2
        have e1 : (i - s) * sz = (i - (s + 1)) * sz + sz := by
          rw [show i - s = (i - (s + 1)) + 1 by omega, Nat.add_mul, Nat.one_mul]
        rw [List.drop_append, show d0.drop ((i - s) * sz) = [] from List.drop_eq_nil_of_le (by omega), List.nil_append, hl0, show (i - s) * sz - sz = (i - (s + 1)) * sz by omega]
        exact h3

theorem cells_get {a : Addr} {n : Nat} {cs : List Value} (h : w.cells? 0 a n = some cs) : cs.length = n ∧ ∀ i, i < n → w.cell? (a.add i) = cs[i]? := by
  unfold World.cells? at h
  rw [if_pos (Nat.zero_le _)] at h
  exact ⟨by simpa using mapM_some_length h, fun i hi => by have := mapM_some_get h i i (by simp [hi]); simpa using this⟩

theorem addN (b o k : Nat) : (⟨b, o, none⟩ : Addr).add k = ⟨b, o + k, none⟩ := by unfold Addr.add; split <;> simp_all

theorem cell_spot {a : Addr} {u : Value} (h : w.cell? a = some u) : a.spot = none ∧ a.block < w.heap.size := by
  unfold World.cell? at h
  split at h
  · rename_i hb
    split at h
    · cases h
    · rename_i hs
      exact ⟨by simpa using hs, (Array.getElem?_eq_some_iff.1 hb).1⟩
  · cases h

variable {H : Type} {enc : TypeId × Value → H}

/-- **What a row can read is data.** -/
theorem trod_read {sp : Nat → Bool} {held : Bool} : ∀ (k : Nat) (t : TypeId), plainB P k t = true → ∀ (fuel : Nat) (cs : List Value) (x : DataW H × List MemPlace), DataW.trod enc P w 0 sp held fuel t cs = some x →
    ∃ ds, RDs w (fun _ => False) ds cs ∧ WT P k t ds := by
  intro k
  induction k with
  | zero => intro t h; cases h
  | succ k ih =>
    intro t hp fuel cs x h
    unfold plainB at hp
    split at hp
    · rename_i ht
      obtain ⟨b, rfl, _⟩ := DataW.trod_bool ht h
      exact ⟨_, .one (.bool b), by unfold WT; rw [ht]; exact ⟨b, rfl⟩⟩
    · rename_i q ht
      obtain ⟨n, rfl, _, hw⟩ := DataW.trod_int ht h
      exact ⟨_, .one (.int q n), by unfold WT; rw [ht]; exact ⟨n, rfl, hw⟩⟩
    · rename_i ht
      obtain ⟨s, rfl, _, hs⟩ := DataW.trod_string ht h
      refine ⟨[.str s.data.toList], .one ?_, by unfold WT; rw [ht]; exact ⟨_, rfl, hs⟩⟩
      have := RD.str (w := w) (O := fun _ => False) s.data.toList
      simpa using this
    · rename_i e ht
      simp only [Bool.and_eq_true, decide_eq_true_eq] at hp
      obtain ⟨hpos, hpe⟩ := hp
      rcases DataW.trod_slice ht h with ⟨rfl, _⟩ | ⟨a, len, cap, elems, rest, n, rfl, rfl, _, _, hle, hcap, hel, hget, _⟩
      · exact ⟨[.sl []], .one (.sl0 none 0), by unfold WT; rw [ht]; exact ⟨[], rfl, Nat.zero_le _, fun x h => by cases h⟩⟩
      · -- each element
        have each : ∀ i, i < len → ∃ (ds : List D) (us : List Value), w.cells? 0 (a.add (i * P.cellsOf e)) (P.cellsOf e) = some us ∧ RDs w (fun _ => False) ds us ∧ WT P k e ds := by
          intro i hi
          have hg := hget i hi
          cases hc : w.cells? 0 (a.add (i * P.cellsOf e)) (P.cellsOf e) with
          | none => rw [hc, List.getElem?_eq_getElem (by omega)] at hg; cases hg
          | some us =>
            rw [hc, List.getElem?_eq_getElem (by omega)] at hg
            simp only [Option.bind_some] at hg
            obtain ⟨ds, h1, h2⟩ := ih e hpe n us _ hg
            exact ⟨ds, us, rfl, h1, h2⟩
        obtain ⟨xf, hxf⟩ : ∃ xf : Nat → List D, ∀ i, i < len → ∃ us, w.cells? 0 (a.add (i * P.cellsOf e)) (P.cellsOf e) = some us ∧ RDs w (fun _ => False) (xf i) us ∧ WT P k e (xf i) :=
          ⟨fun i => if h : i < len then (each i h).choose else [], fun i hi => by simp only [dif_pos hi]; exact (each i hi).choose_spec⟩
        refine ⟨[.sl ((List.range len).map xf)], ?_, ?_⟩
        · refine .one ?_
          by_cases h0 : len = 0
          · subst h0; exact .sl0 _ _
          · obtain ⟨us0, hu0, _, _⟩ := hxf 0 (by omega)
            obtain ⟨hl0, hc0⟩ := cells_get hu0
            have hsp : (a.add (0 * P.cellsOf e)).spot = none ∧ (a.add (0 * P.cellsOf e)).block < w.heap.size := by
              have := hc0 0 hpos
              rw [List.getElem?_eq_getElem (by omega)] at this
              have h2 := cell_spot this
              unfold Addr.add at h2 ⊢
              split at h2 <;> simp_all
            have ha : ∃ b o, a = ⟨b, o, none⟩ := by
              obtain ⟨b, o, s⟩ := a
              unfold Addr.add at hsp
              cases s with
              | none => exact ⟨b, o, rfl⟩
              | some s => simp at hsp
            obtain ⟨b, o, rfl⟩ := ha
            have hblk : b < w.heap.size := by rw [addN] at hsp; exact hsp.2
            have hlen : ((List.range len).map xf).length = len := by simp
            have := RD.sl (w := w) (O := fun _ => False) ((List.range len).map xf) (P.cellsOf e) b o cap (fun i f => (w.cell? ⟨b, o + i * P.cellsOf e + f, none⟩).getD undef) (by omega) hblk (fun h => h) (fun x hx => ?_) (fun i f c hc => ?_) (fun i f c hc => ?_)
            · rw [hlen] at this; exact this
            · obtain ⟨i, hi, rfl⟩ := List.mem_map.1 hx
              obtain ⟨us, h1, h2, _⟩ := hxf i (by simpa using hi)
              rw [h2.1]; exact (cells_get h1).1
            all_goals
              obtain ⟨x, hx1, hx2⟩ := at2_some hc
              rw [List.getElem?_map] at hx1
              have hi : i < len := by
                rcases Nat.lt_or_ge i len with h | h
                · exact h
                · rw [List.getElem?_eq_none (by simpa using h)] at hx1; cases hx1
              rw [List.getElem?_range hi] at hx1
              simp only [Option.map_some, Option.some.injEq] at hx1
              subst hx1
              obtain ⟨us, h1, h2, _⟩ := hxf i hi
              obtain ⟨h3, h4⟩ := cells_get h1
              have hf : f < us.length := by have := (List.getElem?_eq_some_iff.1 hx2).1; rw [h2.1] at this; exact this
              have h5 := h4 f (by omega)
              rw [addN, addN, List.getElem?_eq_getElem hf] at h5
            · rw [h5]; rfl
            · rw [h5]; exact h2.2 f c _ hx2 (List.getElem?_eq_getElem hf)
        · unfold WT; rw [ht]
          refine ⟨_, rfl, by simp; omega, fun x hx => ?_⟩
          obtain ⟨i, hi, rfl⟩ := List.mem_map.1 hx
          obtain ⟨us, _, _, h3⟩ := hxf i (by simpa using hi)
          exact h3
    · rename_i fs ht
      simp only [Bool.and_eq_true, List.all_eq_true] at hp
      obtain ⟨hcon, hall⟩ := hp
      obtain ⟨xs, n, rfl, _, hlen, hxl, hget⟩ := DataW.trod_struct ht h
      obtain ⟨ds, h1, h2⟩ := fields_read (k := k) (w := w) hlen fs.toList 0 hcon (Nat.zero_le _) (fun f hf => by
        obtain ⟨i, hi⟩ := List.getElem?_of_mem hf
        rw [Array.getElem?_toList] at hi
        have hg := hget i f hi
        have hil : i < xs.length := by rw [hxl]; exact (Array.getElem?_eq_some_iff.1 hi).1
        rw [List.getElem?_eq_getElem hil] at hg
        obtain ⟨ds, h3, h4⟩ := ih f.type (hall f hf) n _ _ hg
        refine ⟨ds, h3, ?_, h4⟩
        -- the field's cells are all there
        have key : ∀ (fs : List Field) (off : Nat), P.consecB fs off (P.cellsOf t) = true → off ≤ P.cellsOf t ∧ ∀ f ∈ fs, f.offset + P.cellsOf f.type ≤ P.cellsOf t := by
          intro fs
          induction fs with
          | nil => intro off hc; simp only [Program.consecB, beq_iff_eq] at hc; exact ⟨by omega, fun f hf => by cases hf⟩
          | cons g fs ih2 =>
            intro off hc
            simp only [Program.consecB, Bool.and_eq_true, beq_iff_eq] at hc
            obtain ⟨h5, h6⟩ := ih2 _ hc.2
            refine ⟨by omega, fun f hf => ?_⟩
            rcases List.mem_cons.1 hf with rfl | hf
            · omega
            · exact h6 f hf
        have := (key fs.toList 0 hcon).2 f hf
        rw [h3.1, List.length_take, List.length_drop]
        omega)
      rw [List.drop_zero] at h1
      refine ⟨ds, h1, ?_⟩
      unfold WT; rw [ht]
      exact ⟨by rw [h1.1, hlen], fun f hf => by simpa using (h2 f hf).2⟩
    · rename_i m e ht
      simp only [Bool.and_eq_true, beq_iff_eq] at hp
      obtain ⟨hsz, hpe⟩ := hp
      obtain ⟨xs, n, rfl, _, hlen, hxl, hget⟩ := DataW.trod_array ht h
      obtain ⟨ds, h1, h2⟩ := elems_read (P := P) (k := k) (w := w) (e := e) (n := m) (sz := P.cellsOf e) (cs := cs) (by omega) m 0 (by omega) (fun i hi => by
        have hg := hget i hi
        rw [List.getElem?_eq_getElem (by omega)] at hg
        obtain ⟨ds, h3, h4⟩ := ih e hpe n _ _ hg
        refine ⟨ds, h3, ?_, h4⟩
        rw [h3.1, List.length_take, List.length_drop, hlen, hsz]
        have : (i + 1) * P.cellsOf e ≤ m * P.cellsOf e := Nat.mul_le_mul_right _ hi
        rw [Nat.add_mul] at this
        omega)
      rw [Nat.zero_mul, List.drop_zero] at h1
      refine ⟨ds, h1, ?_⟩
      unfold WT; rw [ht]
      exact ⟨by rw [h1.1, hlen], fun i hi => by simpa using h2 i (Nat.zero_le _) hi⟩
    · cases hp

/-- An argument that holds data of its type. -/
def ArgOk (P : Program) (k : Nat) (t : TypeId) (c : AV) : Prop :=
  match P.underlying t with
  | some (.struct _) | some (.array _ _) => ∃ ds, c = .agg (ds.map .d) ∧ WT P k t ds
  | _ => ∃ x, c = .d x ∧ WT P k t [x]

@[reducible] def lone_ : Far := { F := fun _ => False, nev := fun _ => False, sub := fun _ h => h, pin := fun _ => none, np := 0, marks := true }

theorem own_lone {b : Nat} : ¬ @own lone_ (fun _ => none) b := by
  rintro (h | ⟨i, l, h, _⟩)
  · exact h
  · cases h

theorem arg_read {sp : Nat → Bool} {held : Bool} {k : Nat} {t : TypeId} {v : Value} {d : DataW H} {ps : List MemPlace} {base : Nat} (hp : plainB P k t = true) (hv : Value.okWide P w .any base t v) (h : DataW.Trod enc P w 0 sp held t v d ps) :
    ∃ c, ArgOk P k t c ∧ @R lone_ w (fun _ => none) 0 c v := by
  obtain ⟨fuel, h⟩ := h
  obtain ⟨ds, h1, h2⟩ := trod_read k t hp fuel _ _ h
  have up : ∀ {c : D} {u : Value}, RD w (fun _ => False) c u → RD w (@own lone_ (fun _ => none)) c u := fun h => h.ext (Nat.le_refl _) (fun _ _ _ => rfl) (fun b _ _ h => own_lone h)
  have agg : ∀ cs : Array Value, v = .agg cs → @R lone_ w (fun _ => none) 0 (.agg (ds.map .d)) v := by
    rintro cs rfl
    have hl : ds.length = cs.toList.length := h1.1
    have e : (cs.toList.toArray : Array Value) = cs := by simp
    rw [show Value.agg cs = Value.agg cs.toList.toArray by rw [e]]
    refine @R.agg lone_ _ _ _ _ cs.toList (by simp at hl ⊢; omega) (fun u hu => ?_) (fun i c u hc hu => ?_)
    · obtain ⟨j, hj⟩ := List.getElem?_of_mem hu
      have hj' : j < ds.length := by have := (List.getElem?_eq_some_iff.1 hj).1; omega
      exact (h1.2 j _ u (List.getElem?_eq_getElem hj') hj).one
    · rw [List.getElem?_map] at hc
      cases hd : ds[i]? with
      | none => rw [hd] at hc; cases hc
      | some d => rw [hd] at hc; cases hc; exact @R.d lone_ _ _ _ _ _ (up (h1.2 i d u hd hu))
  unfold ArgOk
  unfold Value.okWide at hv
  split
  · rename_i fs ht
    rw [ht] at hv
    obtain ⟨cs, rfl, _, _⟩ := hv
    exact ⟨_, ⟨ds, rfl, h2⟩, agg cs rfl⟩
  · rename_i n e ht
    rw [ht] at hv
    obtain ⟨cs, rfl, _, _⟩ := hv
    exact ⟨_, ⟨ds, rfl, h2⟩, agg cs rfl⟩
  · rename_i hns hna
    have hone : ∃ x, ds = [x] := by
      cases k with
      | zero => cases hp
      | succ k =>
        unfold WT at h2
        split at h2
        · obtain ⟨b, rfl⟩ := h2; exact ⟨_, rfl⟩
        · obtain ⟨n, rfl, _⟩ := h2; exact ⟨_, rfl⟩
        · obtain ⟨n, rfl, _⟩ := h2; exact ⟨_, rfl⟩
        · obtain ⟨n, rfl, _⟩ := h2; exact ⟨_, rfl⟩
        · rename_i fs ht; exact (hns fs ht).elim
        · rename_i n e ht; exact (hna n e ht).elim
        · exact h2.elim
    obtain ⟨x, rfl⟩ := hone
    have hcells : v.cells = #[v] := by
      cases v with
      | agg cs =>
        exfalso
        -- an aggregate of one cell would be read at a type that is none
        cases k with
        | zero => cases hp
        | succ k =>
          unfold plainB at hp
          split at hp
          · rename_i ht; simp [ht, Cell.okWide, Cell.ok] at hv
          · rename_i q ht; simp [ht, Cell.okWide, Cell.ok] at hv
          · rename_i ht; simp [ht, Cell.okWide, Cell.ok] at hv
          · rename_i e ht; simp [ht, Cell.okWide, Cell.ok] at hv
          · rename_i fs ht; exact hns fs ht
          · rename_i n e ht; exact hna n e ht
          · cases hp
      | _ => rfl
    rw [hcells] at h1
    exact ⟨_, ⟨x, rfl, h2⟩, @R.d lone_ _ _ _ _ _ (up (h1.2 0 x v rfl rfl))⟩

/-- What the arguments of a law must be shown to give. -/
def LawOk (P : Program) (k : Nat) (ts : List TypeId) (g : List AV → Option (Prop × AV)) : Prop :=
  ∀ args : List AV, args.length = ts.length → (∀ (i : Nat) (t : TypeId) (c : AV), ts[i]? = some t → args[i]? = some c → ArgOk P k t c) → ∃ p, g args = some (p, .d (.bool true)) ∧ p

theorem law_calls {f : FuncId} {g : List AV → Option (Prop × AV)} (hm : Meets P f (Spec.pure g)) {k : Nat} {ts : List TypeId} (hpl : ∀ t ∈ ts, plainB P k t = true) (hlaw : LawOk P k ts g) {base : Nat} {args : Array Value} {ds : List (DataW H)} {ps : List MemPlace}
    (hok : ∀ (j : Nat) t v, ts[j]? = some t → args[j]? = some v → Value.okWide P w .any base t v) (hA : DataW.TrodAll enc P w 0 (fun _ => true) true ts args.toList ds ps) :
    Calls P f args w fun e w' => e = .returned (.bool true) ∧ Below w.heap.size w w' := by
  have key : ∀ (ts : List TypeId) (vs : List Value) (ds : List (DataW H)) (ps : List MemPlace), (∀ t ∈ ts, plainB P k t = true) → (∀ (j : Nat) t v, ts[j]? = some t → vs[j]? = some v → Value.okWide P w .any base t v) → DataW.TrodAll enc P w 0 (fun _ => true) true ts vs ds ps →
      vs.length = ts.length ∧ ∃ cs : List AV, cs.length = ts.length ∧ (∀ (i : Nat) (t : TypeId) (c : AV), ts[i]? = some t → cs[i]? = some c → ArgOk P k t c) ∧ (∀ (i : Nat) (c : AV) (u : Value), cs[i]? = some c → vs[i]? = some u → @R lone_ w (fun _ => none) 0 c u) := by
    intro ts
    induction ts with
    | nil =>
      intro vs ds ps _ _ h
      obtain ⟨rfl, _, _⟩ := ChangeShapes.trodAll_nil h
      exact ⟨rfl, [], rfl, fun i t c h => by simp at h, fun i c u h => by simp at h⟩
    | cons t ts ih =>
      intro vs ds ps hp ho h
      obtain ⟨v, vs1, d, ds1, a, b, rfl, rfl, rfl, h1, h2⟩ := ChangeShapes.trodAll_cons h
      obtain ⟨hl, cs, e1, e2, e3⟩ := ih vs1 ds1 b (fun t ht => hp t (by simp [ht])) (fun j t v h1 h2 => ho (j + 1) t v (by simpa using h1) (by simpa using h2)) h2
      obtain ⟨c, c1, c2⟩ := arg_read (hp t (by simp)) (ho 0 t v rfl rfl) h1
      refine ⟨by simp [hl], c :: cs, by simp [e1], fun i t' c' hi hc => ?_, fun i c' u hi hu => ?_⟩
      · cases i with
        | zero => simp at hi hc; subst hi hc; exact c1
        | succ i => exact e2 i t' c' (by simpa using hi) (by simpa using hc)
      · cases i with
        | zero => simp at hi hu; subst hi hu; exact c2
        | succ i => exact e3 i c' u (by simpa using hi) (by simpa using hu)
  obtain ⟨hl, cs, e1, e2, e3⟩ := key ts args.toList ds ps hpl (fun j t v h1 h2 => hok j t v h1 (by simpa using h2)) hA
  obtain ⟨p, hg, hp⟩ := hlaw cs e1 e2
  have h0 : @HeapOk lone_ w (liveB (fun _ => none) (fun _ => none)) (fun _ => none) 0 w (fun _ => none) :=
    @HeapOk.mk lone_ _ _ _ _ _ _ (fun _ _ => rfl) (fun i l b h => by cases h) (fun id b h => by cases h) (fun i j l l' b h => by cases h) (fun i l b h => by cases h) rfl rfl rfl (Nat.le_refl _) (fun _ _ _ => rfl) (fun b h => h.elim) (fun i h => absurd h (Nat.not_lt_zero i))
  unfold Meets at hm
  have := @hm cs (fun _ => none) 0 p (.d (.bool true)) none (by simp only [Spec.pure, hg]) hp lone_ w (fun _ => none) args.toList h0 (by omega) e3
  rw [show args.toList.toArray = args by simp] at this
  refine this.mono ?_
  rintro e w' ⟨v, S', rfl, hL, hs, hR⟩
  obtain ⟨_, hsame⟩ := hs rfl
  refine ⟨by rw [@R.bool_iff lone_] at hR; rw [hR], ?_⟩
  have hH' := @Left.heap lone_ _ _ _ _ _ _ _ _ hL
  exact ⟨@HeapOk.os lone_ _ _ _ _ _ _ hH', @HeapOk.tape lone_ _ _ _ _ _ _ hH', @HeapOk.output lone_ _ _ _ _ _ _ hH', @HeapOk.size lone_ _ _ _ _ _ _ hH', hsame⟩
end
end Go.Vc
