/- Walks, printed by wip/gen/walk.py. -/
import Derived.Test.YtmbjnkgpcbpclaaGreatT97
import Derived.Test.YtmbjnkgpcbpclaaGreatT96
import Derived.Test.YtmbjnkgpcbpclaaGreatT71
import Derived.Test.YtmbjnkgpcbpclaaGreatV5
import Derived.Recover
import Derived.RegionCalls
import Derived.RegionTactic
import Derived.RangeFuncRecord
import Derived.Deep.MidRow
set_option linter.all false
set_option maxRecDepth 100000
set_option maxHeartbeats 4000000
namespace Go.Proofs.YtmbjnkgpcbpclaaGreat
open Go Go.Vc Go.RowKit
theorem ta_fault (X : Value) (w : World) : (Instr.typeAssert (.iface 29 X) 20 29 true).run Tryz.prog w = .ok (.tuple #[X, .bool true]) w := by
  unfold Instr.typeAssert
  simp [Tryz.underlying29]
theorem adr_ne {b b' i j : Nat} (h : b ≠ b') : (⟨b, i, none⟩ : Addr) ≠ ⟨b', j, none⟩ := fun e => h (congrArg Addr.block e)
theorem heap_set_ne {w : World} {a : Addr} {v : Value} {b : Nat} (h : b ≠ a.block) : (w.setCell a v).heap[b]? = w.heap[b]? := by
  simp only [World.setCell, Array.getElem?_modify]
  rw [if_neg (fun e => h e.symm)]
theorem heap_alloc_lt {w : World} {o : Obj} {b : Nat} (h : b < w.heap.size) : (w.alloc o).heap[b]? = w.heap[b]? := by
  simp only [World.alloc, Array.getElem?_push]
  rw [if_neg (by omega)]
def cloPost (b0 b1 : Nat) (c k : Int) (w : World) : Ending → FrameMode → World → Prop := fun e u' w' => u' = .panicking [{ v := .iface 29 (.agg #[.int .i64 c, .int .i64 k]), recovered := true }] ∧ e = .returned (.tuple #[]) ∧ w.heap.size ≤ w'.heap.size ∧ (∀ b, b < w.heap.size → b ≠ b0 → b ≠ b1 → w'.heap[b]? = w.heap[b]?) ∧ w'.cell? ⟨b0, 0, none⟩ = some (.slice none 0 0) ∧ w'.cell? ⟨b1, 0, none⟩ = some (.int .i64 c) ∧ w'.cell? ⟨b1, 1, none⟩ = some (.int .i64 k) ∧ w'.os = w.os ∧ w'.tape = w.tape ∧ w'.output = w.output
theorem clo_pan (b0 b1 : Nat) (c k : Int) (w : World) (z0 z1 z2 : Value) (h0 : w.cell? ⟨b0, 0, none⟩ = some z0) (h1 : w.cell? ⟨b1, 0, none⟩ = some z1) (h2 : w.cell? ⟨b1, 1, none⟩ = some z2) (f0 : w.frozen? ⟨b0, 0, none⟩ = false) (f1 : w.frozen? ⟨b1, 0, none⟩ = false) (f2 : w.frozen? ⟨b1, 1, none⟩ = false) (hne : b0 ≠ b1) : CallsD Tryz.prog 41 #[.pointer (some ⟨b0, 0, none⟩), .pointer (some ⟨b1, 0, none⟩)] (.panicking (faultE 29 c k)) w (cloPost b0 b1 c k w) := by
  have hb0 := World.block_lt_of_cell? _ _ h0
  have hb1 := World.block_lt_of_cell? _ _ h1
  dsimp only at hb0 hb1
  refine callsD_of_wpS Tryz.func41 rfl fun c0 cs hu => ?_
  simp only [Tryz.ntmps41, List.size_toArray, List.length_cons, List.length_nil, Nat.reduceAdd, Nat.reduceSub, Array.replicate_succ, Array.replicate_zero, List.push_toArray, List.append_toArray, List.nil_append, List.cons_append]
  have hrec : recoverD (c0 :: cs) = some (.iface 29 (.agg #[.int .i64 c, .int .i64 k]), { c0 with mode := .panicking [{ v := .iface 29 (.agg #[.int .i64 c, .int .i64 k]), recovered := true }] } :: cs) := by simp [recoverD, hu, faultE]
  refine wpS_seq ?_
  refine wpS_region ?_
  have hr : ∀ (o : Oper), o.op = Op.call { callee := Callee.builtin Builtin.recover, args := #[], argTypes := #[] } → ∀ (ρ : Operand → Value), (execOp ρ o).run Tryz.prog w = .ok .recover w := by
    intro o ho ρ
    simp [execOp, ho, resolve, invoke, builtin]
  simp [wpOpsS, List.range, List.range.loop, Region.wanted, hr, hrec, execOp, Oper.upon, Exit.thenS, Act.put, Act.eval]
  refine wpS_seq (wpS_of_wp ?_)
  go_wp2
  show Code.wpS _ _ _ _ _ _
  refine wpS_cond (t := true) rfl ?_
  refine wpS_of_wp ?_
  have hta := ta_fault (.agg #[.int .i64 c, .int .i64 k]) w
  have c1 : (w.setCell ⟨b0, 0, none⟩ (.slice none 0 0)).cell? ⟨b1, 0, none⟩ = some z1 := by rw [World.cell?_setCell_other _ _ _ _ (adr_ne hne)]; exact h1
  have c2 : (w.setCell ⟨b0, 0, none⟩ (.slice none 0 0)).cell? ⟨b1, 1, none⟩ = some z2 := by rw [World.cell?_setCell_other _ _ _ _ (by intro e; cases e)]; exact h2
  have c3 : ((w.setCell ⟨b0, 0, none⟩ (.slice none 0 0)).setCell ⟨b1, 0, none⟩ (.int .i64 c)).cell? ⟨b1, 1, none⟩ = some z2 := by rw [World.cell?_setCell_other _ _ _ _ (by intro e; cases e)]; exact c2
  have c4 : ((w.setCell ⟨b0, 0, none⟩ (.slice none 0 0)).setCell ⟨b1, 0, none⟩ (.int .i64 c)).cell? ⟨b0, 0, none⟩ = some (.slice none 0 0) := by rw [World.cell?_setCell_other _ _ _ _ (adr_ne (Ne.symm hne))]; exact World.cell?_setCell_same _ _ _ h0
  show Code.wp _ _ _ _ _
  go_wp2
  go_region
  refine ⟨rfl, .panicking [{ v := .iface 29 (.agg #[.int .i64 c, .int .i64 k]), recovered := true }], rfl, _, results_none rfl _ _ _, rfl, rfl, ?_, ?_, ?_, ?_, ?_, rfl, rfl, rfl⟩
  · simp
  · intro b hb hn0 hn1
    show (World.alloc _ _).heap[b]? = _
    rw [heap_alloc_lt (by simpa using hb), heap_set_ne (by exact hn1), heap_set_ne (by exact hn1), heap_set_ne (by exact hn0)]
  · show (World.alloc _ _).cell? _ = _
    rw [World.cell?_alloc_lt _ _ _ (by simpa using hb0), World.cell?_setCell_other _ _ _ _ (adr_ne (Ne.symm hne))]
    exact c4
  · show (World.alloc _ _).cell? _ = _
    rw [World.cell?_alloc_lt _ _ _ (by simpa using hb1), World.cell?_setCell_other _ _ _ _ (by intro e; cases e)]
    exact World.cell?_setCell_same _ _ _ c1
  · show (World.alloc _ _).cell? _ = _
    rw [World.cell?_alloc_lt _ _ _ (by simpa using hb1)]
    exact World.cell?_setCell_same _ _ _ c3
theorem par_res (tmps : Array Value) (b0 b1 : Nat) (c k : Int) (w : World) (e0 : tmps.getD 2 undef = .pointer (some ⟨b0, 0, none⟩)) (e1 : tmps.getD 3 undef = .pointer (some ⟨b1, 0, none⟩)) (h0 : w.cell? ⟨b0, 0, none⟩ = some (.slice none 0 0)) (h1 : w.cell? ⟨b1, 0, none⟩ = some (.int .i64 c)) (h2 : w.cell? ⟨b1, 1, none⟩ = some (.int .i64 k)) :
    (results Tryz.f16 tmps).run Tryz.prog w = .ok (.tuple #[.agg #[.slice none 0 0], .agg #[.int .i64 c, .int .i64 k]]) w := by
  refine results_run (vs := [.agg #[.slice none 0 0], .agg #[.int .i64 c, .int .i64 k]]) rfl fun i r v hr hv => ?_
  match i, hr, hv with
  | 0, hr, hv =>
    obtain rfl := Option.some.inj hr
    obtain rfl := Option.some.inj hv
    refine load_as ?_
    rw [e0]
    exact run_loadAt_mid w b0 0 25 [.slice none 0 0] _ (fun j v hj => by
      match j, hj with
      | 0, hj => cases hj; exact h0) Tryz.underlying25 rfl (by kernel_rfl)
  | 1, hr, hv =>
    obtain rfl := Option.some.inj hr
    obtain rfl := Option.some.inj hv
    refine load_as ?_
    rw [e1]
    exact run_loadAt_mid w b1 0 29 [.int .i64 c, .int .i64 k] _ (fun j v hj => by
      match j, hj with
      | 0, hj => cases hj; exact h1
      | 1, hj => cases hj; exact h2) Tryz.underlying29 rfl (by kernel_rfl)
def nsX (t : Bs) : List Sn := match parX t with | .ok ns => ns | .error _ => []
def parXG : List AV → Option (Prop × AV)
  | [.d (.str t)] => some (t.length ≤ 9223372036854775807, .tup [.agg [.d (.sl (rows eSn (nsX t)))], .agg [.d (.int .i64 (eC (parX t))), .d (.int .i64 (eK (parX t)))]])
  | _ => none
theorem parX_S {t : Bs} {q : List Sn} (h : parX t = .ok q) : t.length ≤ 300 ∧ parS t = some q := by
  unfold parX at h
  split at h
  · cases h
  · rename_i hl
    refine ⟨by omega, ?_⟩
    split at h
    · cases h
    · rename_i a ns x hr
      have hP := rdX_ok hr
      have hf := (rd_fit t 2000 0 0 [] (Nat.zero_le _) a ns x hP).1
      have hk := skS_le hf.2.1
      unfold parS
      rw [hP]
      dsimp only
      split at h
      · cases h
      · split at h
        · cases h
        · cases h
          rw [if_pos ⟨by omega, by omega⟩]
theorem left_same [F : Far] {w w' : World} {S : Lays} {H : Heap} {n : Nat} (hH : HeapOk w (liveB H S) H n w S) (hs : w.heap.size ≤ w'.heap.size) (hsame : ∀ b, b < w.heap.size → w'.heap[b]? = w.heap[b]?) (ho : w'.os = w.os) (ht : w'.tape = w.tape) (hu : w'.output = w.output) : Go.Vc.Left H n w S H n w' S := by
  have hE : Ext w S n w' S n := ⟨Nat.le_refl _, hs, fun _ _ => .inl rfl, fun _ _ h => h, fun b hb _ => hsame b hb⟩
  refine ⟨?_, hE, fun _ _ _ => rfl, fun id hid _ => hH.bnd id hid⟩
  refine HeapOk.mk hH.bnd (fun i l b h1 h2 => Nat.lt_of_lt_of_le (hH.lt2 i l b h1 h2) hE.size) (fun id b hb => ?_) hH.inj2 hH.nod hH.plain hH.mut2 ho ht hu hE.size (fun b hb _ => hsame b hb) hH.far hH.pin (hH.glx hE)
  obtain ⟨l, hl, hbox⟩ := hH.box id b hb
  exact ⟨l, hl, hbox.ext hE (fun k hk => hsame k (hH.lt2 id l k hl hk))⟩
theorem bad_res [F : Far] (w : World) (S : Lays) (n : Nat) (c k : Int) : R w S n (.tup [.agg [.d (.sl [])], .agg [.d (.int .i64 c), .d (.int .i64 k)]]) (.tuple #[.agg #[.slice none 0 0], .agg #[.int .i64 c, .int .i64 k]]) := by
  refine R.tup _ [.agg #[.slice none 0 0], .agg #[.int .i64 c, .int .i64 k]] rfl fun i d u hd hu => ?_
  match i, hd, hu with
  | 0, hd, hu =>
    cases hd; cases hu
    refine R.agg _ [.slice none 0 0] rfl (fun u hu => by simp at hu; subst hu; rfl) fun i d u hd hu => ?_
    match i, hd, hu with
    | 0, hd, hu => cases hd; cases hu; exact .d (.sl0 _ _)
  | 1, hd, hu =>
    cases hd; cases hu
    refine R.agg _ [.int .i64 c, .int .i64 k] rfl (fun u hu => by simp at hu; rcases hu with rfl | rfl <;> rfl) fun i d u hd hu => ?_
    match i, hd, hu with
    | 0, hd, hu => cases hd; cases hu; exact .d (.int _ _)
    | 1, hd, hu => cases hd; cases hu; exact .d (.int _ _)
theorem par_long (t : Bs) (h : 300 < t.length) (hmax : t.length ≤ 9223372036854775807) (w : World) (Q : Ending → World → Prop) (hQ : ∀ w' : World, w.heap.size ≤ w'.heap.size → (∀ b, b < w.heap.size → w'.heap[b]? = w.heap[b]?) → w'.os = w.os → w'.tape = w.tape → w'.output = w.output → Q (.returned (.tuple #[.agg #[.slice none 0 0], .agg #[.int .i64 2, .int .i64 (-1)]])) w') : Calls Tryz.prog 16 #[.string ⟨t.toArray⟩] w Q := by
  refine calls_of_wp_defers (P := Tryz.prog) Tryz.func16 (c := parC) rfl ?_
  simp only [Tryz.ntmps16, List.size_toArray, List.length_cons, List.length_nil, Nat.reduceAdd, Nat.reduceSub, Array.replicate_succ, Array.replicate_zero, List.push_toArray, List.append_toArray, List.nil_append, List.cons_append]
  show Code.wp Tryz.prog (Code.seq _ (Code.seq _ (Code.seq _ parB))) _ _ _
  have hl : (⟨t.toArray⟩ : ByteArray).size = t.length := by simp [ByteArray.size]
  have hn : (300 : Int) < (t.length : Int) := by omega
  go_wp2
  refine ⟨_, par_res _ w.heap.size (w.heap.size + 1) 2 (-1) _ rfl rfl ?_ ?_ ?_, hQ _ (by simp; omega) ?_ rfl rfl rfl⟩
  · rw [World.cell?_alloc_lt _ _ _ (by simp), World.cell?_alloc_new]; rfl
  · have := World.cell?_alloc_new (w.alloc (Obj.cells #[Value.slice none 0 0] 25)) #[Value.int IntKind.i64 2, Value.int IntKind.i64 (-1)] 29 0
    rw [World.size_alloc] at this
    exact this
  · have := World.cell?_alloc_new (w.alloc (Obj.cells #[Value.slice none 0 0] 25)) #[Value.int IntKind.i64 2, Value.int IntKind.i64 (-1)] 29 1
    rw [World.size_alloc] at this
    exact this
  · intro b hb
    rw [heap_alloc_lt (by simp; omega), heap_alloc_lt hb]

@[reducible] def parF2 (F : Far) (w : World) (S : Lays) (hlt : ∀ b, @own F S b → b < w.heap.size) (d : Deferred) : Far where
  F := @own F S
  nev := fun b => b < w.heap.size
  sub := hlt
  pin := fun i => if i = 0 then some ⟨some w.heap.size, 1, 1, []⟩ else if i = 1 then some ⟨some (w.heap.size + 1), 2, 1, []⟩ else none
  np := 2
  marks := false
  mx := F.mx
  dt := [d]
theorem getB_two : (upd (upd (getB []) 0 (some (.one 25 [.d .nils]))) (0 + 1) (some (.one 29 [.d (.int .i64 0), .d (.int .i64 0)])) : Go.Vc.Heap) = getB [some (.one 25 [.d .nils]), some (.one 29 [.d (.int .i64 0), .d (.int .i64 0)])] := by
  funext i
  match i with
  | 0 => rfl
  | 1 => rfl
  | i + 2 => simp [upd_app, getB]
theorem par_heap2 [G : Far] {w : World} (h0 : HeapOk w (fun _ => False) (getB []) 0 w (fun _ => none)) : HeapOk w (fun _ => False) (getB [some (.one 25 [.d .nils]), some (.one 29 [.d (.int .i64 0), .d (.int .i64 0)])]) 2 ((w.alloc (.cells #[.slice none 0 0] 25)).alloc (.cells #[.int .i64 0, .int .i64 0] 29)) (upd (upd (fun _ => none) 0 (some ⟨some w.heap.size, 1, 1, []⟩)) (0 + 1) (some ⟨some (w.alloc (.cells #[.slice none 0 0] 25)).heap.size, 2, 1, []⟩)) := by
  obtain ⟨h1, _⟩ := h0.alloc (w1 := w) ⟨rfl, rfl, rfl, rfl⟩ #[.slice none 0 0] 25 (.one 25 [.d .nils]) 1 1 (fun S' n' hE hn => one_of_cells hn rfl fun i c hc => by
    match i, hc with
    | 0, hc => cases hc; exact ⟨_, rfl, rfl, .d .nils⟩)
  obtain ⟨h2, _⟩ := h1.alloc (w1 := w.alloc (.cells #[.slice none 0 0] 25)) ⟨rfl, rfl, rfl, rfl⟩ #[.int .i64 0, .int .i64 0] 29 (.one 29 [.d (.int .i64 0), .d (.int .i64 0)]) 2 1 (fun S' n' hE hn => one_of_cells hn rfl fun i c hc => by
    match i, hc with
    | 0, hc => cases hc; exact ⟨_, rfl, rfl, .d (.int _ _)⟩
    | 1, hc => cases hc; exact ⟨_, rfl, rfl, .d (.int _ _)⟩)
  rw [← getB_two]; exact h2
theorem par_heap3 (F : Far) (w : World) (S : Lays) (hlt : ∀ b, @own F S b → b < w.heap.size) (D : Deferred) (h1 : @HeapOk (parF F w S hlt D) w (fun _ => False) (getB [some (.one 25 [.d .nils]), some (.one 29 [.d (.int .i64 0), .d (.int .i64 0)])]) 2 ((w.alloc (.cells #[.slice none 0 0] 25)).alloc (.cells #[.int .i64 0, .int .i64 0] 29)) (upd (upd (fun _ => none) 0 (some ⟨some w.heap.size, 1, 1, []⟩)) (0 + 1) (some ⟨some (w.heap.size + 1), 2, 1, []⟩))) :
    @HeapOk (parF2 F w S hlt D) w (fun _ => False) (getB [some (.one 25 [.d .nils]), some (.one 29 [.d (.int .i64 0), .d (.int .i64 0)])]) 2 ((w.alloc (.cells #[.slice none 0 0] 25)).alloc (.cells #[.int .i64 0, .int .i64 0] 29)) (upd (upd (fun _ => none) 0 (some ⟨some w.heap.size, 1, 1, []⟩)) (0 + 1) (some ⟨some (w.heap.size + 1), 2, 1, []⟩)) := by
  obtain ⟨a1, a2, a3, a4, a5, a6, a7, a8, a9, a10, a11, a12, a13, a14, a15⟩ := h1
  refine @HeapOk.mk (parF2 F w S hlt D) _ _ _ _ _ _ a1 a2 ?_ a4 a5 a6 a7 a8 a9 a10 a11 a12 a13 (fun i hi => ⟨hi, .inl (by
    match i, hi with
    | 0, _ => rfl
    | 1, _ => rfl)⟩) a15
  intro id b hb
  match id, hb with
  | 0, hb =>
    cases hb
    refine ⟨_, rfl, rfl, rfl, w.heap.size, rfl, #[.slice none 0 0], by rw [heap_alloc_lt (by simp)]; exact World.alloc_heap_new _ _, rfl, fun f c hc => ?_⟩
    match f, hc with
    | 0, hc => cases hc; exact ⟨_, rfl, rfl, @R.d (parF2 F w S hlt D) _ _ _ _ _ .nils⟩
  | 1, hb =>
    cases hb
    refine ⟨_, rfl, rfl, rfl, w.heap.size + 1, rfl, #[.int .i64 0, .int .i64 0], by have := World.alloc_heap_new (w.alloc (.cells #[.slice none 0 0] 25)) (.cells #[.int .i64 0, .int .i64 0] 29); rw [World.size_alloc] at this; exact this, rfl, fun f c hc => ?_⟩
    match f, hc with
    | 0, hc => cases hc; exact ⟨_, rfl, rfl, @R.d (parF2 F w S hlt D) _ _ _ _ _ (.int _ _)⟩
    | 1, hc => cases hc; exact ⟨_, rfl, rfl, @R.d (parF2 F w S hlt D) _ _ _ _ _ (.int _ _)⟩
theorem par_cells (F : Far) (w : World) (S : Lays) (hlt : ∀ b, @own F S b → b < w.heap.size) (D : Deferred) {st : St} {a : Act} {w' : World} {S1 : Lays} {N : Nat} (hH1 : @HeapOk (parF2 F w S hlt D) w (fun _ => False) st.H st.n w' S1) (hF1 : @FrOk (parF2 F w S hlt D) w' S1 st.n N st.fr a) (x0 : st.H 0 = some (.one 25 [.d .nils])) (x1 : st.H 1 = some (.one 29 [.d (.int .i64 0), .d (.int .i64 0)])) (x2 : st.fr 2 = .ptr 0 0 0) (x3 : st.fr 3 = .ptr 1 0 0) :
    (w'.cell? ⟨w.heap.size, 0, none⟩ = some (.slice none 0 0) ∧ w'.cell? ⟨w.heap.size + 1, 0, none⟩ = some (.int .i64 0) ∧ w'.cell? ⟨w.heap.size + 1, 1, none⟩ = some (.int .i64 0)) ∧ a.tmps.getD 2 undef = .pointer (some ⟨w.heap.size, 0, none⟩) ∧ a.tmps.getD 3 undef = .pointer (some ⟨w.heap.size + 1, 0, none⟩) ∧ w'.frozen? ⟨w.heap.size, 0, none⟩ = false ∧ w'.frozen? ⟨w.heap.size + 1, 0, none⟩ = false ∧ w'.frozen? ⟨w.heap.size + 1, 1, none⟩ = false := by
  obtain ⟨l0, e0, _, _, b0, hb0, cur0, hc0, hz0, hr0⟩ := @HeapOk.box (parF2 F w S hlt D) _ _ _ _ _ _ hH1 0 _ x0
  obtain ⟨l1, e1, _, _, b1, hb1, cur1, hc1, hz1, hr1⟩ := @HeapOk.box (parF2 F w S hlt D) _ _ _ _ _ _ hH1 1 _ x1
  have q0 : S1 0 = some ⟨some w.heap.size, 1, 1, []⟩ := ((@HeapOk.pin (parF2 F w S hlt D) _ _ _ _ _ _ hH1 0 (show (0 : Nat) < 2 by decide)).2).resolve_right (by rw [e0]; simp)
  have q1 : S1 1 = some ⟨some (w.heap.size + 1), 2, 1, []⟩ := ((@HeapOk.pin (parF2 F w S hlt D) _ _ _ _ _ _ hH1 1 (show (1 : Nat) < 2 by decide)).2).resolve_right (by rw [e1]; simp)
  rw [e0] at q0
  rw [e1] at q1
  cases q0
  cases q1
  cases hb0
  cases hb1
  obtain ⟨u0, k0, _, r0⟩ := hr0 0 _ rfl
  obtain ⟨u1, k1, _, r1⟩ := hr1 0 _ rfl
  obtain ⟨u2, k2, _, r2⟩ := hr1 1 _ rfl
  cases r0 with | d r0 =>
  cases r1 with | d r1 =>
  cases r2 with | d r2 =>
  cases r0; cases r1; cases r2
  have t0 := @FrOk.at_ (parF2 F w S hlt D) _ _ _ _ _ _ hF1 2
  have t1 := @FrOk.at_ (parF2 F w S hlt D) _ _ _ _ _ _ hF1 3
  rw [x2] at t0
  rw [x3] at t1
  have hfr : ∀ (b i : Nat) (cur : Array Value) (ty : TypeId), w'.heap[b]? = some (.cells cur ty (0, 0)) → w'.frozen? ⟨b, i, none⟩ = false := fun b i cur ty h => by simp [World.frozen?, h]
  refine ⟨⟨?_, ?_, ?_⟩, ?_, ?_, hfr _ _ _ _ hc0, hfr _ _ _ _ hc1, hfr _ _ _ _ hc1⟩
  · rw [cell_of_row w' _ 0 cur0 _ (0, 0) hc0]; exact k0
  · rw [cell_of_row w' _ 0 cur1 _ (0, 0) hc1]; exact k1
  · rw [cell_of_row w' _ 1 cur1 _ (0, 0) hc1]; exact k2
  · generalize a.tmps.getD 2 undef = v at *
    cases t0 with
    | ptrDead _ _ _ _ _ h => rw [e0] at h; cases h
    | ptr _ _ _ b l _ h hb => rw [e0] at h; cases h; cases hb; simp
  · generalize a.tmps.getD 3 undef = v at *
    cases t1 with
    | ptrDead _ _ _ _ _ h => rw [e1] at h; cases h
    | ptr _ _ _ b l _ h hb => rw [e1] at h; cases h; cases hb; simp
theorem parX_meets : Meets Tryz.prog 16 (Spec.pure parXG) := by
 intro args H n p r o hrun hp F w S vs hH hl hr
 have hrun0 := hrun
 simp only [Spec.pure] at hrun
 split at hrun
 ·rename_i p' r' hg
  simp only [Option.some.injEq, Prod.mk.injEq] at hrun
  obtain ⟨rfl, rfl, rfl⟩ := hrun
  unfold parXG at hg
  split at hg
  ·rename_i t
   simp only [Option.some.injEq, Prod.mk.injEq] at hg
   obtain ⟨rfl, rfl⟩ := hg
   match hX : parX t with
   | .ok q =>
    obtain ⟨h3, hS⟩ := parX_S hX
    have hn : nsX t = q := by unfold nsX; rw [hX]
    have := par_meets [.d (.str t)] H n (t.length ≤ 300 ∧ (parS t).isSome = true) (.tup [.agg [.d (.sl (rows eSn ((parS t).getD [])))], .agg [.d (.int .i64 0), .d (.int .i64 0)]]) none rfl ⟨h3, by rw [hS]; rfl⟩ w S vs hH hl hr
    rw [hS] at this
    rw [hn]
    exact this
   | .error (c, k) =>
    have hn : nsX t = [] := by unfold nsX; rw [hX]
    rw [hn, eC_e, eK_e]
    match vs, hl with
    | [v0], _ =>
    have hv := R.str_iff.1 (hr 0 _ _ rfl rfl)
    subst hv
    have hfin : ∀ w' : World, w.heap.size ≤ w'.heap.size → (∀ b, b < w.heap.size → w'.heap[b]? = w.heap[b]?) → w'.os = w.os → w'.tape = w.tape → w'.output = w.output → ∃ v S', Ending.returned (.tuple #[.agg #[.slice none 0 0], .agg #[.int .i64 c, .int .i64 k]]) = .returned v ∧ Go.Vc.Left H n w S H n w' S' ∧ ((none : Option (Go.Vc.Heap × Nat)) = none → S' = S ∧ ∀ b, b < w.heap.size → w'.heap[b]? = w.heap[b]?) ∧ R w' S' n (.tup [.agg [.d (.sl [])], .agg [.d (.int .i64 c), .d (.int .i64 k)]]) v := fun w' a1 a2 a3 a4 a5 =>
     ⟨_, S, rfl, left_same hH a1 a2 a3 a4 a5, fun _ => ⟨rfl, a2⟩, bad_res w' S n c k⟩
    by_cases h3 : 300 < t.length
    ·have hck : c = 2 ∧ k = -1 := by
      unfold parX at hX
      rw [if_pos h3] at hX
      cases hX; exact ⟨rfl, rfl⟩
     obtain ⟨rfl, rfl⟩ := hck
     exact par_long t h3 hp w _ hfin
    ·have h3 : t.length ≤ 300 := by omega
     have hc0 : c ≠ 0 := by
      rcases parX_cases h3 hX with h | ⟨a, ns, x, _, h | h⟩
      ·exact rd_noz (t := t) 2000 0 0 [] (by omega) (Nat.zero_le _) (by omega) c k h
      ·rw [h.2.1]; decide
      ·rw [h.2.2.1]; decide
     have hlt : ∀ b, @own F S b → b < w.heap.size := own_lt hH
     refine calls_of_wp_defers (P := Tryz.prog) Tryz.func16 (c := parC) rfl ?_
     simp only [Tryz.ntmps16, List.size_toArray, List.length_cons, List.length_nil, Nat.reduceAdd, Nat.reduceSub, Array.replicate_succ, Array.replicate_zero, List.push_toArray, List.append_toArray, List.nil_append, List.cons_append]
     show Code.wp Tryz.prog (Code.seq _ (Code.seq _ (Code.seq _ parB))) _ _ _
     have hl : (⟨t.toArray⟩ : ByteArray).size = t.length := by simp [ByteArray.size]
     have hn3 : ¬ (300 : Int) < (t.length : Int) := by omega
     clear hrun0
     go_wp2
     generalize hD : ({ target := .fn (.func 41) #[.pointer (some ⟨w.heap.size, 0, none⟩), .pointer (some ⟨w.heap.size + 1, 0, none⟩)], args := #[] } : Deferred) = D
     have hvc := @parX_vc t c k h3 hX hc0 (parF2 F w S hlt D) w rfl
     have h0 : @HeapOk (parF F w S hlt D) w (fun _ => False) (getB []) 0 w (fun _ => none) := @HeapOk.mk (parF F w S hlt D) _ _ _ _ _ _ (fun _ _ => rfl) (fun i l b h => by cases h) (fun id b h => by cases h) (fun i j l l' b h => by cases h) (fun i l h => by cases h) (fun i l b h => by cases h) (fun i l b h => by cases h) rfl rfl rfl (Nat.le_refl _) (fun _ _ _ => rfl) (fun b hb => ⟨hb, fun i l h => by cases h⟩) (fun i h => absurd h (Nat.not_lt_zero i))
      (fun p hp => (hH.gl p hp).ext (Nat.le_refl _) (fun _ _ _ => rfl) (fun b _ hb h => hb (h.elim id fun ⟨i, l, h, _⟩ => by cases h)))
     have h1 := @par_heap2 (parF F w S hlt D) w h0
     rw [World.size_alloc] at h1
     have hH2 := par_heap3 F w S hlt D h1
     refine wp_mono (wpIn_wide.1 (hvc _ _ ⟨_, hH2, @FrOk.mk (parF2 F w S hlt D) _ _ _ _ _ _ rfl ?_, @Marks.mk (parF2 F w S hlt D) _ _ _ _ (fun _ => rfl) (fun h => by cases h) (fun h => by cases h)⟩)) ?_
     ·intro i
      match i with
      | 0 => exact @R.mkStr (parF2 F w S hlt D) _ _ _ _
      | 1 => exact @R.any (parF2 F w S hlt D) _ _ _ _
      | 2 =>
       have := @R.ptr (parF2 F w S hlt D) ((w.alloc (.cells #[.slice none 0 0] 25)).alloc (.cells #[.int .i64 0, .int .i64 0] 29)) (upd (upd (fun _ => none) 0 (some ⟨some w.heap.size, 1, 1, []⟩)) (0 + 1) (some ⟨some (w.heap.size + 1), 2, 1, []⟩)) 2 0 0 0 w.heap.size ⟨some w.heap.size, 1, 1, []⟩ (by omega) rfl rfl
       have this2 := this
       simp only [Nat.zero_mul, Nat.add_zero] at this2
       exact this2
      | 3 =>
       have := @R.ptr (parF2 F w S hlt D) ((w.alloc (.cells #[.slice none 0 0] 25)).alloc (.cells #[.int .i64 0, .int .i64 0] 29)) (upd (upd (fun _ => none) 0 (some ⟨some w.heap.size, 1, 1, []⟩)) (0 + 1) (some ⟨some (w.heap.size + 1), 2, 1, []⟩)) 2 1 0 0 (w.heap.size + 1) ⟨some (w.heap.size + 1), 2, 1, []⟩ (by omega) rfl rfl
       have this2 := this
       simp only [Nat.zero_mul, Nat.add_zero] at this2
       exact this2
      | i + 4 => exact @R.any (parF2 F w S hlt D) _ _ _ _
     rintro e a' w' ⟨st, ⟨rfl, x0, x1, x2, x3⟩, S1, hH1, hF1, hM1⟩
     have hd : a'.defers = _ := @Marks.let_ (parF2 F w S hlt D) _ _ _ _ hM1 rfl
     obtain ⟨⟨y0, y1, y2⟩, yt0, yt1, g0, g1, g2⟩ := par_cells F w S hlt D hH1 hF1 x0 x1 x2 x3
     have hsame : ∀ b, b < w.heap.size → w'.heap[b]? = w.heap[b]? := fun b hb => @HeapOk.same (parF2 F w S hlt D) _ _ _ _ _ _ hH1 b hb (fun h => h)
     have hos := @HeapOk.os (parF2 F w S hlt D) _ _ _ _ _ _ hH1
     have htp := @HeapOk.tape (parF2 F w S hlt D) _ _ _ _ _ _ hH1
     have hou := @HeapOk.output (parF2 F w S hlt D) _ _ _ _ _ _ hH1
     have hsz := @HeapOk.size (parF2 F w S hlt D) _ _ _ _ _ _ hH1
     show Leaves _ _ _ _ a'.defers (.panicking (faultE 29 c k)) w'
     rw [hd, ← hD]
     refine leaves_cons (f := 41) (args := #[.pointer (some ⟨w.heap.size, 0, none⟩), .pointer (some ⟨w.heap.size + 1, 0, none⟩)]) (by simp) (by simp [invoke, enters_run (P := Tryz.prog) (f := 41) (by kernel_rfl)]) ?_
     refine (clo_pan w.heap.size (w.heap.size + 1) c k w' _ _ _ y0 y1 y2 g0 g1 g2 (by omega)).mono ?_
     rintro e u' w'' ⟨rfl, rfl, p1, p2, p3, p4, p5, p6, p7, p8⟩
     refine ⟨_, par_res _ w.heap.size (w.heap.size + 1) c k w'' yt0 yt1 p3 p4 p5, hfin w'' (by omega) (fun b hb => ?_) (p6.trans hos) (p7.trans htp) (p8.trans hou)⟩
     rw [p2 b (by omega) (by omega) (by omega)]
     exact hsame b hb
  ·cases hg
 ·cases hrun
end Go.Proofs.YtmbjnkgpcbpclaaGreat
