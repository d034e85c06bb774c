/- strings.Count at one byte; strings.Builder: WriteByte, String. -/
import Derived.Test.YtmbjnkgpcbpclaaGreatRep5
import Derived.Lib.Builder
import Derived.Lib.UnsafeStr
import Derived.Lib.Bytealg
import Derived.Laws.Externs
import Derived.Laws.AppendOwn
import Derived.RegionCalls
set_option linter.all false
set_option maxRecDepth 100000
set_option maxHeartbeats 8000000
namespace Go.Proofs.Tryz.Rep
open Go Go.RowKit
theorem countOne (s : ByteArray) (c : UInt8) (w : World) :
    Calls Tryz.prog 180 #[.string s, .string ⟨#[c]⟩] w fun e w' => e = .returned (.int .i64 (s.data.toList.count c : Nat)) ∧ w' = w := by
  go_enter Tryz.func180, Tryz.ntmps180
  go_wp2
  rw [run_callFunc_extern Tryz.func182 (by kernel_rfl) (by kernel_rfl) (by kernel_rfl) (e := Extern.BytealgCount.count) (by kernel_rfl), Lib.run_countString]
  simp only [Result.andThen]
  rw [Oper.upon_value]
  go_wp2
  go_ret
  exact ⟨rfl, rfl⟩
/-- Which old blocks may turn. -/
structure Keep (ks : Nat → Prop) (w w' : World) : Prop where
  os : w'.os = w.os
  tape : w'.tape = w.tape
  output : w'.output = w.output
  size : w.heap.size ≤ w'.heap.size
  same : ∀ k, k < w.heap.size → ¬ ks k → w'.heap[k]? = w.heap[k]?
theorem Keep.refl (ks : Nat → Prop) (w : World) : Keep ks w w := ⟨rfl, rfl, rfl, Nat.le_refl _, fun _ _ _ => rfl⟩
theorem Keep.trans {ks : Nat → Prop} {a b c : World} (h : Keep ks a b) (k : Keep ks b c) : Keep ks a c :=
  ⟨k.os.trans h.os, k.tape.trans h.tape, k.output.trans h.output, Nat.le_trans h.size k.size, fun i hi hn => (k.same i (Nat.lt_of_lt_of_le hi h.size) hn).trans (h.same i hi hn)⟩
theorem Keep.mono {ks ks' : Nat → Prop} {a b : World} (h : Keep ks a b) (hk : ∀ k, k < a.heap.size → ks k → ks' k) : Keep ks' a b := ⟨h.os, h.tape, h.output, h.size, fun i hi hn => h.same i hi fun h' => hn (hk i hi h')⟩
theorem Keep.setCell {ks : Nat → Prop} (w : World) {k : Nat} (j : Nat) (v : Value) (hk : ks k) : Keep ks w (w.setCell ⟨k, j, none⟩ v) :=
  ⟨rfl, rfl, rfl, by simp, fun i _ hn => Below.heap_setCell _ _ _ _ (fun e => hn (by rw [e]; exact hk))⟩
theorem Keep.alloc {ks : Nat → Prop} (w : World) (o : Obj) : Keep ks w (w.alloc o) := ⟨rfl, rfl, rfl, by simp, fun i hi _ => Below.heap_alloc _ _ _ hi⟩
theorem DR {w : World} {b : Nat} {cs : Array Value} {T : TypeId} {z : Nat × Nat} (h : w.heap[b]? = some (.cells cs T z)) (j : Nat) (v : Value) : (w.setCell ⟨b, j, none⟩ v).heap[b]? = some (.cells (cs.setIfInBounds j v) T z) := by
  simp [World.setCell, Array.getElem?_modify, h]
theorem M4 {w : World} {b : Nat} {o : Obj} (h : w.heap[b]? = some o) : b < w.heap.size := (Array.getElem?_eq_some_iff.1 h).1
theorem S0 (b : Nat) (p v : Value) (w : World) (hb : w.heap[b]? = some (.cells #[p, v] 143 (0, 0))) (hp : p = .pointer none ∨ p = .pointer (some ⟨b, 0, none⟩)) :
    Calls Tryz.prog 110 #[.pointer (some ⟨b, 0, none⟩)] w fun e w' => e = .returned (.tuple #[]) ∧ w'.heap[b]? = some (.cells #[.pointer (some ⟨b, 0, none⟩), v] 143 (0, 0)) ∧ Keep (· = b) w w' := by
  obtain ⟨j, hj, hjs⟩ := Option.map_eq_some_iff.1 (show (Tryz.prog.info? 143).map (·.size) = some 2 by kernel_rfl)
  have h0 : w.cell? ⟨b, 0, none⟩ = some p := by rw [Lib.cell_of_heap hb]; rfl
  have hsh : w.shape? b = some (143, 2) := by simp [World.shape?, hb]
  have hfz : w.frozen? ⟨b, 0, none⟩ = false := Lib.frozen_of_heap hb 0
  rcases hp with rfl | rfl
  · have hset := DR hb 0 (.pointer (some ⟨b, 0, none⟩))
    have hq : Calls Tryz.prog 110 #[.pointer (some ⟨b, 0, none⟩)] w fun e w' => e = .returned (.tuple #[]) ∧ w' = w.setCell ⟨b, 0, none⟩ (.pointer (some ⟨b, 0, none⟩)) := by
      go_enter Tryz.func110, Tryz.ntmps110
      go_wp2
      rw [Lib.run_to_unsafe w ⟨b, 0, none⟩ Tryz.underlying140 Tryz.underlying172 hj (by rw [hjs]; decide) hsh (Nat.zero_lt_succ 1)]
      simp only [Result.andThen]
      rw [Oper.upon_value]
      go_wp2
      rw [run_callFunc_extern Tryz.func123 (by kernel_rfl) (by kernel_rfl) (by kernel_rfl) (e := Extern.AbiNoEscape.same) (by kernel_rfl)]
      rw [Lib.run_noEscape]
      simp only [Result.andThen]
      rw [Oper.upon_value]
      go_wp2
      rw [Lib.run_from_unsafe w ⟨b, 0, none⟩ Tryz.underlying172 Tryz.underlying140 hj hsh (by kernel_rfl)]
      simp only [Result.andThen]
      rw [Oper.upon_value]
      go_wp2
      go_end0
      exact ⟨rfl, rfl⟩
    refine hq.mono ?_
    rintro e w' ⟨rfl, rfl⟩
    exact ⟨rfl, by rw [hset]; rfl, Keep.setCell w 0 _ rfl⟩
  · have hq : Calls Tryz.prog 110 #[.pointer (some ⟨b, 0, none⟩)] w fun e w' => e = .returned (.tuple #[]) ∧ w' = w := by
      go_enter Tryz.func110, Tryz.ntmps110
      go_wp2
      rw [Lib.run_neq_ptr_same w _ Tryz.underlying140 hj]
      go_wp2
      go_end0
      exact ⟨rfl, rfl⟩
    refine hq.mono ?_
    rintro e w' ⟨rfl, rfl⟩
    exact ⟨rfl, hb, Keep.refl _ _⟩
/-- Bytes as cells. -/
abbrev Wy (l : List UInt8) : List Value := l.map fun c => Value.int .u8 (c.toNat : Int)
/-- A builder's buffer. -/
def Buf (w : World) (b : Nat) (v : Value) (bs : List UInt8) (fz : Bool) : Prop :=
  (v = .slice none 0 0 ∧ bs = []) ∨ ∃ g cap cur z, bs ≠ [] ∧ v = .slice (some ⟨g, 0, none⟩) bs.length cap ∧ g ≠ b ∧ bs.length ≤ cap ∧ cap ≤ maxLen ∧ w.heap[g]? = some (.cells cur 5 z) ∧ cur.size = cap ∧ cur.toList.take bs.length = Wy bs ∧ (fz = false → z = (0, 0))
theorem NE {w : World} {g n : Nat} {cur : Array Value} {z : Nat × Nat} {bs : List UInt8} (hg : w.heap[g]? = some (.cells cur 5 z)) (ht : cur.toList.take bs.length = Wy bs) (j : Nat) (x : UInt8) (hx : bs[j]? = some x) : w.cell? ⟨g, j, none⟩ = some (.int .u8 (x.toNat : Int)) := by
  rw [Lib.cell_of_heap hg]
  have hj : j < bs.length := (List.getElem?_eq_some_iff.1 hx).1
  have : (cur.toList.take bs.length)[j]? = cur[j]? := by rw [List.getElem?_take, if_pos hj, Array.getElem?_toList]
  rw [← this, ht]
  simp [hx]
theorem writeByte (b : Nat) (p v : Value) (bs : List UInt8) (c : UInt8) (w : World) (hb : w.heap[b]? = some (.cells #[p, v] 143 (0, 0))) (hp : p = .pointer none ∨ p = .pointer (some ⟨b, 0, none⟩)) (hv : Buf w b v bs false) (hlen : bs.length + 1 ≤ 1000000) :
    Calls Tryz.prog 95 #[.pointer (some ⟨b, 0, none⟩), .int .u8 (c.toNat : Int)] w fun e w' => e = .returned .nilIface ∧
      ∃ v', w'.heap[b]? = some (.cells #[.pointer (some ⟨b, 0, none⟩), v'] 143 (0, 0)) ∧ Buf w' b v' (bs ++ [c]) false ∧ Keep (fun k => k = b ∨ v.ownBlock = some k) w w' ∧ (v'.ownBlock = v.ownBlock ∨ ∃ k, w.heap.size ≤ k ∧ v'.ownBlock = some k) := by
  obtain ⟨iB, hiB, hzB, hsB, hbB⟩ := info_parts (P := Tryz.prog) (e := 5) (z := .int .u8 0) (size := 1) (bytes := 1) (by kernel_rfl)
  have hbb : ∀ (n : Int) (w : World), (Instr.buildSlice 141 1 #[(0, .int .u8 n)]).run Tryz.prog w = .ok (.slice (some ⟨w.heap.size, 0, none⟩) 1 1) (w.alloc (.cells #[.int .u8 n] 5)) := fun n w =>
    run_buildSlice w 141 5 1 _ #[.int .u8 n] iB _ Tryz.underlying141 hiB hzB (by rw [hsB]; decide) (by rw [hsB]; decide) (by rw [hsB]; simp [Instr.fill, Value.cells, show Array.range 1 = #[0] from rfl])
  have hbl := M4 hb
  go_enter Tryz.func95, Tryz.ntmps95
  go_wp2_with (go_at_call 110; refine (S0 b p v w hb hp).mono ?_)
  rintro e w1 ⟨rfl, hb1, hk1⟩
  have hs1 := hk1.size
  have c0 : w1.cell? ⟨b, 0, none⟩ = some (.pointer (some ⟨b, 0, none⟩)) := by rw [Lib.cell_of_heap hb1]; rfl
  have c1 : w1.cell? ⟨b, 1, none⟩ = some v := by rw [Lib.cell_of_heap hb1]; rfl
  have f1 : w1.frozen? ⟨b, 1, none⟩ = false := Lib.frozen_of_heap hb1 1
  obtain ⟨w2, hw2⟩ : ∃ w2, w2 = w1.alloc (.cells #[.int .u8 (c.toNat : Int)] 5) := ⟨_, rfl⟩
  have hb2 : w2.heap[b]? = some (.cells #[.pointer (some ⟨b, 0, none⟩), v] 143 (0, 0)) := by rw [hw2, Below.heap_alloc _ _ _ (by omega)]; exact hb1
  have hk2 : Keep (· = b) w w2 := hk1.trans (hw2 ▸ Keep.alloc _ _)
  have hs2 : w.heap.size + 1 ≤ w2.heap.size := by rw [hw2]; simp; exact hs1
  have a1 : ∀ j u, [Value.int .u8 (c.toNat : Int)][j]? = some u → w2.cell? (Addr.add ⟨w1.heap.size, 0, none⟩ j) = some u := by
    intro j u hj
    match j, hj with
    | 0, hj => simp at hj; subst hj; rw [hw2]; simp [Addr.add]
  have a2 : ∀ u ∈ [Value.int .u8 (c.toNat : Int)], u.oneCell' = true := by
    intro u hu; simp at hu; subst hu; rfl
  rcases hv with ⟨rfl, rfl⟩ | ⟨g, cap, cur, z, hne, rfl, hgb, hcap, hmax, hg, hsz, htake, hz⟩
  · go_wp2_with (at_builtin; rw [← hw2]; clear hw2; refine wpList_append_grows _ rfl _ _ 141 rfl 5 iB (.int .u8 0) 1 1 Tryz.underlying141 hiB hzB hsB hbB rfl (by decide) none 0 0 [] rfl (fun _ => ⟨rfl, rfl⟩) rfl (fun _ h => by cases h) ⟨w1.heap.size, 0, none⟩ 1 1 [.int .u8 (c.toNat : Int)] rfl rfl a1 a2 (by decide) (by decide) (by decide) ?_)
    intro v' w3 hown hgr
    obtain ⟨g, cap, cur, rfl, hg1, hg2, hg3, hg4, hg5, hg6⟩ : ∃ g cap cur, v' = .slice (some ⟨g, 0, none⟩) 1 cap ∧ w2.heap.size ≤ g ∧ w3.heap[g]? = some (.cells cur 5 (0, 0)) ∧ 1 ≤ cap ∧ cap ≤ maxLen ∧ cur.size = cap * 1 ∧ cur.toList.take (1 * 1) = [.int .u8 (c.toNat : Int)] := by
      rcases hown.2 with ⟨_, h0⟩ | h
      · omega
      · exact h
    have hb3 : w3.heap[b]? = some (.cells #[.pointer (some ⟨b, 0, none⟩), .slice none 0 0] 143 (0, 0)) := by rw [hgr.block b (by omega) (by simp)]; exact hb2
    have d0 : w3.cell? ⟨b, 0, none⟩ = some (.pointer (some ⟨b, 0, none⟩)) := by rw [Lib.cell_of_heap hb3]; rfl
    have d1 : w3.cell? ⟨b, 1, none⟩ = some (.slice none 0 0) := by rw [Lib.cell_of_heap hb3]; rfl
    have d2 : w3.frozen? ⟨b, 1, none⟩ = false := Lib.frozen_of_heap hb3 1
    go_wp2
    go_ret
    refine ⟨rfl, _, (DR hb3 1 _).trans rfl, .inr ⟨g, cap, cur, (0, 0), by simp, rfl, by omega, hg3, hg4, ?_, by omega, by simpa using hg6, fun _ => rfl⟩, ?_, .inr ⟨g, by omega, rfl⟩⟩
    · rw [Below.heap_setCell _ _ _ _ (by show g ≠ b; omega)]; exact hg2
    · refine ((hk2.mono fun k _ h => .inl h).trans ⟨hgr.os, hgr.tape, hgr.output, hgr.size, fun k hk _ => hgr.block k hk (by simp)⟩).trans (Keep.setCell _ 1 _ (.inl rfl))
  · have hgl := M4 hg
    obtain rfl : z = (0, 0) := hz rfl
    have hg2 : w2.heap[g]? = some (.cells cur 5 (0, 0)) := by rw [hk2.same g hgl hgb]; exact hg
    have a0 : ∀ j u, (Wy bs)[j]? = some u → w2.cell? ⟨g, 0 + j, none⟩ = some u := by
      intro j u hj
      rw [Nat.zero_add]
      cases hx : bs[j]? with
      | none => simp [Wy, hx] at hj
      | some x => simp [Wy, hx] at hj; subst hj; exact NE (n := 0) hg2 htake j x hx
    have a3 : bs.length + 1 ≤ cap → ∀ j, j < [Value.int .u8 (c.toNat : Int)].length → (w2.cell? ⟨g, 0 + bs.length * 1 + j, none⟩).isSome = true ∧ w2.frozen? ⟨g, 0 + bs.length * 1 + j, none⟩ = false := by
      intro hr j hj
      have hj0 : j = 0 := by simpa using hj
      subst hj0
      refine ⟨?_, Lib.frozen_of_heap hg2 _⟩
      rw [Lib.cell_of_heap hg2, Array.getElem?_eq_getElem (by omega)]; rfl
    go_wp2_with (at_builtin; rw [← hw2]; clear hw2; refine wpList_append_arg _ rfl _ _ 141 rfl 5 iB (.int .u8 0) 1 1 Tryz.underlying141 hiB hzB hsB hbB rfl (by decide) g 0 bs.length cap (Wy bs) rfl (by simp [Wy]) a0 ⟨w1.heap.size, 0, none⟩ 1 1 [.int .u8 (c.toNat : Int)] rfl rfl a1 a2 a3 (by unfold maxLen; omega) (by omega) ?_ ?_)
    · intro hroom
      simp only [World.setCells, Nat.zero_add, Nat.mul_one]
      have hb3 : (w2.setCell ⟨g, bs.length, none⟩ (.int .u8 (c.toNat : Int))).heap[b]? = some (.cells #[.pointer (some ⟨b, 0, none⟩), .slice (some ⟨g, 0, none⟩) bs.length cap] 143 (0, 0)) := by rw [Below.heap_setCell _ _ _ _ (by show b ≠ g; omega)]; exact hb2
      have hg3 := DR hg2 bs.length (.int .u8 (c.toNat : Int))
      obtain ⟨w3, hw3⟩ : ∃ w3, w3 = w2.setCell ⟨g, bs.length, none⟩ (.int .u8 (c.toNat : Int)) := ⟨_, rfl⟩
      have hk3 : Keep (fun k => k = b ∨ Value.ownBlock (.slice (some ⟨g, 0, none⟩) bs.length cap) = some k) w w3 := (hk2.mono fun k _ h => .inl h).trans (hw3 ▸ Keep.setCell _ _ _ (.inr rfl))
      rw [← hw3] at hb3 hg3 ⊢
      clear hw3
      have d0 : w3.cell? ⟨b, 0, none⟩ = some (.pointer (some ⟨b, 0, none⟩)) := by rw [Lib.cell_of_heap hb3]; rfl
      have d1 : w3.cell? ⟨b, 1, none⟩ = some (.slice (some ⟨g, 0, none⟩) bs.length cap) := by rw [Lib.cell_of_heap hb3]; rfl
      have d2 : w3.frozen? ⟨b, 1, none⟩ = false := Lib.frozen_of_heap hb3 1
      go_wp2
      go_ret
      refine ⟨rfl, _, (DR hb3 1 _).trans rfl, .inr ⟨g, cap, cur.setIfInBounds bs.length (.int .u8 (c.toNat : Int)), (0, 0), by simp, by simp, hgb, by simpa using hroom, hmax, ?_, by simpa using hsz, ?_, fun _ => rfl⟩, ?_, .inl rfl⟩
      · rw [Below.heap_setCell _ _ _ _ (by show g ≠ b; omega)]; exact hg3
      · have hlt : bs.length < cur.toList.length := by simp; omega
        rw [List.length_append, List.length_singleton, Array.toList_setIfInBounds, List.take_succ, List.take_set_of_le (Nat.le_refl _), htake, List.getElem?_set_self hlt]
        simp [Wy]
      · exact hk3.trans (Keep.setCell _ 1 _ (.inl rfl))
    · intro hgrow v' w3 hown hgr
      obtain ⟨g', cap', cur', rfl, hg1', hg2', hg3', hg4', hg5', hg6'⟩ : ∃ g' cap' cur', v' = .slice (some ⟨g', 0, none⟩) (bs.length + 1) cap' ∧ w2.heap.size ≤ g' ∧ w3.heap[g']? = some (.cells cur' 5 (0, 0)) ∧ bs.length + 1 ≤ cap' ∧ cap' ≤ maxLen ∧ cur'.size = cap' * 1 ∧ cur'.toList.take ((bs.length + 1) * 1) = Wy bs ++ [.int .u8 (c.toNat : Int)] := by
        rcases hown.2 with ⟨_, h0⟩ | h
        · omega
        · exact h
      have hb3 : w3.heap[b]? = some (.cells #[.pointer (some ⟨b, 0, none⟩), .slice (some ⟨g, 0, none⟩) bs.length cap] 143 (0, 0)) := by rw [hgr.block b (by omega) (by simp)]; exact hb2
      have d0 : w3.cell? ⟨b, 0, none⟩ = some (.pointer (some ⟨b, 0, none⟩)) := by rw [Lib.cell_of_heap hb3]; rfl
      have d1 : w3.cell? ⟨b, 1, none⟩ = some (.slice (some ⟨g, 0, none⟩) bs.length cap) := by rw [Lib.cell_of_heap hb3]; rfl
      have d2 : w3.frozen? ⟨b, 1, none⟩ = false := Lib.frozen_of_heap hb3 1
      go_wp2
      go_ret
      refine ⟨rfl, _, (DR hb3 1 _).trans rfl, .inr ⟨g', cap', cur', (0, 0), by simp, by simp, by omega, by simpa using hg3', hg4', ?_, by omega, by simpa [Wy] using hg6', fun _ => rfl⟩, ?_, .inr ⟨g', by omega, rfl⟩⟩
      · rw [Below.heap_setCell _ _ _ _ (by show g' ≠ b; omega)]; exact hg2'
      · exact ((hk2.mono fun k _ h => .inl h).trans ⟨hgr.os, hgr.tape, hgr.output, hgr.size, fun k hk _ => hgr.block k hk (by simp)⟩).trans (Keep.setCell _ 1 _ (.inl rfl))
/-- String: the bytes are frozen in the buffer. -/
theorem string (b : Nat) (p v : Value) (bs : List UInt8) (fz : Bool) (w : World) (hb : w.heap[b]? = some (.cells #[p, v] 143 (0, 0))) (hv : Buf w b v bs fz) (hlen : bs.length ≤ 1000000) :
    Calls Tryz.prog 96 #[.pointer (some ⟨b, 0, none⟩)] w fun e w' => e = .returned (.string ⟨bs.toArray⟩) ∧ w'.heap[b]? = some (.cells #[p, v] 143 (0, 0)) ∧ Buf w' b v bs true ∧ Keep (fun k => v.ownBlock = some k) w w' := by
  have hbd : w.drew.heap[b]? = some (.cells #[p, v] 143 (0, 0)) := hb
  have c1 : w.drew.cell? ⟨b, 1, none⟩ = some v := by rw [Lib.cell_of_heap hbd]; rfl
  have kd : Keep (fun k => v.ownBlock = some k) w w.drew := ⟨rfl, rfl, rfl, Nat.le_refl _, fun _ _ _ => rfl⟩
  rcases hv with ⟨rfl, rfl⟩ | ⟨g, cap, cur, z, hne, rfl, hgb, hcap, hmax, hg, hsz, htake, hz⟩
  · have hUS := Lib.run_unsafeString_none (P := Tryz.prog) w.drew 153 3 9 none
    have hSD := Lib.run_unsafeSliceData_nil (P := Tryz.prog) w.drew #[141] 153 0 0
    have hq : Calls Tryz.prog 96 #[.pointer (some ⟨b, 0, none⟩)] w fun e w' => e = .returned (.string ⟨#[]⟩) ∧ w' = w.drew := by
      go_enter Tryz.func96, Tryz.ntmps96
      go_wp2
      go_region_calls
      all_goals (go_wp2; go_ret; exact ⟨rfl, rfl⟩)
    refine hq.mono ?_
    rintro e w' ⟨rfl, rfl⟩
    exact ⟨rfl, hbd, .inl ⟨rfl, rfl⟩, kd⟩
  · have hl0 : bs.length ≠ 0 := by simpa using hne
    have hgl := M4 hg
    have hgd : w.drew.heap[g]? = some (.cells cur 5 z) := hg
    have hSD := Lib.run_unsafeSliceData_row (P := Tryz.prog) w.drew #[141] 153 ⟨g, 0, none⟩ bs.length cap (by omega)
    have hUS := Lib.run_unsafeString_row (P := Tryz.prog) w.drew 153 3 9 5 Tryz.underlying153 (by kernel_rfl) g cur.size (by simp [World.shape?, hgd]) bs hne (by omega) (by omega) (fun j x hx => by
      have := NE (n := 0) hgd htake j x hx
      rw [show (Addr.add ⟨g, 0, none⟩ j) = ⟨g, j, none⟩ by simp [Addr.add]; intro h; omega]
      exact this)
    have hq : Calls Tryz.prog 96 #[.pointer (some ⟨b, 0, none⟩)] w fun e w' => e = .returned (.string ⟨bs.toArray⟩) ∧ w' = w.drew.freeze ⟨g, 0, none⟩ bs.length := by
      go_enter Tryz.func96, Tryz.ntmps96
      go_wp2
      go_region_calls
      all_goals (go_wp2; go_ret; exact ⟨rfl, rfl⟩)
    refine hq.mono ?_
    rintro e w' ⟨rfl, rfl⟩
    have hoth : ∀ k, k ≠ g → (w.drew.freeze ⟨g, 0, none⟩ bs.length).heap[k]? = w.heap[k]? := fun k hk => by
      unfold World.freeze
      rw [if_neg hl0]
      show (w.heap.modify g _)[k]? = _
      rw [Array.getElem?_modify, if_neg (Ne.symm hk)]
    have hgf : ∃ z', (w.drew.freeze ⟨g, 0, none⟩ bs.length).heap[g]? = some (.cells cur 5 z') := by
      unfold World.freeze
      rw [if_neg hl0]
      refine ⟨if z.1 == z.2 then (0, 0 + bs.length) else (min z.1 0, max z.2 (0 + bs.length)), ?_⟩
      show (w.heap.modify g _)[g]? = _
      rw [Array.getElem?_modify, if_pos rfl, hg]
      rfl
    obtain ⟨z', hgf⟩ := hgf
    have hsz' : (w.drew.freeze ⟨g, 0, none⟩ bs.length).heap.size = w.heap.size := by
      unfold World.freeze
      rw [if_neg hl0]
      simp
    refine ⟨rfl, (hoth b (Ne.symm hgb)).trans hb, .inr ⟨g, cap, cur, z', hne, rfl, hgb, hcap, hmax, hgf, hsz, htake, fun h => by cases h⟩, ?_⟩
    refine ⟨?_, ?_, ?_, by rw [hsz']; exact Nat.le_refl _, fun k _ hn => hoth k (fun e => hn (by rw [e]; rfl))⟩
    · unfold World.freeze; rw [if_neg hl0]; rfl
    · unfold World.freeze; rw [if_neg hl0]; rfl
    · unfold World.freeze; rw [if_neg hl0]; rfl
