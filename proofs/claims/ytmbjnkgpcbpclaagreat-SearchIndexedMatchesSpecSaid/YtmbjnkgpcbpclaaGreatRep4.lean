/- strings.Replacer: build, at the four strings of the search texts. -/
import Derived.Test.YtmbjnkgpcbpclaaGreatRep3
import Derived.Lib.SliceRun
set_option linter.all false
set_option maxRecDepth 100000
set_option maxHeartbeats 8000000
namespace Go.Proofs.Tryz.Rep
open Go Go.RowKit
/-- The table of build. -/
def rowOf (f : Nat) : Option (List UInt8) := if f = 92 then some [92, 92] else if f = 34 then some [92, 34] else none
theorem Wx : ∀ f, f < 256 → Tryz.zeroCells167[f]? = some (.slice none 0 0) := by
  have h : (Tryz.zeroCells167.toList.all fun v => match v with | .slice none 0 0 => true | _ => false) = true := by decide
  intro f hf
  have hz : Tryz.zeroCells167.size = 257 := by decide
  have hs : f < Tryz.zeroCells167.size := by omega
  have := List.all_eq_true.1 h Tryz.zeroCells167[f] (Array.getElem_mem_toList hs)
  rw [Array.getElem?_eq_getElem hs]
  split at this
  · rename_i he; rw [he]
  · cases this
theorem conv (w0 w : World) (d : Nat → Option (List UInt8)) (n : Nat) (xs : List Value) (l : List UInt8) (h : J5 w0 w d n xs) :
    ∃ w' k c, (convert 9 141 (.string ⟨l.toArray⟩)).run Tryz.prog w = .ok (.slice (some ⟨k, 0, none⟩) l.length c) w' ∧ J5 w0 w' d n xs ∧ Bs w0.heap.size w' (some l) (.slice (some ⟨k, 0, none⟩) l.length c) := by
  have hl : (⟨l.toArray⟩ : ByteArray).size = l.length := by simp [ByteArray.size]
  have hr := run_bytes_of_string w 9 141 5 ⟨l.toArray⟩ Tryz.underlying9 Tryz.underlying141 Tryz.underlying5
  rw [hl] at hr
  refine ⟨_, _, _, hr, h.drew.alloc _, w.heap.size, _, rfl, grownCap_ge w l.length 0 5, h.big, by simp, fun j hj => ?_⟩
  rw [show w.heap.size = w.drew.heap.size from rfl, World.cell?_alloc_mark, bytesRow_at _ _ _ (by simpa using hj)]
  simp
theorem build (b g o cap : Nat) (w : World) (h4 : w.cell? ⟨b, 4, none⟩ = some (.slice (some ⟨g, o, none⟩) 4 cap))
    (g0 : w.cell? ⟨g, o, none⟩ = some (.string ⟨#[92]⟩)) (g1 : w.cell? ⟨g, o + 1, none⟩ = some (.string ⟨#[92, 92]⟩)) (g2 : w.cell? ⟨g, o + 2, none⟩ = some (.string ⟨#[34]⟩)) (g3 : w.cell? ⟨g, o + 3, none⟩ = some (.string ⟨#[92, 34]⟩)) :
    Calls Tryz.prog 99 #[.pointer (some ⟨b, 0, none⟩)] w fun e w' => e = .returned (.iface 168 (.pointer (some ⟨w.heap.size + 1, 0, none⟩))) ∧ J5 w w' rowOf 2 [.string ⟨#[34]⟩, .string ⟨#[92]⟩] := by
  obtain ⟨iS, hiS, hzS, hsS, hbS⟩ := info_parts (P := Tryz.prog) (e := 9) (z := .string ⟨#[]⟩) (size := 1) (bytes := 16) (by kernel_rfl)
  obtain ⟨iB, hiB, hzB, hsB, hbB⟩ := info_parts (P := Tryz.prog) (e := 5) (z := .int .u8 0) (size := 1) (bytes := 1) (by kernel_rfl)
  have e92 : ∀ h : 0 < (⟨#[92]⟩ : ByteArray).size, ((⟨#[92]⟩ : ByteArray)[0]'h) = (92 : UInt8) := fun _ => rfl
  have e34 : ∀ h : 0 < (⟨#[34]⟩ : ByteArray).size, ((⟨#[34]⟩ : ByteArray)[0]'h) = (34 : UInt8) := fun _ => rfl
  have hnil : ∀ w, (binOp .eql 141 (.slice none 0 0) (.slice none 0 0)).run Tryz.prog w = .ok (.bool true) w := fun w => Go.Lib.run_eql_slice_nil w 141 5 none 0 0 0 0 Tryz.underlying141
  have hbb : ∀ (n : Int) (w : World), (Instr.buildSlice 141 1 #[(0, .int .u8 n)]).run Tryz.prog w = .ok (.slice (some ⟨w.heap.size, 0, none⟩) 1 1) (w.alloc (.cells #[.int .u8 n] 5)) := fun n w =>
    run_buildSlice w 141 5 1 _ #[.int .u8 n] iB _ Tryz.underlying141 hiB hzB (by rw [hsB]; decide) (by rw [hsB]; decide) (by rw [hsB]; simp [Instr.fill, Value.cells, show Array.range 1 = #[0] from rfl])
  have hbs : ∀ (s : ByteArray) (w : World), (Instr.buildSlice 22 1 #[(0, .string s)]).run Tryz.prog w = .ok (.slice (some ⟨w.heap.size, 0, none⟩) 1 1) (w.alloc (.cells #[.string s] 9)) := fun n w =>
    run_buildSlice w 22 9 1 _ #[.string n] iS _ Tryz.underlying22 hiS hzS (by rw [hsS]; decide) (by rw [hsS]; decide) (by rw [hsS]; simp [Instr.fill, Value.cells, show Array.range 1 = #[0] from rfl])
  have hcb : ∀ (n : UInt8) (w : World), (convert 141 9 (.slice (some ⟨w.heap.size, 0, none⟩) 1 1)).run Tryz.prog (w.alloc (.cells #[.int .u8 (n.toNat : Int)] 5)) = .ok (.string ⟨#[n]⟩) (w.alloc (.cells #[.int .u8 (n.toNat : Int)] 5)) := fun n w =>
    run_convert_bytes_back (P := Tryz.prog) _ 141 9 5 ⟨w.heap.size, 0, none⟩ 1 [n] Tryz.underlying141 Tryz.underlying5 Tryz.underlying9 (fun j hj => by
      have : j = 0 := by simpa using hj
      subst this
      simp [Addr.add])
  have hcb34 := hcb 34
  have hcb92 := hcb 92
  have e34' : (((34 : UInt8).toNat : Nat) : Int) = 34 := rfl
  have e92' : (((92 : UInt8).toNat : Nat) : Int) = 92 := rfl
  rw [e34'] at hcb34
  rw [e92'] at hcb92
  have hgl : g < w.heap.size := Mp g0
  go_enter Tryz.func99, Tryz.ntmps99
  go_wp2
  refine wp_loop_rounds 3 ?_
  rw [rounds_succ]
  go_wp2
  rw [rounds_succ]
  go_wp2
  rw [rounds_succ]
  go_wp2
  rw [run_makeSlice w 22 9 iS _ Tryz.underlying22 hiS hzS .i64 .i64 0 2 (by decide) (by decide) (by rw [hsS]; decide) (by rw [hbS]; decide) (by decide)]
  simp only [Result.andThen]
  rw [Oper.upon_value]
  go_wp2
  obtain ⟨w2, hrun, pT⟩ := J5.made w (madeCells #[.string ⟨#[]⟩] 2) Tryz.zeroCells167 (by simp [madeCells]) (by decide) Wx (by decide)
  rw [hrun]
  simp only [Result.andThen]
  rw [Oper.upon_skip]
  have k2 := pT.old g2 hgl
  have k3 := pT.old g3 hgl
  have k0 := pT.old g0 hgl
  have k1 := pT.old g1 hgl
  go_wp2
  refine wp_loop_rounds 3 ?_
  rw [rounds_succ]
  have pcc : w2.cell? ⟨w.heap.size + 1, 34, none⟩ = some (.slice none 0 0) := by
    obtain ⟨v, h1, h2⟩ := pT.tab 34 (by decide)
    rw [h1]; exact congrArg some h2
  have plst := pT.lst
  have pbig := pT.big
  have plt0 : w.heap.size < w2.heap.size := by omega
  have plt1 : w.heap.size + 1 < w2.heap.size := by omega
  have plt2 : w.heap.size < w2.heap.size + 1 := by omega
  have plt3 : w.heap.size < w2.heap.size + 1 + 1 := by omega
  have plt4 : w.heap.size + 1 < w2.heap.size + 1 := by omega
  have plt5 : w.heap.size + 1 < w2.heap.size + 1 + 1 := by omega
  have pA := (pT.alloc (.cells #[.int .u8 34] 5)).alloc (.cells #[.string ⟨#[34]⟩] 9)
  obtain ⟨pw3, pw3e⟩ : ∃ w3, w3 = (w2.alloc (.cells #[.int .u8 34] 5)).alloc (.cells #[.string ⟨#[34]⟩] 9) := ⟨_, rfl⟩
  rw [← pw3e] at pA
  have pB := pA.push (by decide) (.string ⟨#[34]⟩)
  have pst1 : pw3.cell? ⟨w.heap.size + 1, 256, none⟩ = _ := pA.lst
  have pst2 := pA.f1 256
  have pl30 : w.heap.size < pw3.heap.size := by have := pA.big; omega
  have pl31 : w.heap.size + 1 < pw3.heap.size := by have := pA.big; omega
  have pa0 : ∀ j u, ([] : List Value)[j]? = some u → pw3.cell? ⟨w.heap.size, 0 + j, none⟩ = some u := by
    intro j u hj
    rw [Nat.zero_add]; exact pA.str j u hj
  have pa1 : ∀ j u, [Value.string ⟨#[34]⟩][j]? = some u → pw3.cell? (Addr.add ⟨w2.heap.size + 1, 0, none⟩ j) = some u := by
    intro j u hj
    match j, hj with
    | 0, hj => simp at hj; subst hj; rw [pw3e]; simp [Addr.add]
  have pa2 : ∀ u ∈ [Value.string ⟨#[34]⟩], u.oneCell' = true := by
    intro u hu; simp at hu; subst hu; rfl
  have pa3 : 0 + 1 ≤ 2 → ∀ j, j < [Value.string ⟨#[34]⟩].length → (pw3.cell? ⟨w.heap.size, 0 + 0 * 1 + j, none⟩).isSome = true ∧ pw3.frozen? ⟨w.heap.size, 0 + 0 * 1 + j, none⟩ = false := by
    intro _ j hj
    have hj0 : j = 0 := by simpa using hj
    subst hj0
    exact ⟨pA.row 0 (by decide), pA.f0 0⟩
  go_wp2_with (at_builtin; rw [← pw3e]; clear pw3e; refine wpList_append_arg _ rfl _ _ 22 rfl 9 iS (.string ⟨#[]⟩) 1 16 Tryz.underlying22 hiS hzS hsS hbS rfl (by decide) w.heap.size 0 0 2 [] rfl rfl pa0 ⟨w2.heap.size + 1, 0, none⟩ 1 1 [.string ⟨#[34]⟩] rfl rfl pa1 pa2 pa3 (by decide) (by decide) (fun _ => ?_) (fun h => absurd h (by omega)); simp only [World.setCells, Nat.zero_mul, Nat.add_zero, Nat.zero_add, Nat.one_mul, Nat.reduceAdd])
  obtain ⟨pw5, pk, pc, prun, pC, pbs⟩ := conv _ _ _ _ _ [92, 34] pB
  simp only [List.nil_append, List.cons_append, Nat.reduceAdd, Nat.zero_add] at prun pC pbs
  rw [prun]
  simp only [Result.andThen]
  rw [Oper.upon_value]
  have pz := pC.f1 34
  obtain ⟨pv, pz1, -⟩ := pC.tab 34 (by decide)
  have pD := pC.setTab (g := 34) (by decide) pbs
  clear pcc plst pst1 pst2 pA pa0 pa1 pa3 prun pB pbs
  go_wp2
  obtain ⟨w6, w6e⟩ : ∃ w6, w6 = pw5.setCell ⟨w.heap.size + 1, 34, none⟩ (.slice (some ⟨pk, 0, none⟩) 2 pc) := ⟨_, rfl⟩
  have qT : J5 w w6 _ _ _ := w6e ▸ pD
  rw [← w6e]
  clear w6e pD pC pz pz1 k0 k1 k2 k3
  have k0 := qT.old g0 hgl
  have k1 := qT.old g1 hgl
  rw [rounds_succ]
  have qcc : w6.cell? ⟨w.heap.size + 1, 92, none⟩ = some (.slice none 0 0) := by
    obtain ⟨v, h1, h2⟩ := qT.tab 92 (by decide)
    rw [h1]; exact congrArg some h2
  have qlst := qT.lst
  have qbig := qT.big
  have qlt0 : w.heap.size < w6.heap.size := by omega
  have qlt1 : w.heap.size + 1 < w6.heap.size := by omega
  have qlt2 : w.heap.size < w6.heap.size + 1 := by omega
  have qlt3 : w.heap.size < w6.heap.size + 1 + 1 := by omega
  have qlt4 : w.heap.size + 1 < w6.heap.size + 1 := by omega
  have qlt5 : w.heap.size + 1 < w6.heap.size + 1 + 1 := by omega
  have qA := (qT.alloc (.cells #[.int .u8 92] 5)).alloc (.cells #[.string ⟨#[92]⟩] 9)
  obtain ⟨qw3, qw3e⟩ : ∃ w3, w3 = (w6.alloc (.cells #[.int .u8 92] 5)).alloc (.cells #[.string ⟨#[92]⟩] 9) := ⟨_, rfl⟩
  rw [← qw3e] at qA
  have qB := qA.push (by decide) (.string ⟨#[92]⟩)
  have qst1 : qw3.cell? ⟨w.heap.size + 1, 256, none⟩ = _ := qA.lst
  have qst2 := qA.f1 256
  have ql30 : w.heap.size < qw3.heap.size := by have := qA.big; omega
  have ql31 : w.heap.size + 1 < qw3.heap.size := by have := qA.big; omega
  have qa0 : ∀ j u, ([.string ⟨#[34]⟩] : List Value)[j]? = some u → qw3.cell? ⟨w.heap.size, 0 + j, none⟩ = some u := by
    intro j u hj
    rw [Nat.zero_add]; exact qA.str j u hj
  have qa1 : ∀ j u, [Value.string ⟨#[92]⟩][j]? = some u → qw3.cell? (Addr.add ⟨w6.heap.size + 1, 0, none⟩ j) = some u := by
    intro j u hj
    match j, hj with
    | 0, hj => simp at hj; subst hj; rw [qw3e]; simp [Addr.add]
  have qa2 : ∀ u ∈ [Value.string ⟨#[92]⟩], u.oneCell' = true := by
    intro u hu; simp at hu; subst hu; rfl
  have qa3 : 1 + 1 ≤ 2 → ∀ j, j < [Value.string ⟨#[92]⟩].length → (qw3.cell? ⟨w.heap.size, 0 + 1 * 1 + j, none⟩).isSome = true ∧ qw3.frozen? ⟨w.heap.size, 0 + 1 * 1 + j, none⟩ = false := by
    intro _ j hj
    have hj0 : j = 0 := by simpa using hj
    subst hj0
    exact ⟨qA.row 1 (by decide), qA.f0 1⟩
  go_wp2_with (at_builtin; rw [← qw3e]; clear qw3e; refine wpList_append_arg _ rfl _ _ 22 rfl 9 iS (.string ⟨#[]⟩) 1 16 Tryz.underlying22 hiS hzS hsS hbS rfl (by decide) w.heap.size 0 1 2 [.string ⟨#[34]⟩] rfl rfl qa0 ⟨w6.heap.size + 1, 0, none⟩ 1 1 [.string ⟨#[92]⟩] rfl rfl qa1 qa2 qa3 (by decide) (by decide) (fun _ => ?_) (fun h => absurd h (by omega)); simp only [World.setCells, Nat.zero_mul, Nat.add_zero, Nat.zero_add, Nat.one_mul, Nat.reduceAdd])
  obtain ⟨qw5, qk, qc, qrun, qC, qbs⟩ := conv _ _ _ _ _ [92, 92] qB
  simp only [List.nil_append, List.cons_append, Nat.reduceAdd, Nat.zero_add] at qrun qC qbs
  rw [qrun]
  simp only [Result.andThen]
  rw [Oper.upon_value]
  have qz := qC.f1 92
  obtain ⟨qv, qz1, -⟩ := qC.tab 92 (by decide)
  have qD := qC.setTab (g := 92) (by decide) qbs
  clear qcc qlst qst1 qst2 qA qa0 qa1 qa3 qrun qB qbs
  go_wp2
  obtain ⟨w7, w7e⟩ : ∃ w7, w7 = qw5.setCell ⟨w.heap.size + 1, 92, none⟩ (.slice (some ⟨qk, 0, none⟩) 2 qc) := ⟨_, rfl⟩
  have hT : J5 w w7 rowOf 2 [.string ⟨#[34]⟩, .string ⟨#[92]⟩] := w7e ▸ qD
  rw [← w7e]
  clear w7e qD qC qz qz1 k0 k1
  rw [rounds_succ]
  go_wp2
  go_ret
  exact ⟨rfl, hT⟩
