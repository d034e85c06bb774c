/- Walks, printed by wip/gen/walk.py. -/
import Derived.Test.YtoagbjhlpfepkaaGreatDoorT26
import Derived.Test.YtoagbjhlpfepkaaGreatDoorV5
import Derived.Test.YtoagbjhlpfepkaaGreatDoorChecked
import Derived.Test.YtoagbjhlpfepkaaGreatDoorV5
import Derived.Stop.Joined
import Derived.Handed
set_option linter.all false
set_option maxRecDepth 100000
set_option maxHeartbeats 4000000
namespace Go.Proofs.YtoagbjhlpfepkaaGreatDoor
open Go Go.Vc Go.RowKit
theorem own : ownKnob Tryz.checked.prog.godebug = none := by kernel_rfl
theorem laidOut : laidOutB Tryz.checked.prog = true := by kernel_rfl
theorem t_int : isI64 Tryz.prog 3 = true := by kernel_rfl
theorem t_u8 : isU8 Tryz.prog 5 = true := by kernel_rfl
theorem t_ints : isSl Tryz.prog 25 3 = true := by kernel_rfl
theorem t_bytes : isSl Tryz.prog 50 5 = true := by kernel_rfl
theorem t_sos : isSl Tryz.prog 22 54 = true := by kernel_rfl
theorem t_ob : isRec Tryz.prog 52 3 [(0, 1, 3), (1, 1, 25), (2, 1, 50)] = true := by kernel_rfl
theorem t_so : isRec Tryz.prog 54 4 [(0, 1, 3), (1, 3, 52)] = true := by kernel_rfl
theorem t_st : isRec Tryz.prog 24 1 [(0, 1, 22)] = true := by kernel_rfl
theorem wt_so {k : Nat} {xs : List (List D)} (h : ∀ x ∈ xs, WT Tryz.prog (k + 4) 54 x) : ∃ l, xs = rows eO l ∧ smallS l := by
  obtain ⟨l, h, hq⟩ := rows_of (f := eO) (q := fun x => obOk x.ob) fun x hx => by
    obtain ⟨hl, hf⟩ := wt_rec (h x hx) t_so
    obtain ⟨d, ha, _⟩ := wt_i64 (hf 0 1 3 (by simp)) t_int
    obtain ⟨hl2, hf2⟩ := wt_rec (hf 1 3 52 (by simp)) t_ob
    obtain ⟨k1, hb, _⟩ := wt_i64 (hf2 0 1 3 (by simp)) t_int
    obtain ⟨ls, hc, hcl, hcs⟩ := wt_sl (hf2 1 1 25 (by simp)) t_ints
    obtain ⟨l1, rfl, _⟩ := wt_ints hcs t_int
    obtain ⟨us, hd, hdl, hds⟩ := wt_sl (hf2 2 1 50 (by simp)) t_bytes
    obtain ⟨l2, rfl⟩ := wt_bytes hds t_u8
    match x, hl with
    | [u1, u2, u3, u4], _ =>
      simp only [eI, List.drop_zero, List.take_succ_cons, List.take_zero, List.drop_succ_cons, List.cons.injEq, and_true] at ha hb hc hd
      rw [rows_len] at hcl hdl
      exact ⟨⟨d, ⟨k1, l1, l2⟩⟩, by rw [ha, hb, hc, hd]; rfl, hcl, hdl⟩
  exact ⟨l, h, hq⟩
theorem arg_store {c : AV} (h : ArgOk Tryz.prog 8 24 c) : ∃ S, c = .agg [.d (.sl (rows eO S))] ∧ S.length ≤ 9223372036854775807 ∧ smallS S := by
  obtain ⟨ds, rfl, hl, hf⟩ := arg_rec h t_st
  obtain ⟨xs, ha, h1, h2⟩ := wt_sl (hf 0 1 22 (by simp)) t_sos
  obtain ⟨S, rfl, h3⟩ := wt_so h2
  match ds, hl with
  | [u1], _ =>
    simp only [List.drop_zero, List.take_succ_cons, List.take_zero, List.drop_succ_cons, List.cons.injEq, and_true] at ha
    rw [rows_len] at h1
    exact ⟨S, by rw [ha]; rfl, h1, h3⟩
theorem arg_ns {c : AV} (h : ArgOk Tryz.prog 8 25 c) : ∃ l : List Int, c = .d (.sl (rows eI l)) ∧ l.length ≤ 9223372036854775807 := by
  obtain ⟨xs, rfl, h1, h2⟩ := arg_sl h t_ints
  obtain ⟨l, rfl, _⟩ := wt_ints h2 t_int
  rw [rows_len] at h1
  exact ⟨l, rfl, h1⟩
theorem b_int : Tryz.prog.bytesOf 3 = 8 := by kernel_rfl
theorem arg_nsz {c : AV} (h : ArgOk Tryz.prog 8 25 c) : ∃ l : List Int, c = .d (.sl (rows eI l)) ∧ l.length ≤ 17592186043904 := by
  obtain ⟨xs, rfl, h2, h1⟩ := arg_slz h t_ints
  obtain ⟨l, rfl, _⟩ := wt_ints h2 t_int
  rw [rows_len, b_int] at h1
  exact ⟨l, rfl, by omega⟩

theorem lawM_ok : LawOk Tryz.prog 8 [24, 25] lawMG := by
  refine lawOk_2 fun a b ha hb => ?_
  obtain ⟨S, rfl, h1, h2⟩ := arg_store ha
  obtain ⟨l, rfl, h4⟩ := arg_ns hb
  refine ⟨_, rfl, ?_⟩
  rw [dO_rows, dI_rows]; exact ⟨rfl, h1, h2, rfl, h4⟩
/-- A law of plain data, where package variables read as they were laid. -/
theorem law_lifted_laid {H : Type} {enc : TypeId × Value → H} {C : Checked} {os : Os} {f : FuncId} {fn : Func} {s : ChangeSpec} {g : List AV → Option (Prop × AV)} {k : Nat} {tb : TypeId} {fresh handsOn : Bool} {conds : List PathCond} {laid : List (String × DataW Unit)} (own : ownKnob C.prog.godebug = none) (started : os.Started) (noInit : C.prog.inits.idxOf? f = none) (hfn : C.prog.funcs[f]? = some fn)
    (witness : ∃ (w : World) (tape : Tape) (i : Input), w.os = os ∧ (w.forCall tape i).Shaped C.prog ∧ i.vars = [] ∧ Input.okWide C.prog (w.forCall tape i) .any w.heap.size f i ∧
      ((s.pre enc C.prog fn conds false (w.forCall tape i).memory i.args ∧ laidMetH C.prog laid (w.forCall tape i).memory) ∧ sizedMet enc C.prog fn (OpenSpec.ofChange s) false (w.forCall tape i).memory i.args) ∧ ({} : Assume).holds C.prog (lone (Frame.enter C.prog f i.args .normal) [] (w.forCall tape i)))
    (hl : laidOutB C.prog = true) (hr : (fn.params.toList.all fun t => C.prog.readableRec t && decide (t < C.prog.types.size)) = true) (hres : fn.resultTypes = #[tb]) (htb : C.prog.underlying tb = some .bool) (hs : LawSpec s fn.params.size)
    (hpl : (fn.params.toList.all fun t => plainB C.prog k t) = true) (hm : Meets C.prog f (Spec.pure g)) (hlaw : LawOk C.prog k fn.params.toList g) :
    ReturnsInHanded {} C os f .any (fun w args => (s.pre enc C.prog fn conds false w args ∧ laidMetH C.prog laid w) ∧ sizedMet enc C.prog fn (OpenSpec.ofChange s) false w args) (s.post enc C.prog fn false fresh handsOn false) := by
  refine returnsInHanded_of_change_and (X := fun w _ => laidMetH C.prog laid w) (fun _ _ _ hh h => h.of_heap hh) own started noInit hfn witness ?_
  intro W base args ds gs before hval hW hcnd hwz _ _
  have hr' : ∀ t ∈ fn.params.toList, C.prog.readableRec t = true ∧ t < C.prog.types.size := fun t ht => by
    have := List.all_eq_true.1 hr t ht
    simpa using this
  obtain ⟨p, q, hA, hV, e, hz, hn⟩ := hW
  refine (law_calls hm (fun t ht => List.all_eq_true.1 hpl t ht) hlaw (base := base) (fun j t v h1 h2 => hval j t v (by rw [← Array.getElem?_toList]; exact h1) h2) hA (fun j t d h1 h2 n hn => by
    have h3 := List.all_eq_true.1 hwz n (DataW.weights_mem_each (j := j) (t := t) (d := d) (by rw [List.getElem?_append_left (List.getElem?_eq_some_iff.1 h1).1]; exact h1) (by rw [List.getElem?_append_left (List.getElem?_eq_some_iff.1 h2).1]; exact h2) n hn)
    simpa using h3)).mono ?_
  rintro e' w' ⟨rfl, hB⟩
  exact ⟨_, rfl, law_post hl hr' hres htb hs ⟨p, q, hA, hV, e, hz, hn⟩ hB⟩
end Go.Proofs.YtoagbjhlpfepkaaGreatDoor
