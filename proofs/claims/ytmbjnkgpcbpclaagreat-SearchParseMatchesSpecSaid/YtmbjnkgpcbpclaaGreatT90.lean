/- Walks, printed by wip/gen/walk.py. -/
import Derived.Test.YtmbjnkgpcbpclaaGreatT75
import Derived.Test.YtmbjnkgpcbpclaaGreatV5
import Derived.Test.YtmbjnkgpcbpclaaGreatT72
import Derived.Test.YtmbjnkgpcbpclaaGreatT102
import Derived.Test.YtmbjnkgpcbpclaaGreatChecked
import Derived.Stop.Joined
import Derived.Handed
import Derived.HandedShaped
import Derived.LaidLaws
import Derived.Lay
import Derived.Shelf.Vars
set_option linter.all false
set_option maxRecDepth 100000
set_option maxHeartbeats 4000000
namespace Go.Proofs.YtmbjnkgpcbpclaaGreat
open Go Go.Vc Go.RowKit
theorem own : ownKnob Tryz.checked.prog.godebug = none := by kernel_rfl
theorem laidOut : laidOutB Tryz.checked.prog = true := by kernel_rfl
theorem t_str : isStr Tryz.prog 9 = true := by kernel_rfl
theorem lawSP_ok : LawOk Tryz.prog 8 [9] lawSPG := by
  refine lawOk_1 fun a ha => ?_
  obtain ⟨s, rfl, h1⟩ := arg_str ha t_str
  exact ⟨_, rfl, h1⟩
theorem law_lifted_vars {H : Type} {enc : TypeId × Value → H} {C : Checked} {os : Os} {f : FuncId} {fn : Func} {s : ChangeSpec} {g : List AV → Option (Prop × AV)} {k : Nat} {tb : TypeId} {fresh handsOn : Bool} {conds : List PathCond} (own : ownKnob C.prog.godebug = none) (started : os.Started) (noInit : C.prog.inits.idxOf? f = none) (hfn : C.prog.funcs[f]? = some fn)
    (witness : ∃ (w : World) (tape : Tape) (i : Input), w.os = os ∧ (w.forCall tape i).Shaped C.prog ∧ i.vars = [] ∧ Input.okWide C.prog (w.forCall tape i) .any w.heap.size f i ∧
      ((s.pre enc C.prog fn conds false (w.forCall tape i).memory i.args ∧ True) ∧ sizedMet enc C.prog fn (OpenSpec.ofChange s) false (w.forCall tape i).memory i.args) ∧ ({} : Assume).holds C.prog (lone (Frame.enter C.prog f i.args .normal) [] (w.forCall tape i)))
    (hl : laidOutB C.prog = true) (hr : (fn.params.toList.all fun t => C.prog.readableRec t && decide (t < C.prog.types.size)) = true) (hres : fn.resultTypes = #[tb]) (htb : C.prog.underlying tb = some .bool) (hs : LawSpec s fn.params.size)
    (hpl : (fn.params.toList.all fun t => plainB C.prog k t) = true) (hm : Meets C.prog f (Spec.pure g)) (hlaw : LawOk C.prog k fn.params.toList g) (hgx : ∀ W : World, W.ShapedOpen C.prog → ∃ mx, GlobsAt mx W) :
    ReturnsInHanded {} C os f .any (s.pre6 enc C.prog fn conds false) (s.post enc C.prog fn false fresh handsOn false) := by
  refine returnsInHanded_of_calls own started noInit (by obtain ⟨w, t, i, h1, h2, h3, h4, ⟨⟨h5, _⟩, h6⟩, h7⟩ := witness; exact ⟨w, t, i, h1, h2, h3, h4, ⟨h5, h6⟩, h7⟩) ?_
  intro w tape i _ hsh _ hok hpre hholds
  obtain ⟨_, _, _, fn', hfn', _, _, _, _, hval⟩ := hok
  have e : fn' = fn := Option.some.inj (hfn'.symm.trans hfn)
  subst e
  obtain ⟨⟨ds, gs, before, hw, hc⟩, hz⟩ := hpre
  have hw' := DataW.Whole.of_heap (w' := w.forCall tape i) (by rfl) hw
  obtain ⟨mx, hgl⟩ := hgx _ hsh
  have hwz := hz.weights hw
  have hr' : ∀ t ∈ fn'.params.toList, C.prog.readableRec t = true ∧ t < C.prog.types.size := fun t ht => by
    have := List.all_eq_true.1 hr t ht
    simpa using this
  obtain ⟨p, q, hA, hV, e, hz', hn⟩ := hw'
  have key := (law_calls hgl hm (fun t ht => List.all_eq_true.1 hpl t ht) hlaw (base := w.heap.size) (fun j t v h1 h2 => hval j t v (by rw [← Array.getElem?_toList]; exact h1) h2) hA (fun j t d h1 h2 n hn => by
    have h3 := List.all_eq_true.1 hwz n (DataW.weights_mem_each (j := j) (t := t) (d := d) (by rw [List.getElem?_append_left (List.getElem?_eq_some_iff.1 h1).1]; exact h1) (by rw [List.getElem?_append_left (List.getElem?_eq_some_iff.1 h2).1]; exact h2) n hn)
    simpa using h3))
  refine key.mono ?_
  rintro e' w' ⟨rfl, hB⟩
  exact ChangeSpec.post_blind (law_post hl hr' hres htb hs ⟨p, q, hA, hV, e, hz', hn⟩ hB)
theorem globs_at (W : World) (h : W.ShapedOpen Tryz.prog) : ∃ mx, GlobsAt mx W := by
  have h0 : ((begin Tryz.prog (fun _ _ => 0) default).world.heap[0]?).bind Obj.row? = some (#[.int .i64 0], 3) := by kernel_rfl
  obtain ⟨m, hm⟩ := cell_of_shapedOpen_int (P := Tryz.prog) (g := 0) (t := 3) (zero := #[.int .i64 0]) h (of_decide_eq_true (by kernel_rfl)) h0 rfl (by kernel_rfl) (by kernel_rfl) Tryz.underlying3
  obtain ⟨cs, hcs, hsz, _⟩ := h.1 0 _ _ (of_decide_eq_true (by kernel_rfl)) h0
  refine ⟨m, fun p hp => ?_⟩
  unfold globs at hp
  simp only [List.mem_cons, List.not_mem_nil, or_false] at hp
  subst hp
  refine ⟨.ptr [.int .i64 m] _ 0 (fun _ => .int .i64 m) (cell_spot hm).2 (fun h => h) (fun f c hc => ?_) (fun f c hc => ?_), cs, _, _, hcs, hsz⟩
  · cases f with
    | zero => exact hm
    | succ f => simp at hc
  · cases f with
    | zero => simp at hc; subst hc; exact .int _ _
    | succ f => simp at hc
end Go.Proofs.YtmbjnkgpcbpclaaGreat
