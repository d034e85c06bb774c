/- Walks, printed by wip/gen/walk.py. -/
import Derived.Test.YtcjipciiljjfhaaDoorT62
import Derived.Test.YtcjipciiljjfhaaDoorV5
import Derived.Test.YtcjipciiljjfhaaDoorChecked
import Derived.Test.YtcjipciiljjfhaaDoorV5
import Derived.Stop.Joined
import Derived.Handed
import Derived.HandedShaped
import Derived.Shelf.Vars
set_option linter.all false
set_option maxRecDepth 100000
set_option maxHeartbeats 4000000
namespace Go.Proofs.YtcjipciiljjfhaaDoor
open Go Go.Vc Go.RowKit
theorem own : ownKnob Tryd.checked.prog.godebug = none := by kernel_rfl
theorem laidOut : laidOutB Tryd.checked.prog = true := by kernel_rfl
theorem t_int : isI64 Tryd.prog 3 = true := by kernel_rfl
theorem t_u8 : isU8 Tryd.prog 5 = true := by kernel_rfl
theorem t_ints : isSl Tryd.prog 31 3 = true := by kernel_rfl
theorem t_bytes : isSl Tryd.prog 42 5 = true := by kernel_rfl
theorem t_sos : isSl Tryd.prog 22 58 = true := by kernel_rfl
theorem t_ob : isRec Tryd.prog 44 3 [(0, 1, 3), (1, 1, 31), (2, 1, 42)] = true := by kernel_rfl
theorem t_so : isRec Tryd.prog 58 4 [(0, 1, 3), (1, 3, 44)] = true := by kernel_rfl
theorem t_st : isRec Tryd.prog 24 1 [(0, 1, 22)] = true := by kernel_rfl
theorem wt_so {k : Nat} {xs : List (List D)} (h : ∀ x ∈ xs, WT Tryd.prog (k + 4) 58 x) : ∃ l, xs = rows eO l ∧ smallS l := by
  obtain ⟨l, h, hq⟩ := rows_of (f := eO) (q := fun x => obOk x.ob) fun x hx => by
    obtain ⟨hl, hf⟩ := wt_rec (h x hx) t_so
    obtain ⟨d, ha, _⟩ := wt_i64 (hf 0 1 3 (by simp)) t_int
    obtain ⟨hl2, hf2⟩ := wt_rec (hf 1 3 44 (by simp)) t_ob
    obtain ⟨k1, hb, _⟩ := wt_i64 (hf2 0 1 3 (by simp)) t_int
    obtain ⟨ls, hc, hcl, hcs⟩ := wt_sl (hf2 1 1 31 (by simp)) t_ints
    obtain ⟨l1, rfl, _⟩ := wt_ints hcs t_int
    obtain ⟨us, hd, hdl, hds⟩ := wt_sl (hf2 2 1 42 (by simp)) t_bytes
    obtain ⟨l2, rfl⟩ := wt_bytes hds t_u8
    match x, hl with
    | [u1, u2, u3, u4], _ =>
      simp only [eI, List.drop_zero, List.take_succ_cons, List.take_zero, List.drop_succ_cons, List.cons.injEq, and_true] at ha hb hc hd
      rw [rows_len] at hcl hdl
      exact ⟨⟨d, ⟨k1, l1, l2⟩⟩, by rw [ha, hb, hc, hd]; rfl, hcl, hdl⟩
  exact ⟨l, h, hq⟩
theorem arg_store {c : AV} (h : ArgOk Tryd.prog 8 24 c) : ∃ S, c = .agg [.d (.sl (rows eO S))] ∧ S.length ≤ 9223372036854775807 ∧ smallS S := by
  obtain ⟨ds, rfl, hl, hf⟩ := arg_rec h t_st
  obtain ⟨xs, ha, h1, h2⟩ := wt_sl (hf 0 1 22 (by simp)) t_sos
  obtain ⟨S, rfl, h3⟩ := wt_so h2
  match ds, hl with
  | [u1], _ =>
    simp only [List.drop_zero, List.take_succ_cons, List.take_zero, List.drop_succ_cons, List.cons.injEq, and_true] at ha
    rw [rows_len] at h1
    exact ⟨S, by rw [ha]; rfl, h1, h3⟩
theorem arg_ns {c : AV} (h : ArgOk Tryd.prog 8 31 c) : ∃ l : List Int, c = .d (.sl (rows eI l)) ∧ l.length ≤ 9223372036854775807 := by
  obtain ⟨xs, rfl, h1, h2⟩ := arg_sl h t_ints
  obtain ⟨l, rfl, _⟩ := wt_ints h2 t_int
  rw [rows_len] at h1
  exact ⟨l, rfl, h1⟩
theorem b_int : Tryd.prog.bytesOf 3 = 8 := by kernel_rfl
theorem arg_nsz {c : AV} (h : ArgOk Tryd.prog 8 31 c) : ∃ l : List Int, c = .d (.sl (rows eI l)) ∧ l.length ≤ 17592186043904 := by
  obtain ⟨xs, rfl, h2, h1⟩ := arg_slz h t_ints
  obtain ⟨l, rfl, _⟩ := wt_ints h2 t_int
  rw [rows_len, b_int] at h1
  exact ⟨l, rfl, by omega⟩

theorem t_str : isStr Tryd.prog 9 = true := by kernel_rfl
theorem t_refs : isSl Tryd.prog 25 51 = true := by kernel_rfl
theorem t_lss : isSl Tryd.prog 28 53 = true := by kernel_rfl
theorem t_ref : isRec Tryd.prog 51 2 [(0, 1, 9), (1, 1, 3)] = true := by kernel_rfl
theorem t_lse : isRec Tryd.prog 53 2 [(0, 1, 3), (1, 1, 3)] = true := by kernel_rfl
theorem t_rst : isRec Tryd.prog 27 1 [(0, 1, 25)] = true := by kernel_rfl
theorem wt_refs {k : Nat} {xs : List (List D)} (h : ∀ x ∈ xs, WT Tryd.prog (k + 2) 51 x) : ∃ l, xs = rows eR l ∧ smallR l := by
  exact rows_of (f := eR) (q := fun r => r.nm.length ≤ 9223372036854775807) fun x hx => by
    obtain ⟨hl, hf⟩ := wt_rec (h x hx) t_ref
    obtain ⟨a, ha, hal⟩ := wt_str (hf 0 1 _ (by simp)) t_str
    obtain ⟨b, hb, _⟩ := wt_i64 (hf 1 1 _ (by simp)) t_int
    match x, hl with
    | [u, v], _ =>
      simp only [eI, eS, List.drop_zero, List.take_succ_cons, List.take_zero, List.drop_succ_cons, List.cons.injEq, and_true] at ha hb
      exact ⟨⟨a, b⟩, by rw [ha, hb]; rfl, hal⟩
theorem wt_leases {k : Nat} {xs : List (List D)} (h : ∀ x ∈ xs, WT Tryd.prog (k + 2) 53 x) : ∃ l, xs = rows eW l := by
  obtain ⟨l, h, _⟩ := rows_of (f := eW) (q := fun _ => True) fun x hx => by
    obtain ⟨hl, hf⟩ := wt_rec (h x hx) t_lse
    obtain ⟨a, ha, _⟩ := wt_i64 (hf 0 1 _ (by simp)) t_int
    obtain ⟨b, hb, _⟩ := wt_i64 (hf 1 1 _ (by simp)) t_int
    match x, hl with
    | [u, v], _ =>
      simp only [eI, List.drop_zero, List.take_succ_cons, List.take_zero, List.drop_succ_cons, List.cons.injEq, and_true] at ha hb
      exact ⟨⟨a, b⟩, by rw [ha, hb]; rfl, trivial⟩
  exact ⟨l, h⟩
theorem arg_refs {c : AV} (h : ArgOk Tryd.prog 8 27 c) : ∃ l, c = .agg [.d (.sl (rows eR l))] ∧ l.length ≤ 9223372036854775807 ∧ smallR l := by
  obtain ⟨ds, rfl, hl, hf⟩ := arg_rec h t_rst
  obtain ⟨xs, ha, h1, h2⟩ := wt_sl (hf 0 1 25 (by simp)) t_refs
  obtain ⟨l, rfl, h3⟩ := wt_refs h2
  match ds, hl with
  | [u1], _ =>
    simp only [List.drop_zero, List.take_succ_cons, List.take_zero, List.drop_succ_cons, List.cons.injEq, and_true] at ha
    rw [rows_len] at h1
    exact ⟨l, by rw [ha]; rfl, h1, h3⟩
theorem arg_leases {c : AV} (h : ArgOk Tryd.prog 8 28 c) : ∃ l, c = .d (.sl (rows eW l)) ∧ l.length ≤ 9223372036854775807 := by
  obtain ⟨xs, rfl, h1, h2⟩ := arg_sl h t_lss
  obtain ⟨l, rfl⟩ := wt_leases h2
  rw [rows_len] at h1
  exact ⟨l, rfl, h1⟩
theorem lawOk_5 {P : Program} {k : Nat} {t u v z y : TypeId} {g : List AV → Option (Prop × AV)} (h : ∀ a b c d e, ArgOk P k t a → ArgOk P k u b → ArgOk P k v c → ArgOk P k z d → ArgOk P k y e → ∃ p, g [a, b, c, d, e] = some (p, .d (.bool true)) ∧ p) : LawOk P k [t, u, v, z, y] g := by
  intro args hl ha
  match args, hl with
  | [a, b, c, d, e], _ => exact h a b c d e (ha 0 _ _ rfl rfl) (ha 1 _ _ rfl rfl) (ha 2 _ _ rfl rfl) (ha 3 _ _ rfl rfl) (ha 4 _ _ rfl rfl)
theorem lawTC_ok : LawOk Tryd.prog 8 [24, 27, 28, 3, 3] lawTCG := by
  refine lawOk_5 fun a b c d e ha hb hc hd he => ?_
  obtain ⟨S, rfl, h1, h2⟩ := arg_store ha
  obtain ⟨l, rfl, h3, h4⟩ := arg_refs hb
  obtain ⟨L, rfl, h5⟩ := arg_leases hc
  obtain ⟨t, rfl, _⟩ := arg_i64 hd t_int
  obtain ⟨t', rfl, _⟩ := arg_i64 he t_int
  refine ⟨_, rfl, ?_⟩
  rw [dO_rows, dR_rows, dW_rows]; exact ⟨rfl, h1, h2, rfl, h3, h4, rfl, h5⟩
theorem law_lifted_laid2 {H : Type} {enc : TypeId × Value → H} {C : Checked} {os : Os} {f : FuncId} {fn : Func} {s : ChangeSpec} {g : List AV → Option (Prop × AV)} {k : Nat} {tb : TypeId} {fresh handsOn : Bool} {conds : List PathCond} {laid : List (String × DataW Unit)} (own : ownKnob C.prog.godebug = none) (started : os.Started) (noInit : C.prog.inits.idxOf? f = none) (hfn : C.prog.funcs[f]? = some fn)
    (witness : ∃ (w : World) (tape : Tape) (i : Input), w.os = os ∧ (w.forCall tape i).Shaped C.prog ∧ i.vars = [] ∧ Input.okWide C.prog (w.forCall tape i) .any w.heap.size f i ∧
      ((s.pre enc C.prog fn conds false (w.forCall tape i).memory i.args ∧ laidMetH C.prog laid (w.forCall tape i).memory) ∧ sizedMet enc C.prog fn (OpenSpec.ofChange s) false (w.forCall tape i).memory i.args) ∧ ({} : Assume).holds C.prog (lone (Frame.enter C.prog f i.args .normal) [] (w.forCall tape i)))
    (hl : laidOutB C.prog = true) (hr : (fn.params.toList.all fun t => C.prog.readableRec t && decide (t < C.prog.types.size)) = true) (hres : fn.resultTypes = #[tb]) (htb : C.prog.underlying tb = some .bool) (hs : LawSpec s fn.params.size)
    (hpl : (fn.params.toList.all fun t => plainB C.prog k t) = true) (hm : Meets C.prog f (Spec.pure g)) (hlaw : LawOk C.prog k fn.params.toList g) (hgx : ∀ W : World, W.ShapedOpen C.prog → ∃ mx, GlobsAt mx W) :
    ReturnsInHanded {} C os f .any (fun w args => (s.pre enc C.prog fn conds false w args ∧ laidMetH C.prog laid w) ∧ sizedMet enc C.prog fn (OpenSpec.ofChange s) false w args) (s.post enc C.prog fn false fresh handsOn false) := by
  refine returnsInHanded_of_calls own started noInit witness ?_
  intro w tape i _ hsh _ hok hpre hholds
  obtain ⟨_, _, _, fn', hfn', _, _, _, _, hval⟩ := hok
  have e : fn' = fn := Option.some.inj (hfn'.symm.trans hfn)
  subst e
  obtain ⟨⟨⟨ds, gs, before, hw, hc⟩, hx⟩, hz⟩ := hpre
  have hw' := DataW.Whole.of_heap (w' := w.forCall tape i) (by rfl) hw
  obtain ⟨mx, hgl⟩ := hgx _ hsh
  have hwz := hz.weights hw
  have hr' : ∀ t ∈ fn'.params.toList, C.prog.readableRec t = true ∧ t < C.prog.types.size := fun t ht => by
    have := List.all_eq_true.1 hr t ht
    simpa using this
  obtain ⟨p, q, hA, hV, e, hz', hn⟩ := hw'
  have key := (law_calls hgl hm (fun t ht => List.all_eq_true.1 hpl t ht) hlaw (base := w.heap.size) (fun j t v h1 h2 => hval j t v (by rw [← Array.getElem?_toList]; exact h1) h2) hA (fun j t d h1 h2 n hn => by
    have h3 := List.all_eq_true.1 hwz n (DataW.weights_mem_each (j := j) (t := t) (d := d) (by rw [List.getElem?_append_left (List.getElem?_eq_some_iff.1 h1).1]; exact h1) (by rw [List.getElem?_append_left (List.getElem?_eq_some_iff.1 h2).1]; exact h2) n hn)
    simpa using h3))
  refine key.mono ?_
  rintro e' w' ⟨rfl, hB⟩
  exact ChangeSpec.post_blind (law_post hl hr' hres htb hs ⟨p, q, hA, hV, e, hz', hn⟩ hB)
theorem globs_at (W : World) (h : W.ShapedOpen Tryd.prog) : ∃ mx, GlobsAt mx W := by
  obtain ⟨m, hm⟩ := cell_of_shapedOpen_int (P := Tryd.prog) (g := 2) (t := 3) (zero := #[.int .i64 0]) h (of_decide_eq_true (by kernel_rfl)) (by kernel_rfl) rfl (by kernel_rfl) (by kernel_rfl) Tryd.underlying3
  refine ⟨m, fun p hp => ?_⟩
  unfold globs at hp
  simp only [List.mem_cons, List.not_mem_nil, or_false] at hp
  subst hp
  refine .ptr [.int .i64 m] _ 0 (fun _ => .int .i64 m) (cell_spot hm).2 (fun h => h) (fun f c hc => ?_) (fun f c hc => ?_)
  · cases f with
    | zero => exact hm
    | succ f => simp at hc
  · cases f with
    | zero => simp at hc; subst hc; exact .int _ _
    | succ f => simp at hc
end Go.Proofs.YtcjipciiljjfhaaDoor
