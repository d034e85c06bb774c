/- Walks, printed by wip/gen/walk.py. -/
import Derived.Test.YtlbjffdaooadoaaDoorT31
import Derived.Test.YtlbjffdaooadoaaDoorV5
import Derived.Test.YtlbjffdaooadoaaDoorChecked
import Derived.Test.YtlbjffdaooadoaaDoorRows
import Derived.Stop.Joined
import Derived.Handed
import Derived.HandedShaped
import Derived.Shelf.Vars
import Derived.Lib.LaidTab
import Derived.MakeChecks
set_option linter.all false
set_option maxRecDepth 100000
set_option maxHeartbeats 4000000
namespace Go.Proofs.YtlbjffdaooadoaaDoor
open Go Go.Vc Go.RowKit
theorem own : ownKnob Tryd.checked.prog.godebug = none := by kernel_rfl
theorem laidOut : laidOutB Tryd.checked.prog = true := by kernel_rfl
theorem t_str : isStr Tryd.prog 9 = true := by kernel_rfl
theorem law_lifted_laid3 {H : Type} {enc : TypeId × Value → H} {C : Checked} {os : Os} {f : FuncId} {fn : Func} {s : ChangeSpec} {g : List AV → Option (Prop × AV)} {k : Nat} {tb : TypeId} {fresh handsOn : Bool} {conds : List PathCond} {laid : List (String × DataW Unit)} (own : ownKnob C.prog.godebug = none) (started : os.Started) (noInit : C.prog.inits.idxOf? f = none) (hfn : C.prog.funcs[f]? = some fn)
    (witness : ∃ (w : World) (tape : Tape) (i : Input), w.os = os ∧ (w.forCall tape i).Shaped C.prog ∧ i.vars = [] ∧ Input.okWide C.prog (w.forCall tape i) .any w.heap.size f i ∧
      ((s.pre enc C.prog fn conds false (w.forCall tape i).memory i.args ∧ laidMetH C.prog laid (w.forCall tape i).memory) ∧ sizedMet enc C.prog fn (OpenSpec.ofChange s) false (w.forCall tape i).memory i.args) ∧ ({} : Assume).holds C.prog (lone (Frame.enter C.prog f i.args .normal) [] (w.forCall tape i)))
    (hl : laidOutB C.prog = true) (hr : (fn.params.toList.all fun t => C.prog.readableRec t && decide (t < C.prog.types.size)) = true) (hres : fn.resultTypes = #[tb]) (htb : C.prog.underlying tb = some .bool) (hs : LawSpec s fn.params.size)
    (hpl : (fn.params.toList.all fun t => plainB C.prog k t) = true) (hm : Meets C.prog f (Spec.pure g)) (hlaw : LawOk C.prog k fn.params.toList g) (hgx : ∀ W W' : World, laidMetH C.prog laid W → W'.heap = W.heap → ∃ mx, GlobsAt mx W') :
    ReturnsInHanded {} C os f .any (fun w args => (s.pre enc C.prog fn conds false w args ∧ laidMetH C.prog laid w) ∧ sizedMet enc C.prog fn (OpenSpec.ofChange s) false w args) (s.post enc C.prog fn false fresh handsOn false) := by
  refine returnsInHanded_of_calls own started noInit witness ?_
  intro w tape i _ hsh _ hok hpre hholds
  obtain ⟨_, _, _, fn', hfn', _, _, _, _, hval⟩ := hok
  have e : fn' = fn := Option.some.inj (hfn'.symm.trans hfn)
  subst e
  obtain ⟨⟨⟨ds, gs, before, hw, hc⟩, hx⟩, hz⟩ := hpre
  have hw' := DataW.Whole.of_heap (w' := w.forCall tape i) (by rfl) hw
  obtain ⟨mx, hgl⟩ := hgx _ (w.forCall tape i) hx rfl
  have hwz := hz.weights hw
  have hr' : ∀ t ∈ fn'.params.toList, C.prog.readableRec t = true ∧ t < C.prog.types.size := fun t ht => by
    have := List.all_eq_true.1 hr t ht
    simpa using this
  obtain ⟨p, q, hA, hV, e, hz', hn⟩ := hw'
  have key := (law_calls hgl hm (fun t ht => List.all_eq_true.1 hpl t ht) hlaw (base := w.heap.size) (fun j t v h1 h2 => hval j t v (by rw [← Array.getElem?_toList]; exact h1) h2) hA (fun j t d h1 h2 n hn => by
    have h3 := List.all_eq_true.1 hwz n (DataW.weights_mem_each (j := j) (t := t) (d := d) (by rw [List.getElem?_append_left (List.getElem?_eq_some_iff.1 h1).1]; exact h1) (by rw [List.getElem?_append_left (List.getElem?_eq_some_iff.1 h2).1]; exact h2) n hn)
    simpa using h3))
  refine key.mono ?_
  rintro e' w' ⟨rfl, hB⟩
  exact ChangeSpec.post_blind (law_post hl hr' hres htb hs ⟨p, q, hA, hV, e, hz', hn⟩ hB)

theorem laid_get {P : Program} {w : World} {n : String} {d : DataW Unit} : ∀ {L : List (String × DataW Unit)} {ps : List MemPlace}, DataW.LaidVars P w L ps → (n, d) ∈ L →
    ∃ g t cs fuel p, P.globalNamed n = some g ∧ (P.globals[g]?).map (·.type) = some t ∧ w.var? P n = some cs ∧ DataW.trod (fun _ => ()) P w 0 (fun _ => true) false fuel t cs.toList = some (d, p)
  | [], _, _, h => by cases h
  | (n', d') :: r, ps, ⟨g, t, cs, fuel, p, q, h1, h2, h3, h4, h5, _⟩, h => by
    rcases List.mem_cons.1 h with h | h
    · cases h; exact ⟨g, t, cs, fuel, p, h1, h2, h3, h4⟩
    · exact laid_get h5 h
theorem cells_of_strs {H : Type} {enc : TypeId × Value → H} {P : Program} {w : World} {base : Nat} {sp : Nat → Bool} {held : Bool} {fuel : Nat} {t e : TypeId} {n : Nat} {cs : List Value} {zs : List (List UInt8)} {p : List MemPlace}
    (ht : P.underlying t = some (.array n e)) (he : P.underlying e = some .string) (hce : P.cellsOf e = 1) (hct : P.cellsOf t = n)
    (h : DataW.trod enc P w base sp held fuel t cs = some (.agg (zs.map fun z => .lit (.string z)), p)) : cs = zs.map fun z => Value.string ⟨z.toArray⟩ := by
  cases fuel with
  | zero => simp [DataW.trod] at h
  | succ fuel =>
    simp only [DataW.trod, ht, hce, hct, Nat.mul_one] at h
    split at h
    · rename_i hl
      obtain ⟨xs, hm, hx⟩ := Option.map_eq_some_iff.1 h
      have hxs : xs.map (·.1) = zs.map fun z => (DataW.lit (.string z) : DataW H) := by
        have := congrArg Prod.fst hx
        simpa using this
      have hxl : xs.length = n := by simpa using Lib.mapM_length hm
      have hzl : zs.length = n := by
        have := congrArg List.length hxs
        simp at this
        omega
      apply List.ext_getElem?
      intro i
      by_cases hi : i < n
      · obtain ⟨b, hb, hf⟩ := Lib.mapM_at hm i i (by simp [hi])
        obtain ⟨s, hc, rfl, _⟩ := DataW.trod_string he hf
        have h1 : cs[i]? = some (.string s) := by
          have := congrArg (·[0]?) hc
          simpa [List.getElem?_take, List.getElem?_drop] using this
        have h2 : (xs.map (·.1))[i]? = some (DataW.lit (.string s.data.toList) : DataW H) := by simp [hb]
        rw [hxs] at h2
        simp only [List.getElem?_map, Option.map_eq_some_iff, DataW.lit.injEq, Lit.string.injEq] at h2
        obtain ⟨z', hz', e⟩ := h2
        rw [h1, List.getElem?_map, hz', e]
        simp
      · rw [List.getElem?_eq_none (by omega), List.getElem?_eq_none (by simp; omega)]
    · cases h
theorem gl_cells {P : Program} {W W' : World} {n : String} {g : Nat} {cs : List Value} {ds : List D} (hw : W'.heap = W.heap) (hn : P.globalNamed n = some g) (hv : W.var? P n = some cs.toArray) (hl : cs.length = ds.length)
    (h : ∀ (i : Nat) (d : D) (v : Value), ds[i]? = some d → cs[i]? = some v → RD W' (fun _ => False) d v) : GlOk W' (fun _ => False) (g, ds) := by
  unfold World.var? at hv
  rw [hn] at hv
  simp only [Option.bind_some] at hv
  split at hv
  · rename_i cur t z hh
    have hc := Option.some.inj hv
    subst hc
    have hh' : W'.heap[g]? = some (.cells cs.toArray t z) := by rw [hw]; exact hh
    have hlt : g < W'.heap.size := (Array.getElem?_eq_some_iff.1 hh').1
    refine ⟨?_, cs.toArray, t, z, hh', by simpa using hl⟩
    refine .ptr ds g 0 (fun i => (cs[i]?).getD undef) hlt (fun h => h) (fun f c hc => ?_) (fun f c hc => ?_)
    · have hf : f < cs.length := by rw [hl]; exact (List.getElem?_eq_some_iff.1 hc).1
      rw [Nat.zero_add, cell_of_row W' g f cs.toArray t z hh', List.getElem?_toArray, List.getElem?_eq_getElem hf]; rfl
    · have hf : f < cs.length := by rw [hl]; exact (List.getElem?_eq_some_iff.1 hc).1
      exact h f c _ hc (by rw [List.getElem?_eq_getElem hf]; rfl)
  · cases hv
theorem gl_strs {P : Program} {W W' : World} {n : String} {g : Nat} {t e : TypeId} {m : Nat} {L : List (String × DataW Unit)} {ps : List MemPlace} {zs : List (List UInt8)} (hw : W'.heap = W.heap) (hL : DataW.LaidVars P W L ps) (hm : (n, DataW.agg (zs.map fun z => .lit (.string z))) ∈ L)
    (hn : P.globalNamed n = some g) (ht : (P.globals[g]?).map (·.type) = some t) (h1 : P.underlying t = some (.array m e)) (h2 : P.underlying e = some .string) (h3 : P.cellsOf e = 1) (h4 : P.cellsOf t = m) : GlOk W' (fun _ => False) (g, zs.map D.str) := by
  obtain ⟨g', t', cs, fuel, p, e1, e2, e3, e4⟩ := laid_get hL hm
  obtain rfl := Option.some.inj (hn.symm.trans e1)
  obtain rfl := Option.some.inj (ht.symm.trans e2)
  have hc := cells_of_strs h1 h2 h3 h4 e4
  refine gl_cells (cs := cs.toList) hw hn (by rw [e3]) (by rw [hc]; simp) fun i d v hd hv => ?_
  rw [hc, List.getElem?_map] at hv
  rw [List.getElem?_map] at hd
  cases hz : zs[i]? with
  | none => rw [hz] at hd; cases hd
  | some z => rw [hz] at hd hv; cases hd; cases hv; exact .str z
theorem gl_ints {P : Program} {W W' : World} {n : String} {g : Nat} {t e : TypeId} {m : Nat} {k : IntKind} {L : List (String × DataW Unit)} {ps : List MemPlace} {zs : List Int} (hw : W'.heap = W.heap) (hL : DataW.LaidVars P W L ps) (hm : (n, (Lib.tabData k zs : DataW Unit)) ∈ L)
    (hn : P.globalNamed n = some g) (ht : (P.globals[g]?).map (·.type) = some t) (h1 : P.underlying t = some (.array m e)) (h2 : P.underlying e = some (.int k)) (h3 : P.cellsOf e = 1) (h4 : P.cellsOf t = m) : GlOk W' (fun _ => False) (g, zs.map (D.int k)) := by
  obtain ⟨g', t', cs, fuel, p, e1, e2, e3, e4⟩ := laid_get hL hm
  obtain rfl := Option.some.inj (hn.symm.trans e1)
  obtain rfl := Option.some.inj (ht.symm.trans e2)
  have hc := Lib.cells_of_tab h1 h2 h3 h4 e4
  refine gl_cells (cs := cs.toList) hw hn (by rw [e3]) (by rw [hc]; simp) fun i d v hd hv => ?_
  rw [hc, List.getElem?_map] at hv
  rw [List.getElem?_map] at hd
  cases hz : zs[i]? with
  | none => rw [hz] at hd; cases hd
  | some z => rw [hz] at hd hv; cases hd; cases hv; exact .int k z
theorem gl_errs {P : Program} {W W' : World} {n nm : String} {g : Nat} {t : TypeId} {d : DataW Unit} {L : List (String × DataW Unit)} {ps : List MemPlace} (hw : W'.heap = W.heap) (hL : DataW.LaidVars P W L ps) (hm : (n, DataW.iface nm d) ∈ L)
    (hn : P.globalNamed n = some g) (ht : (P.globals[g]?).map (·.type) = some t) (h1 : ifcB P t = true) : GlOk W' (fun _ => False) (g, [D.ifc false]) := by
  obtain ⟨g', t', cs, fuel, p, e1, e2, e3, e4⟩ := laid_get hL hm
  obtain rfl := Option.some.inj (hn.symm.trans e1)
  obtain rfl := Option.some.inj (ht.symm.trans e2)
  have hu : ∃ ms, P.underlying t = some (.interface ms) := by
    unfold ifcB at h1
    split at h1
    · exact ⟨_, by assumption⟩
    · cases h1
  obtain ⟨ms, hu⟩ := hu
  obtain ⟨f2, u, v, hc, _, _⟩ := iface_of_trod hu e4
  refine gl_cells (cs := cs.toList) hw hn (by rw [e3]) (by rw [hc]; rfl) fun i d v' hd hv => ?_
  rw [hc] at hv
  cases i with
  | zero => simp at hd hv; subst hd hv; exact .ifc1 _ _
  | succ i => simp at hd
abbrev laid0 : List (String × DataW Unit) := [("math/bits.deBruijn32tab", Rows.laid_math_bits_deBruijn32tab), ("math/bits.deBruijn64tab", Rows.laid_math_bits_deBruijn64tab), ("internal/strconv.uint64pow10", Rows.laid_internal_strconv_uint64pow10), ("strconv.ErrRange", Rows.laid_strconv_ErrRange), ("strconv.ErrSyntax", Rows.laid_strconv_ErrSyntax), ("changeforge/revset.words", Rows.laid_changeforge_revset_words), ("changeforge/revset.signs", Rows.laid_changeforge_revset_signs)]
theorem globs_at0 (W W' : World) (h : laidMetH Tryd.prog laid0 W) (hw : W'.heap = W.heap) : ∃ mx, GlobsAt mx W' := by
  rw [MakeChecks.laidMetH_plain _ _ _ (by kernel_rfl)] at h
  obtain ⟨ps, hL, _, _⟩ := h
  refine ⟨0, fun p hp => ?_⟩
  unfold globs at hp
  simp only [List.mem_cons, List.not_mem_nil, or_false] at hp
  rcases hp with rfl | rfl | rfl | rfl | rfl
  · exact gl_strs (P := Tryd.prog) (zs := wordsL) (t := 117) hw hL (.tail _ (.tail _ (.tail _ (.tail _ (.tail _ (.head _)))))) (by kernel_rfl) (by kernel_rfl) Tryd.underlying117 Tryd.underlying9 (by kernel_rfl) (by kernel_rfl)
  · exact gl_strs (P := Tryd.prog) (zs := signsL) (t := 117) hw hL (.tail _ (.tail _ (.tail _ (.tail _ (.tail _ (.tail _ (.head _))))))) (by kernel_rfl) (by kernel_rfl) Tryd.underlying117 Tryd.underlying9 (by kernel_rfl) (by kernel_rfl)
  · exact gl_ints (P := Tryd.prog) (zs := Lib.pow10Tab) (k := .u64) hw hL (.tail _ (.tail _ (.head _))) (by kernel_rfl) (by kernel_rfl) Tryd.underlying139 Tryd.underlying131 (by kernel_rfl) (by kernel_rfl)
  · exact gl_errs (P := Tryd.prog) (t := 127) hw hL (.tail _ (.tail _ (.tail _ (.tail _ (.head _))))) (by kernel_rfl) (by kernel_rfl) (by kernel_rfl)
  · exact gl_errs (P := Tryd.prog) (t := 127) hw hL (.tail _ (.tail _ (.tail _ (.head _)))) (by kernel_rfl) (by kernel_rfl) (by kernel_rfl)
end Go.Proofs.YtlbjffdaooadoaaDoor
