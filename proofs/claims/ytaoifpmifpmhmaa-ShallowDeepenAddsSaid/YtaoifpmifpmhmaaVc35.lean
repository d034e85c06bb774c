/- The Vc layer: regions taken in several orders: where two operations may come first, both are shown. -/
import Derived.Test.YtaoifpmifpmhmaaVc34
set_option linter.all false
namespace Go.Vc
open Go Go.RowKit
inductive Tree where
  | nil
  | seq (is : List Nat) (t : Tree)
  | alt (i : Nat) (a : Tree) (r : Tree)
def heads : Tree → List Nat
  | .alt i _ r => i :: heads r
  | _ => []
def okSeq (calm : List FuncId) (ops : Array Oper) : List Nat → Array Bool → Option (Array Bool)
  | [], l => some l
  | i :: r, l => if decide (i < ops.size) && (firstG calm .any ops l i || Region.ready .any ops l == [i]) then okSeq calm ops r (l.setIfInBounds i true) else none
def okT (calm : List FuncId) (ops : Array Oper) : Bool → Tree → Nat → Array Bool → Bool
  | c, .nil, n, l => c || (n == 0 && (Region.ready .any ops l).isEmpty)
  | c, .seq is t, n, l => !c && match okSeq calm ops is l with
    | some l' => decide (is.length ≤ n) && okT calm ops false t (n - is.length) l'
    | none => false
  | c, .alt i a r, n, l => (c || Region.ready .any ops l == i :: heads r) && decide (i < ops.size) && decide (0 < n) && okT calm ops false a (n - 1) (l.setIfInBounds i true) && okT calm ops true r n l
def okRegT (calm : List FuncId) (N : Nat) (t : Tree) (ops : Array Oper) : Bool :=
  ops.all (fun o => match o.dst with | some d => decide (d < N) | none => true) && okT calm ops false t ops.size (Array.replicate ops.size false)
section
variable [Far] {P : Program} {E : Env P} {W0 : World} {M0 : Nat → Prop}
def AT (W0 : World) (M0 : Nat → Prop) (calm : List FuncId) (E : Env P) (ops : List Oper) (K : St → Prop) : Bool → Tree → St → Prop
  | c, .nil, st => c = true ∨ K st
  | _, .seq is t, st => AG W0 M0 true calm E ops.toArray (AT W0 M0 calm E ops K false t) (pickL ops is) st
  | _, .alt i a r, st => AG W0 M0 true calm E ops.toArray (AT W0 M0 calm E ops K false a) (pickL ops [i]) st ∧ AT W0 M0 calm E ops K true r st
theorem AAnyG_one {calm : List FuncId} {ops : List Oper} {K N : St → Prop} {i : Nat} {o : Oper} {l : Array Bool} {n : Nat} {st : St} (ho : ops[i]? = some o) (hf : firstG calm .any ops.toArray l i = true ∨ Region.ready .any ops.toArray l = [i])
    (h' : stepG W0 M0 true calm E ops.toArray o st N) (next : ∀ st, N st → AAnyG W0 M0 calm E .any ops.toArray K n (l.setIfInBounds i true) st) : AAnyG W0 M0 calm E .any ops.toArray K (n + 1) l st := by
  have ho' : ops.toArray[i]? = some o := by simpa using ho
  rcases hf with hf | hone
  · simp only [firstG, ho', Bool.and_eq_true] at hf
    obtain ⟨⟨ht, hrd⟩, ⟨⟨hiW, hWl⟩, hWa⟩, hfree⟩ := hf
    obtain ⟨c, hv, hK⟩ := stepG_take ht h'
    generalize waitsFor .any ops.toArray l i = W at *
    refine AAnyG_first ho' ht W (by simpa using hiW) n l st (fun j hj => ?_) (fun j hj hne oj hoj => ?_) (fun j oj hoj hjW hun => ?_) (by simpa using hrd) hv (next _ hK)
    · have := List.all_eq_true.1 hWl j hj
      simpa using this
    · have := List.all_eq_true.1 hWa j hj
      simp only [hoj, Bool.or_eq_true, beq_iff_eq, hne, false_or] at this
      obtain ⟨e, he, hb⟩ := Array.any_eq_true'.1 this
      simp only [Bool.and_eq_true] at hb
      exact ⟨e, he, hb.1, by simpa using hb.2⟩
    · have := List.all_eq_true.1 hfree j (List.mem_range.2 (Array.getElem?_eq_some_iff.1 hoj).1)
      simp only [hoj, Bool.or_eq_true, Bool.and_eq_true, hun, Bool.false_eq_true, or_false] at this
      rcases this with h1 | h1
      · exact absurd (by simpa using h1) hjW
      · exact ⟨h1.1, h1.2⟩
  · refine ⟨fun h0 => absurd (hone.symm.trans h0) (by simp), fun j hj oj hoj => ?_⟩
    rw [hone] at hj
    simp only [List.mem_singleton] at hj
    subst hj
    rw [ho'] at hoj; cases hoj
    exact stepG_mono next h'
theorem pickL_get {ops : List Oper} {i : Nat} {o : Oper} (h : ops[i]? = some o) (r : List Nat) : pickL ops (i :: r) = o :: pickL ops r := by rw [pickL, h]
theorem AAnyG_seq {calm : List FuncId} {ops : List Oper} {K N : St → Prop} : ∀ (is : List Nat) (l l' : Array Bool) (n : Nat) (st : St), okSeq calm ops.toArray is l = some l' → AG W0 M0 true calm E ops.toArray N (pickL ops is) st →
    (∀ st, N st → AAnyG W0 M0 calm E .any ops.toArray K n l' st) → AAnyG W0 M0 calm E .any ops.toArray K (n + is.length) l st := by
  intro is
  induction is with
  | nil => intro l l' n st hok h hn; simp only [okSeq, Option.some.injEq] at hok; subst hok; exact hn _ h
  | cons i is ih =>
    intro l l' n st hok h hn
    rw [okSeq] at hok
    split at hok
    · rename_i hc
      simp only [Bool.and_eq_true, Bool.or_eq_true, decide_eq_true_eq, beq_iff_eq] at hc
      have ho : ops[i]? = some (ops[i]'(by simpa using hc.1)) := List.getElem?_eq_getElem _
      rw [pickL_get ho] at h
      exact AAnyG_one (n := n + is.length) ho hc.2 h fun st hs => ih _ _ _ _ hok hs hn
    · cases hok
/-- Each of the heads of a chain. -/
def Alts (calm : List FuncId) (E : Env P) (W0 : World) (M0 : Nat → Prop) (ops : List Oper) (K : St → Prop) (n : Nat) (l : Array Bool) (st : St) (is : List Nat) : Prop :=
  ∀ i ∈ is, ∀ o, ops.toArray[i]? = some o → stepG W0 M0 true calm E ops.toArray o st (AAnyG W0 M0 calm E .any ops.toArray K n (l.setIfInBounds i true))
theorem AAnyG_tree {calm : List FuncId} {ops : List Oper} {K : St → Prop} : ∀ (t : Tree) (n : Nat) (l : Array Bool) (st : St),
    (okT calm ops.toArray false t n l = true → AT W0 M0 calm E ops K false t st → AAnyG W0 M0 calm E .any ops.toArray K n l st) ∧
    (okT calm ops.toArray true t (n + 1) l = true → AT W0 M0 calm E ops K true t st → Alts calm E W0 M0 ops K n l st (heads t)) := by
  intro t
  induction t with
  | nil =>
    intro n l st
    refine ⟨fun hok h => ?_, fun hok h i hi => by cases hi⟩
    simp only [okT, Bool.false_or, Bool.and_eq_true, beq_iff_eq] at hok
    obtain ⟨rfl, hok⟩ := hok
    simp only [AT, Bool.false_eq_true, false_or] at h
    exact ⟨by simpa using hok, h⟩
  | seq is t ih =>
    intro n l st
    refine ⟨fun hok h => ?_, fun hok h i hi => by cases hi⟩
    rw [okT] at hok
    simp only [Bool.not_false, Bool.true_and] at hok
    split at hok
    · rename_i l' hs
      simp only [Bool.and_eq_true, decide_eq_true_eq] at hok
      have e : n = (n - is.length) + is.length := by omega
      rw [e]
      exact AAnyG_seq is _ _ _ _ hs h fun st hs => (ih _ _ _).1 hok.2 hs
    · cases hok
  | alt i a r iha ihr =>
    intro n l st
    have one : ∀ m, okT calm ops.toArray false a m (l.setIfInBounds i true) = true → AG W0 M0 true calm E ops.toArray (AT W0 M0 calm E ops K false a) (pickL ops [i]) st → ∀ o, ops.toArray[i]? = some o →
        stepG W0 M0 true calm E ops.toArray o st (AAnyG W0 M0 calm E .any ops.toArray K m (l.setIfInBounds i true)) := fun m hok h o ho => by
      have ho' : ops[i]? = some o := by simpa using ho
      rw [pickL_get ho'] at h
      exact stepG_mono (fun st hs => (iha _ _ _).1 hok hs) h
    refine ⟨fun hok h => ?_, fun hok h => ?_⟩
    · simp only [okT, Bool.false_or, Bool.and_eq_true, decide_eq_true_eq, beq_iff_eq] at hok
      obtain ⟨⟨⟨⟨hr, hi⟩, hn⟩, ha⟩, hc⟩ := hok
      have e : n = (n - 1) + 1 := by omega
      rw [e] at hc ⊢
      refine ⟨fun h0 => absurd (hr.symm.trans h0) (by simp), fun k hk ok hok => ?_⟩
      rw [hr] at hk
      rcases List.mem_cons.1 hk with rfl | hk
      · exact one _ ha h.1 ok hok
      · exact (ihr (n - 1) l st).2 hc h.2 k hk ok hok
    · simp only [okT, Bool.true_or, Bool.true_and, Bool.and_eq_true, decide_eq_true_eq] at hok
      obtain ⟨⟨⟨hi, hn⟩, ha⟩, hc⟩ := hok
      intro k hk ok hok
      rcases List.mem_cons.1 hk with rfl | hk
      · exact one _ ha h.1 ok hok
      · exact (ihr n l st).2 hc h.2 k hk ok hok
theorem vc_regT (calm : List FuncId) (t : Tree) (hm : P.follows .mixedOrders = true) {id : Nat} {l : List Oper} (hok : okRegT calm E.N t l.toArray = true) {st : St} {K : Exit → St → Prop} (h : AT W0 M0 calm E l (K .normal) false t st) : VC E W0 M0 (.region id l.toArray true) st K := by
  intro a w hs
  simp only [okRegT, Bool.and_eq_true] at hok
  have hd : ∀ o ∈ l, ∀ d, o.dst = some d → d < E.N := by
    intro o ho d hd
    have := Array.all_eq_true_iff_forall_mem.1 hok.1 o (by simpa using ho)
    rw [hd] at this
    simpa using this
  exact wpIn_region_any hm (AAnyG_ok (calm := calm) (E := E) (W0 := W0) (M0 := M0) (K := K .normal) (fun i o d ho hdd => hd o (by
    have := List.mem_of_getElem? (l := l) (i := i) (by simpa using ho); exact this) d hdd) (fun st a w h1 h2 => ⟨st, h1, h2⟩) _ _ st a _ ((AAnyG_tree t _ _ st).1 hok.2 h) hs.drawn)
theorem at_seq {calm : List FuncId} {ops : List Oper} {K : St → Prop} {is : List Nat} {t : Tree} {st : St} (h : AG W0 M0 true calm E ops.toArray (AT W0 M0 calm E ops K false t) (pickL ops is) st) : AT W0 M0 calm E ops K false (.seq is t) st := h
theorem at_alt {calm : List FuncId} {ops : List Oper} {K : St → Prop} {c : Bool} {i : Nat} {a r : Tree} {st : St} (h : AG W0 M0 true calm E ops.toArray (AT W0 M0 calm E ops K false a) (pickL ops [i]) st) (h' : AT W0 M0 calm E ops K true r st) : AT W0 M0 calm E ops K c (.alt i a r) st := ⟨h, h'⟩
theorem at_end {calm : List FuncId} {ops : List Oper} {K : St → Prop} {st : St} : AT W0 M0 calm E ops K true .nil st := .inl rfl
theorem at_nil {calm : List FuncId} {ops : List Oper} {K : St → Prop} {st : St} (h : K st) : AT W0 M0 calm E ops K false .nil st := .inr h
end
end Go.Vc
