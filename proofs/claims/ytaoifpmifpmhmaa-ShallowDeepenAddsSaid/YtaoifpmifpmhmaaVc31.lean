/- The Vc layer: regions taken in an order of one's own. -/
import Derived.Test.YtaoifpmifpmhmaaVc30
set_option linter.all false
namespace Go.Vc
open Go Go.RowKit
def pickL (l : List Oper) : List Nat → List Oper
  | [] => []
  | i :: r => match l[i]? with
    | some o => o :: pickL l r
    | none => pickL l r
def okOrdG (calm : List FuncId) (md : Region.Mode) (ops : Array Oper) : List Nat → Array Bool → Bool
  | [], l => (Region.ready md ops l).isEmpty
  | i :: r, l => decide (i < ops.size) && (firstG calm md ops l i || Region.ready md ops l == [i]) && okOrdG calm md ops r (l.setIfInBounds i true)
def okRegO (calm : List FuncId) (N : Nat) (ord : List Nat) (ops : Array Oper) : Bool :=
  ops.all (fun o => match o.dst with | some d => decide (d < N) | none => true) && ord.length == ops.size && okOrdG calm .any ops ord (Array.replicate ops.size false)
section
variable [Far] {P : Program} {E : Env P} {W0 : World} {M0 : Nat → Prop}
theorem AAnyG_ord {calm : List FuncId} {md : Region.Mode} {ops : List Oper} {K : St → Prop} : ∀ (ord : List Nat) (l : Array Bool) (st : St), okOrdG calm md ops.toArray ord l = true → AG W0 M0 true calm E ops.toArray K (pickL ops ord) st → AAnyG W0 M0 calm E md ops.toArray K ord.length l st := by
  intro ord
  induction ord with
  | nil =>
    intro l st hok h
    exact ⟨by simpa [okOrdG] using hok, h⟩
  | cons i ord ih =>
    intro l st hok h
    simp only [okOrdG, Bool.and_eq_true, Bool.or_eq_true, decide_eq_true_eq] at hok
    obtain ⟨⟨hi, hf⟩, hok⟩ := hok
    have ho : ops[i]? = some (ops[i]'(by simpa using hi)) := List.getElem?_eq_getElem _
    generalize ops[i]'(by simpa using hi) = o at ho
    have ho' : ops.toArray[i]? = some o := by simpa using ho
    have h' : stepG W0 M0 true calm E ops.toArray o st (AG W0 M0 true calm E ops.toArray K (pickL ops ord)) := by
      unfold pickL at h; rw [ho] at h; exact h
    have next : ∀ st, AG W0 M0 true calm E ops.toArray K (pickL ops ord) st → AAnyG W0 M0 calm E md ops.toArray K ord.length (l.setIfInBounds i true) st := fun st hs => ih _ st hok hs
    rcases hf with hf | hone
    · simp only [firstG, ho', Bool.and_eq_true] at hf
      obtain ⟨⟨ht, hrd⟩, ⟨⟨hiW, hWl⟩, hWa⟩, hfree⟩ := hf
      obtain ⟨c, hv, hK⟩ := stepG_take ht h'
      generalize waitsFor md ops.toArray l i = W at *
      refine AAnyG_first ho' ht W (by simpa using hiW) ord.length l st (fun j hj => ?_) (fun j hj hne oj hoj => ?_) (fun j oj hoj hjW hun => ?_) (by simpa using hrd) hv (next _ hK)
      · have := List.all_eq_true.1 hWl j hj
        simpa using this
      · have := List.all_eq_true.1 hWa j hj
        simp only [hoj, Bool.or_eq_true, beq_iff_eq, hne, false_or] at this
        obtain ⟨e, he, hb⟩ := Array.any_eq_true'.1 this
        simp only [Bool.and_eq_true] at hb
        exact ⟨e, he, hb.1, by simpa using hb.2⟩
      · have := List.all_eq_true.1 hfree j (List.mem_range.2 (Array.getElem?_eq_some_iff.1 hoj).1)
        simp only [hoj, Bool.or_eq_true, Bool.and_eq_true, hun, Bool.false_eq_true, or_false] at this
        rcases this with h1 | h1
        · exact absurd (by simpa using h1) hjW
        · exact ⟨h1.1, h1.2⟩
    · have hone : Region.ready md ops.toArray l = [i] := by simpa using hone
      refine ⟨fun h0 => absurd (hone.symm.trans h0) (by simp), fun j hj oj hoj => ?_⟩
      rw [hone] at hj
      simp only [List.mem_singleton] at hj
      subst hj
      rw [ho'] at hoj; cases hoj
      exact stepG_mono next h'

theorem vc_regO (calm : List FuncId) (ord : List Nat) (hm : P.follows .mixedOrders = true) {id : Nat} {l : List Oper} (hok : okRegO calm E.N ord l.toArray = true) {st : St} {K : Exit → St → Prop} (h : AG W0 M0 true calm E l.toArray (K .normal) (pickL l ord) st) : VC E W0 M0 (.region id l.toArray true) st K := by
  intro a w hs
  simp only [okRegO, Bool.and_eq_true, beq_iff_eq] at hok
  have hd : ∀ o ∈ l, ∀ d, o.dst = some d → d < E.N := by
    intro o ho d hd
    have := Array.all_eq_true_iff_forall_mem.1 hok.1.1 o (by simpa using ho)
    rw [hd] at this
    simpa using this
  refine wpIn_region_any hm (AAnyG_ok (calm := calm) (E := E) (W0 := W0) (M0 := M0) (K := K .normal) (fun i o d ho hdd => hd o (by
    have := List.mem_of_getElem? (l := l) (i := i) (by simpa using ho); exact this) d hdd) (fun st a w h1 h2 => ⟨st, h1, h2⟩) _ _ st a _ ?_ hs.drawn)
  have := AAnyG_ord (md := .any) ord _ st hok.2 h
  rw [hok.1.2] at this
  exact this
end
theorem pick_rules : (∀ l, pickL l [] = []) ∧ (∀ l i r, pickL l (i :: r) = match l[i]? with | some o => o :: pickL l r | none => pickL l r) := ⟨fun _ => rfl, fun _ _ _ => rfl⟩
end Go.Vc
