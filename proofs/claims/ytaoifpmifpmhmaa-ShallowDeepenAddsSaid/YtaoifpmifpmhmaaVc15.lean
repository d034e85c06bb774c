/- The Vc layer: regions in the order of the text; control. -/
import Derived.Test.YtaoifpmifpmhmaaVc14
set_option linter.all false
namespace Go.Vc
open Go Go.RowKit
variable [Far]

/-- Those that wait for number 'i'. -/
def waitsFor (md : Region.Mode) (ops : Array Oper) (l : Array Bool) (i : Nat) : List Nat :=
  (List.range ops.size).foldl (fun W j => if l.getD j true then W else match ops[j]? with
    | some oj => if oj.after.any (fun e => Region.binds md e && W.contains e.on) then j :: W else W
    | none => W) [i]

def firstB (calm : List FuncId) (md : Region.Mode) (ops : Array Oper) (l : Array Bool) (i : Nat) : Bool :=
  match ops[i]? with
  | none => false
  | some oi => takeB oi.op && (Region.ready md ops l).contains i && (fun W => W.contains i && W.all (fun j => !l.getD j false) &&
      W.all (fun j => j == i || match ops[j]? with | some oj => oj.after.any (fun e => Region.binds md e && W.contains e.on) | none => true) &&
      (List.range ops.size).all (fun j => W.contains j || l.getD j true || match ops[j]? with | some oj => oi.apart ops oj && (stillB oi.op || quietB calm oj.op) | none => true)) (waitsFor md ops l i)

/-- The order of the text serves every order. -/
def okLin (calm : List FuncId) (md : Region.Mode) (ops : Array Oper) : Nat → Nat → Array Bool → Bool
  | 0, _, l => (Region.ready md ops l).isEmpty
  | k + 1, i, l => (firstB calm md ops l i || Region.ready md ops l == [i]) && okLin calm md ops k (i + 1) (l.setIfInBounds i true)

/-- What a region is looked at for. -/
def okReg (calm : List FuncId) (N : Nat) (draw : Bool) (ops : Array Oper) : Bool :=
  ops.all (fun o => match o.dst with | some d => decide (d < N) | none => true) && (!draw || okLin calm .any ops ops.size 0 (Array.replicate ops.size false))

section
variable {P : Program} {E : Env P} {w : World} {S : Lays} {n : Nat} {W0 : World} {M0 : Nat → Prop} {H : Heap} {a : Act}

theorem stepO_take {ops : Array Oper} {o : Oper} {st : St} {K : St → Prop} (ht : takeB o.op = true) (h : stepO E ops o st K) : ∃ p c, vRes E ops o st = some (p, c) ∧ p ∧ K ⟨putD o.dst c st.fr, st.H, st.n⟩ := by
  have noh : ∀ {p : Prop} {c : AV} {H' : Heap} {n' : Nat}, aOp E st.fr st.H st.n o.op ≠ .h p c H' n' := by
    intro p c H' n' hr
    unfold takeB at ht
    split at ht
    · rename_i x y z hop
      rw [hop] at hr
      have hr' : RS.ofV (aPick (evO st.fr x) (evO st.fr y) (evO st.fr z)) = .h p c H' n' := hr
      cases hv : aPick (evO st.fr x) (evO st.fr y) (evO st.fr z) with
      | none => rw [hv] at hr'; cases hr'
      | some q => rw [hv] at hr'; cases hr'
    · rw [aOp_val ht] at hr
      cases hv : absV E.X.ty st.H st.fr o.op with
      | none => rw [hv] at hr; cases hr
      | some q => rw [hv] at hr; cases hr
  unfold stepO at h
  unfold vRes
  split at h
  · exact h.elim
  · rename_i hg
    rw [hg]
    split at h
    · rename_i p c hr
      simp only [hr]
      exact ⟨_, _, rfl, ⟨h.1, h.2.1⟩, h.2.2⟩
    · rename_i hr; exact (noh hr).elim
    · exact h.elim
  · rename_i b hg
    rw [hg]
    split at h
    · rename_i p c hr
      simp only [hr]
      exact ⟨_, _, rfl, h.1, h.2⟩
    · rename_i hr; exact (noh hr).elim
    · exact h.elim

theorem AAny_lin {calm : List FuncId} (hc : Calm E calm) {md : Region.Mode} {ops : Array Oper} {K : St → Prop} : ∀ (k i : Nat) (l : Array Bool) (r : List Oper) (st : St), r.length = k → (∀ j, r[j]? = ops[i + j]?) →
    okLin calm md ops k i l = true → AList E ops K r st → AAny E md ops K k l st := by
  intro k
  induction k with
  | zero =>
    intro i l r st hl _ hok h
    have : r = [] := List.eq_nil_of_length_eq_zero hl
    subst this
    exact ⟨by simpa [okLin] using hok, h⟩
  | succ k ih =>
    intro i l r st hl hr hok h
    cases r with
    | nil => cases hl
    | cons o r =>
      have ho : ops[i]? = some o := by have := hr 0; simpa using this.symm
      have hr' : ∀ j, r[j]? = ops[i + 1 + j]? := fun j => by have := hr (j + 1); simpa [Nat.add_assoc, Nat.add_comm 1 j] using this
      simp only [okLin, Bool.and_eq_true, Bool.or_eq_true] at hok
      have h' : stepO E ops o st (AList E ops K r) := h
      have next : ∀ st, AList E ops K r st → AAny E md ops K k (l.setIfInBounds i true) st := fun st hs => ih (i + 1) _ r st (by simpa using hl) hr' hok.2 hs
      rcases hok.1 with hf | hone
      · simp only [firstB, ho, Bool.and_eq_true] at hf
        obtain ⟨⟨ht, hrd⟩, ⟨⟨hiW, hWl⟩, hWa⟩, hfree⟩ := hf
        obtain ⟨p, c, hv, hp, hK⟩ := stepO_take ht h'
        generalize waitsFor md ops l i = W at *
        refine AAny_first hc ho ht hp W (by simpa using hiW) k l st (fun j hj => ?_) (fun j hj hne oj hoj => ?_) (fun j oj hoj hjW hun => ?_) (by simpa using hrd) hv (next _ hK)
        · have := List.all_eq_true.1 hWl j hj
          simpa using this
        · have := List.all_eq_true.1 hWa j hj
          simp only [hoj, Bool.or_eq_true, beq_iff_eq, hne, false_or] at this
          obtain ⟨e, he, hb⟩ := Array.any_eq_true'.1 this
          simp only [Bool.and_eq_true] at hb
          exact ⟨e, he, hb.1, by simpa using hb.2⟩
        · have := List.all_eq_true.1 hfree j (List.mem_range.2 (Array.getElem?_eq_some_iff.1 hoj).1)
          simp only [hoj, Bool.or_eq_true, Bool.and_eq_true, hun, Bool.false_eq_true, or_false] at this
          rcases this with h1 | h1
          · exact absurd (by simpa using h1) hjW
          · exact ⟨h1.1, h1.2⟩
      · have hone : Region.ready md ops l = [i] := by simpa using hone
        refine ⟨fun h0 => absurd (hone.symm.trans h0) (by simp), fun j hj oj hoj => ?_⟩
        rw [hone] at hj
        simp only [List.mem_singleton] at hj
        subst hj
        rw [ho] at hoj; cases hoj
        exact stepO_mono next h'

/-! ### control -/
def Post (E : Env P) (W0 : World) (M0 : Nat → Prop) (K : Exit → St → Prop) : Exit → Act → World → Prop := fun e a w => ∃ st, K e st ∧ Sim W0 M0 E.N st a w

/-- From every world that the state describes the code runs to an end that K lets by. -/
def VC (E : Env P) (W0 : World) (M0 : Nat → Prop) (c : Code) (st : St) (K : Exit → St → Prop) : Prop :=
  ∀ a w, Sim W0 M0 E.N st a w → c.wpIn (fen E.ρ) 0 P (Post E W0 M0 K) a w

def Sub (E : Env P) (W0 : World) (M0 : Nat → Prop) (st st' : St) : Prop := ∀ a w, Sim W0 M0 E.N st a w → Sim W0 M0 E.N st' a w

theorem VC.sub {c : Code} {st st' : St} {K : Exit → St → Prop} (hs : Sub E W0 M0 st st') (h : VC E W0 M0 c st' K) : VC E W0 M0 c st K := fun a w hw => h a w (hs a w hw)

theorem VC.mono {c : Code} {st : St} {K K' : Exit → St → Prop} (hk : ∀ e st, K e st → K' e st) (h : VC E W0 M0 c st K) : VC E W0 M0 c st K' :=
  fun a w hw => wpIn_mono (h a w hw) (fun e a w ⟨st, h1, h2⟩ => ⟨st, hk e st h1, h2⟩)

def thenK (next : St → Prop) (K : Exit → St → Prop) : Exit → St → Prop
  | .normal, st => next st
  | e, st => K e st

def blockK (id : Nat) (K : Exit → St → Prop) : Exit → St → Prop
  | .exit id', st => if id' = id then K .normal st else K (.exit id') st
  | e, st => K e st

theorem vc_skip {st : St} {K : Exit → St → Prop} (h : K .normal st) : VC E W0 M0 .skip st K := fun a w hs => wpIn_skip ⟨st, h, hs⟩
theorem vc_exit {id : Nat} {st : St} {K : Exit → St → Prop} (h : K (.exit id) st) : VC E W0 M0 (.exit id) st K := fun a w hs => wpIn_exit ⟨st, h, hs⟩
theorem vc_ret {st : St} {K : Exit → St → Prop} (h : K .ret st) : VC E W0 M0 .ret st K := fun a w hs => wpIn_ret ⟨st, h, hs⟩

theorem vc_seq {x y : Code} {st : St} {K : Exit → St → Prop} (h : VC E W0 M0 x st (thenK (fun st => VC E W0 M0 y st K) K)) : VC E W0 M0 (.seq x y) st K := by
  intro a w hs
  refine wpIn_seq (wpIn_mono (h a w hs) ?_)
  rintro e a' w' ⟨st', h1, h2⟩
  cases e with
  | normal => exact h1 a' w' h2
  | _ => exact ⟨st', h1, h2⟩

theorem vc_block {id : Nat} {c : Code} {st : St} {K : Exit → St → Prop} (h : VC E W0 M0 c st (blockK id K)) : VC E W0 M0 (.block id c) st K := by
  intro a w hs
  refine wpIn_block (wpIn_mono (h a w hs) ?_)
  rintro e a' w' ⟨st', h1, h2⟩
  cases e with
  | exit id' =>
    simp only [Exit.inBlock]
    simp only [blockK] at h1
    split
    · rename_i he; rw [if_pos he] at h1; exact ⟨st', h1, h2⟩
    · rename_i he; rw [if_neg he] at h1; exact ⟨st', h1, h2⟩
  | _ => exact ⟨st', h1, h2⟩

/-- What a test asks. -/
def condK (fr : Nat → AV) (c : Operand) (x y : Prop) : Prop :=
  match evO fr c with
  | .d (.bool b) => (b = true → x) ∧ (b = false → y)
  | _ => False

theorem vc_cond {c : Operand} {x y : Code} {st : St} {K : Exit → St → Prop} (h : condK st.fr c (VC E W0 M0 x st K) (VC E W0 M0 y st K)) : VC E W0 M0 (.cond c x y) st K := by
  intro a w hs
  obtain ⟨S, hH, hF, hM⟩ := hs
  unfold condK at h
  split at h
  · rename_i b hb
    have hc := evO_ok hF.at_ c
    rw [hb, R.bool_iff] at hc
    exact wpIn_cond_split hc (fun hb => h.1 hb a w ⟨S, hH, hF, hM⟩) (fun hb => h.2 hb a w ⟨S, hH, hF, hM⟩)
  · exact h.elim

theorem vc_reg {calm : List FuncId} (hc : Calm E calm) (hm : P.follows .mixedOrders = true) {id : Nat} {l : List Oper} {draw : Bool} (hok : okReg calm E.N draw l.toArray = true) {st : St} {K : Exit → St → Prop} (h : AList E l.toArray (K .normal) l st) : VC E W0 M0 (.region id l.toArray draw) st K := by
  intro a w hs
  simp only [okReg, Bool.and_eq_true, Bool.or_eq_true, Bool.not_eq_true'] at hok
  have hd : ∀ o ∈ l, ∀ d, o.dst = some d → d < E.N := by
    intro o ho d hd
    have := Array.all_eq_true_iff_forall_mem.1 hok.1 o (by simpa using ho)
    rw [hd] at this
    simpa using this
  cases draw with
  | false => exact wpIn_region (by
      have := AList_ok (E := E) (W0 := W0) (M0 := M0) (ops := l.toArray) (Q := Post E W0 M0 K) (fun st a w h1 h2 => ⟨st, h1, h2⟩) l 0 st a w (fun j => by simp) hd h hs
      simpa [List.range_eq_range'] using this)
  | true =>
    have hl : okLin calm .any l.toArray l.toArray.size 0 (Array.replicate l.toArray.size false) = true := by simpa using hok.2
    refine wpIn_region_any hm (AAny_ok (E := E) (W0 := W0) (M0 := M0) (K := K .normal) (fun i o d ho hdd => hd o (by
      have := List.mem_of_getElem? (l := l) (i := i) (by simpa using ho); exact this) d hdd) (fun st a w h1 h2 => ⟨st, h1, h2⟩) _ _ st a _ ?_ hs.drawn)
    exact AAny_lin hc _ 0 _ l st (by simp) (fun j => by simp) hl h

theorem vc_loop {σ : Type} (inv : σ → Prop) (I : σ → St) (μ : σ → Nat) (s0 : σ) {body : Code} {st : St} {K : Exit → St → Prop} (h0 : inv s0) (hs : Sub E W0 M0 st (I s0))
    (round : ∀ s, inv s → VC E W0 M0 body (I s) (thenK (fun st' => ∃ s', inv s' ∧ μ s' < μ s ∧ Sub E W0 M0 st' (I s')) K)) : VC E W0 M0 (.loop body) st K := by
  intro a w hw
  have key : ∀ n s, μ s < n → inv s → ∀ a w, Sim W0 M0 E.N (I s) a w → Code.roundsIn (fen E.ρ) 0 P body (Post E W0 M0 K) n a w := by
    intro n
    induction n with
    | zero => intro s h; omega
    | succ n ih =>
      intro s hn hi a w hsim
      show Code.wpIn (fen E.ρ) 0 P body (Exit.then (Code.roundsIn (fen E.ρ) 0 P body (Post E W0 M0 K) n) (Post E W0 M0 K)) a w
      refine wpIn_mono (round s hi a w hsim) ?_
      rintro e a' w' ⟨st', h1, h2⟩
      cases e with
      | normal =>
        obtain ⟨s', hi', hlt, hsub⟩ := h1
        exact ih s' (by omega) hi' a' w' (hsub a' w' h2)
      | _ => exact ⟨st', h1, h2⟩
  exact wpIn_loop_rounds (μ s0 + 1) (key _ s0 (by omega) h0 a w (hs a w hw))
end
end Go.Vc
