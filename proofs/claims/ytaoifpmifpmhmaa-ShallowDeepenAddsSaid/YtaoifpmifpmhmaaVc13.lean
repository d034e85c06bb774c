/- The Vc layer: regions, whatever order they come up in. -/
import Derived.Test.YtaoifpmifpmhmaaVc12
set_option linter.all false
namespace Go.Vc
open Go Go.RowKit
variable [Far]

def putD (dst : Option Tmp) (c : AV) (fr : Nat → AV) : Nat → AV :=
  match dst with
  | some d => upd fr d c
  | none => fr

/-- Whether an operation behind this guard is wanted. -/
def gWant (c : AV) (want : Bool) : Option Bool :=
  match c with
  | .d (.bool x) => some (if want then x else !x)
  | .cond g (.d (.bool x)) => some (g && (if want then x else !x))
  | .cond false _ => some false
  | _ => none

def guardA (ops : Array Oper) (fr : Nat → AV) : Option (Nat × Bool) → Option (Option Bool)
  | none => some none
  | some (g, want) => match (ops[g]?).bind (·.dst) with
    | some d => match gWant (fr d) want with
      | some b => some (some b)
      | none => none
    | none => none

section
variable {P : Program}

def stepO (E : Env P) (ops : Array Oper) (o : Oper) (st : St) (K : St → Prop) : Prop :=
  match guardA ops st.fr o.guard with
  | none => False
  | some none => match aOp E st.fr st.H st.n o.op with
    | .v p c => ndO st.fr o.op ∧ p ∧ K ⟨putD o.dst c st.fr, st.H, st.n⟩
    | .h p c H' n' => ndO st.fr o.op ∧ p ∧ K ⟨putD o.dst c st.fr, H', n'⟩
    | .bad => False
  | some (some b) => match aOp E st.fr st.H st.n o.op with
    | .v p c => (b = true → ndO st.fr o.op ∧ p) ∧ K ⟨putD o.dst (.cond b c) st.fr, st.H, st.n⟩
    | .h p c H' n' => (b = true → ndO st.fr o.op ∧ p ∧ K ⟨putD o.dst c st.fr, H', n'⟩) ∧ (b = false → K ⟨putD o.dst (.cond false .any) st.fr, st.H, st.n⟩)
    | .bad => False

theorem stepO_mono {E : Env P} {ops : Array Oper} {o : Oper} {st : St} {K K' : St → Prop} (hk : ∀ st, K st → K' st) (h : stepO E ops o st K) : stepO E ops o st K' := by
  unfold stepO at *
  split at h
  · exact h
  · split at h
    · exact ⟨h.1, h.2.1, hk _ h.2.2⟩
    · exact ⟨h.1, h.2.1, hk _ h.2.2⟩
    · exact h
  · split at h
    · exact ⟨h.1, hk _ h.2⟩
    · exact ⟨fun hb => ⟨(h.1 hb).1, (h.1 hb).2.1, hk _ (h.1 hb).2.2⟩, fun hb => hk _ (h.2 hb)⟩
    · exact h

variable {E : Env P} {w : World} {S : Lays} {n : Nat} {W0 : World} {M0 : Nat → Prop} {H : Heap} {a : Act}

theorem FrOk.putD {N : Nat} {fr : Nat → AV} {v : Value} {c : AV} {dst : Option Tmp} (h : FrOk w S n N fr a) (hd : ∀ d, dst = some d → d < N) (hc : R w S n c v) : FrOk w S n N (Vc.putD dst c fr) (a.put dst v) := by
  cases dst with
  | none => simpa [Vc.putD, Act.put] using h
  | some d => exact h.put (hd d rfl) hc

theorem guard_none {ops : Array Oper} {fr : Nat → AV} {o : Oper} (h : guardA ops fr o.guard = some none) (y : Nat → Option Bool) : Region.wanted o y = true := by
  unfold guardA at h
  unfold Region.wanted
  split at h
  · rename_i hg; rw [hg]
  · split at h
    · split at h <;> cases h
    · cases h

theorem guard_some {ops : Array Oper} {fr : Nat → AV} {o : Oper} {b : Bool} (h : guardA ops fr o.guard = some (some b)) (hF : ∀ i, R w S n (fr i) (a.tmps.getD i undef)) : Region.wanted o (yielded ops a.tmps) = b := by
  unfold guardA at h
  unfold Region.wanted
  split at h
  · cases h
  · rename_i g want hg
    split at h
    · rename_i d hd
      split at h
      · rename_i b' hb
        simp only [Option.some.injEq] at h
        subst h
        rw [hg]
        simp only [yielded, hd, Option.bind_some]
        have hR := hF d
        simp only [Array.getD_eq_getD_getElem?] at hR
        have bl : ∀ x : Bool, R w S n (.d (.bool x)) ((a.tmps[d]?).getD undef) → a.tmps[d]? = some (.bool x) := by
          intro x hx
          rw [R.bool_iff] at hx
          cases ht : a.tmps[d]? with
          | none => rw [ht] at hx; cases hx
          | some v => rw [ht] at hx; simp at hx; rw [hx]
        unfold gWant at hb
        split at hb
        · rename_i x hc
          simp only [Option.some.injEq] at hb
          rw [hc] at hR
          rw [bl x hR]
          subst hb
          cases want <;> cases x <;> rfl
        · rename_i gg x hc
          simp only [Option.some.injEq] at hb
          rw [hc] at hR
          cases hR with | cond _ _ _ hr hu =>
          cases gg with
          | true =>
            rw [bl x (hr rfl)]
            subst hb
            cases want <;> cases x <;> rfl
          | false =>
            subst hb
            have := hu rfl
            cases ht : a.tmps[d]? with
            | none => rfl
            | some v => rw [ht] at this; simp at this; subst this; rfl
        · rename_i hc
          simp only [Option.some.injEq] at hb
          rw [hc] at hR
          cases hR with | cond _ _ _ hr hu =>
          subst hb
          have := hu rfl
          cases ht : a.tmps[d]? with
          | none => rfl
          | some v => rw [ht] at this; simp at this; subst this; rfl
        · cases hb
      · cases h
    · cases h

theorem put_defers {dst : Option Tmp} {v : Value} : (a.put dst v).defers = a.defers := by cases dst <;> rfl

/-- What holds behind. -/
def Behind (W0 : World) (M0 : Nat → Prop) (N : Nat) (K : St → Prop) : Act → World → Prop := fun a w => ∃ st, K st ∧ Sim W0 M0 N st a w

theorem stepO_ok {ops : Array Oper} {o : Oper} {st : St} {K : St → Prop} (h : stepO E ops o st K) (hd : ∀ d, o.dst = some d → d < E.N) (hs : Sim W0 M0 E.N st a w) (Q : Exit → Act → World → Prop) :
    if Region.wanted o (yielded ops a.tmps) = true then o.wpIn (fen E.ρ) 0 P a w (Behind W0 M0 E.N K) Q else Behind W0 M0 E.N K (a.put o.dst undef) w := by
  obtain ⟨S, hH, hF, hM⟩ := hs
  have run : ∀ {p : Prop} {c : AV} {H' : Heap} {n' : Nat}, (aOp E st.fr st.H st.n o.op).heap st.H st.n = some (p, c, H', n') → p → ndO st.fr o.op → ∀ c', (∀ w S n v, R w S n c v → R w S n c' v) → K ⟨putD o.dst c' st.fr, H', n'⟩ →
      o.wpIn (fen E.ρ) 0 P a w (Behind W0 M0 E.N K) Q := by
    intro p c H' n' hr hp hn c' hcc hK
    refine aOp_ok hH hF.at_ hr hp hn Q _ (fun v w' S' h1 h2 h3 => ⟨_, hK, S', h1, ?_⟩)
    exact ⟨(hF.ext h2).putD hd (hcc _ _ _ _ h3), by rw [put_defers]; exact hM.ext h2⟩
  unfold stepO at h
  split at h
  · exact h.elim
  · rename_i hg
    rw [if_pos (guard_none hg _)]
    split at h
    · rename_i p c hr
      exact run (by rw [hr]; rfl) h.2.1 h.1 c (fun _ _ _ _ h => h) h.2.2
    · rename_i p c H' n' hr
      exact run (by rw [hr]; rfl) h.2.1 h.1 c (fun _ _ _ _ h => h) h.2.2
    · exact h.elim
  · rename_i b hg
    rw [guard_some hg hF.at_]
    split at h
    · rename_i p c hr
      cases b with
      | true =>
        rw [if_pos rfl]
        exact run (by rw [hr]; rfl) (h.1 rfl).2 (h.1 rfl).1 (.cond true c) (fun _ _ _ _ h => .cond _ _ _ (fun _ => h) (fun e => by cases e)) h.2
      | false =>
        rw [if_neg (by simp)]
        exact ⟨_, h.2, S, hH, hF.putD hd (.cond _ _ _ (fun e => by cases e) (fun _ => rfl)), by rw [put_defers]; exact hM⟩
    · rename_i p c H' n' hr
      cases b with
      | true =>
        rw [if_pos rfl]
        exact run (by rw [hr]; rfl) (h.1 rfl).2.1 (h.1 rfl).1 c (fun _ _ _ _ h => h) (h.1 rfl).2.2
      | false =>
        rw [if_neg (by simp)]
        exact ⟨_, h.2 rfl, S, hH, hF.putD hd (.cond _ _ _ (fun e => by cases e) (fun _ => rfl)), by rw [put_defers]; exact hM⟩
    · exact h.elim

/-- Whatever order is picked. -/
def AAny (E : Env P) (md : Region.Mode) (ops : Array Oper) (K : St → Prop) : Nat → Array Bool → St → Prop
  | 0, l, st => Region.ready md ops l = [] ∧ K st
  | fuel + 1, l, st => (Region.ready md ops l = [] → K st) ∧ ∀ i ∈ Region.ready md ops l, ∀ o, ops[i]? = some o → stepO E ops o st (AAny E md ops K fuel (l.setIfInBounds i true))

theorem AAny_ok {md : Region.Mode} {ops : Array Oper} {K : St → Prop} {Q : Exit → Act → World → Prop} (hd : ∀ (i : Nat) (o : Oper) (d : Tmp), ops[i]? = some o → o.dst = some d → d < E.N)
    (hQ : ∀ st a w, K st → Sim W0 M0 E.N st a w → Q .normal a w) : ∀ (fuel : Nat) (l : Array Bool) (st : St) (a : Act) (w : World), AAny E md ops K fuel l st → Sim W0 M0 E.N st a w → wpAnyIn (fen E.ρ) 0 P md ops Q fuel l a w := by
  intro fuel
  induction fuel with
  | zero => intro l st a w h hs; exact ⟨h.1, hQ _ _ _ h.2 hs⟩
  | succ fuel ih =>
    intro l st a w h hs
    refine ⟨fun hr => hQ _ _ _ (h.1 hr) hs, fun i hi => ?_⟩
    obtain ⟨_, o, ho, _⟩ := mem_ready.1 hi
    have h1 := stepO_ok (h.2 i hi o ho) (fun d hd' => hd i o d ho hd') hs Q
    unfold wpOpIn
    simp only [ho]
    split
    · rename_i hw
      rw [if_pos hw] at h1
      exact (Oper.wpIn_mono (fun a' w' ⟨st', h2, h3⟩ => ih _ _ _ _ h2 h3) h1)
    · rename_i hw
      rw [if_neg hw] at h1
      obtain ⟨st', h2, h3⟩ := h1
      exact ⟨fun _ _ => trivial, ih _ _ _ _ h2 h3⟩

/-- The order of the text. -/
def AList (E : Env P) (ops : Array Oper) (K : St → Prop) : List Oper → St → Prop
  | [], st => K st
  | o :: r, st => stepO E ops o st (AList E ops K r)

theorem AList_ok {ops : Array Oper} {K : St → Prop} {Q : Exit → Act → World → Prop} (hQ : ∀ st a w, K st → Sim W0 M0 E.N st a w → Q .normal a w) :
    ∀ (l : List Oper) (k : Nat) (st : St) (a : Act) (w : World), (∀ j, l[j]? = ops[k + j]?) → (∀ o ∈ l, ∀ d, o.dst = some d → d < E.N) → AList E ops K l st → Sim W0 M0 E.N st a w → wpOpsIn (fen E.ρ) 0 P ops Q (List.range' k l.length) a w := by
  intro l
  induction l with
  | nil => intro k st a w _ _ h hs; exact hQ _ _ _ h hs
  | cons o r ih =>
    intro k st a w hl hd h hs
    have ho : ops[k]? = some o := by have := hl 0; simpa using this.symm
    have h1 := stepO_ok (h : stepO E ops o st (AList E ops K r)) (hd o (by simp)) hs Q
    have ih' := fun st a w => ih (k + 1) st a w (fun j => by have := hl (j + 1); simpa [Nat.add_assoc, Nat.add_comm 1 j] using this) (fun o ho => hd o (by simp [ho]))
    simp only [List.length_cons, List.range'_succ, wpOpsIn, ho]
    split
    · rename_i hw
      rw [if_pos hw] at h1
      exact (Oper.wpIn_mono (fun a' w' ⟨st', h2, h3⟩ => ih' _ _ _ h2 h3) h1)
    · rename_i hw
      rw [if_neg hw] at h1
      obtain ⟨st', h2, h3⟩ := h1
      exact ⟨fun _ _ => trivial, ih' _ _ _ h2 h3⟩

theorem Sim.drawn {N : Nat} {st : St} {k : Nat} (h : Sim W0 M0 N st a w) : Sim W0 M0 N st a { w with drawn := k } := by
  obtain ⟨S, hH, hF, hM⟩ := h
  have hE : Ext w S st.n { w with drawn := k } S st.n := ⟨Nat.le_refl _, Nat.le_refl _, fun _ _ => .inl rfl, fun _ _ h => h, fun _ _ _ => rfl⟩
  refine ⟨S, ⟨hH.bnd, hH.lt_, fun id b hb => ?_, hH.inj, hH.mut_, hH.os, hH.tape, hH.output, hH.size, hH.same, hH.far, hH.pin⟩, hF.ext hE, hM.ext hE⟩
  obtain ⟨l, hl, hb'⟩ := hH.box id b hb
  exact ⟨l, hl, hb'.ext hE (fun _ _ => rfl)⟩
end
end Go.Vc
