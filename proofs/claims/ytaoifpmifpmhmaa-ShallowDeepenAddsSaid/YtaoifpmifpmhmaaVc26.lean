/- The Vc layer: regions once more: operations known by what they do to worlds; calls that only add boxes. -/
import Derived.Test.YtaoifpmifpmhmaaVc25
set_option linter.all false
namespace Go.Vc
open Go Go.RowKit

/-- It only adds boxes, so they say; to be shown at each. -/
def growB (calm : List FuncId) (d : Option Tmp) : Op → Bool
  | .alloc _ | .box .. | .buildSlice .. | .makeSlice .. => true
  | .call ⟨.value (.func f), _, _⟩ => calm.contains f
  | .call ⟨.builtin .append, _, _⟩ => calm.contains (1000000 + d.getD 0)
  | _ => false
def mildB (calm : List FuncId) (d : Option Tmp) (o : Op) : Bool := takeB o || growB calm d o

section
variable [Far] {P : Program} {E : Env P} {W0 : World} {M0 : Nat → Prop}

/-- An operation by what it does to worlds. -/
def SemO (W0 : World) (M0 : Nat → Prop) (E : Env P) (o : Oper) (st : St) (K : St → Prop) : Prop :=
  ∀ (a : Act) (w : World) (S : Lays), HeapOk W0 M0 st.H st.n w S → (∀ x ∈ o.op.operands.toList, R w S st.n (evO st.fr x) (a.eval x)) →
    ∀ Q, o.wpIn (fen E.ρ) 0 P a w (fun a' w' => ∃ c H' n' v S', a' = a.put o.dst v ∧ HeapOk W0 M0 H' n' w' S' ∧ Ext w S st.n w' S' n' ∧ R w' S' n' c v ∧ K ⟨putD o.dst c st.fr, H', n'⟩) Q

theorem SemO.mono {o : Oper} {st : St} {K K' : St → Prop} (hk : ∀ st, K st → K' st) (h : SemO W0 M0 E o st K) : SemO W0 M0 E o st K' := fun a w S h1 h2 Q =>
  Oper.wpIn_mono (fun a' w' ⟨c, H', n', v, S', g1, g2, g3, g4, g5⟩ => ⟨c, H', n', v, S', g1, g2, g3, g4, hk _ g5⟩) (h a w S h1 h2 Q)

/-- One step. 'dr': the region draws an order. -/
def stepG (W0 : World) (M0 : Nat → Prop) (dr : Bool) (calm : List FuncId) (E : Env P) (ops : Array Oper) (o : Oper) (st : St) (K : St → Prop) : Prop :=
  stepO E ops o st (fun st' => ((dr && growB calm o.dst o.op) = true → HLe st.H st'.H) ∧ K st') ∨ (guardA ops st.fr o.guard = some (some false) ∧ K ⟨putD o.dst (.cond false .any) st.fr, st.H, st.n⟩) ∨
    (o.guard = none ∧ (dr && mildB calm o.dst o.op) = false ∧ SemO W0 M0 E o st K)

theorem stepG_mono {dr : Bool} {calm : List FuncId} {ops : Array Oper} {o : Oper} {st : St} {K K' : St → Prop} (hk : ∀ st, K st → K' st) (h : stepG W0 M0 dr calm E ops o st K) : stepG W0 M0 dr calm E ops o st K' := by
  rcases h with h | h | h
  · exact .inl (stepO_mono (fun st h => ⟨h.1, hk _ h.2⟩) h)
  · exact .inr (.inl ⟨h.1, hk _ h.2⟩)
  · exact .inr (.inr ⟨h.1, h.2.1, h.2.2.mono hk⟩)

theorem stepG_ok {dr : Bool} {calm : List FuncId} {a : Act} {w : World} {ops : Array Oper} {o : Oper} {st : St} {K : St → Prop} (h : stepG W0 M0 dr calm E ops o st K) (hd : ∀ d, o.dst = some d → d < E.N) (hs : Sim W0 M0 E.N st a w) (Q : Exit → Act → World → Prop) :
    if Region.wanted o (yielded ops a.tmps) = true then o.wpIn (fen E.ρ) 0 P a w (Behind W0 M0 E.N K) Q else Behind W0 M0 E.N K (a.put o.dst undef) w := by
  rcases h with h | h | h
  · exact stepO_ok (stepO_mono (fun st h => h.2) h) hd hs Q
  · obtain ⟨S, hH, hF, hM⟩ := hs
    rw [guard_some h.1 hF.at_, if_neg (by simp)]
    exact ⟨_, h.2, S, hH, hF.putD hd (.cond _ _ _ (fun e => by cases e) (fun _ => rfl)), by rw [put_defers]; exact hM⟩
  · obtain ⟨S, hH, hF, hM⟩ := hs
    have hg : guardA ops st.fr o.guard = some none := by rw [h.1]; rfl
    rw [if_pos (guard_none hg _)]
    refine Oper.wpIn_mono ?_ (h.2.2 a w S hH (fun x _ => evO_ok hF.at_ x) Q)
    rintro a' w' ⟨c, H', n', v, S', rfl, g2, g3, g4, g5⟩
    exact ⟨_, g5, S', g2, (hF.ext g3).putD hd g4, by rw [put_defers]; exact hM.ext g3⟩

/-- What an operation that may be taken first gives. -/
def VR (E : Env P) (ops : Array Oper) (o : Oper) (st : St) (c : AV) : Prop :=
  (∃ p, vRes E ops o st = some (p, c) ∧ p) ∨ (guardA ops st.fr o.guard = some (some false) ∧ c = .cond false .any)

theorem HLe.refl (H : Heap) : HLe H H := fun _ _ h => h
theorem VR_step {dr : Bool} {calm : List FuncId} {ops : Array Oper} {o : Oper} {st : St} {c : AV} (h : VR E ops o st c) {K : St → Prop} (hK : K ⟨putD o.dst c st.fr, st.H, st.n⟩) : stepG W0 M0 dr calm E ops o st K := by
  rcases h with ⟨p, h, hp⟩ | ⟨h, rfl⟩
  · exact .inl (vRes_step h hp ⟨fun _ => HLe.refl _, hK⟩)
  · exact .inr (.inl ⟨h, hK⟩)
theorem VR_keep {ops : Array Oper} {o : Oper} {st : St} {c : AV} (h : VR E ops o st c) {fr' : Nat → AV} {H' : Heap} {n' : Nat}
    (ha : ∀ x ∈ o.op.operands.toList, evO fr' x = evO st.fr x) (hg : ∀ d, (∃ g want, o.guard = some (g, want) ∧ (ops[g]?).bind (·.dst) = some d) → fr' d = st.fr d)
    (ht : takeB o.op = true) (hs : stillB o.op = true ∨ HLe st.H H') : VR E ops o ⟨fr', H', n'⟩ c := by
  rcases h with ⟨p, h, hp⟩ | ⟨h, rfl⟩
  · exact .inl ⟨p, vRes_keep h ha hg ht hs, hp⟩
  · exact .inr ⟨by rw [guardA_congr hg]; exact h, rfl⟩
theorem stepG_take {calm : List FuncId} {ops : Array Oper} {o : Oper} {st : St} {K : St → Prop} (ht : takeB o.op = true) (h : stepG W0 M0 true calm E ops o st K) : ∃ c, VR E ops o st c ∧ K ⟨putD o.dst c st.fr, st.H, st.n⟩ := by
  rcases h with h | h | h
  · obtain ⟨p, c, h1, h2, h3⟩ := stepO_take ht h
    exact ⟨c, .inl ⟨p, h1, h2⟩, h3.2⟩
  · exact ⟨_, .inr ⟨h.1, rfl⟩, h.2⟩
  · have := h.2.1
    simp [mildB, ht] at this

theorem stepG_comm {calm : List FuncId} {ops : Array Oper} {oi oj : Oper} (hap : oi.apart ops oj = true) (ht : takeB oi.op = true) (hq : stillB oi.op = true ∨ mildB calm oj.dst oj.op = true) {st : St} {c : AV} (hv : VR E ops oi st c) {K : St → Prop}
    (h : stepG W0 M0 true calm E ops oj ⟨putD oi.dst c st.fr, st.H, st.n⟩ K) : stepG W0 M0 true calm E ops oj st (fun st' => VR E ops oi st' c ∧ K ⟨putD oi.dst c st'.fr, st'.H, st'.n⟩) := by
  obtain ⟨h1, h2, h3⟩ := Oper.apart_spec hap
  obtain ⟨g1, g2⟩ := putD_agree (o := oj) (c := c) (fr := st.fr) h1
  have back : ∀ e, (∀ x ∈ oi.op.operands.toList, evO (putD oj.dst e st.fr) x = evO st.fr x) ∧ ∀ d, (∃ g want, oi.guard = some (g, want) ∧ (ops[g]?).bind (·.dst) = some d) → putD oj.dst e st.fr d = st.fr d :=
    fun e => putD_agree (o := oi) (c := e) (fr := st.fr) h3
  have fin : ∀ {e : AV} {H' : Heap} {n' : Nat}, (stillB oi.op = true ∨ HLe st.H H') → K ⟨putD oj.dst e (putD oi.dst c st.fr), H', n'⟩ →
      VR E ops oi ⟨putD oj.dst e st.fr, H', n'⟩ c ∧ K ⟨putD oi.dst c (putD oj.dst e st.fr), H', n'⟩ := by
    intro e H' n' hh hK
    refine ⟨VR_keep hv (back e).1 (back e).2 ht hh, ?_⟩
    rw [putD_comm h2] at hK
    exact hK
  have same : stillB oi.op = true ∨ HLe st.H st.H := .inr (HLe.refl _)
  rcases h with h | h | h
  · refine .inl ?_
    have heap : ∀ {p : Prop} {e : AV} {H' : Heap} {n' : Nat}, aOp E st.fr st.H st.n oj.op = .h p e H' n' → ((true && growB calm oj.dst oj.op) = true → HLe st.H H') → stillB oi.op = true ∨ HLe st.H H' := by
      intro p e H' n' hr hg
      rcases hq with hs | hq
      · exact .inl hs
      · simp only [mildB, Bool.or_eq_true] at hq
        rcases hq with hq | hq
        · have : quietB [] oj.op = true := by
            unfold quietB
            split
            · rename_i hop; rw [hop] at hq; simp [takeB, valOp] at hq
            · exact hq
          exact (aOp_quiet (Calm.nil E) this hr).elim
        · exact .inr (hg (by simpa using hq))
    unfold stepO at *
    simp only at h
    rw [guardA_congr g2, aOp_congr g1, ndO_congr g1] at h
    split at h
    · exact h
    · split at h
      · exact ⟨h.1, h.2.1, h.2.2.1, fin same h.2.2.2⟩
      · rename_i hr; exact ⟨h.1, h.2.1, h.2.2.1, fin (heap hr h.2.2.1) h.2.2.2⟩
      · exact h
    · split at h
      · exact ⟨h.1, h.2.1, fin same h.2.2⟩
      · rename_i hr; exact ⟨fun hb => ⟨(h.1 hb).1, (h.1 hb).2.1, (h.1 hb).2.2.1, fin (heap hr (h.1 hb).2.2.1) (h.1 hb).2.2.2⟩, fun hb => ⟨(h.2 hb).1, fin same (h.2 hb).2⟩⟩
      · exact h
  · simp only at h
    rw [guardA_congr g2] at h
    exact .inr (.inl ⟨h.1, fin same h.2⟩)
  · refine .inr (.inr ⟨h.1, h.2.1, ?_⟩)
    have hs : stillB oi.op = true := by
      rcases hq with hs | hq
      · exact hs
      · have := h.2.1; rw [hq] at this; cases this
    intro a w S hH hx Q
    refine Oper.wpIn_mono ?_ (h.2.2 a w S hH (fun x hx' => by simp only; rw [g1 x hx']; exact hx x hx') Q)
    rintro a' w' ⟨c', H', n', v, S', e1, e2, e3, e4, e5⟩
    exact ⟨c', H', n', v, S', e1, e2, e3, e4, fin (.inl hs) e5⟩

/-- Whatever order is picked. -/
def AAnyG (W0 : World) (M0 : Nat → Prop) (calm : List FuncId) (E : Env P) (md : Region.Mode) (ops : Array Oper) (K : St → Prop) : Nat → Array Bool → St → Prop
  | 0, l, st => Region.ready md ops l = [] ∧ K st
  | fuel + 1, l, st => (Region.ready md ops l = [] → K st) ∧ ∀ i ∈ Region.ready md ops l, ∀ o, ops[i]? = some o → stepG W0 M0 true calm E ops o st (AAnyG W0 M0 calm E md ops K fuel (l.setIfInBounds i true))

theorem AAnyG_ok {calm : List FuncId} {md : Region.Mode} {ops : Array Oper} {K : St → Prop} {Q : Exit → Act → World → Prop} (hd : ∀ (i : Nat) (o : Oper) (d : Tmp), ops[i]? = some o → o.dst = some d → d < E.N)
    (hQ : ∀ st a w, K st → Sim W0 M0 E.N st a w → Q .normal a w) : ∀ (fuel : Nat) (l : Array Bool) (st : St) (a : Act) (w : World), AAnyG W0 M0 calm E md ops K fuel l st → Sim W0 M0 E.N st a w → wpAnyIn (fen E.ρ) 0 P md ops Q fuel l a w := by
  intro fuel
  induction fuel with
  | zero => intro l st a w h hs; exact ⟨h.1, hQ _ _ _ h.2 hs⟩
  | succ fuel ih =>
    intro l st a w h hs
    refine ⟨fun hr => hQ _ _ _ (h.1 hr) hs, fun i hi => ?_⟩
    obtain ⟨_, o, ho, _⟩ := mem_ready.1 hi
    have h1 := stepG_ok (h.2 i hi o ho) (fun d hd' => hd i o d ho hd') hs Q
    unfold wpOpIn
    simp only [ho]
    split
    · rename_i hw
      rw [if_pos hw] at h1
      exact (Oper.wpIn_mono (fun a' w' ⟨st', h2, h3⟩ => ih _ _ _ _ h2 h3) h1)
    · rename_i hw
      rw [if_neg hw] at h1
      obtain ⟨st', h2, h3⟩ := h1
      exact ⟨fun _ _ => trivial, ih _ _ _ _ h2 h3⟩

theorem AAnyG_first {calm : List FuncId} {md : Region.Mode} {ops : Array Oper} {K : St → Prop} {i : Nat} {oi : Oper} (hi : ops[i]? = some oi) (ht : takeB oi.op = true) {c : AV} (W : List Nat) (hiW : i ∈ W) :
    ∀ (fuel : Nat) (l : Array Bool) (st : St),
      (∀ j ∈ W, l.getD j false = false) → (∀ j ∈ W, j ≠ i → ∀ oj, ops[j]? = some oj → ∃ e ∈ oj.after, Region.binds md e = true ∧ e.on ∈ W) →
      (∀ j oj, ops[j]? = some oj → j ∉ W → l.getD j true = false → oi.apart ops oj = true ∧ (stillB oi.op = true ∨ mildB calm oj.dst oj.op = true)) →
      i ∈ Region.ready md ops l → VR E ops oi st c →
      AAnyG W0 M0 calm E md ops K fuel (l.setIfInBounds i true) ⟨putD oi.dst c st.fr, st.H, st.n⟩ → AAnyG W0 M0 calm E md ops K (fuel + 1) l st := by
  intro fuel
  induction fuel with
  | zero =>
    intro l st hWl hWa hfree hr hv H
    refine ⟨fun h => (by rw [h] at hr; cases hr), fun j hj o ho => ?_⟩
    by_cases hji : j = i
    · subst hji
      rw [hi] at ho; cases ho
      exact VR_step hv H
    · have := ready_mono hj hji
      rw [H.1] at this
      cases this
  | succ fuel ih =>
    intro l st hWl hWa hfree hr hv H
    refine ⟨fun h => (by rw [h] at hr; cases hr), fun j hj o ho => ?_⟩
    by_cases hji : j = i
    · subst hji
      rw [hi] at ho; cases ho
      exact VR_step hv H
    · obtain ⟨hjun, oj, hoj, hall⟩ := mem_ready.1 hj
      rw [ho] at hoj; cases hoj
      have hjW : j ∉ W := fun hjW => by
        obtain ⟨e, he, hb, hon⟩ := hWa j hjW hji o ho
        have := hall e he hb
        rw [hWl _ hon] at this; cases this
      obtain ⟨hap, hq⟩ := hfree j o ho hjW hjun
      have h2 := stepG_comm hap ht hq hv (H.2 j (ready_mono hj hji) o ho)
      refine stepG_mono (fun st' ⟨h3, h5⟩ => ?_) h2
      refine ih (l.setIfInBounds j true) st' (fun k hk => ?_) hWa (fun k ok hk hkW hun => ?_) (ready_mono hr (Ne.symm hji)) h3 ?_
      · rw [getD_set_ne false (fun e : j = k => hjW (by rw [e]; exact hk))]; exact hWl k hk
      · refine hfree k ok hk hkW ?_
        by_cases hjk : j = k
        · subst hjk; exact hjun
        · rw [getD_set_ne true hjk] at hun; exact hun
      · rw [Array.setIfInBounds_comm _ _ hji]
        exact h5

def firstG (calm : List FuncId) (md : Region.Mode) (ops : Array Oper) (l : Array Bool) (i : Nat) : Bool :=
  match ops[i]? with
  | none => false
  | some oi => takeB oi.op && (Region.ready md ops l).contains i && (fun W => W.contains i && W.all (fun j => !l.getD j false) &&
      W.all (fun j => j == i || match ops[j]? with | some oj => oj.after.any (fun e => Region.binds md e && W.contains e.on) | none => true) &&
      (List.range ops.size).all (fun j => W.contains j || l.getD j true || match ops[j]? with | some oj => oi.apart ops oj && (stillB oi.op || mildB calm oj.dst oj.op) | none => true)) (waitsFor md ops l i)

def okLinG (calm : List FuncId) (md : Region.Mode) (ops : Array Oper) : Nat → Nat → Array Bool → Bool
  | 0, _, l => (Region.ready md ops l).isEmpty
  | k + 1, i, l => (firstG calm md ops l i || Region.ready md ops l == [i]) && okLinG calm md ops k (i + 1) (l.setIfInBounds i true)

def okRegG (calm : List FuncId) (N : Nat) (draw : Bool) (ops : Array Oper) : Bool :=
  ops.all (fun o => match o.dst with | some d => decide (d < N) | none => true) && (!draw || okLinG calm .any ops ops.size 0 (Array.replicate ops.size false))

/-- The order of the text. -/
def AG (W0 : World) (M0 : Nat → Prop) (dr : Bool) (calm : List FuncId) (E : Env P) (ops : Array Oper) (K : St → Prop) : List Oper → St → Prop
  | [], st => K st
  | o :: r, st => stepG W0 M0 dr calm E ops o st (AG W0 M0 dr calm E ops K r)

theorem AG_ok {dr : Bool} {calm : List FuncId} {ops : Array Oper} {K : St → Prop} {Q : Exit → Act → World → Prop} (hQ : ∀ st a w, K st → Sim W0 M0 E.N st a w → Q .normal a w) :
    ∀ (l : List Oper) (k : Nat) (st : St) (a : Act) (w : World), (∀ j, l[j]? = ops[k + j]?) → (∀ o ∈ l, ∀ d, o.dst = some d → d < E.N) → AG W0 M0 dr calm E ops K l st → Sim W0 M0 E.N st a w → wpOpsIn (fen E.ρ) 0 P ops Q (List.range' k l.length) a w := by
  intro l
  induction l with
  | nil => intro k st a w _ _ h hs; exact hQ _ _ _ h hs
  | cons o r ih =>
    intro k st a w hl hd h hs
    have ho : ops[k]? = some o := by have := hl 0; simpa using this.symm
    have h1 := stepG_ok (h : stepG W0 M0 dr calm E ops o st (AG W0 M0 dr calm E ops K r)) (hd o (by simp)) hs Q
    have ih' := fun st a w => ih (k + 1) st a w (fun j => by have := hl (j + 1); simpa [Nat.add_assoc, Nat.add_comm 1 j] using this) (fun o ho => hd o (by simp [ho]))
    simp only [List.length_cons, List.range'_succ, wpOpsIn, ho]
    split
    · rename_i hw
      rw [if_pos hw] at h1
      exact (Oper.wpIn_mono (fun a' w' ⟨st', h2, h3⟩ => ih' _ _ _ h2 h3) h1)
    · rename_i hw
      rw [if_neg hw] at h1
      obtain ⟨st', h2, h3⟩ := h1
      exact ⟨fun _ _ => trivial, ih' _ _ _ h2 h3⟩

theorem AAnyG_lin {calm : List FuncId} {md : Region.Mode} {ops : Array Oper} {K : St → Prop} : ∀ (k i : Nat) (l : Array Bool) (r : List Oper) (st : St), r.length = k → (∀ j, r[j]? = ops[i + j]?) →
    okLinG calm md ops k i l = true → AG W0 M0 true calm E ops K r st → AAnyG W0 M0 calm E md ops K k l st := by
  intro k
  induction k with
  | zero =>
    intro i l r st hl _ hok h
    have : r = [] := List.eq_nil_of_length_eq_zero hl
    subst this
    exact ⟨by simpa [okLinG] using hok, h⟩
  | succ k ih =>
    intro i l r st hl hr hok h
    cases r with
    | nil => cases hl
    | cons o r =>
      have ho : ops[i]? = some o := by have := hr 0; simpa using this.symm
      have hr' : ∀ j, r[j]? = ops[i + 1 + j]? := fun j => by have := hr (j + 1); simpa [Nat.add_assoc, Nat.add_comm 1 j] using this
      simp only [okLinG, Bool.and_eq_true, Bool.or_eq_true] at hok
      have h' : stepG W0 M0 true calm E ops o st (AG W0 M0 true calm E ops K r) := h
      have next : ∀ st, AG W0 M0 true calm E ops K r st → AAnyG W0 M0 calm E md ops K k (l.setIfInBounds i true) st := fun st hs => ih (i + 1) _ r st (by simpa using hl) hr' hok.2 hs
      rcases hok.1 with hf | hone
      · simp only [firstG, ho, Bool.and_eq_true] at hf
        obtain ⟨⟨ht, hrd⟩, ⟨⟨hiW, hWl⟩, hWa⟩, hfree⟩ := hf
        obtain ⟨c, hv, hK⟩ := stepG_take ht h'
        generalize waitsFor md ops l i = W at *
        refine AAnyG_first ho ht W (by simpa using hiW) k l st (fun j hj => ?_) (fun j hj hne oj hoj => ?_) (fun j oj hoj hjW hun => ?_) (by simpa using hrd) hv (next _ hK)
        · have := List.all_eq_true.1 hWl j hj
          simpa using this
        · have := List.all_eq_true.1 hWa j hj
          simp only [hoj, Bool.or_eq_true, beq_iff_eq, hne, false_or] at this
          obtain ⟨e, he, hb⟩ := Array.any_eq_true'.1 this
          simp only [Bool.and_eq_true] at hb
          exact ⟨e, he, hb.1, by simpa using hb.2⟩
        · have := List.all_eq_true.1 hfree j (List.mem_range.2 (Array.getElem?_eq_some_iff.1 hoj).1)
          simp only [hoj, Bool.or_eq_true, Bool.and_eq_true, hun, Bool.false_eq_true, or_false] at this
          rcases this with h1 | h1
          · exact absurd (by simpa using h1) hjW
          · exact ⟨h1.1, h1.2⟩
      · have hone : Region.ready md ops l = [i] := by simpa using hone
        refine ⟨fun h0 => absurd (hone.symm.trans h0) (by simp), fun j hj oj hoj => ?_⟩
        rw [hone] at hj
        simp only [List.mem_singleton] at hj
        subst hj
        rw [ho] at hoj; cases hoj
        exact stepG_mono next h'

theorem vc_regG (calm : List FuncId) (hm : P.follows .mixedOrders = true) {id : Nat} {l : List Oper} {draw : Bool} (hok : okRegG calm E.N draw l.toArray = true) {st : St} {K : Exit → St → Prop} (h : AG W0 M0 draw calm E l.toArray (K .normal) l st) : VC E W0 M0 (.region id l.toArray draw) st K := by
  intro a w hs
  simp only [okRegG, Bool.and_eq_true, Bool.or_eq_true, Bool.not_eq_true'] at hok
  have hd : ∀ o ∈ l, ∀ d, o.dst = some d → d < E.N := by
    intro o ho d hd
    have := Array.all_eq_true_iff_forall_mem.1 hok.1 o (by simpa using ho)
    rw [hd] at this
    simpa using this
  cases draw with
  | false => exact wpIn_region (by
      have := AG_ok (E := E) (W0 := W0) (M0 := M0) (ops := l.toArray) (Q := Post E W0 M0 K) (fun st a w h1 h2 => ⟨st, h1, h2⟩) l 0 st a w (fun j => by simp) hd h hs
      simpa [List.range_eq_range'] using this)
  | true =>
    have hl : okLinG calm .any l.toArray l.toArray.size 0 (Array.replicate l.toArray.size false) = true := by simpa using hok.2
    refine wpIn_region_any hm (AAnyG_ok (calm := calm) (E := E) (W0 := W0) (M0 := M0) (K := K .normal) (fun i o d ho hdd => hd o (by
      have := List.mem_of_getElem? (l := l) (i := i) (by simpa using ho); exact this) d hdd) (fun st a w h1 h2 => ⟨st, h1, h2⟩) _ _ st a _ ?_ hs.drawn)
    exact AAnyG_lin _ 0 _ l st (by simp) (fun j => by simp) hl h

/-! one operation at a time -/
section
variable {dr : Bool} {calm : List FuncId} {ops : Array Oper} {K : St → Prop} {o : Op} {d : Option Tmp} {t : TypeId} {p : String} {af : Array Edge} {r : List Oper} {fr : Nat → AV} {H H' : Heap} {n n' : Nat} {q : Prop} {c : AV} {b : Bool} {gd : Nat × Bool}
theorem lg_nil {st : St} (h : K st) : AG W0 M0 dr calm E ops K [] st := h
theorem lg_mk {l : List Oper} {fl : List (Nat × AV)} {bl : List (Option Box)} (h : AG W0 M0 dr calm E ops K l ⟨getF fl, getB bl, bl.length⟩) : AG W0 M0 dr calm E ops K l (mkSt fl bl) := h
theorem lg_v (h : aOp E fr H n o = .v q c) (hn : ndO fr o) (hq : q) (hk : AG W0 M0 dr calm E ops K r ⟨putD d c fr, H, n⟩) : AG W0 M0 dr calm E ops K (⟨d, o, t, p, af, none⟩ :: r) ⟨fr, H, n⟩ := by
  refine .inl ?_; unfold stepO; simp only [guardA_none, h]; exact ⟨hn, hq, fun _ => HLe.refl _, hk⟩
theorem lg_h (h : aOp E fr H n o = .h q c H' n') (hn : ndO fr o) (hq : q) (hl : (dr && growB calm d o) = true → HLe H H') (hk : AG W0 M0 dr calm E ops K r ⟨putD d c fr, H', n'⟩) : AG W0 M0 dr calm E ops K (⟨d, o, t, p, af, none⟩ :: r) ⟨fr, H, n⟩ := by
  refine .inl ?_; unfold stepO; simp only [guardA_none, h]; exact ⟨hn, hq, hl, hk⟩
theorem lg_gv (hg : guardA ops fr (some gd) = some (some b)) (h : aOp E fr H n o = .v q c) (hq : b = true → ndO fr o ∧ q) (hk : AG W0 M0 dr calm E ops K r ⟨putD d (.cond b c) fr, H, n⟩) : AG W0 M0 dr calm E ops K (⟨d, o, t, p, af, some gd⟩ :: r) ⟨fr, H, n⟩ := by
  refine .inl ?_; unfold stepO; simp only [hg, h]; exact ⟨hq, fun _ => HLe.refl _, hk⟩
theorem lg_gh (hg : guardA ops fr (some gd) = some (some b)) (h : aOp E fr H n o = .h q c H' n') (h1 : b = true → ndO fr o ∧ q) (hl : (dr && growB calm d o) = true → HLe H H') (h2 : b = true → AG W0 M0 dr calm E ops K r ⟨putD d c fr, H', n'⟩) (h3 : b = false → AG W0 M0 dr calm E ops K r ⟨putD d (.cond false .any) fr, H, n⟩) :
    AG W0 M0 dr calm E ops K (⟨d, o, t, p, af, some gd⟩ :: r) ⟨fr, H, n⟩ := by
  refine .inl ?_; unfold stepO; simp only [hg, h]; exact ⟨fun hb => ⟨(h1 hb).1, (h1 hb).2, hl, h2 hb⟩, fun hb => ⟨fun _ => HLe.refl _, h3 hb⟩⟩
/-- Not wanted. -/
theorem lg_g0 (hg : guardA ops fr (some gd) = some (some false)) (hk : AG W0 M0 dr calm E ops K r ⟨putD d (.cond false .any) fr, H, n⟩) : AG W0 M0 dr calm E ops K (⟨d, o, t, p, af, some gd⟩ :: r) ⟨fr, H, n⟩ := .inr (.inl ⟨hg, hk⟩)
theorem lg_sem (hm : (dr && mildB calm d o) = false) (h : SemO W0 M0 E ⟨d, o, t, p, af, none⟩ ⟨fr, H, n⟩ (AG W0 M0 dr calm E ops K r)) : AG W0 M0 dr calm E ops K (⟨d, o, t, p, af, none⟩ :: r) ⟨fr, H, n⟩ := .inr (.inr ⟨rfl, hm, h⟩)
end

theorem hle_refl (dr : Bool) (calm : List FuncId) (d : Option Tmp) (o : Op) (H : Heap) : (dr && growB calm d o) = true → HLe H H := fun _ => HLe.refl _
theorem hle_upd {H : Heap} {n : Nat} {b : Option Box} (h : H n = none) : HLe H (upd H n b) := fun i x hx => by
  rw [upd_app]
  split
  · rename_i hi; subst hi; rw [h] at hx; cases hx
  · exact hx
theorem hle_updG (dr : Bool) (calm : List FuncId) (d : Option Tmp) (o : Op) {H : Heap} {n : Nat} {b : Option Box} (h : H n = none) : (dr && growB calm d o) = true → HLe H (upd H n b) := fun _ => hle_upd h
end
end Go.Vc
