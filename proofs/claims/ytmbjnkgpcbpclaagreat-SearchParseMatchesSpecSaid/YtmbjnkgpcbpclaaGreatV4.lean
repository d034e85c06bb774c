/- The Vc layer, part 4. -/
import Derived.Test.YtmbjnkgpcbpclaaGreatV3
import Derived.Lib.SliceRun
import Derived.Lib.LazyBuf
/- The Vc layer: regions once more: operations known by what they do to worlds; calls that only add boxes. -/
set_option linter.all false
namespace Go.Vc
open Go Go.RowKit

def growB (calm : List FuncId) (d : Option Tmp) : Op → Bool
 | .alloc _ | .box .. | .buildSlice .. | .makeSlice .. => true
 | .call ⟨.value (.func f), _, _⟩ => calm.contains f
 | .call ⟨.builtin .append, _, _⟩ => calm.contains (1000000 + d.getD 0)
 | _ => false
def mildB (calm : List FuncId) (d : Option Tmp) (o : Op) : Bool := takeB o || growB calm d o

section
variable [Far] {P : Program} {E : Env P} {W0 : World} {M0 : Nat → Prop}

def SemO (W0 : World) (M0 : Nat → Prop) (E : Env P) (o : Oper) (st : St) (K : St → Prop) : Prop :=
 ∀ (a : Act) (w : World) (S : Lays), HeapOk W0 M0 st.H st.n w S → (∀ x ∈ o.op.operands.toList, R w S st.n (evO st.fr x) (a.eval x)) →
  ∀ Q, o.wpIn (fen E.ρ) 0 P a w (fun a' w' => ∃ c H' n' v S', a' = a.put o.dst v ∧ HeapOk W0 M0 H' n' w' S' ∧ Ext w S st.n w' S' n' ∧ R w' S' n' c v ∧ K ⟨putD o.dst c st.fr, H', n'⟩) Q

theorem SemO.mono {o : Oper} {st : St} {K K' : St → Prop} (hk : ∀ st, K st → K' st) (h : SemO W0 M0 E o st K) : SemO W0 M0 E o st K' := fun a w S h1 h2 Q =>
 Oper.wpIn_mono (fun a' w' ⟨c, H', n', v, S', g1, g2, g3, g4, g5⟩ => ⟨c, H', n', v, S', g1, g2, g3, g4, hk _ g5⟩) (h a w S h1 h2 Q)

def SemV (W0 : World) (M0 : Nat → Prop) (E : Env P) (o : Oper) (st : St) (c : AV) : Prop :=
 ∀ (H' : Heap) (n' : Nat), HLe st.H H' → ∀ (a : Act) (w : World) (S : Lays), HeapOk W0 M0 H' n' w S → (∀ x ∈ o.op.operands.toList, R w S n' (evO st.fr x) (a.eval x)) →
  ∀ Q, o.wpIn (fen E.ρ) 0 P a w (fun a' w' => ∃ v, a' = a.put o.dst v ∧ w' = w ∧ R w S n' c v) Q

def stepG (W0 : World) (M0 : Nat → Prop) (dr : Bool) (calm : List FuncId) (E : Env P) (ops : Array Oper) (o : Oper) (st : St) (K : St → Prop) : Prop :=
 stepO E ops o st (fun st' => ((dr && growB calm o.dst o.op) = true → HLe st.H st'.H) ∧ K st') ∨ (guardA ops st.fr o.guard = some (some false) ∧ K ⟨putD o.dst (.cond false .any) st.fr, st.H, st.n⟩) ∨
  ((o.guard = none ∨ guardA ops st.fr o.guard = some (some true)) ∧ (dr && takeB o.op) = false ∧ SemO W0 M0 E o st (fun st' => ((dr && growB calm o.dst o.op) = true → HLe st.H st'.H) ∧ K st')) ∨
  ((o.guard = none ∨ guardA ops st.fr o.guard = some (some true)) ∧ stillB o.op = false ∧ ∃ c, SemV W0 M0 E o st c ∧ K ⟨putD o.dst c st.fr, st.H, st.n⟩)

theorem stepG_mono {dr : Bool} {calm : List FuncId} {ops : Array Oper} {o : Oper} {st : St} {K K' : St → Prop} (hk : ∀ st, K st → K' st) (h : stepG W0 M0 dr calm E ops o st K) : stepG W0 M0 dr calm E ops o st K' := by
 rcases h with h | h | h | h
 ·exact .inl (stepO_mono (fun st h => ⟨h.1, hk _ h.2⟩) h)
 ·exact .inr (.inl ⟨h.1, hk _ h.2⟩)
 ·exact .inr (.inr (.inl ⟨h.1, h.2.1, h.2.2.mono fun st h => ⟨h.1, hk _ h.2⟩⟩))
 ·obtain ⟨h1, h2, c, h3, h4⟩ := h
  exact .inr (.inr (.inr ⟨h1, h2, c, h3, hk _ h4⟩))

theorem stepG_ok {dr : Bool} {calm : List FuncId} {a : Act} {w : World} {ops : Array Oper} {o : Oper} {st : St} {K : St → Prop} (h : stepG W0 M0 dr calm E ops o st K) (hd : ∀ d, o.dst = some d → d < E.N) (hs : Sim W0 M0 E.N st a w) (Q : Exit → Act → World → Prop) :
  if Region.wanted o (yielded ops a.tmps) = true then o.wpIn (fen E.ρ) 0 P a w (Behind W0 M0 E.N K) Q else Behind W0 M0 E.N K (a.put o.dst undef) w := by
 rcases h with h | h | h | h
 ·exact stepO_ok (stepO_mono (fun st h => h.2) h) hd hs Q
 ·obtain ⟨S, hH, hF, hM⟩ := hs
  rw [guard_some h.1 hF.at_, if_neg (by simp)]
  exact ⟨_, h.2, S, hH, hF.putD hd (.cond _ _ _ (fun e => by cases e) (fun _ => rfl)), by rw [put_defers]; exact hM⟩
 ·obtain ⟨S, hH, hF, hM⟩ := hs
  have hw : Region.wanted o (yielded ops a.tmps) = true := by
   rcases h.1 with h0 | h0
   ·exact guard_none (ops := ops) (fr := st.fr) (by rw [h0]; rfl) _
   ·exact guard_some h0 hF.at_
  rw [if_pos hw]
  refine Oper.wpIn_mono ?_ (h.2.2 a w S hH (fun x _ => evO_ok hH.gl hF.at_ x) Q)
  rintro a' w' ⟨c, H', n', v, S', rfl, g2, g3, g4, g5⟩
  exact ⟨_, g5.2, S', g2, (hF.ext g3).putD hd g4, by rw [put_defers]; exact hM.ext g3⟩
 ·obtain ⟨h1, _, c, h3, h4⟩ := h
  obtain ⟨S, hH, hF, hM⟩ := hs
  have hw : Region.wanted o (yielded ops a.tmps) = true := by
   rcases h1 with h0 | h0
   ·exact guard_none (ops := ops) (fr := st.fr) (by rw [h0]; rfl) _
   ·exact guard_some h0 hF.at_
  rw [if_pos hw]
  refine Oper.wpIn_mono ?_ (h3 st.H st.n (fun _ _ h => h) a w S hH (fun x _ => evO_ok hH.gl hF.at_ x) Q)
  rintro a' w' ⟨v, rfl, rfl, g4⟩
  exact ⟨_, h4, S, hH, hF.putD hd g4, by rw [put_defers]; exact hM⟩

def VR (W0 : World) (M0 : Nat → Prop) (E : Env P) (ops : Array Oper) (o : Oper) (st : St) (c : AV) : Prop :=
 (∃ p, vRes E ops o st = some (p, c) ∧ p) ∨ (guardA ops st.fr o.guard = some (some false) ∧ c = .cond false .any) ∨
  ((o.guard = none ∨ guardA ops st.fr o.guard = some (some true)) ∧ stillB o.op = false ∧ SemV W0 M0 E o st c)

theorem HLe.refl (H : Heap) : HLe H H := fun _ _ h => h
theorem VR_step {dr : Bool} {calm : List FuncId} {ops : Array Oper} {o : Oper} {st : St} {c : AV} (h : VR W0 M0 E ops o st c) {K : St → Prop} (hK : K ⟨putD o.dst c st.fr, st.H, st.n⟩) : stepG W0 M0 dr calm E ops o st K := by
 rcases h with ⟨p, h, hp⟩ | ⟨h, rfl⟩ | ⟨h1, h2, h3⟩
 ·exact .inl (vRes_step h hp ⟨fun _ => HLe.refl _, hK⟩)
 ·exact .inr (.inl ⟨h, hK⟩)
 ·exact .inr (.inr (.inr ⟨h1, h2, c, h3, hK⟩))
theorem VR_keep {ops : Array Oper} {o : Oper} {st : St} {c : AV} (h : VR W0 M0 E ops o st c) {fr' : Nat → AV} {H' : Heap} {n' : Nat}
  (ha : ∀ x ∈ o.op.operands.toList, evO fr' x = evO st.fr x) (hg : ∀ d, (∃ g want, o.guard = some (g, want) ∧ (ops[g]?).bind (·.dst) = some d) → fr' d = st.fr d)
  (ht : takeB o.op = true) (hs : stillB o.op = true ∨ HLe st.H H') : VR W0 M0 E ops o ⟨fr', H', n'⟩ c := by
 rcases h with ⟨p, h, hp⟩ | ⟨h, rfl⟩ | ⟨h1, h2, h3⟩
 ·exact .inl ⟨p, vRes_keep h ha hg ht hs, hp⟩
 ·exact .inr (.inl ⟨by rw [guardA_congr hg]; exact h, rfl⟩)
 ·refine .inr (.inr ⟨h1.imp (fun h0 => h0) (fun h0 => by rw [guardA_congr hg]; exact h0), h2, fun H2 n2 hle a w S hH hop Q => ?_⟩)
  have hle' : HLe st.H H' := by
   rcases hs with hs | hs
   ·rw [h2] at hs; cases hs
   ·exact hs
  exact h3 H2 n2 (fun id b hb => hle id b (hle' id b hb)) a w S hH (fun x hx => by rw [← ha x hx]; exact hop x hx) Q
theorem stepG_take {calm : List FuncId} {ops : Array Oper} {o : Oper} {st : St} {K : St → Prop} (ht : takeB o.op = true) (h : stepG W0 M0 true calm E ops o st K) : ∃ c, VR W0 M0 E ops o st c ∧ K ⟨putD o.dst c st.fr, st.H, st.n⟩ := by
 rcases h with h | h | h | h
 ·obtain ⟨p, c, h1, h2, h3⟩ := stepO_take ht h
  exact ⟨c, .inl ⟨p, h1, h2⟩, h3.2⟩
 ·exact ⟨_, .inr (.inl ⟨h.1, rfl⟩), h.2⟩
 ·have := h.2.1
  simp [ht] at this
 ·obtain ⟨h1, h2, c, h3, h4⟩ := h
  exact ⟨c, .inr (.inr ⟨h1, h2, h3⟩), h4⟩

theorem stepG_comm {calm : List FuncId} {ops : Array Oper} {oi oj : Oper} (hap : oi.apart ops oj = true) (ht : takeB oi.op = true) (hq : stillB oi.op = true ∨ mildB calm oj.dst oj.op = true) {st : St} {c : AV} (hv : VR W0 M0 E ops oi st c) {K : St → Prop}
  (h : stepG W0 M0 true calm E ops oj ⟨putD oi.dst c st.fr, st.H, st.n⟩ K) : stepG W0 M0 true calm E ops oj st (fun st' => VR W0 M0 E ops oi st' c ∧ K ⟨putD oi.dst c st'.fr, st'.H, st'.n⟩) := by
 obtain ⟨h1, h2, h3⟩ := Oper.apart_spec hap
 obtain ⟨g1, g2⟩ := putD_agree (o := oj) (c := c) (fr := st.fr) h1
 have back : ∀ e, (∀ x ∈ oi.op.operands.toList, evO (putD oj.dst e st.fr) x = evO st.fr x) ∧ ∀ d, (∃ g want, oi.guard = some (g, want) ∧ (ops[g]?).bind (·.dst) = some d) → putD oj.dst e st.fr d = st.fr d :=
  fun e => putD_agree (o := oi) (c := e) (fr := st.fr) h3
 have fin : ∀ {e : AV} {H' : Heap} {n' : Nat}, (stillB oi.op = true ∨ HLe st.H H') → K ⟨putD oj.dst e (putD oi.dst c st.fr), H', n'⟩ →
   VR W0 M0 E ops oi ⟨putD oj.dst e st.fr, H', n'⟩ c ∧ K ⟨putD oi.dst c (putD oj.dst e st.fr), H', n'⟩ := by
  intro e H' n' hh hK
  refine ⟨VR_keep hv (back e).1 (back e).2 ht hh, ?_⟩
  rw [putD_comm h2] at hK
  exact hK
 have same : stillB oi.op = true ∨ HLe st.H st.H := .inr (HLe.refl _)
 rcases h with h | h | h | h
 ·refine .inl ?_
  have heap : ∀ {p : Prop} {e : AV} {H' : Heap} {n' : Nat}, aOp E st.fr st.H st.n oj.op = .h p e H' n' → ((true && growB calm oj.dst oj.op) = true → HLe st.H H') → stillB oi.op = true ∨ HLe st.H H' := by
   intro p e H' n' hr hg
   rcases hq with hs | hq
   ·exact .inl hs
   ·simp only [mildB, Bool.or_eq_true] at hq
    rcases hq with hq | hq
    ·have : quietB [] oj.op = true := by
      unfold quietB
      split
      ·rename_i hop; rw [hop] at hq; simp [takeB, valOp] at hq
      ·exact hq
     exact (aOp_quiet (Calm.nil E) this hr).elim
    ·exact .inr (hg (by simpa using hq))
  unfold stepO at *
  simp only at h
  rw [guardA_congr g2, aOp_congr g1, ndO_congr g1] at h
  split at h
  ·exact h
  ·split at h
   ·exact ⟨h.1, h.2.1, h.2.2.1, fin same h.2.2.2⟩
   ·rename_i hr; exact ⟨h.1, h.2.1, h.2.2.1, fin (heap hr h.2.2.1) h.2.2.2⟩
   ·exact h
  ·split at h
   ·exact ⟨h.1, h.2.1, fin same h.2.2⟩
   ·rename_i hr; exact ⟨fun hb => ⟨(h.1 hb).1, (h.1 hb).2.1, (h.1 hb).2.2.1, fin (heap hr (h.1 hb).2.2.1) (h.1 hb).2.2.2⟩, fun hb => ⟨(h.2 hb).1, fin same (h.2 hb).2⟩⟩
   ·exact h
 ·simp only at h
  rw [guardA_congr g2] at h
  exact .inr (.inl ⟨h.1, fin same h.2⟩)
 ·refine .inr (.inr (.inl ⟨h.1.imp (fun h0 => h0) (fun h0 => by simp only at h0; rw [guardA_congr g2] at h0; exact h0), h.2.1, ?_⟩))
  have hs : ∀ {H' : Heap}, ((true && growB calm oj.dst oj.op) = true → HLe st.H H') → stillB oi.op = true ∨ HLe st.H H' := by
   intro H' hg
   rcases hq with hs | hq
   ·exact .inl hs
   ·have h1 := h.2.1
    simp only [mildB, Bool.or_eq_true] at hq
    rcases hq with hq | hq
    ·rw [hq] at h1; cases h1
    ·exact .inr (hg (by simpa using hq))
  intro a w S hH hx Q
  refine Oper.wpIn_mono ?_ (h.2.2 a w S hH (fun x hx' => by simp only; rw [g1 x hx']; exact hx x hx') Q)
  rintro a' w' ⟨c', H', n', v, S', e1, e2, e3, e4, e5⟩
  exact ⟨c', H', n', v, S', e1, e2, e3, e4, e5.1, fin (hs e5.1) e5.2⟩
 ·obtain ⟨k1, k2, c', k3, k4⟩ := h
  refine .inr (.inr (.inr ⟨k1.imp (fun h0 => h0) (fun h0 => by simp only at h0; rw [guardA_congr g2] at h0; exact h0), k2, c', fun H2 n2 hle a w S hH hop Q => ?_, fin same k4⟩))
  exact k3 H2 n2 hle a w S hH (fun x hx' => by simp only; rw [g1 x hx']; exact hop x hx') Q

def AAnyG (W0 : World) (M0 : Nat → Prop) (calm : List FuncId) (E : Env P) (md : Region.Mode) (ops : Array Oper) (K : St → Prop) : Nat → Array Bool → St → Prop
 | 0, l, st => Region.ready md ops l = [] ∧ K st
 | fuel + 1, l, st => (Region.ready md ops l = [] → K st) ∧ ∀ i ∈ Region.ready md ops l, ∀ o, ops[i]? = some o → stepG W0 M0 true calm E ops o st (AAnyG W0 M0 calm E md ops K fuel (l.setIfInBounds i true))

theorem AAnyG_ok {calm : List FuncId} {md : Region.Mode} {ops : Array Oper} {K : St → Prop} {Q : Exit → Act → World → Prop} (hd : ∀ (i : Nat) (o : Oper) (d : Tmp), ops[i]? = some o → o.dst = some d → d < E.N)
  (hQ : ∀ st a w, K st → Sim W0 M0 E.N st a w → Q .normal a w) : ∀ (fuel : Nat) (l : Array Bool) (st : St) (a : Act) (w : World), AAnyG W0 M0 calm E md ops K fuel l st → Sim W0 M0 E.N st a w → wpAnyIn (fen E.ρ) 0 P md ops Q fuel l a w := by
 intro fuel
 induction fuel with
 | zero => intro l st a w h hs; exact ⟨h.1, hQ _ _ _ h.2 hs⟩
 | succ fuel ih =>
  intro l st a w h hs
  refine ⟨fun hr => hQ _ _ _ (h.1 hr) hs, fun i hi => ?_⟩
  obtain ⟨_, o, ho, _⟩ := mem_ready.1 hi
  have h1 := stepG_ok (h.2 i hi o ho) (fun d hd' => hd i o d ho hd') hs Q
  unfold wpOpIn
  simp only [ho]
  split
  ·rename_i hw
   rw [if_pos hw] at h1
   exact (Oper.wpIn_mono (fun a' w' ⟨st', h2, h3⟩ => ih _ _ _ _ h2 h3) h1)
  ·rename_i hw
   rw [if_neg hw] at h1
   obtain ⟨st', h2, h3⟩ := h1
   exact ⟨fun _ _ => trivial, ih _ _ _ _ h2 h3⟩

theorem AAnyG_first {calm : List FuncId} {md : Region.Mode} {ops : Array Oper} {K : St → Prop} {i : Nat} {oi : Oper} (hi : ops[i]? = some oi) (ht : takeB oi.op = true) {c : AV} (W : List Nat) (hiW : i ∈ W) :
  ∀ (fuel : Nat) (l : Array Bool) (st : St),
   (∀ j ∈ W, l.getD j false = false) → (∀ j ∈ W, j ≠ i → ∀ oj, ops[j]? = some oj → ∃ e ∈ oj.after, Region.binds md e = true ∧ e.on ∈ W) →
   (∀ j oj, ops[j]? = some oj → j ∉ W → l.getD j true = false → oi.apart ops oj = true ∧ (stillB oi.op = true ∨ mildB calm oj.dst oj.op = true)) →
   i ∈ Region.ready md ops l → VR W0 M0 E ops oi st c →
   AAnyG W0 M0 calm E md ops K fuel (l.setIfInBounds i true) ⟨putD oi.dst c st.fr, st.H, st.n⟩ → AAnyG W0 M0 calm E md ops K (fuel + 1) l st := by
 intro fuel
 induction fuel with
 | zero =>
  intro l st hWl hWa hfree hr hv H
  refine ⟨fun h => (by rw [h] at hr; cases hr), fun j hj o ho => ?_⟩
  by_cases hji : j = i
  ·subst hji
   rw [hi] at ho; cases ho
   exact VR_step hv H
  ·have := ready_mono hj hji
   rw [H.1] at this
   cases this
 | succ fuel ih =>
  intro l st hWl hWa hfree hr hv H
  refine ⟨fun h => (by rw [h] at hr; cases hr), fun j hj o ho => ?_⟩
  by_cases hji : j = i
  ·subst hji
   rw [hi] at ho; cases ho
   exact VR_step hv H
  ·obtain ⟨hjun, oj, hoj, hall⟩ := mem_ready.1 hj
   rw [ho] at hoj; cases hoj
   have hjW : j ∉ W := fun hjW => by
    obtain ⟨e, he, hb, hon⟩ := hWa j hjW hji o ho
    have := hall e he hb
    rw [hWl _ hon] at this; cases this
   obtain ⟨hap, hq⟩ := hfree j o ho hjW hjun
   have h2 := stepG_comm hap ht hq hv (H.2 j (ready_mono hj hji) o ho)
   refine stepG_mono (fun st' ⟨h3, h5⟩ => ?_) h2
   refine ih (l.setIfInBounds j true) st' (fun k hk => ?_) hWa (fun k ok hk hkW hun => ?_) (ready_mono hr (Ne.symm hji)) h3 ?_
   ·rw [getD_set_ne false (fun e : j = k => hjW (by rw [e]; exact hk))]; exact hWl k hk
   ·refine hfree k ok hk hkW ?_
    by_cases hjk : j = k
    ·subst hjk; exact hjun
    ·rw [getD_set_ne true hjk] at hun; exact hun
   ·rw [Array.setIfInBounds_comm _ _ hji]
    exact h5

def firstG (calm : List FuncId) (md : Region.Mode) (ops : Array Oper) (l : Array Bool) (i : Nat) : Bool :=
 match ops[i]? with
 | none => false
 | some oi => takeB oi.op && (Region.ready md ops l).contains i && (fun W => W.contains i && W.all (fun j => !l.getD j false) &&
   W.all (fun j => j == i || match ops[j]? with | some oj => oj.after.any (fun e => Region.binds md e && W.contains e.on) | none => true) &&
   (List.range ops.size).all (fun j => W.contains j || l.getD j true || match ops[j]? with | some oj => oi.apart ops oj && (stillB oi.op || mildB calm oj.dst oj.op) | none => true)) (waitsFor md ops l i)

def okLinG (calm : List FuncId) (md : Region.Mode) (ops : Array Oper) : Nat → Nat → Array Bool → Bool
 | 0, _, l => (Region.ready md ops l).isEmpty
 | k + 1, i, l => (firstG calm md ops l i || Region.ready md ops l == [i]) && okLinG calm md ops k (i + 1) (l.setIfInBounds i true)

def okRegG (calm : List FuncId) (N : Nat) (draw : Bool) (ops : Array Oper) : Bool :=
 ops.all (fun o => match o.dst with | some d => decide (d < N) | none => true) && (!draw || okLinG calm .any ops ops.size 0 (Array.replicate ops.size false))

def AG (W0 : World) (M0 : Nat → Prop) (dr : Bool) (calm : List FuncId) (E : Env P) (ops : Array Oper) (K : St → Prop) : List Oper → St → Prop
 | [], st => K st
 | o :: r, st => stepG W0 M0 dr calm E ops o st (AG W0 M0 dr calm E ops K r)

theorem AG_ok {dr : Bool} {calm : List FuncId} {ops : Array Oper} {K : St → Prop} {Q : Exit → Act → World → Prop} (hQ : ∀ st a w, K st → Sim W0 M0 E.N st a w → Q .normal a w) :
  ∀ (l : List Oper) (k : Nat) (st : St) (a : Act) (w : World), (∀ j, l[j]? = ops[k + j]?) → (∀ o ∈ l, ∀ d, o.dst = some d → d < E.N) → AG W0 M0 dr calm E ops K l st → Sim W0 M0 E.N st a w → wpOpsIn (fen E.ρ) 0 P ops Q (List.range' k l.length) a w := by
 intro l
 induction l with
 | nil => intro k st a w _ _ h hs; exact hQ _ _ _ h hs
 | cons o r ih =>
  intro k st a w hl hd h hs
  have ho : ops[k]? = some o := by have := hl 0; simpa using this.symm
  have h1 := stepG_ok (h : stepG W0 M0 dr calm E ops o st (AG W0 M0 dr calm E ops K r)) (hd o (by simp)) hs Q
  have ih' := fun st a w => ih (k + 1) st a w (fun j => by have := hl (j + 1); simpa [Nat.add_assoc, Nat.add_comm 1 j] using this) (fun o ho => hd o (by simp [ho]))
  simp only [List.length_cons, List.range'_succ, wpOpsIn, ho]
  split
  ·rename_i hw
   rw [if_pos hw] at h1
   exact (Oper.wpIn_mono (fun a' w' ⟨st', h2, h3⟩ => ih' _ _ _ h2 h3) h1)
  ·rename_i hw
   rw [if_neg hw] at h1
   obtain ⟨st', h2, h3⟩ := h1
   exact ⟨fun _ _ => trivial, ih' _ _ _ h2 h3⟩

theorem AAnyG_lin {calm : List FuncId} {md : Region.Mode} {ops : Array Oper} {K : St → Prop} : ∀ (k i : Nat) (l : Array Bool) (r : List Oper) (st : St), r.length = k → (∀ j, r[j]? = ops[i + j]?) →
  okLinG calm md ops k i l = true → AG W0 M0 true calm E ops K r st → AAnyG W0 M0 calm E md ops K k l st := by
 intro k
 induction k with
 | zero =>
  intro i l r st hl _ hok h
  have : r = [] := List.eq_nil_of_length_eq_zero hl
  subst this
  exact ⟨by simpa [okLinG] using hok, h⟩
 | succ k ih =>
  intro i l r st hl hr hok h
  cases r with
  | nil => cases hl
  | cons o r =>
   have ho : ops[i]? = some o := by have := hr 0; simpa using this.symm
   have hr' : ∀ j, r[j]? = ops[i + 1 + j]? := fun j => by have := hr (j + 1); simpa [Nat.add_assoc, Nat.add_comm 1 j] using this
   simp only [okLinG, Bool.and_eq_true, Bool.or_eq_true] at hok
   have h' : stepG W0 M0 true calm E ops o st (AG W0 M0 true calm E ops K r) := h
   have next : ∀ st, AG W0 M0 true calm E ops K r st → AAnyG W0 M0 calm E md ops K k (l.setIfInBounds i true) st := fun st hs => ih (i + 1) _ r st (by simpa using hl) hr' hok.2 hs
   rcases hok.1 with hf | hone
   ·simp only [firstG, ho, Bool.and_eq_true] at hf
    obtain ⟨⟨ht, hrd⟩, ⟨⟨hiW, hWl⟩, hWa⟩, hfree⟩ := hf
    obtain ⟨c, hv, hK⟩ := stepG_take ht h'
    generalize waitsFor md ops l i = W at *
    refine AAnyG_first ho ht W (by simpa using hiW) k l st (fun j hj => ?_) (fun j hj hne oj hoj => ?_) (fun j oj hoj hjW hun => ?_) (by simpa using hrd) hv (next _ hK)
    ·have := List.all_eq_true.1 hWl j hj
     simpa using this
    ·have := List.all_eq_true.1 hWa j hj
     simp only [hoj, Bool.or_eq_true, beq_iff_eq, hne, false_or] at this
     obtain ⟨e, he, hb⟩ := Array.any_eq_true'.1 this
     simp only [Bool.and_eq_true] at hb
     exact ⟨e, he, hb.1, by simpa using hb.2⟩
    ·have := List.all_eq_true.1 hfree j (List.mem_range.2 (Array.getElem?_eq_some_iff.1 hoj).1)
     simp only [hoj, Bool.or_eq_true, Bool.and_eq_true, hun, Bool.false_eq_true, or_false] at this
     rcases this with h1 | h1
     ·exact absurd (by simpa using h1) hjW
     ·exact ⟨h1.1, h1.2⟩
   ·have hone : Region.ready md ops l = [i] := by simpa using hone
    refine ⟨fun h0 => absurd (hone.symm.trans h0) (by simp), fun j hj oj hoj => ?_⟩
    rw [hone] at hj
    simp only [List.mem_singleton] at hj
    subst hj
    rw [ho] at hoj; cases hoj
    exact stepG_mono next h'

theorem vc_regG (calm : List FuncId) (hm : P.follows .mixedOrders = true) {id : Nat} {l : List Oper} {draw : Bool} (hok : okRegG calm E.N draw l.toArray = true) {st : St} {K : Exit → St → Prop} (h : AG W0 M0 draw calm E l.toArray (K .normal) l st) : VC E W0 M0 (.region id l.toArray draw) st K := by
 intro a w hs
 simp only [okRegG, Bool.and_eq_true, Bool.or_eq_true, Bool.not_eq_true'] at hok
 have hd : ∀ o ∈ l, ∀ d, o.dst = some d → d < E.N := by
  intro o ho d hd
  have := Array.all_eq_true_iff_forall_mem.1 hok.1 o (by simpa using ho)
  rw [hd] at this
  simpa using this
 cases draw with
 | false => exact wpIn_region (by
   have := AG_ok (E := E) (W0 := W0) (M0 := M0) (ops := l.toArray) (Q := Post E W0 M0 K) (fun st a w h1 h2 => ⟨st, h1, h2⟩) l 0 st a w (fun j => by simp) hd h hs
   simpa [List.range_eq_range'] using this)
 | true =>
  have hl : okLinG calm .any l.toArray l.toArray.size 0 (Array.replicate l.toArray.size false) = true := by simpa using hok.2
  refine wpIn_region_any hm (AAnyG_ok (calm := calm) (E := E) (W0 := W0) (M0 := M0) (K := K .normal) (fun i o d ho hdd => hd o (by
   have := List.mem_of_getElem? (l := l) (i := i) (by simpa using ho); exact this) d hdd) (fun st a w h1 h2 => ⟨st, h1, h2⟩) _ _ st a _ ?_ hs.drawn)
  exact AAnyG_lin _ 0 _ l st (by simp) (fun j => by simp) hl h

/-! one operation at a time -/
section
variable {dr : Bool} {calm : List FuncId} {ops : Array Oper} {K : St → Prop} {o : Op} {d : Option Tmp} {t : TypeId} {p : String} {af : Array Edge} {r : List Oper} {fr : Nat → AV} {H H' : Heap} {n n' : Nat} {q : Prop} {c : AV} {b : Bool} {gd : Nat × Bool}
theorem lg_nil {st : St} (h : K st) : AG W0 M0 dr calm E ops K [] st := h
theorem lg_mk {l : List Oper} {fl : List (Nat × AV)} {bl : List (Option Box)} (h : AG W0 M0 dr calm E ops K l ⟨getF fl, getB bl, bl.length⟩) : AG W0 M0 dr calm E ops K l (mkSt fl bl) := h
theorem lg_v (h : aOp E fr H n o = .v q c) (hn : ndO fr o) (hq : q) (hk : AG W0 M0 dr calm E ops K r ⟨putD d c fr, H, n⟩) : AG W0 M0 dr calm E ops K (⟨d, o, t, p, af, none⟩ :: r) ⟨fr, H, n⟩ := by
 refine .inl ?_; unfold stepO; simp only [guardA_none, h]; exact ⟨hn, hq, fun _ => HLe.refl _, hk⟩
theorem lg_h (h : aOp E fr H n o = .h q c H' n') (hn : ndO fr o) (hq : q) (hl : (dr && growB calm d o) = true → HLe H H') (hk : AG W0 M0 dr calm E ops K r ⟨putD d c fr, H', n'⟩) : AG W0 M0 dr calm E ops K (⟨d, o, t, p, af, none⟩ :: r) ⟨fr, H, n⟩ := by
 refine .inl ?_; unfold stepO; simp only [guardA_none, h]; exact ⟨hn, hq, hl, hk⟩
theorem lg_gv (hg : guardA ops fr (some gd) = some (some b)) (h : aOp E fr H n o = .v q c) (hq : b = true → ndO fr o ∧ q) (hk : AG W0 M0 dr calm E ops K r ⟨putD d (.cond b c) fr, H, n⟩) : AG W0 M0 dr calm E ops K (⟨d, o, t, p, af, some gd⟩ :: r) ⟨fr, H, n⟩ := by
 refine .inl ?_; unfold stepO; simp only [hg, h]; exact ⟨hq, fun _ => HLe.refl _, hk⟩
theorem lg_gh (hg : guardA ops fr (some gd) = some (some b)) (h : aOp E fr H n o = .h q c H' n') (h1 : b = true → ndO fr o ∧ q) (hl : (dr && growB calm d o) = true → HLe H H') (h2 : b = true → AG W0 M0 dr calm E ops K r ⟨putD d c fr, H', n'⟩) (h3 : b = false → AG W0 M0 dr calm E ops K r ⟨putD d (.cond false .any) fr, H, n⟩) :
  AG W0 M0 dr calm E ops K (⟨d, o, t, p, af, some gd⟩ :: r) ⟨fr, H, n⟩ := by
 refine .inl ?_; unfold stepO; simp only [hg, h]; exact ⟨fun hb => ⟨(h1 hb).1, (h1 hb).2, hl, h2 hb⟩, fun hb => ⟨fun _ => HLe.refl _, h3 hb⟩⟩
theorem lg_g0 (hg : guardA ops fr (some gd) = some (some false)) (hk : AG W0 M0 dr calm E ops K r ⟨putD d (.cond false .any) fr, H, n⟩) : AG W0 M0 dr calm E ops K (⟨d, o, t, p, af, some gd⟩ :: r) ⟨fr, H, n⟩ := .inr (.inl ⟨hg, hk⟩)
theorem lg_sem (hm : (dr && mildB calm d o) = false) (h : SemO W0 M0 E ⟨d, o, t, p, af, none⟩ ⟨fr, H, n⟩ (AG W0 M0 dr calm E ops K r)) : AG W0 M0 dr calm E ops K (⟨d, o, t, p, af, none⟩ :: r) ⟨fr, H, n⟩ := by
 have hm' : (dr && takeB o) = false ∧ (dr && growB calm d o) = false := by
  cases dr with
  | false => exact ⟨rfl, rfl⟩
  | true => simpa [mildB] using hm
 exact .inr (.inr (.inl ⟨.inl rfl, hm'.1, h.mono fun st hs => ⟨fun h => by (have := hm'.2; simp only at h; rw [this] at h; cases h), hs⟩⟩))
theorem lg_semV (hq : stillB o = false) (h : SemV W0 M0 E ⟨d, o, t, p, af, none⟩ ⟨fr, H, n⟩ c) (hk : AG W0 M0 dr calm E ops K r ⟨putD d c fr, H, n⟩) : AG W0 M0 dr calm E ops K (⟨d, o, t, p, af, none⟩ :: r) ⟨fr, H, n⟩ :=
 .inr (.inr (.inr ⟨.inl rfl, hq, c, h, hk⟩))
theorem lg_semG (hm : (dr && takeB o) = false) (h : SemO W0 M0 E ⟨d, o, t, p, af, none⟩ ⟨fr, H, n⟩ (fun st' => ((dr && growB calm d o) = true → HLe H st'.H) ∧ AG W0 M0 dr calm E ops K r st')) : AG W0 M0 dr calm E ops K (⟨d, o, t, p, af, none⟩ :: r) ⟨fr, H, n⟩ := .inr (.inr (.inl ⟨.inl rfl, hm, h⟩))
end

theorem hle_refl (dr : Bool) (calm : List FuncId) (d : Option Tmp) (o : Op) (H : Heap) : (dr && growB calm d o) = true → HLe H H := fun _ => HLe.refl _
end
end Go.Vc
/- The Vc layer: operations known by what they do to worlds: nil tests of slices, cap, append of made rows, clear, append in place, slices beyond the length. -/
set_option linter.all false
namespace Go.Vc
open Go Go.RowKit
section
variable [Far] {P : Program} {E : Env P} {W0 : World} {M0 : Nat → Prop} {w : World} {S : Lays} {n : Nat} {H : Heap} {fr : Nat → AV} {K : St → Prop} {d : Option Tmp} {t t' ty' : TypeId} {p : String} {af : Array Edge}

theorem SemO.value {o : Oper} {st : St} (hd : ∀ c, o.op ≠ .defer c) (h : ∀ (a : Act) (w : World) (S : Lays), HeapOk W0 M0 st.H st.n w S → (∀ x ∈ o.op.operands.toList, R w S st.n (evO st.fr x) (a.eval x)) →
  ∃ c H' n' r w' S', (execOp a.eval o).run P w = .ok (.value r) w' ∧ HeapOk W0 M0 H' n' w' S' ∧ Ext w S st.n w' S' n' ∧ R w' S' n' c r ∧ K ⟨putD o.dst c st.fr, H', n'⟩) : SemO W0 M0 E o st K := by
 intro a w S h1 h2 Q
 obtain ⟨c, H', n', r, w', S', e1, e2, e3, e4, e5⟩ := h a w S h1 h2
 refine fen_op hd ?_
 rw [e1]
 exact ⟨c, H', n', r, S', rfl, e2, e3, e4, e5⟩

def emptyA : AV → Prop
 | .d (.sl xs) => xs = []
 | .d .nils => True
 | .sl _ _ len => len = 0
 | _ => False
def slA (H : Heap) : AV → Option Unit
 | .d (.sl _) => some ()
 | .d .nils => some ()
 | .sl id _ _ => match H id with
  | some (.vec ..) => some ()
  | _ => none
 | _ => none

theorem slA_ok (hH : HeapOk W0 M0 H n w S) {x : AV} {v : Value} (h : slA H x = some ()) (hx : R w S n x v) : ∃ a l c, v = .slice a l c ∧ (a.isNone = true → emptyA x) ∧ (x = .d .nils → a.isNone = true) := by
 unfold slA at h
 split at h
 ·cases hx with | d hx =>
  obtain ⟨a, cap, rfl, _⟩ := hx.slice_form
  refine ⟨a, _, cap, rfl, fun ha => ?_, fun e => by cases e⟩
  cases hx with
  | sl0 => rfl
  | sl => cases ha
 ·cases hx with | d hx =>
  cases hx
  exact ⟨none, 0, 0, rfl, fun _ => trivial, fun _ => rfl⟩
 ·rename_i id off len
  split at h
  ·rename_i hb
   obtain ⟨l, o, hS, ⟨_, _, _, _, hnil, _⟩, rfl, hcap, _, _⟩ := hx.sl_live hH hb
   refine ⟨_, _, _, rfl, fun ha => ?_, fun e => by cases e⟩
   cases hk : l.blk with
   | none => have := hnil hk; show len = 0; omega
   | some b => rw [hk] at ha; cases ha
  ·cases h
 ·cases h

theorem sem_nenil {e : TypeId} {s b : Nat} {z : List D} {x : Operand} {c : AV} (hx : bare (evO fr x) = c) (hn : needs (evO fr x)) (hty : E.X.ty t = some ⟨.slice e, s, b, z⟩) (hs : slA H c = some ())
  (k : ∀ b : Bool, (b = false → emptyA c) → (c = .d .nils → b = false) → K ⟨putD d (.d (.bool b)) fr, H, n⟩) : SemO W0 M0 E ⟨d, .binOp .neq t x (.const (.slice none 0 0)) ty', t', p, af, none⟩ ⟨fr, H, n⟩ K := by
 refine .value (fun c h => by cases h) fun a w S hH hop => ?_
 have hR := (hop x (by simp [Op.operands])).bare_of hn
 rw [hx] at hR
 obtain ⟨ad, l, cp, hv, h1, h2⟩ := slA_ok hH hs hR
 refine ⟨_, H, n, .bool !ad.isNone, w, S, ?_, hH, Ext.refl _ _ _, R.mkBool _, k _ (fun h => h1 (by simpa using h)) (fun h => by simpa using h2 h)⟩
 have hrun := Go.run_neq_slice_nil (P := P) w t e ad l cp (E.X.facts hty).slice
 simp only [execOp, hv, show a.eval (.const (.slice none 0 0)) = .slice none 0 0 from rfl]
 simp [eqGuard, hrun]

/-! ### rows written in their place -/
theorem write_rows (hH : HeapOk W0 M0 H n w S) {id k tb sz : Nat} {l : Lay} {xs : List (List D)} {cur : Array Value} (hb : H id = some (.vec tb sz xs)) (hS : S id = some l) (hk : l.blk = some k) (hcur : w.heap[k]? = some (.cells cur tb (0, 0)))
  {ys : List (List D)} {news : List Value} {e0 : Nat} (hr : Rect sz ys) (hnl : news.length = ys.length * sz) (he : e0 ≤ xs.length) (hfit : e0 + ys.length ≤ l.cap) (hc : ∀ e f c, at2 ys e f = some c → ∃ u, news[e * sz + f]? = some u ∧ RD w (own S) c u) :
  HeapOk W0 M0 (upd H id (some (.vec tb sz (splice xs e0 ys)))) n (w.setRow k (splice cur.toList (e0 * sz) news).toArray) S ∧ Ext w S n (w.setRow k (splice cur.toList (e0 * sz) news).toArray) S n := by
 obtain ⟨l', hl', hsz, hcm, hxl, hz, hnil, hbk⟩ := hH.box id _ hb
 rw [hS] at hl'; cases hl'
 obtain ⟨cur', hcur', hsize, hcell⟩ := hbk k hk
 rw [hcur] at hcur'; cases hcur'
 subst hsz
 have hcs : cur.size = l.cap * l.sz := hsize
 have hmul : e0 * l.sz + news.length ≤ cur.size := by
  rw [hcs, hnl, ← Nat.add_mul]; exact Nat.mul_le_mul_right _ hfit
 refine hH.write (w' := w.setRow k (splice cur.toList (e0 * l.sz) news).toArray) hS hk (hH.plain id l _ hb hS rfl) _ (by rw [hb]; rfl) (by simp) rfl rfl (setRow_same_size _ _ _) (fun d hd => setRow_other w k d _ hd) (fun hE => ?_)
 refine ⟨rfl, hcm, ?_, fun y hy => ?_, hnil, fun k' hk' => ?_⟩
 ·simp only [splice, List.length_append, List.length_take, List.length_drop]; omega
 ·simp only [splice, List.mem_append] at hy
  rcases hy with (hy | hy) | hy
  ·exact hz y (List.mem_of_mem_take hy)
  ·exact hr y hy
  ·exact hz y (List.mem_of_mem_drop hy)
 ·rw [hk] at hk'; cases hk'
  refine ⟨_, setRow_heap w k cur _ tb (0, 0) hcur, ?_, fun e' f' c hh => ?_⟩
  ·simp only [List.size_toArray]
   rw [splice_length (by simpa using hmul)]
   simpa using hsize
  ·obtain ⟨row', hrow', hf'⟩ := at2_some hh
   simp only [List.getElem?_toArray]
   rw [splice_get (by simpa using hmul)]
   have hl1 : (xs.take e0).length = e0 := by rw [List.length_take]; omega
   have hrl : row'.length = l.sz := by
    have : row' ∈ splice xs e0 ys := List.mem_of_getElem? hrow'
    simp only [splice, List.mem_append] at this
    rcases this with (hy | hy) | hy
    ·exact hz _ (List.mem_of_mem_take hy)
    ·exact hr _ hy
    ·exact hz _ (List.mem_of_mem_drop hy)
   have hfl : f' < l.sz := by rw [← hrl]; exact (List.getElem?_eq_some_iff.1 hf').1
   unfold splice at hrow'
   by_cases h1 : e' < e0
   ·rw [List.append_assoc, List.getElem?_append_left (by omega), List.getElem?_take, if_pos h1] at hrow'
    have : e' * l.sz + f' < e0 * l.sz := by
     have := Nat.mul_le_mul_right l.sz (show e' + 1 ≤ e0 from h1); rw [Nat.add_mul] at this; omega
    rw [if_neg (by omega), Array.getElem?_toList]
    obtain ⟨u, hu, hR⟩ := hcell e' f' c (by simp [at2, hrow', hf'])
    exact ⟨u, hu, hE.rd hR⟩
   ·by_cases h2 : e' < e0 + ys.length
    ·rw [List.getElem?_append_left (by rw [List.length_append]; omega), List.getElem?_append_right (by omega), hl1] at hrow'
     obtain ⟨u, hu, hR⟩ := hc (e' - e0) f' c (by simp [at2, hrow', hf'])
     have e1 : e' * l.sz = e0 * l.sz + (e' - e0) * l.sz := by rw [← Nat.add_mul]; congr 1; omega
     have e2 : (e' - e0) * l.sz + f' < news.length := (List.getElem?_eq_some_iff.1 hu).1
     rw [if_pos ⟨by omega, by omega⟩, show e' * l.sz + f' - e0 * l.sz = (e' - e0) * l.sz + f' by omega]
     exact ⟨u, hu, hE.rd hR⟩
    ·rw [List.getElem?_append_right (by rw [List.length_append]; omega), List.getElem?_drop, List.length_append, hl1, show e0 + ys.length + (e' - (e0 + ys.length)) = e' by omega] at hrow'
     have : e0 * l.sz + news.length ≤ e' * l.sz := by rw [hnl, ← Nat.add_mul]; exact Nat.mul_le_mul_right _ (by omega)
     rw [if_neg (by omega), Array.getElem?_toList]
     obtain ⟨u, hu, hR⟩ := hcell e' f' c (by simp [at2, hrow', hf'])
     exact ⟨u, hu, hE.rd hR⟩

theorem BoxOk.short {tb sz : Nat} {xs ys : List (List D)} {l : Lay} (h : BoxOk w S n (.vec tb sz (xs ++ ys)) l) : BoxOk w S n (.vec tb sz xs) l := by
 obtain ⟨h1, h2, h3, h4, h5, h6⟩ := h
 refine ⟨h1, h2, by rw [List.length_append] at h3; omega, fun x hx => h4 x (by simp [hx]), h5, fun b hb => ?_⟩
 obtain ⟨cur, e1, e2, e3⟩ := h6 b hb
 refine ⟨cur, e1, e2, fun e f c hh => e3 e f c ?_⟩
 obtain ⟨x, hx, hf⟩ := at2_some hh
 simp [at2, List.getElem?_append_left (List.getElem?_eq_some_iff.1 hx).1, hx, hf]

theorem HeapOk.short (hH : HeapOk W0 M0 H n w S) {id tb sz : Nat} {xs ys : List (List D)} (hb : H id = some (.vec tb sz (xs ++ ys))) : HeapOk W0 M0 (upd H id (some (.vec tb sz xs))) n w S := by
 refine ⟨hH.bnd, hH.lt2, fun i b h => ?_, hH.inj2, hH.nod, fun i l b h1 h2 h3 => ?pl, fun i l b h1 h2 h3 => ?_, hH.os, hH.tape, hH.output, hH.size, hH.same, hH.far, hH.pin, hH.gl⟩
 case pl =>
  rw [upd_app] at h1
  split at h1
  ·rename_i hi; subst hi; exact hH.plain i l _ hb h2 rfl
  ·exact hH.plain i l b h1 h2 h3
 ·rw [upd_app] at h
  split at h
  ·rename_i hi; subst hi; cases h
   obtain ⟨l, h1, h2⟩ := hH.box i _ hb
   exact ⟨l, h1, h2.short⟩
  ·exact hH.box i b h
 ·rw [upd_app] at h1
  split at h1
  ·rename_i hi; subst hi; exact hH.mut2 i l b (by rw [hb]; rfl) h2 h3
  ·exact hH.mut2 i l b h1 h2 h3

theorem short_sub {N : Nat} {id tb sz : Nat} {xs : List (List D)} (k : Nat) (hb : H id = some (.vec tb sz xs)) {a : Act} (h : Sim W0 M0 N ⟨fr, H, n⟩ a w) : Sim W0 M0 N ⟨fr, upd H id (some (.vec tb sz (xs.take k))), n⟩ a w := by
 obtain ⟨S, hH, hF, hM⟩ := h
 exact ⟨S, hH.short (ys := xs.drop k) (by rw [List.take_append_drop]; exact hb), hF, hM⟩
theorem vc_short {id tb sz : Nat} {xs : List (List D)} (k : Nat) (hb : H id = some (.vec tb sz xs)) {c : Code} {Q : Exit → St → Prop} (h : VC E W0 M0 c ⟨fr, upd H id (some (.vec tb sz (xs.take k))), n⟩ Q) : VC E W0 M0 c ⟨fr, H, n⟩ Q :=
 VC.sub (fun a w hs => short_sub k hb hs) h
end
end Go.Vc
/- The Vc layer: clear; append of made rows. -/
set_option linter.all false
namespace Go.Vc
open Go Go.RowKit
section
variable [Far] {P : Program} {E : Env P} {W0 : World} {M0 : Nat → Prop} {w : World} {S : Lays} {n : Nat} {H : Heap} {fr : Nat → AV} {K : St → Prop} {d : Option Tmp} {t t' ty' : TypeId} {p : String} {af : Array Edge}

theorem zeroCells_get {z : Array Value} {m j : Nat} (hj : j < m * z.size) : ∃ u, (Builtin.zeroCells z m)[j]? = some u ∧ z[j % z.size]? = some u := by
 have hz : 0 < z.size := by
  rcases Nat.eq_zero_or_pos z.size with h | h
  ·rw [h] at hj; omega
  ·exact h
 have hm := Nat.mod_lt j hz
 refine ⟨z[j % z.size], ?_, by simp [hm]⟩
 simp [Builtin.zeroCells, hj, hm]

theorem zeroC_add (z : Array Value) (a b : Nat) : Builtin.zeroCells z a ++ Builtin.zeroCells z b = Builtin.zeroCells z (a + b) := by
 apply Array.ext_getElem?
 intro j
 rw [Array.getElem?_append]
 have hsz : ∀ m, (Builtin.zeroCells z m).size = m * z.size := fun m => by simp [Builtin.zeroCells]
 rw [hsz]
 split
 ·rename_i h
  obtain ⟨u, h1, h2⟩ := zeroCells_get h
  obtain ⟨u', h3, h4⟩ := zeroCells_get (z := z) (m := a + b) (j := j) (by rw [Nat.add_mul]; omega)
  rw [h2] at h4; cases h4
  rw [h1, h3]
 ·rename_i h
  by_cases hb : j < (a + b) * z.size
  ·have hb' : j - a * z.size < b * z.size := by rw [Nat.add_mul] at hb; omega
   obtain ⟨u, h1, h2⟩ := zeroCells_get hb'
   obtain ⟨u', h3, h4⟩ := zeroCells_get hb
   have hm : (j - a * z.size) % z.size = j % z.size := by
    have e0 : a * z.size = z.size * a := Nat.mul_comm _ _
    conv => rhs; rw [show j = (j - a * z.size) + z.size * a by omega]
    rw [Nat.add_mul_mod_self_left]
   rw [hm, h4] at h2; cases h2
   rw [h1, h3]
  ·rw [Array.getElem?_eq_none (by rw [hsz, ]; rw [Nat.add_mul] at hb; omega), Array.getElem?_eq_none (by rw [hsz]; omega)]

end
end Go.Vc
/- The Vc layer: boxes as lists: rewriting rules. -/
set_option linter.all false
namespace Go.Vc
open Go Go.RowKit

def updL : List (Option Box) → Nat → Option Box → List (Option Box)
 | [], 0, b => [b]
 | [], i + 1, b => none :: updL [] i b
 | _ :: l, 0, b => b :: l
 | x :: l, i + 1, b => x :: updL l i b

theorem getB_nil (i : Nat) : getB [] i = none := rfl
theorem getB_zero (b : Option Box) (l : List (Option Box)) : getB (b :: l) 0 = b := by simp [getB]
theorem getB_succ (b : Option Box) (l : List (Option Box)) (i : Nat) : getB (b :: l) (i + 1) = getB l i := by simp [getB]

theorem getB_updL : ∀ (i : Nat) (l : List (Option Box)) (b : Option Box) (j : Nat), getB (updL l i b) j = if j = i then b else getB l j := by
 intro i
 induction i with
 | zero =>
  intro l b j
  cases l with
  | nil => cases j with
   | zero => simp [updL, getB]
   | succ j => simp [updL, getB]
  | cons x l => cases j with
   | zero => simp [updL, getB]
   | succ j => simp [updL, getB]
 | succ i ih =>
  intro l b j
  cases l with
  | nil => cases j with
   | zero => simp [updL, getB]
   | succ j => rw [updL, getB_succ, ih, getB_nil, getB_nil]; simp
  | cons x l => cases j with
   | zero => simp [updL, getB]
   | succ j => rw [updL, getB_succ, ih, getB_succ]; simp
theorem upd_getB (l : List (Option Box)) (i : Nat) (b : Option Box) : upd (getB l) i b = getB (updL l i b) := by
 funext j; rw [getB_updL]; rfl

def kilL (B : List Nat) : List (Option Box) → Nat → List (Option Box)
 | [], _ => []
 | b :: r, i => (if i ∈ B then none else b) :: kilL B r (i + 1)
theorem getB_kilL (B : List Nat) : ∀ (l : List (Option Box)) (k j : Nat), getB (kilL B l k) j = if k + j ∈ B then none else getB l j := by
 intro l
 induction l with
 | nil => intro k j; simp [kilL, getB]
 | cons b r ih =>
  intro k j
  cases j with
  | zero => simp [kilL, getB]
  | succ j => rw [kilL, getB_succ, ih, getB_succ, show k + 1 + j = k + (j + 1) by omega]
theorem kill_getB (B : List Nat) (l : List (Option Box)) : killL B (getB l) = getB (kilL B l 0) := by
 funext j; rw [getB_kilL]; simp [killL]

/-! ### calls that hand boxes over -/
def outL (ds B : List Nat) (n : Nat) (bf : List (Option Box)) : List (Option Box) → Nat → List (Option Box)
 | [], _ => []
 | b :: r, i => (if i ∈ B then none else match ixOf ds i with | some j => ouBox ds n (getB bf j) | none => b) :: outL ds B n bf r (i + 1)
def newL (ds : List Nat) (n : Nat) : List (Option Box) → List (Option Box)
 | [] => []
 | b :: r => ouBox ds n b :: newL ds n r
def ltAll : List Nat → Nat → Prop
 | [], _ => True
 | b :: r, n => b < n ∧ ltAll r n

theorem outL_length (ds B : List Nat) (n : Nat) (bf : List (Option Box)) : ∀ (l : List (Option Box)) (k : Nat), (outL ds B n bf l k).length = l.length := by
 intro l
 induction l with
 | nil => intro k; rfl
 | cons b r ih => intro k; simp [outL, ih]
theorem getB_outL (ds B : List Nat) (n : Nat) (bf : List (Option Box)) : ∀ (l : List (Option Box)) (k j : Nat), j < l.length → getB (outL ds B n bf l k) j = if k + j ∈ B then none else match ixOf ds (k + j) with | some m => ouBox ds n (getB bf m) | none => getB l j := by
 intro l
 induction l with
 | nil => intro k j h; simp at h
 | cons b r ih =>
  intro k j h
  cases j with
  | zero => simp [outL, getB]
  | succ j => rw [outL, getB_succ, ih _ _ (by simpa using h), getB_succ, show k + 1 + j = k + (j + 1) by omega]
theorem getB_newL (ds : List Nat) (n : Nat) : ∀ (l : List (Option Box)) (j : Nat), getB (newL ds n l) j = ouBox ds n (getB l j) := by
 intro l
 induction l with
 | nil => intro j; rfl
 | cons b r ih =>
  intro j
  cases j with
  | zero => simp [newL, getB]
  | succ j => rw [newL, getB_succ, ih, getB_succ]
theorem getB_append_left {l m : List (Option Box)} {j : Nat} (h : j < l.length) : getB (l ++ m) j = getB l j := by simp [getB, List.getElem?_append_left h]
theorem getB_append_right {l m : List (Option Box)} {j : Nat} (h : l.length ≤ j) : getB (l ++ m) j = getB m (j - l.length) := by simp [getB, List.getElem?_append_right h]
theorem getB_drop (l : List (Option Box)) (k j : Nat) : getB (l.drop k) j = getB l (k + j) := by simp [getB, List.getElem?_drop]

theorem ltAll_lt : ∀ {B : List Nat} {n i : Nat}, ltAll B n → i ∈ B → i < n := by
 intro B
 induction B with
 | nil => intro n i _ h; cases h
 | cons b r ih =>
  intro n i h hi
  rcases List.mem_cons.1 hi with rfl | hi
  ·exact h.1
  ·exact ih h.2 hi

theorem gen_heap {ds B : List Nat} {n : Nat} {bl bf : List (Option Box)} (hn : bl.length = n) (hB : ltAll B n) : killL B (merge ds n (getB bl) (ouH ds n (restr ds (getB bl)) bf)) = getB (outL ds B n bf bl 0 ++ newL ds n (bf.drop ds.length)) := by
 funext j
 have hol := outL_length ds B n bf bl 0
 by_cases hj : j < n
 ·rw [getB_append_left (by omega), getB_outL _ _ _ _ _ _ _ (by omega), Nat.zero_add]
  show (if j ∈ B then none else merge ds n (getB bl) (ouH ds n (restr ds (getB bl)) bf) j) = _
  split
  ·rfl
  ·unfold merge
   cases hx : ixOf ds j with
   | none =>
    have := ixOf_none hx
    rw [if_neg (by rintro (h | h); exact this h; omega)]
   | some m =>
    have := ixOf_mem hx
    rw [if_pos (.inl this)]
    unfold ouH
    rw [if_pos hj, hx]
 ·rw [getB_append_right (by omega), getB_newL, getB_drop, hol, hn]
  show (if j ∈ B then none else merge ds n (getB bl) (ouH ds n (restr ds (getB bl)) bf) j) = _
  rw [if_neg (fun h => hj (ltAll_lt hB h))]
  unfold merge ouH
  rw [if_pos (.inr (by omega)), if_neg hj]
theorem gen_heap0 {ds : List Nat} {n : Nat} {bl bf : List (Option Box)} (hn : bl.length = n) : merge ds n (getB bl) (ouH ds n (restr ds (getB bl)) bf) = getB (outL ds [] n bf bl 0 ++ newL ds n (bf.drop ds.length)) := by
 rw [← gen_heap hn (B := []) trivial]
 funext j; simp [killL]

theorem bx_rules : (∀ b, updL [] 0 b = [b]) ∧ (∀ i b, updL [] (i + 1) b = none :: updL [] i b) ∧ (∀ x l b, updL (x :: l) 0 b = b :: l) ∧ (∀ x l i b, updL (x :: l) (i + 1) b = x :: updL l i b) ∧
  (∀ B i, kilL B [] i = []) ∧ (∀ B b r i, kilL B (b :: r) i = (if i ∈ B then none else b) :: kilL B r (i + 1)) ∧
  (∀ ds B n bf i, outL ds B n bf [] i = []) ∧ (∀ ds B n bf b r i, outL ds B n bf (b :: r) i = (if i ∈ B then none else match ixOf ds i with | some j => ouBox ds n (getB bf j) | none => b) :: outL ds B n bf r (i + 1)) ∧
  (∀ ds n, newL ds n [] = []) ∧ (∀ ds n b r, newL ds n (b :: r) = ouBox ds n b :: newL ds n r) ∧ (∀ n, ltAll [] n = True) ∧ (∀ b r n, ltAll (b :: r) n = (b < n ∧ ltAll r n)) :=
 ⟨fun _ => rfl, fun _ _ => rfl, fun _ _ _ => rfl, fun _ _ _ _ => rfl, fun _ _ => rfl, fun _ _ _ _ => rfl, fun _ _ _ _ _ => rfl, fun _ _ _ _ _ _ _ => rfl, fun _ _ => rfl, fun _ _ _ _ => rfl, fun _ => rfl, fun _ _ _ => rfl⟩

theorem id_rules : (∀ i o l, ids1 (.sl i o l) = [i]) ∧ (∀ i o l, ids1 (.ptr i o l) = [i]) ∧ (∀ x, ids1 (.d x) = []) ∧ (ids1 .any = []) ∧ (∀ z xs e f, ids1 (.ip z xs e f) = []) ∧ (idsL [] = []) ∧ (∀ c cs, idsL (c :: cs) = ids1 c ++ idsL cs) ∧
  (∀ cs, ids2 (.agg cs) = idsL cs) ∧ (∀ f cs, ids2 (.clo f cs) = idsL cs) ∧ (∀ i o l, ids2 (.sl i o l) = [i]) ∧ (∀ i o l, ids2 (.ptr i o l) = [i]) ∧ (∀ x, ids2 (.d x) = []) ∧ (ids2 .any = []) ∧ (∀ z xs e f, ids2 (.ip z xs e f) = []) ∧
  (idsA [] = []) ∧ (∀ c cs, idsA (c :: cs) = ids2 c ++ idsA cs) ∧ (∀ t cs, idsB (some (.one t cs)) = idsL cs) ∧ (∀ t s xs, idsB (some (.vec t s xs)) = []) ∧ (idsB none = []) ∧ (∀ l, addIds l [] = l) ∧ (∀ l i r, addIds l (i :: r) = if i ∈ l then addIds l r else addIds (l ++ [i]) r) ∧
  (∀ H, idsBs H [] = []) ∧ (∀ H i r, idsBs H (i :: r) = idsB (H i) ++ idsBs H r) ∧ (∀ args H, reach args H = addIds (addIds [] (idsA args)) (idsBs H (addIds [] (idsA args)))) ∧
  (∀ i, ixOf [] i = none) ∧ (∀ d r i, ixOf (d :: r) i = if i = d then some 0 else (ixOf r i).map (· + 1)) ∧ (nodupB [] = true) ∧ (∀ d r, nodupB (d :: r) = if d ∈ r then false else nodupB r) ∧ (∀ i, ids1 (.mp i) = [i]) ∧ (∀ i, ids2 (.mp i) = [i]) ∧ (∀ o, idsB (some (.ob o)) = []) := by
 refine ⟨fun _ _ _ => rfl, fun _ _ _ => rfl, fun _ => rfl, rfl, fun _ _ _ _ => rfl, rfl, fun _ _ => rfl, fun _ => rfl, fun _ _ => rfl, fun _ _ _ => rfl, fun _ _ _ => rfl, fun _ => rfl, rfl, fun _ _ _ _ => rfl, rfl, fun _ _ => rfl, fun _ _ => rfl, fun _ _ _ => rfl, rfl, fun _ => rfl, fun l i r => ?_, fun _ => rfl, fun _ _ _ => rfl, fun _ _ => rfl, fun _ => rfl, fun d r i => ?_, rfl, fun d r => ?_, fun _ => rfl, fun _ => rfl, fun _ => rfl⟩
 ·by_cases h : i ∈ l
  ·simp [addIds, h]
  ·simp [addIds, h]
 ·by_cases hi : i = d
  ·simp [ixOf, hi]
  ·cases h : ixOf r i <;> simp [ixOf, hi, h]
 ·by_cases h : d ∈ r <;> simp [nodupB, h]

theorem ix_rules : (∀ ds i o l, ix1 ds (.sl i o l) = (ixOf ds i).map fun j => .sl j o l) ∧ (∀ ds i e f, ix1 ds (.ptr i e f) = (ixOf ds i).map fun j => .ptr j e f) ∧ (∀ ds x, ix1 ds (.d x) = some (.d x)) ∧ (∀ ds z xs e f, ix1 ds (.ip z xs e f) = some (.ip z xs e f)) ∧ (∀ ds, ix1 ds .any = some .any) ∧
  (∀ ds, ixL ds [] = some []) ∧ (∀ ds c cs, ixL ds (c :: cs) = (ix1 ds c).bind fun x => (ixL ds cs).map (x :: ·)) ∧ (∀ ds cs, ix2 ds (.agg cs) = (ixL ds cs).map .agg) ∧ (∀ ds f cs, ix2 ds (.clo f cs) = (ixL ds cs).map (.clo f)) ∧
  (∀ ds i o l, ix2 ds (.sl i o l) = (ixOf ds i).map fun j => .sl j o l) ∧ (∀ ds i e f, ix2 ds (.ptr i e f) = (ixOf ds i).map fun j => .ptr j e f) ∧ (∀ ds x, ix2 ds (.d x) = some (.d x)) ∧ (∀ ds z xs e f, ix2 ds (.ip z xs e f) = some (.ip z xs e f)) ∧ (∀ ds, ix2 ds .any = some .any) ∧
  (∀ ds, ixA ds [] = some []) ∧ (∀ ds c cs, ixA ds (c :: cs) = (ix2 ds c).bind fun x => (ixA ds cs).map (x :: ·)) ∧ (∀ ds t s xs, ixBox ds (some (.vec t s xs)) = some (.vec t s xs)) ∧ (∀ ds t cs, ixBox ds (some (.one t cs)) = (ixL ds cs).map (.one t)) ∧ (∀ ds, ixBox ds none = none) ∧
  (∀ ds H, ixBs ds H [] = some []) ∧ (∀ ds H d r, ixBs ds H (d :: r) = (ixBox ds (H d)).bind fun b => (ixBs ds H r).map (some b :: ·)) ∧ (∀ ds i, ix1 ds (.mp i) = (ixOf ds i).map fun j => .mp j) ∧ (∀ ds i, ix2 ds (.mp i) = (ixOf ds i).map fun j => .mp j) ∧ (∀ ds o, ixBox ds (some (.ob o)) = some (.ob o)) := by
 refine ⟨fun ds i o l => ?_, fun ds i o l => ?_, fun _ _ => rfl, fun _ _ _ _ _ => rfl, fun _ => rfl, fun _ => rfl, fun ds c cs => ?_, fun ds cs => ?_, fun ds f cs => ?_, fun ds i o l => ?_, fun ds i o l => ?_, fun _ _ => rfl, fun _ _ _ _ _ => rfl, fun _ => rfl, fun _ => rfl, fun ds c cs => ?_, fun _ _ _ _ => rfl, fun ds t cs => ?_, fun _ => rfl, fun _ _ => rfl, fun ds H d r => ?_, fun ds i => ?_, fun ds i => ?_, fun _ _ => rfl⟩
 ·cases h : ixOf ds i <;> simp [ix1, h]
 ·cases h : ixOf ds i <;> simp [ix1, h]
 ·rw [ixL]; cases ix1 ds c <;> cases ixL ds cs <;> rfl
 ·cases h : ixL ds cs <;> simp [ix2, h]
 ·cases h : ixL ds cs <;> simp [ix2, h]
 ·cases h : ixOf ds i <;> simp [ix2, ix1, h]
 ·cases h : ixOf ds i <;> simp [ix2, ix1, h]
 ·rw [ixA]; cases ix2 ds c <;> cases ixA ds cs <;> rfl
 ·cases h : ixL ds cs <;> simp [ixBox, h]
 ·rw [ixBs]; cases ixBox ds (H d) <;> cases ixBs ds H r <;> rfl
 ·cases h : ixOf ds i <;> simp [ix1, h]
 ·cases h : ixOf ds i <;> simp [ix2, ix1, h]

theorem ou_rules : (∀ n i, ouN [] n i = n + i) ∧ (∀ d ds n, ouN (d :: ds) n 0 = d) ∧ (∀ d ds n i, ouN (d :: ds) n (i + 1) = ouN ds n i) ∧ (∀ ds n i o l, ou1 ds n (.sl i o l) = .sl (ouN ds n i) o l) ∧ (∀ ds n i e f, ou1 ds n (.ptr i e f) = .ptr (ouN ds n i) e f) ∧ (∀ ds n x, ou1 ds n (.d x) = .d x) ∧
  (∀ ds n z xs e f, ou1 ds n (.ip z xs e f) = .ip z xs e f) ∧ (∀ ds n, ou1 ds n .any = .any) ∧ (∀ ds n, ouL ds n [] = []) ∧ (∀ ds n c cs, ouL ds n (c :: cs) = ou1 ds n c :: ouL ds n cs) ∧ (∀ ds n, ouL2 ds n [] = []) ∧ (∀ ds n c cs, ouL2 ds n (c :: cs) = ou2 ds n c :: ouL2 ds n cs) ∧
  (∀ ds n cs, ou2 ds n (.agg cs) = .agg (ouL ds n cs)) ∧ (∀ ds n f cs, ou2 ds n (.clo f cs) = .clo f (ouL ds n cs)) ∧ (∀ ds n i o l, ou2 ds n (.sl i o l) = .sl (ouN ds n i) o l) ∧ (∀ ds n i e f, ou2 ds n (.ptr i e f) = .ptr (ouN ds n i) e f) ∧ (∀ ds n x, ou2 ds n (.d x) = .d x) ∧
  (∀ ds n z xs e f, ou2 ds n (.ip z xs e f) = .ip z xs e f) ∧ (∀ ds n, ou2 ds n .any = .any) ∧ (∀ ds n cs, ou3 ds n (.tup cs) = .tup (ouL2 ds n cs)) ∧ (∀ ds n cs, ou3 ds n (.agg cs) = .agg (ouL ds n cs)) ∧ (∀ ds n f cs, ou3 ds n (.clo f cs) = .clo f (ouL ds n cs)) ∧
  (∀ ds n i o l, ou3 ds n (.sl i o l) = .sl (ouN ds n i) o l) ∧ (∀ ds n i e f, ou3 ds n (.ptr i e f) = .ptr (ouN ds n i) e f) ∧ (∀ ds n x, ou3 ds n (.d x) = .d x) ∧ (∀ ds n, ou3 ds n .any = .any) ∧ (∀ ds n t s xs, ouBox ds n (some (.vec t s xs)) = some (.vec t s xs)) ∧ (∀ ds n t cs, ouBox ds n (some (.one t cs)) = some (.one t (ouL ds n cs))) ∧ (∀ ds n, ouBox ds n none = none) ∧
  (allSome [] = true) ∧ (∀ b r, allSome (some b :: r) = allSome r) ∧ (∀ ds n i, ou1 ds n (.mp i) = .mp (ouN ds n i)) ∧ (∀ ds n i, ou2 ds n (.mp i) = .mp (ouN ds n i)) ∧ (∀ ds n i, ou3 ds n (.mp i) = .mp (ouN ds n i)) ∧ (∀ ds n o, ouBox ds n (some (.ob o)) = some (.ob o)) := by
 refine ⟨fun n i => ?_, fun _ _ _ => rfl, fun d ds n i => ?_, fun _ _ _ _ _ => rfl, fun _ _ _ _ _ => rfl, fun _ _ _ => rfl, fun _ _ _ _ _ _ => rfl, fun _ _ => rfl, fun _ _ => rfl, fun _ _ _ _ => rfl, fun _ _ => rfl, fun _ _ _ _ => rfl, fun _ _ _ => rfl, fun _ _ _ _ => rfl, fun _ _ _ _ _ => rfl, fun _ _ _ _ _ => rfl, fun _ _ _ => rfl, fun _ _ _ _ _ _ => rfl, fun _ _ => rfl, fun _ _ _ => rfl, fun _ _ _ => rfl, fun _ _ _ _ => rfl, fun _ _ _ _ _ => rfl, fun _ _ _ _ _ => rfl, fun _ _ _ => rfl, fun _ _ => rfl, fun _ _ _ _ _ => rfl, fun _ _ _ _ => rfl, fun _ _ => rfl, rfl, fun _ _ => rfl, fun _ _ _ => rfl, fun _ _ _ => rfl, fun _ _ _ => rfl, fun _ _ _ => rfl⟩
 ·simp [ouN]
 ·simp only [ouN, List.getElem?_cons_succ, List.length_cons, Nat.add_sub_add_right]

theorem gen_run (g : GFun) (ds : List Nat) (args : List AV) (H : Heap) (n : Nat) : genRun g ds args H n = (ixA ds args).bind fun ia => (ixBs ds H ds).bind fun bl => (g ia bl).bind fun x => if nodupB ds = true ∧ ds.length ≤ x.2.2.length ∧ allSome (x.2.2.drop ds.length) = true then some (x.1, ou3 ds n x.2.1, some (ouH ds n H x.2.2, n + (x.2.2.length - ds.length))) else none := by
 unfold genRun
 cases ixA ds args with
 | none => rfl
 | some ia =>
  cases ixBs ds H ds with
  | none => rfl
  | some bl =>
   simp only [Option.bind_some]
   cases g ia bl with
   | none => rfl
   | some x => obtain ⟨p, r, bf⟩ := x; rfl

/-! ### more boxes -/
def leL : List (Option Box) → List (Option Box) → Prop
 | [], _ => True
 | none :: r, _ :: r' => leL r r'
 | some b :: r, c :: r' => c = some b ∧ leL r r'
 | none :: r, [] => leL r []
 | some _ :: _, [] => False
theorem leL_ok : ∀ {l l' : List (Option Box)}, leL l l' → HLe (getB l) (getB l') := by
 intro l
 induction l with
 | nil => intro l' _ i b h; cases h
 | cons x l ih =>
  intro l' h i b hb
  cases x with
  | none => cases l' with
   | nil =>
    cases i with
    | zero => cases hb
    | succ i => rw [getB_succ] at hb; exact ih (l' := []) h i b hb
   | cons c r =>
    cases i with
    | zero => cases hb
    | succ i => rw [getB_succ] at hb ⊢; exact ih h i b hb
  | some y => cases l' with
   | nil => exact h.elim
   | cons c r =>
    cases i with
    | zero => rw [getB_zero] at hb ⊢; cases hb; exact h.1
    | succ i => rw [getB_succ] at hb ⊢; exact ih h.2 i b hb
theorem le_rules : (∀ l, leL [] l = True) ∧ (∀ r c r', leL (none :: r) (c :: r') = leL r r') ∧ (∀ b r c r', leL (some b :: r) (c :: r') = (c = some b ∧ leL r r')) := ⟨fun l => by cases l <;> rfl, fun _ _ _ => rfl, fun _ _ _ _ => rfl⟩
theorem hle_getB (dr : Bool) (calm : List FuncId) (d : Option Tmp) (o : Op) {l l' : List (Option Box)} (h : leL l l') : (dr && growB calm d o) = true → HLe (getB l) (getB l') := fun _ => leL_ok h
def bw := And.intro @upd_getB (And.intro @kill_getB @bx_rules)
def gw := And.intro @id_rules (And.intro @ix_rules (And.intro @ou_rules @gen_run))
end Go.Vc
/- The Vc layer: parts of rows that are handed on with no room behind. -/
set_option linter.all false
namespace Go.Vc
open Go Go.RowKit
end Go.Vc
/- The Vc layer: regions taken in an order of one's own. -/
set_option linter.all false
namespace Go.Vc
open Go Go.RowKit
def pickL (l : List Oper) : List Nat → List Oper
 | [] => []
 | i :: r => match l[i]? with
  | some o => o :: pickL l r
  | none => pickL l r
def okOrdG (calm : List FuncId) (md : Region.Mode) (ops : Array Oper) : List Nat → Array Bool → Bool
 | [], l => (Region.ready md ops l).isEmpty
 | i :: r, l => decide (i < ops.size) && (firstG calm md ops l i || Region.ready md ops l == [i]) && okOrdG calm md ops r (l.setIfInBounds i true)
def okRegO (calm : List FuncId) (N : Nat) (ord : List Nat) (ops : Array Oper) : Bool :=
 ops.all (fun o => match o.dst with | some d => decide (d < N) | none => true) && ord.length == ops.size && okOrdG calm .any ops ord (Array.replicate ops.size false)
section
variable [Far] {P : Program} {E : Env P} {W0 : World} {M0 : Nat → Prop}
theorem AAnyG_ord {calm : List FuncId} {md : Region.Mode} {ops : List Oper} {K : St → Prop} : ∀ (ord : List Nat) (l : Array Bool) (st : St), okOrdG calm md ops.toArray ord l = true → AG W0 M0 true calm E ops.toArray K (pickL ops ord) st → AAnyG W0 M0 calm E md ops.toArray K ord.length l st := by
 intro ord
 induction ord with
 | nil =>
  intro l st hok h
  exact ⟨by simpa [okOrdG] using hok, h⟩
 | cons i ord ih =>
  intro l st hok h
  simp only [okOrdG, Bool.and_eq_true, Bool.or_eq_true, decide_eq_true_eq] at hok
  obtain ⟨⟨hi, hf⟩, hok⟩ := hok
  have ho : ops[i]? = some (ops[i]'(by simpa using hi)) := List.getElem?_eq_getElem _
  generalize ops[i]'(by simpa using hi) = o at ho
  have ho' : ops.toArray[i]? = some o := by simpa using ho
  have h' : stepG W0 M0 true calm E ops.toArray o st (AG W0 M0 true calm E ops.toArray K (pickL ops ord)) := by
   unfold pickL at h; rw [ho] at h; exact h
  have next : ∀ st, AG W0 M0 true calm E ops.toArray K (pickL ops ord) st → AAnyG W0 M0 calm E md ops.toArray K ord.length (l.setIfInBounds i true) st := fun st hs => ih _ st hok hs
  rcases hf with hf | hone
  ·simp only [firstG, ho', Bool.and_eq_true] at hf
   obtain ⟨⟨ht, hrd⟩, ⟨⟨hiW, hWl⟩, hWa⟩, hfree⟩ := hf
   obtain ⟨c, hv, hK⟩ := stepG_take ht h'
   generalize waitsFor md ops.toArray l i = W at *
   refine AAnyG_first ho' ht W (by simpa using hiW) ord.length l st (fun j hj => ?_) (fun j hj hne oj hoj => ?_) (fun j oj hoj hjW hun => ?_) (by simpa using hrd) hv (next _ hK)
   ·have := List.all_eq_true.1 hWl j hj
    simpa using this
   ·have := List.all_eq_true.1 hWa j hj
    simp only [hoj, Bool.or_eq_true, beq_iff_eq, hne, false_or] at this
    obtain ⟨e, he, hb⟩ := Array.any_eq_true'.1 this
    simp only [Bool.and_eq_true] at hb
    exact ⟨e, he, hb.1, by simpa using hb.2⟩
   ·have := List.all_eq_true.1 hfree j (List.mem_range.2 (Array.getElem?_eq_some_iff.1 hoj).1)
    simp only [hoj, Bool.or_eq_true, Bool.and_eq_true, hun, Bool.false_eq_true, or_false] at this
    rcases this with h1 | h1
    ·exact absurd (by simpa using h1) hjW
    ·exact ⟨h1.1, h1.2⟩
  ·have hone : Region.ready md ops.toArray l = [i] := by simpa using hone
   refine ⟨fun h0 => absurd (hone.symm.trans h0) (by simp), fun j hj oj hoj => ?_⟩
   rw [hone] at hj
   simp only [List.mem_singleton] at hj
   subst hj
   rw [ho'] at hoj; cases hoj
   exact stepG_mono next h'

theorem vc_regO (calm : List FuncId) (ord : List Nat) (hm : P.follows .mixedOrders = true) {id : Nat} {l : List Oper} (hok : okRegO calm E.N ord l.toArray = true) {st : St} {K : Exit → St → Prop} (h : AG W0 M0 true calm E l.toArray (K .normal) (pickL l ord) st) : VC E W0 M0 (.region id l.toArray true) st K := by
 intro a w hs
 simp only [okRegO, Bool.and_eq_true, beq_iff_eq] at hok
 have hd : ∀ o ∈ l, ∀ d, o.dst = some d → d < E.N := by
  intro o ho d hd
  have := Array.all_eq_true_iff_forall_mem.1 hok.1.1 o (by simpa using ho)
  rw [hd] at this
  simpa using this
 refine wpIn_region_any hm (AAnyG_ok (calm := calm) (E := E) (W0 := W0) (M0 := M0) (K := K .normal) (fun i o d ho hdd => hd o (by
  have := List.mem_of_getElem? (l := l) (i := i) (by simpa using ho); exact this) d hdd) (fun st a w h1 h2 => ⟨st, h1, h2⟩) _ _ st a _ ?_ hs.drawn)
 have := AAnyG_ord (md := .any) ord _ st hok.2 h
 rw [hok.1.2] at this
 exact this
end
theorem pick_rules : (∀ l, pickL l [] = []) ∧ (∀ l i r, pickL l (i :: r) = match l[i]? with | some o => o :: pickL l r | none => pickL l r) := ⟨fun _ => rfl, fun _ _ _ => rfl⟩
end Go.Vc
/- The Vc layer: calls whose arguments are handed on as they are known (a nil that must be seen to be nil). -/
set_option linter.all false
namespace Go.Vc
open Go Go.RowKit
section
variable [Far] {P : Program} {E : Env P} {W0 : World} {M0 : Nat → Prop} {w : World} {S : Lays} {n : Nat} {H : Heap} {fr : Nat → AV} {K : St → Prop} {d : Option Tmp} {t' : TypeId} {p : String} {af : Array Edge}
end
end Go.Vc
/- The Vc layer: what an argument's data is, by its type; facts about types by closed Booleans. -/
set_option linter.all false
namespace Go.Vc
open Go Go.RowKit

section
variable {P : Program} {k : Nat} {t e : TypeId}
def isStr (P : Program) (t : TypeId) : Bool := match P.underlying t with | some .string => true | _ => false
theorem isStr_eq (h : isStr P t = true) : P.underlying t = some .string := by
 unfold isStr at h; split at h
 ·assumption
 ·cases h
theorem wt_str {ds : List D} (h : WT P (k + 1) t ds) (ht : isStr P t = true) : ∃ s, ds = eS s ∧ s.length ≤ 9223372036854775807 := by
 unfold WT at h; rw [isStr_eq ht] at h; obtain ⟨s, h1, h2, _⟩ := h; exact ⟨s, h1, h2⟩
theorem argOk_one {c : AV} (h : ArgOk P k t c) (ht : ∀ fs, P.underlying t ≠ some (.struct fs)) (ht' : ∀ n e, P.underlying t ≠ some (.array n e)) : ∃ x, c = .d x ∧ WT P k t [x] := by
 unfold ArgOk at h
 split at h
 ·rename_i fs hf; exact absurd hf (ht fs)
 ·rename_i n e hf; exact absurd hf (ht' n e)
 ·exact h
theorem arg_str {c : AV} (h : ArgOk P (k + 1) t c) (ht : isStr P t = true) : ∃ s, c = .d (.str s) ∧ s.length ≤ 9223372036854775807 := by
 have hu := isStr_eq ht
 obtain ⟨x, rfl, hx⟩ := argOk_one h (fun fs => by rw [hu]; simp) (fun n e => by rw [hu]; simp)
 obtain ⟨n, hn, hi⟩ := wt_str hx ht
 exact ⟨n, by simp only [eS, List.cons.injEq, and_true] at hn; rw [hn], hi⟩
theorem lawOk_1 {t : TypeId} {g : List AV → Option (Prop × AV)} (h : ∀ a, ArgOk P k t a → ∃ p, g [a] = some (p, .d (.bool true)) ∧ p) : LawOk P k [t] g := by
 intro args hl ha
 match args, hl with
 | [a], _ => exact h a (ha 0 _ _ rfl rfl)
end
end Go.Vc
/- The rules of the walks, with their proofs as default arguments (printed by wip/gen/laws.py). -/
set_option linter.all false
namespace Go.Vc
open Go Go.RowKit
theorem dec_t [h : Decidable True] : @decide True h = true := decide_eq_true trivial
theorem dec_f [h : Decidable False] : @decide False h = false := decide_eq_false id
theorem nd_ {p : Prop} (h : p := by simp only [nd_rules, nd_slice, ev_rules, fr_rules, av_rules, eq_self, Nat.reduceEqDiff, reduceIte, and_true, true_and, map_rules, List.map_cons, List.map_nil]) : p := h
theorem sd_ {p : Prop} (h : p := by (first | trivial | omega | assumption | (unfold inI64; omega) | ((repeat' apply And.intro) <;> first | rfl | trivial | omega | assumption | (unfold inI64; omega)) | (simp; done) | (simp; omega))) : p := h
theorem hl_ {p : Prop} (h : p := by first | exact (fun h => Bool.noConfusion (show false = true from h)) | exact hle_refl _ _ _ _ _ | exact hle_getB _ _ _ _ (by simp only [le_rules, eq_self, and_true, true_and])) : p := h
theorem gt_ {p : Prop} (h : p := by first | (simp only [guard_rules, list_rules, opt_bind, fr_rules, eq_self, Nat.reduceEqDiff, reduceIte, bool_rules, hx]; done) | (simp only [guard_rules, list_rules, opt_bind, fr_rules, eq_self, Nat.reduceEqDiff, reduceIte, bool_rules, hx]; rfl)) : p := h
theorem gd_ {p : Prop} (h : p := by simp only [guard_rules, list_rules, opt_bind, fr_rules, eq_self, Nat.reduceEqDiff, reduceIte, bool_rules, hx]; rfl) : p := h
theorem so_ {p : Prop} (h : p := by (first | omega | (first | trivial | omega | assumption | (unfold inI64; omega) | ((repeat' apply And.intro) <;> first | rfl | trivial | omega | assumption | (unfold inI64; omega)) | (simp; done) | (simp; omega)))) : p := h
theorem sq_ {p : Prop} (h : p := by (first | exact True.intro | (unfold inI64; omega) | omega | (first | trivial | omega | assumption | (unfold inI64; omega) | ((repeat' apply And.intro) <;> first | rfl | trivial | omega | assumption | (unfold inI64; omega)) | (simp; done) | (simp; omega)))) : p := h
theorem si_ {b : Bool} {p : Prop} (h : b = true → p := by (intro hg; (try simp only [b_rules, bif_and, bif_or] at hg); (first | omega | (first | trivial | omega | assumption | (unfold inI64; omega) | ((repeat' apply And.intro) <;> first | rfl | trivial | omega | assumption | (unfold inI64; omega)) | (simp; done) | (simp; omega))))) : b = true → p := h
theorem cl_ {p : Prop} (h : p := by (repeat' apply And.intro) <;> (first | rfl | exact Or.inr rfl | exact Or.inl rfl | trivial | omega | assumption | (simp; done) | (simp; omega))) : p := h
theorem gq_ {b : Bool} {p q : Prop} (hq : b = true → q := by (intro hg; (try simp only [b_rules, bif_and, bif_or] at hg); (first | trivial | omega | assumption | (unfold inI64; omega) | ((repeat' apply And.intro) <;> first | rfl | trivial | omega | assumption | (unfold inI64; omega)) | (simp; done) | (simp; omega)))) (hn : b = true → p := by first | (simp only [nd_rules, nd_slice, ev_rules, fr_rules, av_rules, eq_self, Nat.reduceEqDiff, reduceIte, and_true, true_and, map_rules, List.map_cons, List.map_nil]; done) | (intro hg; simp only [nd_rules, nd_slice, ev_rules, fr_rules, av_rules, eq_self, Nat.reduceEqDiff, reduceIte, and_true, true_and, map_rules, List.map_cons, List.map_nil]; exact hg) | (intro hg; simp_all [nd_rules, nd_slice, ev_rules, fr_rules, av_rules, eq_self, Nat.reduceEqDiff, reduceIte, and_true, true_and, map_rules, List.map_cons, List.map_nil]; done) | (intro hg; (try simp only [b_rules, bif_and, bif_or] at hg); simp only [nd_rules, nd_slice, ev_rules, fr_rules, av_rules, eq_self, Nat.reduceEqDiff, reduceIte, and_true, true_and, map_rules, List.map_cons, List.map_nil]; (first | trivial | omega | assumption | (unfold inI64; omega) | ((repeat' apply And.intro) <;> first | rfl | trivial | omega | assumption | (unfold inI64; omega)) | (simp; done) | (simp; omega)))) : b = true → p ∧ q := fun h => ⟨hn h, hq h⟩
section
variable [Far] {P : Program} {E : Env P} {W0 : World} {M0 : Nat → Prop} {dr : Bool} {calm : List FuncId} {ops : Array Oper} {K : St → Prop} {o : Op} {d : Option Tmp} {t : TypeId} {p : String} {af : Array Edge} {r : List Oper} {fr : Nat → AV} {H H' : Heap} {n n' : Nat} {q : Prop} {c : AV} {b : Bool} {gd : Nat × Bool}
theorem lg_gx (hg : guardA ops fr (some gd) = some (some b)) (h : (b = false ∧ c = .any ∧ q = True) ∨ (aOp E fr H n o = .v q c ∧ (b = true → ndO fr o ∧ q))) (hk : AG W0 M0 dr calm E ops K r ⟨putD d (.cond b c) fr, H, n⟩) : AG W0 M0 dr calm E ops K (⟨d, o, t, p, af, some gd⟩ :: r) ⟨fr, H, n⟩ := by
 rcases h with ⟨rfl, rfl, -⟩ | ⟨h, hq⟩
 ·exact lg_g0 hg hk
 ·exact lg_gv hg h hq hk
theorem e_mv {a b : RS} (h : a = b := by simp only [op_rules, ev_rules, fr_rules, av_rules, rs_rules, eq_self, Nat.reduceEqDiff, reduceIte, bw]; rfl) : a = b := h
theorem u_mv (hk : AG W0 M0 dr calm E ops K r ⟨putD d c fr, H, n⟩) (h : aOp E fr H n o = .v q c := by exact e_mv) (hq : q := by exact sd_) (hn : ndO fr o := by exact nd_) : AG W0 M0 dr calm E ops K (⟨d, o, t, p, af, none⟩ :: r) ⟨fr, H, n⟩ := lg_v h hn hq hk
theorem g_mv (hk : AG W0 M0 dr calm E ops K r ⟨putD d (.cond b c) fr, H, n⟩) (hg : guardA ops fr (some gd) = some (some b) := by exact gd_) (h : (b = false ∧ c = .any ∧ q = True) ∨ (aOp E fr H n o = .v q c ∧ (b = true → ndO fr o ∧ q)) := by first | (with_reducible exact Or.inl ⟨rfl, rfl, rfl⟩) | (refine Or.inr ⟨?_, ?_⟩; (focus exact e_mv); exact gq_)) : AG W0 M0 dr calm E ops K (⟨d, o, t, p, af, some gd⟩ :: r) ⟨fr, H, n⟩ := lg_gx hg h hk
theorem s_mv (hk : AG W0 M0 dr calm E ops K r ⟨putD d (.cond b c) fr, H, n⟩) (hg : guardA ops fr (some gd) = some (some b) := by exact gd_) (h : aOp E fr H n o = .v q c := by exact e_mv) (hq : b = true → q) (hn : b = true → ndO fr o := by (refine fun hb => And.left (b := True) ?_; revert hb; exact gq_)) : AG W0 M0 dr calm E ops K (⟨d, o, t, p, af, some gd⟩ :: r) ⟨fr, H, n⟩ := lg_gv hg h (fun hb => ⟨hn hb, hq hb⟩) hk
theorem v_mv (hk : AG W0 M0 dr calm E ops K r ⟨putD d (.cond true c) fr, H, n⟩) (hg : guardA ops fr (some gd) = some (some true) := by exact gt_) (h : aOp E fr H n o = .v q c := by exact e_mv) (hn : ndO fr o := by exact nd_) (hq : q := by exact sd_) : AG W0 M0 dr calm E ops K (⟨d, o, t, p, af, some gd⟩ :: r) ⟨fr, H, n⟩ := lg_gv hg h (fun _ => ⟨hn, hq⟩) hk
theorem e_pk {a b : RS} (h : a = b := by simp only [op_rules, ev_rules, fr_rules, av_rules, rs_rules, eq_self, Nat.reduceEqDiff, reduceIte, bw, un_rules, bif_and, bif_or, bool_rules]; rfl) : a = b := h
theorem u_pk (hk : AG W0 M0 dr calm E ops K r ⟨putD d c fr, H, n⟩) (h : aOp E fr H n o = .v q c := by exact e_pk) (hq : q := by exact sd_) (hn : ndO fr o := by exact nd_) : AG W0 M0 dr calm E ops K (⟨d, o, t, p, af, none⟩ :: r) ⟨fr, H, n⟩ := lg_v h hn hq hk
theorem g_pk (hk : AG W0 M0 dr calm E ops K r ⟨putD d (.cond b c) fr, H, n⟩) (hg : guardA ops fr (some gd) = some (some b) := by exact gd_) (h : (b = false ∧ c = .any ∧ q = True) ∨ (aOp E fr H n o = .v q c ∧ (b = true → ndO fr o ∧ q)) := by first | (with_reducible exact Or.inl ⟨rfl, rfl, rfl⟩) | (refine Or.inr ⟨?_, ?_⟩; (focus exact e_pk); exact gq_)) : AG W0 M0 dr calm E ops K (⟨d, o, t, p, af, some gd⟩ :: r) ⟨fr, H, n⟩ := lg_gx hg h hk
theorem v_pk (hk : AG W0 M0 dr calm E ops K r ⟨putD d (.cond true c) fr, H, n⟩) (hg : guardA ops fr (some gd) = some (some true) := by exact gt_) (h : aOp E fr H n o = .v q c := by exact e_pk) (hn : ndO fr o := by exact nd_) (hq : q := by exact sd_) : AG W0 M0 dr calm E ops K (⟨d, o, t, p, af, some gd⟩ :: r) ⟨fr, H, n⟩ := lg_gv hg h (fun _ => ⟨hn, hq⟩) hk
theorem e_bn {a b : RS} (h : a = b := by simp only [op_rules, ev_rules, fr_rules, av_rules, rs_rules, eq_self, Nat.reduceEqDiff, reduceIte, bw, env_rules, tys, hT, tiAgg, bin_rules, ar_rules, str_rules, eq_rules, bit_rules, Bool.true_and, Bool.and_true, hx]; rfl) : a = b := h
theorem u_bn (hk : AG W0 M0 dr calm E ops K r ⟨putD d c fr, H, n⟩) (h : aOp E fr H n o = .v q c := by exact e_bn) (hq : q := by exact sd_) (hn : ndO fr o := by exact nd_) : AG W0 M0 dr calm E ops K (⟨d, o, t, p, af, none⟩ :: r) ⟨fr, H, n⟩ := lg_v h hn hq hk
theorem g_bn (hk : AG W0 M0 dr calm E ops K r ⟨putD d (.cond b c) fr, H, n⟩) (hg : guardA ops fr (some gd) = some (some b) := by exact gd_) (h : (b = false ∧ c = .any ∧ q = True) ∨ (aOp E fr H n o = .v q c ∧ (b = true → ndO fr o ∧ q)) := by first | (with_reducible exact Or.inl ⟨rfl, rfl, rfl⟩) | (refine Or.inr ⟨?_, ?_⟩; (focus exact e_bn); exact gq_)) : AG W0 M0 dr calm E ops K (⟨d, o, t, p, af, some gd⟩ :: r) ⟨fr, H, n⟩ := lg_gx hg h hk
theorem s_bn (hk : AG W0 M0 dr calm E ops K r ⟨putD d (.cond b c) fr, H, n⟩) (hg : guardA ops fr (some gd) = some (some b) := by exact gd_) (h : aOp E fr H n o = .v q c := by exact e_bn) (hq : b = true → q) (hn : b = true → ndO fr o := by (refine fun hb => And.left (b := True) ?_; revert hb; exact gq_)) : AG W0 M0 dr calm E ops K (⟨d, o, t, p, af, some gd⟩ :: r) ⟨fr, H, n⟩ := lg_gv hg h (fun hb => ⟨hn hb, hq hb⟩) hk
theorem v_bn (hk : AG W0 M0 dr calm E ops K r ⟨putD d (.cond true c) fr, H, n⟩) (hg : guardA ops fr (some gd) = some (some true) := by exact gt_) (h : aOp E fr H n o = .v q c := by exact e_bn) (hn : ndO fr o := by exact nd_) (hq : q := by exact sd_) : AG W0 M0 dr calm E ops K (⟨d, o, t, p, af, some gd⟩ :: r) ⟨fr, H, n⟩ := lg_gv hg h (fun _ => ⟨hn, hq⟩) hk
theorem e_un {a b : RS} (h : a = b := by simp only [op_rules, ev_rules, fr_rules, av_rules, rs_rules, eq_self, Nat.reduceEqDiff, reduceIte, bw, un_rules, ar_rules, Bool.not_not, hx]; rfl) : a = b := h
theorem u_un (hk : AG W0 M0 dr calm E ops K r ⟨putD d c fr, H, n⟩) (h : aOp E fr H n o = .v q c := by exact e_un) (hq : q := by exact sd_) (hn : ndO fr o := by exact nd_) : AG W0 M0 dr calm E ops K (⟨d, o, t, p, af, none⟩ :: r) ⟨fr, H, n⟩ := lg_v h hn hq hk
theorem g_un (hk : AG W0 M0 dr calm E ops K r ⟨putD d (.cond b c) fr, H, n⟩) (hg : guardA ops fr (some gd) = some (some b) := by exact gd_) (h : (b = false ∧ c = .any ∧ q = True) ∨ (aOp E fr H n o = .v q c ∧ (b = true → ndO fr o ∧ q)) := by first | (with_reducible exact Or.inl ⟨rfl, rfl, rfl⟩) | (refine Or.inr ⟨?_, ?_⟩; (focus exact e_un); exact gq_)) : AG W0 M0 dr calm E ops K (⟨d, o, t, p, af, some gd⟩ :: r) ⟨fr, H, n⟩ := lg_gx hg h hk
theorem v_un (hk : AG W0 M0 dr calm E ops K r ⟨putD d (.cond true c) fr, H, n⟩) (hg : guardA ops fr (some gd) = some (some true) := by exact gt_) (h : aOp E fr H n o = .v q c := by exact e_un) (hn : ndO fr o := by exact nd_) (hq : q := by exact sd_) : AG W0 M0 dr calm E ops K (⟨d, o, t, p, af, some gd⟩ :: r) ⟨fr, H, n⟩ := lg_gv hg h (fun _ => ⟨hn, hq⟩) hk
theorem e_nl {a b : RS} (h : a = b := by simp only [op_rules, ev_rules, fr_rules, av_rules, rs_rules, eq_self, Nat.reduceEqDiff, reduceIte, bw, aNil, hx]; rfl) : a = b := h
theorem u_nl (hk : AG W0 M0 dr calm E ops K r ⟨putD d c fr, H, n⟩) (h : aOp E fr H n o = .v q c := by exact e_nl) (hq : q := by exact sd_) (hn : ndO fr o := by exact nd_) : AG W0 M0 dr calm E ops K (⟨d, o, t, p, af, none⟩ :: r) ⟨fr, H, n⟩ := lg_v h hn hq hk
theorem v_nl (hk : AG W0 M0 dr calm E ops K r ⟨putD d (.cond true c) fr, H, n⟩) (hg : guardA ops fr (some gd) = some (some true) := by exact gt_) (h : aOp E fr H n o = .v q c := by exact e_nl) (hn : ndO fr o := by exact nd_) (hq : q := by exact sd_) : AG W0 M0 dr calm E ops K (⟨d, o, t, p, af, some gd⟩ :: r) ⟨fr, H, n⟩ := lg_gv hg h (fun _ => ⟨hn, hq⟩) hk
theorem e_cv {a b : RS} (h : a = b := by simp only [op_rules, ev_rules, fr_rules, av_rules, rs_rules, eq_self, Nat.reduceEqDiff, reduceIte, bw, env_rules, tys, hT, tiAgg, aConv, ar_rules, list_rules, opt_rules, map_rules, rows_get, rows_len, rows_drop, rows_take, rows_app, rows_nil, rows_set, Int.toNat_natCast, Int.reduceToNat, Nat.reduceAdd, Nat.reduceMul, Nat.reduceSub, Nat.reduceLeDiff, Nat.zero_add, Nat.add_zero, true_and, and_true, and_assoc, rect_eI, rect_eB, rect_eU, rect_eS, rect_eL, rect_nil, rect_cons, bytes_is, bytes_str, splice_rules, cell_rules, fill_rules, bnd_rules, or_false, false_or, not_true_eq_false, not_false_eq_true, hx]; rfl) : a = b := h
theorem u_cv (hk : AG W0 M0 dr calm E ops K r ⟨putD d c fr, H, n⟩) (h : aOp E fr H n o = .v q c := by exact e_cv) (hq : q := by exact sd_) (hn : ndO fr o := by exact nd_) : AG W0 M0 dr calm E ops K (⟨d, o, t, p, af, none⟩ :: r) ⟨fr, H, n⟩ := lg_v h hn hq hk
theorem e_ld {a b : RS} (h : a = b := by simp only [op_rules, ev_rules, fr_rules, av_rules, rs_rules, eq_self, Nat.reduceEqDiff, reduceIte, bw, op_rules2, aLoad, loadRow, env_rules, tys, hT, tiAgg, list_rules, opt_rules, map_rules, rows_get, rows_len, rows_drop, rows_take, rows_app, rows_nil, rows_set, Int.toNat_natCast, Int.reduceToNat, Nat.reduceAdd, Nat.reduceMul, Nat.reduceSub, Nat.reduceLeDiff, Nat.zero_add, Nat.add_zero, true_and, and_true, and_assoc, rect_eI, rect_eB, rect_eU, rect_eS, rect_eL, rect_nil, rect_cons, bytes_is, bytes_str, splice_rules, cell_rules, fill_rules, bnd_rules, or_false, false_or, not_true_eq_false, not_false_eq_true, hx]; rfl) : a = b := h
theorem u_ld (hk : AG W0 M0 dr calm E ops K r ⟨putD d c fr, H, n⟩) (h : aOp E fr H n o = .v q c := by exact e_ld) (hq : q := by exact sd_) (hn : ndO fr o := by exact nd_) : AG W0 M0 dr calm E ops K (⟨d, o, t, p, af, none⟩ :: r) ⟨fr, H, n⟩ := lg_v h hn hq hk
theorem g_ld (hk : AG W0 M0 dr calm E ops K r ⟨putD d (.cond b c) fr, H, n⟩) (hg : guardA ops fr (some gd) = some (some b) := by exact gd_) (h : (b = false ∧ c = .any ∧ q = True) ∨ (aOp E fr H n o = .v q c ∧ (b = true → ndO fr o ∧ q)) := by first | (with_reducible exact Or.inl ⟨rfl, rfl, rfl⟩) | (refine Or.inr ⟨?_, ?_⟩; (focus exact e_ld); exact gq_)) : AG W0 M0 dr calm E ops K (⟨d, o, t, p, af, some gd⟩ :: r) ⟨fr, H, n⟩ := lg_gx hg h hk
theorem s_ld (hk : AG W0 M0 dr calm E ops K r ⟨putD d (.cond b c) fr, H, n⟩) (hg : guardA ops fr (some gd) = some (some b) := by exact gd_) (h : aOp E fr H n o = .v q c := by exact e_ld) (hq : b = true → q) (hn : b = true → ndO fr o := by (refine fun hb => And.left (b := True) ?_; revert hb; exact gq_)) : AG W0 M0 dr calm E ops K (⟨d, o, t, p, af, some gd⟩ :: r) ⟨fr, H, n⟩ := lg_gv hg h (fun hb => ⟨hn hb, hq hb⟩) hk
theorem v_ld (hk : AG W0 M0 dr calm E ops K r ⟨putD d (.cond true c) fr, H, n⟩) (hg : guardA ops fr (some gd) = some (some true) := by exact gt_) (h : aOp E fr H n o = .v q c := by exact e_ld) (hn : ndO fr o := by exact nd_) (hq : q := by exact sd_) : AG W0 M0 dr calm E ops K (⟨d, o, t, p, af, some gd⟩ :: r) ⟨fr, H, n⟩ := lg_gv hg h (fun _ => ⟨hn, hq⟩) hk
theorem e_pt {a b : RS} (h : a = b := by simp only [op_rules, ev_rules, fr_rules, av_rules, rs_rules, eq_self, Nat.reduceEqDiff, reduceIte, bw, op_rules2, aFieldAddr, aField, aIndexAddr, aIndex, aPart, env_rules, tys, hT, tiAgg, list_rules, opt_rules, map_rules, rows_get, rows_len, rows_drop, rows_take, rows_app, rows_nil, rows_set, Int.toNat_natCast, Int.reduceToNat, Nat.reduceAdd, Nat.reduceMul, Nat.reduceSub, Nat.reduceLeDiff, Nat.zero_add, Nat.add_zero, true_and, and_true, and_assoc, rect_eI, rect_eB, rect_eU, rect_eS, rect_eL, rect_nil, rect_cons, bytes_is, bytes_str, splice_rules, cell_rules, fill_rules, bnd_rules, or_false, false_or, not_true_eq_false, not_false_eq_true, hx]; rfl) : a = b := h
theorem u_pt (hk : AG W0 M0 dr calm E ops K r ⟨putD d c fr, H, n⟩) (h : aOp E fr H n o = .v q c := by exact e_pt) (hq : q := by exact sd_) (hn : ndO fr o := by exact nd_) : AG W0 M0 dr calm E ops K (⟨d, o, t, p, af, none⟩ :: r) ⟨fr, H, n⟩ := lg_v h hn hq hk
theorem g_pt (hk : AG W0 M0 dr calm E ops K r ⟨putD d (.cond b c) fr, H, n⟩) (hg : guardA ops fr (some gd) = some (some b) := by exact gd_) (h : (b = false ∧ c = .any ∧ q = True) ∨ (aOp E fr H n o = .v q c ∧ (b = true → ndO fr o ∧ q)) := by first | (with_reducible exact Or.inl ⟨rfl, rfl, rfl⟩) | (refine Or.inr ⟨?_, ?_⟩; (focus exact e_pt); exact gq_)) : AG W0 M0 dr calm E ops K (⟨d, o, t, p, af, some gd⟩ :: r) ⟨fr, H, n⟩ := lg_gx hg h hk
theorem s_pt (hk : AG W0 M0 dr calm E ops K r ⟨putD d (.cond b c) fr, H, n⟩) (hg : guardA ops fr (some gd) = some (some b) := by exact gd_) (h : aOp E fr H n o = .v q c := by exact e_pt) (hq : b = true → q) (hn : b = true → ndO fr o := by (refine fun hb => And.left (b := True) ?_; revert hb; exact gq_)) : AG W0 M0 dr calm E ops K (⟨d, o, t, p, af, some gd⟩ :: r) ⟨fr, H, n⟩ := lg_gv hg h (fun hb => ⟨hn hb, hq hb⟩) hk
theorem v_pt (hk : AG W0 M0 dr calm E ops K r ⟨putD d (.cond true c) fr, H, n⟩) (hg : guardA ops fr (some gd) = some (some true) := by exact gt_) (h : aOp E fr H n o = .v q c := by exact e_pt) (hn : ndO fr o := by exact nd_) (hq : q := by exact sd_) : AG W0 M0 dr calm E ops K (⟨d, o, t, p, af, some gd⟩ :: r) ⟨fr, H, n⟩ := lg_gv hg h (fun _ => ⟨hn, hq⟩) hk
theorem e_sl {a b : RS} (h : a = b := by simp only [op_rules, ev_rules, fr_rules, av_rules, rs_rules, eq_self, Nat.reduceEqDiff, reduceIte, bw, op_rules2, aSlice, env_rules, tys, hT, tiAgg, list_rules, opt_rules, map_rules, rows_get, rows_len, rows_drop, rows_take, rows_app, rows_nil, rows_set, Int.toNat_natCast, Int.reduceToNat, Nat.reduceAdd, Nat.reduceMul, Nat.reduceSub, Nat.reduceLeDiff, Nat.zero_add, Nat.add_zero, true_and, and_true, and_assoc, rect_eI, rect_eB, rect_eU, rect_eS, rect_eL, rect_nil, rect_cons, bytes_is, bytes_str, splice_rules, cell_rules, fill_rules, bnd_rules, or_false, false_or, not_true_eq_false, not_false_eq_true, hx]; rfl) : a = b := h
theorem u_sl (hk : AG W0 M0 dr calm E ops K r ⟨putD d c fr, H, n⟩) (h : aOp E fr H n o = .v q c := by exact e_sl) (hq : q := by exact sd_) (hn : ndO fr o := by exact nd_) : AG W0 M0 dr calm E ops K (⟨d, o, t, p, af, none⟩ :: r) ⟨fr, H, n⟩ := lg_v h hn hq hk
theorem e_ex {a b : RS} (h : a = b := by simp only [op_rules, ev_rules, fr_rules, av_rules, rs_rules, eq_self, Nat.reduceEqDiff, reduceIte, bw, op_rules2, aExtract, list_rules, hx]; rfl) : a = b := h
theorem u_ex (hk : AG W0 M0 dr calm E ops K r ⟨putD d c fr, H, n⟩) (h : aOp E fr H n o = .v q c := by exact e_ex) (hq : q := by exact sd_) (hn : ndO fr o := by exact nd_) : AG W0 M0 dr calm E ops K (⟨d, o, t, p, af, none⟩ :: r) ⟨fr, H, n⟩ := lg_v h hn hq hk
theorem e_bd {a b : RS} (h : a = b := by simp only [op_rules, ev_rules, fr_rules, av_rules, rs_rules, eq_self, Nat.reduceEqDiff, reduceIte, bw, op_rules2, aBuild, env_rules, tys, hT, tiAgg, list_rules, opt_rules, map_rules, rows_get, rows_len, rows_drop, rows_take, rows_app, rows_nil, rows_set, Int.toNat_natCast, Int.reduceToNat, Nat.reduceAdd, Nat.reduceMul, Nat.reduceSub, Nat.reduceLeDiff, Nat.zero_add, Nat.add_zero, true_and, and_true, and_assoc, rect_eI, rect_eB, rect_eU, rect_eS, rect_eL, rect_nil, rect_cons, bytes_is, bytes_str, splice_rules, cell_rules, fill_rules, bnd_rules, or_false, false_or, not_true_eq_false, not_false_eq_true, hx]; rfl) : a = b := h
theorem u_bd (hk : AG W0 M0 dr calm E ops K r ⟨putD d c fr, H, n⟩) (h : aOp E fr H n o = .v q c := by exact e_bd) (hq : q := by exact sd_) (hn : ndO fr o := by exact nd_) : AG W0 M0 dr calm E ops K (⟨d, o, t, p, af, none⟩ :: r) ⟨fr, H, n⟩ := lg_v h hn hq hk
theorem e_ln {a b : RS} (h : a = b := by simp only [op_rules, ev_rules, fr_rules, av_rules, rs_rules, eq_self, Nat.reduceEqDiff, reduceIte, bw, op_rules2, aLen, env_rules, tys, hT, tiAgg, list_rules, opt_rules, map_rules, rows_get, rows_len, rows_drop, rows_take, rows_app, rows_nil, rows_set, Int.toNat_natCast, Int.reduceToNat, Nat.reduceAdd, Nat.reduceMul, Nat.reduceSub, Nat.reduceLeDiff, Nat.zero_add, Nat.add_zero, true_and, and_true, and_assoc, rect_eI, rect_eB, rect_eU, rect_eS, rect_eL, rect_nil, rect_cons, bytes_is, bytes_str, splice_rules, cell_rules, fill_rules, bnd_rules, or_false, false_or, not_true_eq_false, not_false_eq_true, hx]; rfl) : a = b := h
theorem u_ln (hk : AG W0 M0 dr calm E ops K r ⟨putD d c fr, H, n⟩) (h : aOp E fr H n o = .v q c := by exact e_ln) (hq : q := by exact sd_) (hn : ndO fr o := by exact nd_) : AG W0 M0 dr calm E ops K (⟨d, o, t, p, af, none⟩ :: r) ⟨fr, H, n⟩ := lg_v h hn hq hk
theorem g_ln (hk : AG W0 M0 dr calm E ops K r ⟨putD d (.cond b c) fr, H, n⟩) (hg : guardA ops fr (some gd) = some (some b) := by exact gd_) (h : (b = false ∧ c = .any ∧ q = True) ∨ (aOp E fr H n o = .v q c ∧ (b = true → ndO fr o ∧ q)) := by first | (with_reducible exact Or.inl ⟨rfl, rfl, rfl⟩) | (refine Or.inr ⟨?_, ?_⟩; (focus exact e_ln); exact gq_)) : AG W0 M0 dr calm E ops K (⟨d, o, t, p, af, some gd⟩ :: r) ⟨fr, H, n⟩ := lg_gx hg h hk
theorem v_ln (hk : AG W0 M0 dr calm E ops K r ⟨putD d (.cond true c) fr, H, n⟩) (hg : guardA ops fr (some gd) = some (some true) := by exact gt_) (h : aOp E fr H n o = .v q c := by exact e_ln) (hn : ndO fr o := by exact nd_) (hq : q := by exact sd_) : AG W0 M0 dr calm E ops K (⟨d, o, t, p, af, some gd⟩ :: r) ⟨fr, H, n⟩ := lg_gv hg h (fun _ => ⟨hn, hq⟩) hk
theorem e_cp {a b : RS} (h : a = b := by simp only [hc, op_rules, ev_rules, fr_rules, av_rules, rs_rules, eq_self, Nat.reduceEqDiff, reduceIte, bw, callS, rd_rules, pureL, cleanD, pure_rules, hs, sc_rules, heap_rules, list_rules, opt_rules, map_rules, rows_get, rows_len, rows_drop, rows_take, rows_app, rows_nil, rows_set, Int.toNat_natCast, Int.reduceToNat, Nat.reduceAdd, Nat.reduceMul, Nat.reduceSub, Nat.reduceLeDiff, Nat.zero_add, Nat.add_zero, true_and, and_true, and_assoc, rect_eI, rect_eB, rect_eU, rect_eS, rect_eL, rect_nil, rect_cons, bytes_is, bytes_str, splice_rules, cell_rules, fill_rules, bnd_rules, or_false, false_or, not_true_eq_false, not_false_eq_true, List.mem_cons, List.not_mem_nil, dI_rows, dB_rows, dU_rows, hx]; rfl) : a = b := h
theorem u_cp (hk : AG W0 M0 dr calm E ops K r ⟨putD d c fr, H, n⟩) (h : aOp E fr H n o = .v q c := by exact e_cp) (hq : q := by exact sd_) (hn : ndO fr o := by exact nd_) : AG W0 M0 dr calm E ops K (⟨d, o, t, p, af, none⟩ :: r) ⟨fr, H, n⟩ := lg_v h hn hq hk
theorem g_cp (hk : AG W0 M0 dr calm E ops K r ⟨putD d (.cond b c) fr, H, n⟩) (hg : guardA ops fr (some gd) = some (some b) := by exact gd_) (h : (b = false ∧ c = .any ∧ q = True) ∨ (aOp E fr H n o = .v q c ∧ (b = true → ndO fr o ∧ q)) := by first | (with_reducible exact Or.inl ⟨rfl, rfl, rfl⟩) | (refine Or.inr ⟨?_, ?_⟩; (focus exact e_cp); exact gq_)) : AG W0 M0 dr calm E ops K (⟨d, o, t, p, af, some gd⟩ :: r) ⟨fr, H, n⟩ := lg_gx hg h hk
theorem s_cp (hk : AG W0 M0 dr calm E ops K r ⟨putD d (.cond b c) fr, H, n⟩) (hg : guardA ops fr (some gd) = some (some b) := by exact gd_) (h : aOp E fr H n o = .v q c := by exact e_cp) (hq : b = true → q) (hn : b = true → ndO fr o := by (refine fun hb => And.left (b := True) ?_; revert hb; exact gq_)) : AG W0 M0 dr calm E ops K (⟨d, o, t, p, af, some gd⟩ :: r) ⟨fr, H, n⟩ := lg_gv hg h (fun hb => ⟨hn hb, hq hb⟩) hk
theorem v_cp (hk : AG W0 M0 dr calm E ops K r ⟨putD d (.cond true c) fr, H, n⟩) (hg : guardA ops fr (some gd) = some (some true) := by exact gt_) (h : aOp E fr H n o = .v q c := by exact e_cp) (hn : ndO fr o := by exact nd_) (hq : q := by exact sd_) : AG W0 M0 dr calm E ops K (⟨d, o, t, p, af, some gd⟩ :: r) ⟨fr, H, n⟩ := lg_gv hg h (fun _ => ⟨hn, hq⟩) hk
theorem e_kp {a b : RS} (h : a = b := by simp only [call_clo, op_rules, ev_rules, fr_rules, av_rules, rs_rules, eq_self, Nat.reduceEqDiff, reduceIte, bw, callS, rd_rules, pureL, cleanD, pure_rules, hs, sc_rules, heap_rules, hc, list_rules, opt_rules, map_rules, rows_get, rows_len, rows_drop, rows_take, rows_app, rows_nil, rows_set, Int.toNat_natCast, Int.reduceToNat, Nat.reduceAdd, Nat.reduceMul, Nat.reduceSub, Nat.reduceLeDiff, Nat.zero_add, Nat.add_zero, true_and, and_true, and_assoc, rect_eI, rect_eB, rect_eU, rect_eS, rect_eL, rect_nil, rect_cons, bytes_is, bytes_str, splice_rules, cell_rules, fill_rules, bnd_rules, or_false, false_or, not_true_eq_false, not_false_eq_true, List.mem_cons, List.not_mem_nil, dI_rows, dB_rows, dU_rows, hx]; rfl) : a = b := h
theorem u_kp (hk : AG W0 M0 dr calm E ops K r ⟨putD d c fr, H, n⟩) (h : aOp E fr H n o = .v q c := by exact e_kp) (hq : q := by exact sd_) (hn : ndO fr o := by exact nd_) : AG W0 M0 dr calm E ops K (⟨d, o, t, p, af, none⟩ :: r) ⟨fr, H, n⟩ := lg_v h hn hq hk
theorem g_kp (hk : AG W0 M0 dr calm E ops K r ⟨putD d (.cond b c) fr, H, n⟩) (hg : guardA ops fr (some gd) = some (some b) := by exact gd_) (h : (b = false ∧ c = .any ∧ q = True) ∨ (aOp E fr H n o = .v q c ∧ (b = true → ndO fr o ∧ q)) := by first | (with_reducible exact Or.inl ⟨rfl, rfl, rfl⟩) | (refine Or.inr ⟨?_, ?_⟩; (focus exact e_kp); exact gq_)) : AG W0 M0 dr calm E ops K (⟨d, o, t, p, af, some gd⟩ :: r) ⟨fr, H, n⟩ := lg_gx hg h hk
theorem e_al {a b : RS} (h : a = b := by simp only [op_rules, ev_rules, fr_rules, av_rules, rs_rules, eq_self, Nat.reduceEqDiff, reduceIte, bw, aAlloc, env_rules, tys, hT, tiAgg, list_rules, opt_rules, map_rules, rows_get, rows_len, rows_drop, rows_take, rows_app, rows_nil, rows_set, Int.toNat_natCast, Int.reduceToNat, Nat.reduceAdd, Nat.reduceMul, Nat.reduceSub, Nat.reduceLeDiff, Nat.zero_add, Nat.add_zero, true_and, and_true, and_assoc, rect_eI, rect_eB, rect_eU, rect_eS, rect_eL, rect_nil, rect_cons, bytes_is, bytes_str, splice_rules, cell_rules, fill_rules, bnd_rules, or_false, false_or, not_true_eq_false, not_false_eq_true, hx]; rfl) : a = b := h
theorem u_al (hk : AG W0 M0 dr calm E ops K r ⟨putD d c fr, H', n'⟩) (h : aOp E fr H n o = .h q c H' n' := by exact e_al) (hq : q := by exact sd_) (hn : ndO fr o := by exact nd_) (hl : (dr && growB calm d o) = true → HLe H H' := by exact hl_) : AG W0 M0 dr calm E ops K (⟨d, o, t, p, af, none⟩ :: r) ⟨fr, H, n⟩ := lg_h h hn hq hl hk
theorem e_bx {a b : RS} (h : a = b := by simp only [op_rules, ev_rules, fr_rules, av_rules, rs_rules, eq_self, Nat.reduceEqDiff, reduceIte, bw, aBox, list_rules, opt_rules, map_rules, rows_get, rows_len, rows_drop, rows_take, rows_app, rows_nil, rows_set, Int.toNat_natCast, Int.reduceToNat, Nat.reduceAdd, Nat.reduceMul, Nat.reduceSub, Nat.reduceLeDiff, Nat.zero_add, Nat.add_zero, true_and, and_true, and_assoc, rect_eI, rect_eB, rect_eU, rect_eS, rect_eL, rect_nil, rect_cons, bytes_is, bytes_str, splice_rules, cell_rules, fill_rules, bnd_rules, or_false, false_or, not_true_eq_false, not_false_eq_true, hx]; rfl) : a = b := h
theorem u_bx (hk : AG W0 M0 dr calm E ops K r ⟨putD d c fr, H', n'⟩) (h : aOp E fr H n o = .h q c H' n' := by exact e_bx) (hq : q := by exact sd_) (hn : ndO fr o := by exact nd_) (hl : (dr && growB calm d o) = true → HLe H H' := by exact hl_) : AG W0 M0 dr calm E ops K (⟨d, o, t, p, af, none⟩ :: r) ⟨fr, H, n⟩ := lg_h h hn hq hl hk
theorem e_bs {a b : RS} (h : a = b := by simp only [op_rules, ev_rules, fr_rules, av_rules, rs_rules, eq_self, Nat.reduceEqDiff, reduceIte, bw, aBuildSlice, env_rules, tys, hT, tiAgg, list_rules, opt_rules, map_rules, rows_get, rows_len, rows_drop, rows_take, rows_app, rows_nil, rows_set, Int.toNat_natCast, Int.reduceToNat, Nat.reduceAdd, Nat.reduceMul, Nat.reduceSub, Nat.reduceLeDiff, Nat.zero_add, Nat.add_zero, true_and, and_true, and_assoc, rect_eI, rect_eB, rect_eU, rect_eS, rect_eL, rect_nil, rect_cons, bytes_is, bytes_str, splice_rules, cell_rules, fill_rules, bnd_rules, or_false, false_or, not_true_eq_false, not_false_eq_true, hx]; rfl) : a = b := h
theorem u_bs (hk : AG W0 M0 dr calm E ops K r ⟨putD d c fr, H', n'⟩) (h : aOp E fr H n o = .h q c H' n' := by exact e_bs) (hq : q := by exact sd_) (hn : ndO fr o := by exact nd_) (hl : (dr && growB calm d o) = true → HLe H H' := by exact hl_) : AG W0 M0 dr calm E ops K (⟨d, o, t, p, af, none⟩ :: r) ⟨fr, H, n⟩ := lg_h h hn hq hl hk
theorem e_ms {a b : RS} (h : a = b := by simp only [op_rules, ev_rules, fr_rules, av_rules, rs_rules, eq_self, Nat.reduceEqDiff, reduceIte, bw, aMake, env_rules, tys, hT, tiAgg, list_rules, opt_rules, map_rules, rows_get, rows_len, rows_drop, rows_take, rows_app, rows_nil, rows_set, Int.toNat_natCast, Int.reduceToNat, Nat.reduceAdd, Nat.reduceMul, Nat.reduceSub, Nat.reduceLeDiff, Nat.zero_add, Nat.add_zero, true_and, and_true, and_assoc, rect_eI, rect_eB, rect_eU, rect_eS, rect_eL, rect_nil, rect_cons, bytes_is, bytes_str, splice_rules, cell_rules, fill_rules, bnd_rules, or_false, false_or, not_true_eq_false, not_false_eq_true, hx]; rfl) : a = b := h
theorem u_ms (hk : AG W0 M0 dr calm E ops K r ⟨putD d c fr, H', n'⟩) (h : aOp E fr H n o = .h q c H' n' := by exact e_ms) (hq : q := by exact sd_) (hn : ndO fr o := by exact nd_) (hl : (dr && growB calm d o) = true → HLe H H' := by exact hl_) : AG W0 M0 dr calm E ops K (⟨d, o, t, p, af, none⟩ :: r) ⟨fr, H, n⟩ := lg_h h hn hq hl hk
theorem e_st {a b : RS} (h : a = b := by simp only [op_rules, ev_rules, fr_rules, av_rules, rs_rules, eq_self, Nat.reduceEqDiff, reduceIte, bw, aStore, env_rules, tys, hT, tiAgg, list_rules, opt_rules, map_rules, rows_get, rows_len, rows_drop, rows_take, rows_app, rows_nil, rows_set, Int.toNat_natCast, Int.reduceToNat, Nat.reduceAdd, Nat.reduceMul, Nat.reduceSub, Nat.reduceLeDiff, Nat.zero_add, Nat.add_zero, true_and, and_true, and_assoc, rect_eI, rect_eB, rect_eU, rect_eS, rect_eL, rect_nil, rect_cons, bytes_is, bytes_str, splice_rules, cell_rules, fill_rules, bnd_rules, or_false, false_or, not_true_eq_false, not_false_eq_true, hx]; rfl) : a = b := h
theorem u_st (hk : AG W0 M0 dr calm E ops K r ⟨putD d c fr, H', n'⟩) (h : aOp E fr H n o = .h q c H' n' := by exact e_st) (hq : q := by exact sd_) (hn : ndO fr o := by exact nd_) (hl : (dr && growB calm d o) = true → HLe H H' := by exact hl_) : AG W0 M0 dr calm E ops K (⟨d, o, t, p, af, none⟩ :: r) ⟨fr, H, n⟩ := lg_h h hn hq hl hk
theorem e_ap {a b : RS} (h : a = b := by simp only [op_rules, ev_rules, fr_rules, av_rules, rs_rules, eq_self, Nat.reduceEqDiff, reduceIte, bw, aAppend, rowsSrc, or_self, env_rules, tys, hT, tiAgg, list_rules, opt_rules, map_rules, rows_get, rows_len, rows_drop, rows_take, rows_app, rows_nil, rows_set, Int.toNat_natCast, Int.reduceToNat, Nat.reduceAdd, Nat.reduceMul, Nat.reduceSub, Nat.reduceLeDiff, Nat.zero_add, Nat.add_zero, true_and, and_true, and_assoc, rect_eI, rect_eB, rect_eU, rect_eS, rect_eL, rect_nil, rect_cons, bytes_is, bytes_str, splice_rules, cell_rules, fill_rules, bnd_rules, or_false, false_or, not_true_eq_false, not_false_eq_true, hx]; rfl) : a = b := h
theorem u_ap (hk : AG W0 M0 dr calm E ops K r ⟨putD d c fr, H', n'⟩) (h : aOp E fr H n o = .h q c H' n' := by exact e_ap) (hq : q := by exact sd_) (hn : ndO fr o := by exact nd_) (hl : (dr && growB calm d o) = true → HLe H H' := by exact hl_) : AG W0 M0 dr calm E ops K (⟨d, o, t, p, af, none⟩ :: r) ⟨fr, H, n⟩ := lg_h h hn hq hl hk
theorem e_hp {a b : RS} (h : a = b := by simp only [hc, op_rules, ev_rules, fr_rules, av_rules, rs_rules, eq_self, Nat.reduceEqDiff, reduceIte, bw, callS, rd_rules, pureL, cleanD, pure_rules, hs, sc_rules, heap_rules, list_rules, opt_rules, map_rules, rows_get, rows_len, rows_drop, rows_take, rows_app, rows_nil, rows_set, Int.toNat_natCast, Int.reduceToNat, Nat.reduceAdd, Nat.reduceMul, Nat.reduceSub, Nat.reduceLeDiff, Nat.zero_add, Nat.add_zero, true_and, and_true, and_assoc, rect_eI, rect_eB, rect_eU, rect_eS, rect_eL, rect_nil, rect_cons, bytes_is, bytes_str, splice_rules, cell_rules, fill_rules, bnd_rules, or_false, false_or, not_true_eq_false, not_false_eq_true, List.mem_cons, List.not_mem_nil, dI_rows, dB_rows, dU_rows, hx]; rfl) : a = b := h
theorem u_hp (hk : AG W0 M0 dr calm E ops K r ⟨putD d c fr, H', n'⟩) (h : aOp E fr H n o = .h q c H' n' := by exact e_hp) (hq : q := by exact sd_) (hn : ndO fr o := by exact nd_) (hl : (dr && growB calm d o) = true → HLe H H' := by exact hl_) : AG W0 M0 dr calm E ops K (⟨d, o, t, p, af, none⟩ :: r) ⟨fr, H, n⟩ := lg_h h hn hq hl hk
theorem e_hg {a b : RS} (h : a = b := by simp only [hc, op_rules, ev_rules, fr_rules, av_rules, rs_rules, eq_self, Nat.reduceEqDiff, reduceIte, bw, callS, rd_rules, pureL, cleanD, pure_rules, hs, sc_rules, heap_rules, list_rules, opt_rules, map_rules, rows_get, rows_len, rows_drop, rows_take, rows_app, rows_nil, rows_set, Int.toNat_natCast, Int.reduceToNat, Nat.reduceAdd, Nat.reduceMul, Nat.reduceSub, Nat.reduceLeDiff, Nat.zero_add, Nat.add_zero, true_and, and_true, and_assoc, rect_eI, rect_eB, rect_eU, rect_eS, rect_eL, rect_nil, rect_cons, bytes_is, bytes_str, splice_rules, cell_rules, fill_rules, bnd_rules, or_false, false_or, not_true_eq_false, not_false_eq_true, List.mem_cons, List.not_mem_nil, dI_rows, dB_rows, dU_rows, hx, gen_rules, gw, gen_heap, gen_heap0, allSome, Nat.reduceAdd, Nat.reduceSub, Nat.reduceLT, Nat.reduceLeDiff, if_true, if_false, ite_self, List.mem_append, true_implies, Option.bind_some]; rfl) : a = b := h
theorem u_hg (hk : AG W0 M0 dr calm E ops K r ⟨putD d c fr, H', n'⟩) (h : aOp E fr H n o = .h q c H' n' := by exact e_hg) (hq : q := by exact sd_) (hn : ndO fr o := by exact nd_) (hl : (dr && growB calm d o) = true → HLe H H' := by exact hl_) : AG W0 M0 dr calm E ops K (⟨d, o, t, p, af, none⟩ :: r) ⟨fr, H, n⟩ := lg_h h hn hq hl hk
theorem t_bs (hk : AG W0 M0 dr calm E ops K r ⟨putD d c fr, H', n'⟩) (h : aOp E fr H n o = .h q c H' n' := by exact e_bs) (hg : guardA ops fr (some gd) = some (some true) := by exact gt_) (hq : q := by exact sd_) (hn : ndO fr o := by exact nd_) (hl : (dr && growB calm d o) = true → HLe H H' := by exact hl_) : AG W0 M0 dr calm E ops K (⟨d, o, t, p, af, some gd⟩ :: r) ⟨fr, H, n⟩ := lg_gh hg h (fun _ => ⟨hn, hq⟩) hl (fun _ => hk) (fun h => Bool.noConfusion h)
theorem u_reg {id : Nat} {l : List Oper} {draw : Bool} {st : St} {K : Exit → St → Prop} (h : AG W0 M0 draw [] E l.toArray (K .normal) l st) (hm : P.follows .mixedOrders = true := by exact hmix) (hok : okRegG [] E.N draw l.toArray = true := by kernel_rfl) : VC E W0 M0 (.region id l.toArray draw) st K := vc_regG [] hm hok h
theorem u_cond {v : Operand} {x y : Code} {st : St} {K : Exit → St → Prop} {b : Bool} {p q : Prop} (h1 : p → VC E W0 M0 x st K) (h2 : q → VC E W0 M0 y st K) (hb : evO st.fr v = .d (.bool b) := by simp only [w1, w3, eq_self, Nat.reduceEqDiff, reduceIte]; rfl) (e1 : (b = true) = p := by first | (simp only [b_rules, bif_and, bif_or]; rfl) | rfl) (e2 : (b = false) = q := by first | (simp only [b_rules, bif_and, bif_or]; rfl) | rfl) : VC E W0 M0 (.cond v x y) st K := vc_cond_k hb (fun h => h1 (e1 ▸ h)) (fun h => h2 (e2 ▸ h))
end
theorem fin_ {p q : Prop} (h : q) (e : p = q := by first | (simp only [w1, w2, w3, w4, tys, k_rules, eq_self, Nat.reduceEqDiff, Nat.reduceLeDiff, Nat.reduceAdd, Nat.reduceSub, Nat.reduceMul, Int.toNat_natCast, Int.reduceToNat, Int.reduceNeg, List.mem_cons, List.not_mem_nil, or_false, false_or, not_true_eq_false, not_false_eq_true, bif_and, bif_or, reduceIte, true_and, and_true, and_assoc, true_implies, forall_const, implies_true, Bool.true_eq_false, Bool.false_eq_true, false_implies, rows_len, rows_get, rows_drop, rows_take, rows_app, rows_nil, rect_nil, rect_eI, rect_eB, rect_eU, rect_eS, rect_eL, reduceCtorEq, or_true, true_or, hx, hT]; rfl) | rfl) : p := e ▸ h
theorem fin2_ {p q : Prop} (h : q) (e : p = q := by first | (simp only [w1, w2, w3, w4, tys, k_rules, eq_self, Nat.reduceEqDiff, Nat.reduceLeDiff, Nat.reduceAdd, Nat.reduceSub, Nat.reduceMul, Int.toNat_natCast, Int.reduceToNat, Int.reduceNeg, List.mem_cons, List.not_mem_nil, or_false, false_or, not_true_eq_false, not_false_eq_true, bif_and, bif_or, reduceIte, true_and, and_true, and_assoc, true_implies, forall_const, implies_true, Bool.true_eq_false, Bool.false_eq_true, false_implies, rows_len, rows_get, rows_drop, rows_take, rows_app, rows_nil, rect_nil, rect_eI, rect_eB, rect_eU, rect_eS, rect_eL, reduceCtorEq, or_true, true_or, hx, hT]; (try simp only [w1, w2, w3, w4, tys, k_rules, eq_self, Nat.reduceEqDiff, Nat.reduceLeDiff, Nat.reduceAdd, Nat.reduceSub, Nat.reduceMul, Int.toNat_natCast, Int.reduceToNat, Int.reduceNeg, List.mem_cons, List.not_mem_nil, or_false, false_or, not_true_eq_false, not_false_eq_true, bif_and, bif_or, reduceIte, true_and, and_true, and_assoc, true_implies, forall_const, implies_true, Bool.true_eq_false, Bool.false_eq_true, false_implies, rows_len, rows_get, rows_drop, rows_take, rows_app, rows_nil, rect_nil, rect_eI, rect_eB, rect_eU, rect_eS, rect_eL, reduceCtorEq, or_true, true_or, hx, hT]); rfl) | rfl) : p := e ▸ h
end Go.Vc
/- The Vc layer: regions taken in several orders: where two operations may come first, both are shown. -/
set_option linter.all false
namespace Go.Vc
open Go Go.RowKit
inductive Tree where
 | nil
 | seq (is : List Nat) (t : Tree)
 | alt (i : Nat) (a : Tree) (r : Tree)
def heads : Tree → List Nat
 | .alt i _ r => i :: heads r
 | _ => []
def okSeq (calm : List FuncId) (ops : Array Oper) : List Nat → Array Bool → Option (Array Bool)
 | [], l => some l
 | i :: r, l => if decide (i < ops.size) && (firstG calm .any ops l i || Region.ready .any ops l == [i]) then okSeq calm ops r (l.setIfInBounds i true) else none
def okT (calm : List FuncId) (ops : Array Oper) : Bool → Tree → Nat → Array Bool → Bool
 | c, .nil, n, l => c || (n == 0 && (Region.ready .any ops l).isEmpty)
 | c, .seq is t, n, l => !c && match okSeq calm ops is l with
  | some l' => decide (is.length ≤ n) && okT calm ops false t (n - is.length) l'
  | none => false
 | c, .alt i a r, n, l => (c || Region.ready .any ops l == i :: heads r) && decide (i < ops.size) && decide (0 < n) && okT calm ops false a (n - 1) (l.setIfInBounds i true) && okT calm ops true r n l
def okRegT (calm : List FuncId) (N : Nat) (t : Tree) (ops : Array Oper) : Bool :=
 ops.all (fun o => match o.dst with | some d => decide (d < N) | none => true) && okT calm ops false t ops.size (Array.replicate ops.size false)
section
variable [Far] {P : Program} {E : Env P} {W0 : World} {M0 : Nat → Prop}
def AT (W0 : World) (M0 : Nat → Prop) (calm : List FuncId) (E : Env P) (ops : List Oper) (K : St → Prop) : Bool → Tree → St → Prop
 | c, .nil, st => c = true ∨ K st
 | _, .seq is t, st => AG W0 M0 true calm E ops.toArray (AT W0 M0 calm E ops K false t) (pickL ops is) st
 | _, .alt i a r, st => AG W0 M0 true calm E ops.toArray (AT W0 M0 calm E ops K false a) (pickL ops [i]) st ∧ AT W0 M0 calm E ops K true r st
theorem AAnyG_one {calm : List FuncId} {ops : List Oper} {K N : St → Prop} {i : Nat} {o : Oper} {l : Array Bool} {n : Nat} {st : St} (ho : ops[i]? = some o) (hf : firstG calm .any ops.toArray l i = true ∨ Region.ready .any ops.toArray l = [i])
  (h' : stepG W0 M0 true calm E ops.toArray o st N) (next : ∀ st, N st → AAnyG W0 M0 calm E .any ops.toArray K n (l.setIfInBounds i true) st) : AAnyG W0 M0 calm E .any ops.toArray K (n + 1) l st := by
 have ho' : ops.toArray[i]? = some o := by simpa using ho
 rcases hf with hf | hone
 ·simp only [firstG, ho', Bool.and_eq_true] at hf
  obtain ⟨⟨ht, hrd⟩, ⟨⟨hiW, hWl⟩, hWa⟩, hfree⟩ := hf
  obtain ⟨c, hv, hK⟩ := stepG_take ht h'
  generalize waitsFor .any ops.toArray l i = W at *
  refine AAnyG_first ho' ht W (by simpa using hiW) n l st (fun j hj => ?_) (fun j hj hne oj hoj => ?_) (fun j oj hoj hjW hun => ?_) (by simpa using hrd) hv (next _ hK)
  ·have := List.all_eq_true.1 hWl j hj
   simpa using this
  ·have := List.all_eq_true.1 hWa j hj
   simp only [hoj, Bool.or_eq_true, beq_iff_eq, hne, false_or] at this
   obtain ⟨e, he, hb⟩ := Array.any_eq_true'.1 this
   simp only [Bool.and_eq_true] at hb
   exact ⟨e, he, hb.1, by simpa using hb.2⟩
  ·have := List.all_eq_true.1 hfree j (List.mem_range.2 (Array.getElem?_eq_some_iff.1 hoj).1)
   simp only [hoj, Bool.or_eq_true, Bool.and_eq_true, hun, Bool.false_eq_true, or_false] at this
   rcases this with h1 | h1
   ·exact absurd (by simpa using h1) hjW
   ·exact ⟨h1.1, h1.2⟩
 ·refine ⟨fun h0 => absurd (hone.symm.trans h0) (by simp), fun j hj oj hoj => ?_⟩
  rw [hone] at hj
  simp only [List.mem_singleton] at hj
  subst hj
  rw [ho'] at hoj; cases hoj
  exact stepG_mono next h'
theorem pickL_get {ops : List Oper} {i : Nat} {o : Oper} (h : ops[i]? = some o) (r : List Nat) : pickL ops (i :: r) = o :: pickL ops r := by rw [pickL, h]
theorem AAnyG_seq {calm : List FuncId} {ops : List Oper} {K N : St → Prop} : ∀ (is : List Nat) (l l' : Array Bool) (n : Nat) (st : St), okSeq calm ops.toArray is l = some l' → AG W0 M0 true calm E ops.toArray N (pickL ops is) st →
  (∀ st, N st → AAnyG W0 M0 calm E .any ops.toArray K n l' st) → AAnyG W0 M0 calm E .any ops.toArray K (n + is.length) l st := by
 intro is
 induction is with
 | nil => intro l l' n st hok h hn; simp only [okSeq, Option.some.injEq] at hok; subst hok; exact hn _ h
 | cons i is ih =>
  intro l l' n st hok h hn
  rw [okSeq] at hok
  split at hok
  ·rename_i hc
   simp only [Bool.and_eq_true, Bool.or_eq_true, decide_eq_true_eq, beq_iff_eq] at hc
   have ho : ops[i]? = some (ops[i]'(by simpa using hc.1)) := List.getElem?_eq_getElem _
   rw [pickL_get ho] at h
   exact AAnyG_one (n := n + is.length) ho hc.2 h fun st hs => ih _ _ _ _ hok hs hn
  ·cases hok
def Alts (calm : List FuncId) (E : Env P) (W0 : World) (M0 : Nat → Prop) (ops : List Oper) (K : St → Prop) (n : Nat) (l : Array Bool) (st : St) (is : List Nat) : Prop :=
 ∀ i ∈ is, ∀ o, ops.toArray[i]? = some o → stepG W0 M0 true calm E ops.toArray o st (AAnyG W0 M0 calm E .any ops.toArray K n (l.setIfInBounds i true))
theorem AAnyG_tree {calm : List FuncId} {ops : List Oper} {K : St → Prop} : ∀ (t : Tree) (n : Nat) (l : Array Bool) (st : St),
  (okT calm ops.toArray false t n l = true → AT W0 M0 calm E ops K false t st → AAnyG W0 M0 calm E .any ops.toArray K n l st) ∧
  (okT calm ops.toArray true t (n + 1) l = true → AT W0 M0 calm E ops K true t st → Alts calm E W0 M0 ops K n l st (heads t)) := by
 intro t
 induction t with
 | nil =>
  intro n l st
  refine ⟨fun hok h => ?_, fun hok h i hi => by cases hi⟩
  simp only [okT, Bool.false_or, Bool.and_eq_true, beq_iff_eq] at hok
  obtain ⟨rfl, hok⟩ := hok
  simp only [AT, Bool.false_eq_true, false_or] at h
  exact ⟨by simpa using hok, h⟩
 | seq is t ih =>
  intro n l st
  refine ⟨fun hok h => ?_, fun hok h i hi => by cases hi⟩
  rw [okT] at hok
  simp only [Bool.not_false, Bool.true_and] at hok
  split at hok
  ·rename_i l' hs
   simp only [Bool.and_eq_true, decide_eq_true_eq] at hok
   have e : n = (n - is.length) + is.length := by omega
   rw [e]
   exact AAnyG_seq is _ _ _ _ hs h fun st hs => (ih _ _ _).1 hok.2 hs
  ·cases hok
 | alt i a r iha ihr =>
  intro n l st
  have one : ∀ m, okT calm ops.toArray false a m (l.setIfInBounds i true) = true → AG W0 M0 true calm E ops.toArray (AT W0 M0 calm E ops K false a) (pickL ops [i]) st → ∀ o, ops.toArray[i]? = some o →
    stepG W0 M0 true calm E ops.toArray o st (AAnyG W0 M0 calm E .any ops.toArray K m (l.setIfInBounds i true)) := fun m hok h o ho => by
   have ho' : ops[i]? = some o := by simpa using ho
   rw [pickL_get ho'] at h
   exact stepG_mono (fun st hs => (iha _ _ _).1 hok hs) h
  refine ⟨fun hok h => ?_, fun hok h => ?_⟩
  ·simp only [okT, Bool.false_or, Bool.and_eq_true, decide_eq_true_eq, beq_iff_eq] at hok
   obtain ⟨⟨⟨⟨hr, hi⟩, hn⟩, ha⟩, hc⟩ := hok
   have e : n = (n - 1) + 1 := by omega
   rw [e] at hc ⊢
   refine ⟨fun h0 => absurd (hr.symm.trans h0) (by simp), fun k hk ok hok => ?_⟩
   rw [hr] at hk
   rcases List.mem_cons.1 hk with rfl | hk
   ·exact one _ ha h.1 ok hok
   ·exact (ihr (n - 1) l st).2 hc h.2 k hk ok hok
  ·simp only [okT, Bool.true_or, Bool.true_and, Bool.and_eq_true, decide_eq_true_eq] at hok
   obtain ⟨⟨⟨hi, hn⟩, ha⟩, hc⟩ := hok
   intro k hk ok hok
   rcases List.mem_cons.1 hk with rfl | hk
   ·exact one _ ha h.1 ok hok
   ·exact (ihr n l st).2 hc h.2 k hk ok hok
theorem vc_regT (calm : List FuncId) (t : Tree) (hm : P.follows .mixedOrders = true) {id : Nat} {l : List Oper} (hok : okRegT calm E.N t l.toArray = true) {st : St} {K : Exit → St → Prop} (h : AT W0 M0 calm E l (K .normal) false t st) : VC E W0 M0 (.region id l.toArray true) st K := by
 intro a w hs
 simp only [okRegT, Bool.and_eq_true] at hok
 have hd : ∀ o ∈ l, ∀ d, o.dst = some d → d < E.N := by
  intro o ho d hd
  have := Array.all_eq_true_iff_forall_mem.1 hok.1 o (by simpa using ho)
  rw [hd] at this
  simpa using this
 exact wpIn_region_any hm (AAnyG_ok (calm := calm) (E := E) (W0 := W0) (M0 := M0) (K := K .normal) (fun i o d ho hdd => hd o (by
  have := List.mem_of_getElem? (l := l) (i := i) (by simpa using ho); exact this) d hdd) (fun st a w h1 h2 => ⟨st, h1, h2⟩) _ _ st a _ ((AAnyG_tree t _ _ st).1 hok.2 h) hs.drawn)
theorem at_seq {calm : List FuncId} {ops : List Oper} {K : St → Prop} {is : List Nat} {t : Tree} {st : St} (h : AG W0 M0 true calm E ops.toArray (AT W0 M0 calm E ops K false t) (pickL ops is) st) : AT W0 M0 calm E ops K false (.seq is t) st := h
theorem at_alt {calm : List FuncId} {ops : List Oper} {K : St → Prop} {c : Bool} {i : Nat} {a r : Tree} {st : St} (h : AG W0 M0 true calm E ops.toArray (AT W0 M0 calm E ops K false a) (pickL ops [i]) st) (h' : AT W0 M0 calm E ops K true r st) : AT W0 M0 calm E ops K c (.alt i a r) st := ⟨h, h'⟩
theorem at_end {calm : List FuncId} {ops : List Oper} {K : St → Prop} {st : St} : AT W0 M0 calm E ops K true .nil st := .inl rfl
theorem at_nil {calm : List FuncId} {ops : List Oper} {K : St → Prop} {st : St} (h : K st) : AT W0 M0 calm E ops K false .nil st := .inr h
end
end Go.Vc
/- The Vc layer: a sequence cut in the middle: what comes behind is walked once, whatever ways lead there. -/
set_option linter.all false
namespace Go.Vc
open Go Go.RowKit
section
variable [Far] {P : Program} {E : Env P} {W0 : World} {M0 : Nat → Prop}
theorem vc_seq_m {σ : Type} (inv : σ → Prop) (fl : σ → List (Nat × AV)) (bl : σ → List (Option Box)) {np : Nat} (hnp : Far.np = np) {x y : Code} {st : St} {K : Exit → St → Prop}
  (hy : ∀ s, inv s → VC E W0 M0 y (mkSt (fl s) (bl s)) K) (hx : ∀ N : St → Prop, (∀ st', (∃ s, inv s ∧ ∃ ρ : Ren, subOk np ρ st' (fl s) (bl s)) → N st') → VC E W0 M0 x st (thenK N K)) : VC E W0 M0 (.seq x y) st K :=
 vc_seq (hx _ fun st' ⟨s, h1, ρ, h2⟩ => vc_cut hnp (fl s) (bl s) ρ h2 (hy s h1))
end
end Go.Vc
