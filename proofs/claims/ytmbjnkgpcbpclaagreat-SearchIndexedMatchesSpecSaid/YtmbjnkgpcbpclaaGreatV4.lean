/- The Vc layer, part 4. -/
import Derived.Test.YtmbjnkgpcbpclaaGreatV3
import Derived.Lib.SliceRun
import Derived.Lib.LazyBuf
/- The Vc layer: regions once more: operations known by what they do to worlds; calls that only add boxes. -/
set_option linter.all false
namespace Go.Vc
open Go Go.RowKit
def DK (calm : List FuncId) (d : Option Tmp) : Op → Bool
 | .alloc _ | .box .. | .buildSlice .. | .makeSlice .. => true
 | .call ⟨.value (.func f), _, _⟩ => calm.contains f
 | .call ⟨.builtin .append, _, _⟩ => calm.contains (1000000 + d.getD 0)
 | _ => false
def Ku (calm : List FuncId) (d : Option Tmp) (o : Op) : Bool := EK o || DK calm d o
section
variable [Bl] {P : Program} {E : Bq P} {W0 : World} {M0 : Nat → Prop}
def D2 (W0 : World) (M0 : Nat → Prop) (E : Bq P) (o : Oper) (st : St) (K : St → Prop) : Prop :=
 ∀ (a : Act) (w : World) (S : Lays), Ai W0 M0 st.H st.n w S → (∀ x ∈ o.op.operands.toList, R w S st.n (Bc st.fr x) (a.eval x)) →
  ∀ Q, o.wpIn (NV E.ρ) 0 P a w (fun a' w' => ∃ c H' n' v S', a' = a.put o.dst v ∧ Ai W0 M0 H' n' w' S' ∧ Cu w S st.n w' S' n' ∧ R w' S' n' c v ∧ K ⟨putD o.dst c st.fr, H', n'⟩) Q
theorem D2.mono {o : Oper} {st : St} {K K' : St → Prop} (hk : ∀ st, K st → K' st) (h : D2 W0 M0 E o st K) : D2 W0 M0 E o st K' := fun a w S h1 h2 Q =>
 Oper.wpIn_mono (fun a' w' ⟨c, H', n', v, S', g1, g2, g3, g4, g5⟩ => ⟨c, H', n', v, S', g1, g2, g3, g4, hk _ g5⟩) (h a w S h1 h2 Q)
def RU (W0 : World) (M0 : Nat → Prop) (E : Bq P) (o : Oper) (st : St) (c : AV) : Prop :=
 ∀ (H' : Av) (n' : Nat), Ev st.H H' → ∀ (a : Act) (w : World) (S : Lays), Ai W0 M0 H' n' w S → (∀ x ∈ o.op.operands.toList, R w S n' (Bc st.fr x) (a.eval x)) →
  ∀ Q, o.wpIn (NV E.ρ) 0 P a w (fun a' w' => ∃ v, a' = a.put o.dst v ∧ w' = w ∧ R w S n' c v) Q
def stepG (W0 : World) (M0 : Nat → Prop) (dr : Bool) (calm : List FuncId) (E : Bq P) (ops : Array Oper) (o : Oper) (st : St) (K : St → Prop) : Prop :=
 Fy E ops o st (fun st' => ((dr && DK calm o.dst o.op) = true → Ev st.H st'.H) ∧ K st') ∨ (Bg ops st.fr o.guard = some (some false) ∧ K ⟨putD o.dst (.cond false .any) st.fr, st.H, st.n⟩) ∨
  ((o.guard = none ∨ Bg ops st.fr o.guard = some (some true)) ∧ (dr && EK o.op) = false ∧ D2 W0 M0 E o st (fun st' => ((dr && DK calm o.dst o.op) = true → Ev st.H st'.H) ∧ K st')) ∨
  ((o.guard = none ∨ Bg ops st.fr o.guard = some (some true)) ∧ Ep o.op = false ∧ ∃ c, RU W0 M0 E o st c ∧ K ⟨putD o.dst c st.fr, st.H, st.n⟩)
theorem Fx {dr : Bool} {calm : List FuncId} {ops : Array Oper} {o : Oper} {st : St} {K K' : St → Prop} (hk : ∀ st, K st → K' st) (h : stepG W0 M0 dr calm E ops o st K) : stepG W0 M0 dr calm E ops o st K' := by
 rcases h with h | h | h | h
 ·exact .inl (KD (fun st h => ⟨h.1, hk _ h.2⟩) h)
 ·exact .inr (.inl ⟨h.1, hk _ h.2⟩)
 ·exact .inr (.inr (.inl ⟨h.1, h.2.1, h.2.2.mono fun st h => ⟨h.1, hk _ h.2⟩⟩))
 ·obtain ⟨h1, h2, c, h3, h4⟩ := h
  exact .inr (.inr (.inr ⟨h1, h2, c, h3, hk _ h4⟩))
theorem OW {dr : Bool} {calm : List FuncId} {a : Act} {w : World} {ops : Array Oper} {o : Oper} {st : St} {K : St → Prop} (h : stepG W0 M0 dr calm E ops o st K) (hd : ∀ d, o.dst = some d → d < E.N) (hs : Mh W0 M0 E.N st a w) (Q : Exit → Act → World → Prop) :
  if Region.wanted o (yielded ops a.tmps) = true then o.wpIn (NV E.ρ) 0 P a w (JK W0 M0 E.N K) Q else JK W0 M0 E.N K (a.put o.dst undef) w := by
 rcases h with h | h | h | h
 ·exact VY (KD (fun st h => h.2) h) hd hs Q
 ·obtain ⟨S, hH, hF, hM⟩ := hs
  rw [Ga h.1 hF.at_, if_neg (by simp)]
  exact ⟨_, h.2, S, hH, hF.putD hd (.cond _ _ _ (fun e => by cases e) (fun _ => rfl)), by rw [E1]; exact hM⟩
 ·obtain ⟨S, hH, hF, hM⟩ := hs
  have hw : Region.wanted o (yielded ops a.tmps) = true := by
   rcases h.1 with h0 | h0
   ·exact H5 (ops := ops) (fr := st.fr) (by rw [h0]; rfl) _
   ·exact Ga h0 hF.at_
  rw [if_pos hw]
  refine Oper.wpIn_mono ?_ (h.2.2 a w S hH (fun x _ => EP hH.gl hF.at_ x) Q)
  rintro a' w' ⟨c, H', n', v, S', rfl, g2, g3, g4, g5⟩
  exact ⟨_, g5.2, S', g2, (hF.ext g3).putD hd g4, by rw [E1]; exact hM.ext g3⟩
 ·obtain ⟨h1, _, c, h3, h4⟩ := h
  obtain ⟨S, hH, hF, hM⟩ := hs
  have hw : Region.wanted o (yielded ops a.tmps) = true := by
   rcases h1 with h0 | h0
   ·exact H5 (ops := ops) (fr := st.fr) (by rw [h0]; rfl) _
   ·exact Ga h0 hF.at_
  rw [if_pos hw]
  refine Oper.wpIn_mono ?_ (h3 st.H st.n (fun _ _ h => h) a w S hH (fun x _ => EP hH.gl hF.at_ x) Q)
  rintro a' w' ⟨v, rfl, rfl, g4⟩
  exact ⟨_, h4, S, hH, hF.putD hd g4, by rw [E1]; exact hM⟩
def VR (W0 : World) (M0 : Nat → Prop) (E : Bq P) (ops : Array Oper) (o : Oper) (st : St) (c : AV) : Prop :=
 (∃ p, Pf E ops o st = some (p, c) ∧ p) ∨ (Bg ops st.fr o.guard = some (some false) ∧ c = .cond false .any) ∨
  ((o.guard = none ∨ Bg ops st.fr o.guard = some (some true)) ∧ Ep o.op = false ∧ RU W0 M0 E o st c)
theorem Ev.refl (H : Av) : Ev H H := fun _ _ h => h
theorem QT {dr : Bool} {calm : List FuncId} {ops : Array Oper} {o : Oper} {st : St} {c : AV} (h : VR W0 M0 E ops o st c) {K : St → Prop} (hK : K ⟨putD o.dst c st.fr, st.H, st.n⟩) : stepG W0 M0 dr calm E ops o st K := by
 rcases h with ⟨p, h, hp⟩ | ⟨h, rfl⟩ | ⟨h1, h2, h3⟩
 ·exact .inl (TD h hp ⟨fun _ => Ev.refl _, hK⟩)
 ·exact .inr (.inl ⟨h, hK⟩)
 ·exact .inr (.inr (.inr ⟨h1, h2, c, h3, hK⟩))
theorem W4 {ops : Array Oper} {o : Oper} {st : St} {c : AV} (h : VR W0 M0 E ops o st c) {fr' : Nat → AV} {H' : Av} {n' : Nat}
  (ha : ∀ x ∈ o.op.operands.toList, Bc fr' x = Bc st.fr x) (hg : ∀ d, (∃ g want, o.guard = some (g, want) ∧ (ops[g]?).bind (·.dst) = some d) → fr' d = st.fr d)
  (ht : EK o.op = true) (hs : Ep o.op = true ∨ Ev st.H H') : VR W0 M0 E ops o ⟨fr', H', n'⟩ c := by
 rcases h with ⟨p, h, hp⟩ | ⟨h, rfl⟩ | ⟨h1, h2, h3⟩
 ·exact .inl ⟨p, TC h ha hg ht hs, hp⟩
 ·exact .inr (.inl ⟨by rw [Dq hg]; exact h, rfl⟩)
 ·refine .inr (.inr ⟨h1.imp (fun h0 => h0) (fun h0 => by rw [Dq hg]; exact h0), h2, fun H2 n2 hle a w S hH hop Q => ?_⟩)
  have hle' : Ev st.H H' := by
   rcases hs with hs | hs
   ·rw [h2] at hs; cases hs
   ·exact hs
  exact h3 H2 n2 (fun id b hb => hle id b (hle' id b hb)) a w S hH (fun x hx => by rw [← ha x hx]; exact hop x hx) Q
theorem HB {calm : List FuncId} {ops : Array Oper} {o : Oper} {st : St} {K : St → Prop} (ht : EK o.op = true) (h : stepG W0 M0 true calm E ops o st K) : ∃ c, VR W0 M0 E ops o st c ∧ K ⟨putD o.dst c st.fr, st.H, st.n⟩ := by
 rcases h with h | h | h | h
 ·obtain ⟨p, c, h1, h2, h3⟩ := Q0 ht h
  exact ⟨c, .inl ⟨p, h1, h2⟩, h3.2⟩
 ·exact ⟨_, .inr (.inl ⟨h.1, rfl⟩), h.2⟩
 ·have := h.2.1
  simp [ht] at this
 ·obtain ⟨h1, h2, c, h3, h4⟩ := h
  exact ⟨c, .inr (.inr ⟨h1, h2, h3⟩), h4⟩
theorem Qz {calm : List FuncId} {ops : Array Oper} {oi oj : Oper} (hap : oi.apart ops oj = true) (ht : EK oi.op = true) (hq : Ep oi.op = true ∨ Ku calm oj.dst oj.op = true) {st : St} {c : AV} (hv : VR W0 M0 E ops oi st c) {K : St → Prop}
  (h : stepG W0 M0 true calm E ops oj ⟨putD oi.dst c st.fr, st.H, st.n⟩ K) : stepG W0 M0 true calm E ops oj st (fun st' => VR W0 M0 E ops oi st' c ∧ K ⟨putD oi.dst c st'.fr, st'.H, st'.n⟩) := by
 obtain ⟨h1, h2, h3⟩ := Oper.apart_spec hap
 obtain ⟨g1, g2⟩ := K5 (o := oj) (c := c) (fr := st.fr) h1
 have back : ∀ e, (∀ x ∈ oi.op.operands.toList, Bc (putD oj.dst e st.fr) x = Bc st.fr x) ∧ ∀ d, (∃ g want, oi.guard = some (g, want) ∧ (ops[g]?).bind (·.dst) = some d) → putD oj.dst e st.fr d = st.fr d :=
  fun e => K5 (o := oi) (c := e) (fr := st.fr) h3
 have fin : ∀ {e : AV} {H' : Av} {n' : Nat}, (Ep oi.op = true ∨ Ev st.H H') → K ⟨putD oj.dst e (putD oi.dst c st.fr), H', n'⟩ →
   VR W0 M0 E ops oi ⟨putD oj.dst e st.fr, H', n'⟩ c ∧ K ⟨putD oi.dst c (putD oj.dst e st.fr), H', n'⟩ := by
  intro e H' n' hh hK
  refine ⟨W4 hv (back e).1 (back e).2 ht hh, ?_⟩
  rw [Tm h2] at hK
  exact hK
 have same : Ep oi.op = true ∨ Ev st.H st.H := .inr (Ev.refl _)
 rcases h with h | h | h | h
 ·refine .inl ?_
  have heap : ∀ {p : Prop} {e : AV} {H' : Av} {n' : Nat}, C0 E st.fr st.H st.n oj.op = .h p e H' n' → ((true && DK calm oj.dst oj.op) = true → Ev st.H H') → Ep oi.op = true ∨ Ev st.H H' := by
   intro p e H' n' hr hg
   rcases hq with hs | hq
   ·exact .inl hs
   ·simp only [Ku, Bool.or_eq_true] at hq
    rcases hq with hq | hq
    ·have : MS [] oj.op = true := by
      unfold MS
      split
      ·rename_i hop; rw [hop] at hq; simp [EK, RI] at hq
      ·exact hq
     exact (Sc (Calm.nil E) this hr).elim
    ·exact .inr (hg (by simpa using hq))
  unfold Fy at *
  simp only at h
  rw [Dq g2, Ll g1, LA g1] at h
  split at h
  ·exact h
  ·split at h
   ·exact ⟨h.1, h.2.1, h.2.2.1, fin same h.2.2.2⟩
   ·rename_i hr; exact ⟨h.1, h.2.1, h.2.2.1, fin (heap hr h.2.2.1) h.2.2.2⟩
   ·exact h
  ·split at h
   ·exact ⟨h.1, h.2.1, fin same h.2.2⟩
   ·rename_i hr; exact ⟨fun hb => ⟨(h.1 hb).1, (h.1 hb).2.1, (h.1 hb).2.2.1, fin (heap hr (h.1 hb).2.2.1) (h.1 hb).2.2.2⟩, fun hb => ⟨(h.2 hb).1, fin same (h.2 hb).2⟩⟩
   ·exact h
 ·simp only at h
  rw [Dq g2] at h
  exact .inr (.inl ⟨h.1, fin same h.2⟩)
 ·refine .inr (.inr (.inl ⟨h.1.imp (fun h0 => h0) (fun h0 => by simp only at h0; rw [Dq g2] at h0; exact h0), h.2.1, ?_⟩))
  have hs : ∀ {H' : Av}, ((true && DK calm oj.dst oj.op) = true → Ev st.H H') → Ep oi.op = true ∨ Ev st.H H' := by
   intro H' hg
   rcases hq with hs | hq
   ·exact .inl hs
   ·have h1 := h.2.1
    simp only [Ku, Bool.or_eq_true] at hq
    rcases hq with hq | hq
    ·rw [hq] at h1; cases h1
    ·exact .inr (hg (by simpa using hq))
  intro a w S hH hx Q
  refine Oper.wpIn_mono ?_ (h.2.2 a w S hH (fun x hx' => by simp only; rw [g1 x hx']; exact hx x hx') Q)
  rintro a' w' ⟨c', H', n', v, S', e1, e2, e3, e4, e5⟩
  exact ⟨c', H', n', v, S', e1, e2, e3, e4, e5.1, fin (hs e5.1) e5.2⟩
 ·obtain ⟨k1, k2, c', k3, k4⟩ := h
  refine .inr (.inr (.inr ⟨k1.imp (fun h0 => h0) (fun h0 => by simp only at h0; rw [Dq g2] at h0; exact h0), k2, c', fun H2 n2 hle a w S hH hop Q => ?_, fin same k4⟩))
  exact k3 H2 n2 hle a w S hH (fun x hx' => by simp only; rw [g1 x hx']; exact hop x hx') Q
def Fj (W0 : World) (M0 : Nat → Prop) (calm : List FuncId) (E : Bq P) (md : Region.Mode) (ops : Array Oper) (K : St → Prop) : Nat → Array Bool → St → Prop
 | 0, l, st => Region.ready md ops l = [] ∧ K st
 | fuel + 1, l, st => (Region.ready md ops l = [] → K st) ∧ ∀ i ∈ Region.ready md ops l, ∀ o, ops[i]? = some o → stepG W0 M0 true calm E ops o st (Fj W0 M0 calm E md ops K fuel (l.setIfInBounds i true))
theorem JI {calm : List FuncId} {md : Region.Mode} {ops : Array Oper} {K : St → Prop} {Q : Exit → Act → World → Prop} (hd : ∀ (i : Nat) (o : Oper) (d : Tmp), ops[i]? = some o → o.dst = some d → d < E.N)
  (hQ : ∀ st a w, K st → Mh W0 M0 E.N st a w → Q .normal a w) : ∀ (fuel : Nat) (l : Array Bool) (st : St) (a : Act) (w : World), Fj W0 M0 calm E md ops K fuel l st → Mh W0 M0 E.N st a w → wpAnyIn (NV E.ρ) 0 P md ops Q fuel l a w := by
 intro fuel
 induction fuel with
 | zero => intro l st a w h hs; exact ⟨h.1, hQ _ _ _ h.2 hs⟩
 | succ fuel ih =>
  intro l st a w h hs
  refine ⟨fun hr => hQ _ _ _ (h.1 hr) hs, fun i hi => ?_⟩
  obtain ⟨_, o, ho, _⟩ := mem_ready.1 hi
  have h1 := OW (h.2 i hi o ho) (fun d hd' => hd i o d ho hd') hs Q
  unfold wpOpIn
  simp only [ho]
  split
  ·rename_i hw
   rw [if_pos hw] at h1
   exact (Oper.wpIn_mono (fun a' w' ⟨st', h2, h3⟩ => ih _ _ _ _ h2 h3) h1)
  ·rename_i hw
   rw [if_neg hw] at h1
   obtain ⟨st', h2, h3⟩ := h1
   exact ⟨fun _ _ => trivial, ih _ _ _ _ h2 h3⟩
theorem Gw {calm : List FuncId} {md : Region.Mode} {ops : Array Oper} {K : St → Prop} {i : Nat} {oi : Oper} (hi : ops[i]? = some oi) (ht : EK oi.op = true) {c : AV} (W : List Nat) (hiW : i ∈ W) :
  ∀ (fuel : Nat) (l : Array Bool) (st : St),
   (∀ j ∈ W, l.getD j false = false) → (∀ j ∈ W, j ≠ i → ∀ oj, ops[j]? = some oj → ∃ e ∈ oj.after, Region.binds md e = true ∧ e.on ∈ W) →
   (∀ j oj, ops[j]? = some oj → j ∉ W → l.getD j true = false → oi.apart ops oj = true ∧ (Ep oi.op = true ∨ Ku calm oj.dst oj.op = true)) →
   i ∈ Region.ready md ops l → VR W0 M0 E ops oi st c →
   Fj W0 M0 calm E md ops K fuel (l.setIfInBounds i true) ⟨putD oi.dst c st.fr, st.H, st.n⟩ → Fj W0 M0 calm E md ops K (fuel + 1) l st := by
 intro fuel
 induction fuel with
 | zero =>
  intro l st hWl hWa hfree hr hv H
  refine ⟨fun h => (by rw [h] at hr; cases hr), fun j hj o ho => ?_⟩
  by_cases hji : j = i
  ·subst hji
   rw [hi] at ho; cases ho
   exact QT hv H
  ·have := ready_mono hj hji
   rw [H.1] at this
   cases this
 | succ fuel ih =>
  intro l st hWl hWa hfree hr hv H
  refine ⟨fun h => (by rw [h] at hr; cases hr), fun j hj o ho => ?_⟩
  by_cases hji : j = i
  ·subst hji
   rw [hi] at ho; cases ho
   exact QT hv H
  ·obtain ⟨hjun, oj, hoj, hall⟩ := mem_ready.1 hj
   rw [ho] at hoj; cases hoj
   have hjW : j ∉ W := fun hjW => by
    obtain ⟨e, he, hb, hon⟩ := hWa j hjW hji o ho
    have := hall e he hb
    rw [hWl _ hon] at this; cases this
   obtain ⟨hap, hq⟩ := hfree j o ho hjW hjun
   have h2 := Qz hap ht hq hv (H.2 j (ready_mono hj hji) o ho)
   refine Fx (fun st' ⟨h3, h5⟩ => ?_) h2
   refine ih (l.setIfInBounds j true) st' (fun k hk => ?_) hWa (fun k ok hk hkW hun => ?_) (ready_mono hr (Ne.symm hji)) h3 ?_
   ·rw [getD_set_ne false (fun e : j = k => hjW (by rw [e]; exact hk))]; exact hWl k hk
   ·refine hfree k ok hk hkW ?_
    by_cases hjk : j = k
    ·subst hjk; exact hjun
    ·rw [getD_set_ne true hjk] at hun; exact hun
   ·rw [Array.setIfInBounds_comm _ _ hji]
    exact h5
def H0 (calm : List FuncId) (md : Region.Mode) (ops : Array Oper) (l : Array Bool) (i : Nat) : Bool :=
 match ops[i]? with
 | none => false
 | some oi => EK oi.op && (Region.ready md ops l).contains i && (fun W => W.contains i && W.all (fun j => !l.getD j false) &&
   W.all (fun j => j == i || match ops[j]? with | some oj => oj.after.any (fun e => Region.binds md e && W.contains e.on) | none => true) &&
   (List.range ops.size).all (fun j => W.contains j || l.getD j true || match ops[j]? with | some oj => oi.apart ops oj && (Ep oi.op || Ku calm oj.dst oj.op) | none => true)) (Iy md ops l i)
def IM (calm : List FuncId) (md : Region.Mode) (ops : Array Oper) : Nat → Nat → Array Bool → Bool
 | 0, _, l => (Region.ready md ops l).isEmpty
 | k + 1, i, l => (H0 calm md ops l i || Region.ready md ops l == [i]) && IM calm md ops k (i + 1) (l.setIfInBounds i true)
def Qk (calm : List FuncId) (N : Nat) (draw : Bool) (ops : Array Oper) : Bool :=
 ops.all (fun o => match o.dst with | some d => decide (d < N) | none => true) && (!draw || IM calm .any ops ops.size 0 (Array.replicate ops.size false))
def AG (W0 : World) (M0 : Nat → Prop) (dr : Bool) (calm : List FuncId) (E : Bq P) (ops : Array Oper) (K : St → Prop) : List Oper → St → Prop
 | [], st => K st
 | o :: r, st => stepG W0 M0 dr calm E ops o st (AG W0 M0 dr calm E ops K r)
theorem Zf {dr : Bool} {calm : List FuncId} {ops : Array Oper} {K : St → Prop} {Q : Exit → Act → World → Prop} (hQ : ∀ st a w, K st → Mh W0 M0 E.N st a w → Q .normal a w) :
  ∀ (l : List Oper) (k : Nat) (st : St) (a : Act) (w : World), (∀ j, l[j]? = ops[k + j]?) → (∀ o ∈ l, ∀ d, o.dst = some d → d < E.N) → AG W0 M0 dr calm E ops K l st → Mh W0 M0 E.N st a w → wpOpsIn (NV E.ρ) 0 P ops Q (List.range' k l.length) a w := by
 intro l
 induction l with
 | nil => intro k st a w _ _ h hs; exact hQ _ _ _ h hs
 | cons o r ih =>
  intro k st a w hl hd h hs
  have ho : ops[k]? = some o := by have := hl 0; simpa using this.symm
  have h1 := OW (h : stepG W0 M0 dr calm E ops o st (AG W0 M0 dr calm E ops K r)) (hd o (by simp)) hs Q
  have ih' := fun st a w => ih (k + 1) st a w (fun j => by have := hl (j + 1); simpa [Nat.add_assoc, Nat.add_comm 1 j] using this) (fun o ho => hd o (by simp [ho]))
  simp only [List.length_cons, List.range'_succ, wpOpsIn, ho]
  split
  ·rename_i hw
   rw [if_pos hw] at h1
   exact (Oper.wpIn_mono (fun a' w' ⟨st', h2, h3⟩ => ih' _ _ _ h2 h3) h1)
  ·rename_i hw
   rw [if_neg hw] at h1
   obtain ⟨st', h2, h3⟩ := h1
   exact ⟨fun _ _ => trivial, ih' _ _ _ h2 h3⟩
theorem RN {calm : List FuncId} {md : Region.Mode} {ops : Array Oper} {K : St → Prop} : ∀ (k i : Nat) (l : Array Bool) (r : List Oper) (st : St), r.length = k → (∀ j, r[j]? = ops[i + j]?) →
  IM calm md ops k i l = true → AG W0 M0 true calm E ops K r st → Fj W0 M0 calm E md ops K k l st := by
 intro k
 induction k with
 | zero =>
  intro i l r st hl _ hok h
  have : r = [] := List.eq_nil_of_length_eq_zero hl
  subst this
  exact ⟨by simpa [IM] using hok, h⟩
 | succ k ih =>
  intro i l r st hl hr hok h
  cases r with
  | nil => cases hl
  | cons o r =>
   have ho : ops[i]? = some o := by have := hr 0; simpa using this.symm
   have hr' : ∀ j, r[j]? = ops[i + 1 + j]? := fun j => by have := hr (j + 1); simpa [Nat.add_assoc, Nat.add_comm 1 j] using this
   simp only [IM, Bool.and_eq_true, Bool.or_eq_true] at hok
   have h' : stepG W0 M0 true calm E ops o st (AG W0 M0 true calm E ops K r) := h
   have next : ∀ st, AG W0 M0 true calm E ops K r st → Fj W0 M0 calm E md ops K k (l.setIfInBounds i true) st := fun st hs => ih (i + 1) _ r st (by simpa using hl) hr' hok.2 hs
   rcases hok.1 with hf | hone
   ·simp only [H0, ho, Bool.and_eq_true] at hf
    obtain ⟨⟨ht, hrd⟩, ⟨⟨hiW, hWl⟩, hWa⟩, hfree⟩ := hf
    obtain ⟨c, hv, hK⟩ := HB ht h'
    generalize Iy md ops l i = W at *
    refine Gw ho ht W (by simpa using hiW) k l st (fun j hj => ?_) (fun j hj hne oj hoj => ?_) (fun j oj hoj hjW hun => ?_) (by simpa using hrd) hv (next _ hK)
    ·have := List.all_eq_true.1 hWl j hj
     simpa using this
    ·have := List.all_eq_true.1 hWa j hj
     simp only [hoj, Bool.or_eq_true, beq_iff_eq, hne, false_or] at this
     obtain ⟨e, he, hb⟩ := Array.any_eq_true'.1 this
     simp only [Bool.and_eq_true] at hb
     exact ⟨e, he, hb.1, by simpa using hb.2⟩
    ·have := List.all_eq_true.1 hfree j (List.mem_range.2 (Array.getElem?_eq_some_iff.1 hoj).1)
     simp only [hoj, Bool.or_eq_true, Bool.and_eq_true, hun, Bool.false_eq_true, or_false] at this
     rcases this with h1 | h1
     ·exact absurd (by simpa using h1) hjW
     ·exact ⟨h1.1, h1.2⟩
   ·have hone : Region.ready md ops l = [i] := by simpa using hone
    refine ⟨fun h0 => absurd (hone.symm.trans h0) (by simp), fun j hj oj hoj => ?_⟩
    rw [hone] at hj
    simp only [List.mem_singleton] at hj
    subst hj
    rw [ho] at hoj; cases hoj
    exact Fx next h'
theorem Eu (calm : List FuncId) (hm : P.follows .mixedOrders = true) {id : Nat} {l : List Oper} {draw : Bool} (hok : Qk calm E.N draw l.toArray = true) {st : St} {K : Exit → St → Prop} (h : AG W0 M0 draw calm E l.toArray (K .normal) l st) : VC E W0 M0 (.region id l.toArray draw) st K := by
 intro a w hs
 simp only [Qk, Bool.and_eq_true, Bool.or_eq_true, Bool.not_eq_true'] at hok
 have hd : ∀ o ∈ l, ∀ d, o.dst = some d → d < E.N := by
  intro o ho d hd
  have := Array.all_eq_true_iff_forall_mem.1 hok.1 o (by simpa using ho)
  rw [hd] at this
  simpa using this
 cases draw with
 | false => exact wpIn_region (by
   have := Zf (E := E) (W0 := W0) (M0 := M0) (ops := l.toArray) (Q := AR E W0 M0 K) (fun st a w h1 h2 => ⟨st, h1, h2⟩) l 0 st a w (fun j => by simp) hd h hs
   simpa [List.range_eq_range'] using this)
 | true =>
  have hl : IM calm .any l.toArray l.toArray.size 0 (Array.replicate l.toArray.size false) = true := by simpa using hok.2
  refine wpIn_region_any hm (JI (calm := calm) (E := E) (W0 := W0) (M0 := M0) (K := K .normal) (fun i o d ho hdd => hd o (by
   have := List.mem_of_getElem? (l := l) (i := i) (by simpa using ho); exact this) d hdd) (fun st a w h1 h2 => ⟨st, h1, h2⟩) _ _ st a _ ?_ hs.drawn)
  exact RN _ 0 _ l st (by simp) (fun j => by simp) hl h
/-! one operation at a time -/
section
variable {dr : Bool} {calm : List FuncId} {ops : Array Oper} {K : St → Prop} {o : Op} {d : Option Tmp} {t : TypeId} {p : String} {af : Array Edge} {r : List Oper} {fr : Nat → AV} {H H' : Av} {n n' : Nat} {q : Prop} {c : AV} {b : Bool} {gd : Nat × Bool}
theorem Ab {st : St} (h : K st) : AG W0 M0 dr calm E ops K [] st := h
theorem Az {l : List Oper} {fl : List (Nat × AV)} {bl : List (Option B7)} (h : AG W0 M0 dr calm E ops K l ⟨H4 fl, Ax bl, bl.length⟩) : AG W0 M0 dr calm E ops K l (Hd fl bl) := h
theorem H6 (h : C0 E fr H n o = .v q c) (hn : CN fr o) (hq : q) (hk : AG W0 M0 dr calm E ops K r ⟨putD d c fr, H, n⟩) : AG W0 M0 dr calm E ops K (⟨d, o, t, p, af, none⟩ :: r) ⟨fr, H, n⟩ := by
 refine .inl ?_; unfold Fy; simp only [Jc, h]; exact ⟨hn, hq, fun _ => Ev.refl _, hk⟩
theorem Ox (h : C0 E fr H n o = .h q c H' n') (hn : CN fr o) (hq : q) (hl : (dr && DK calm d o) = true → Ev H H') (hk : AG W0 M0 dr calm E ops K r ⟨putD d c fr, H', n'⟩) : AG W0 M0 dr calm E ops K (⟨d, o, t, p, af, none⟩ :: r) ⟨fr, H, n⟩ := by
 refine .inl ?_; unfold Fy; simp only [Jc, h]; exact ⟨hn, hq, hl, hk⟩
theorem F6 (hg : Bg ops fr (some gd) = some (some b)) (h : C0 E fr H n o = .v q c) (hq : b = true → CN fr o ∧ q) (hk : AG W0 M0 dr calm E ops K r ⟨putD d (.cond b c) fr, H, n⟩) : AG W0 M0 dr calm E ops K (⟨d, o, t, p, af, some gd⟩ :: r) ⟨fr, H, n⟩ := by
 refine .inl ?_; unfold Fy; simp only [hg, h]; exact ⟨hq, fun _ => Ev.refl _, hk⟩
theorem US (hg : Bg ops fr (some gd) = some (some b)) (h : C0 E fr H n o = .h q c H' n') (h1 : b = true → CN fr o ∧ q) (hl : (dr && DK calm d o) = true → Ev H H') (h2 : b = true → AG W0 M0 dr calm E ops K r ⟨putD d c fr, H', n'⟩) (h3 : b = false → AG W0 M0 dr calm E ops K r ⟨putD d (.cond false .any) fr, H, n⟩) :
  AG W0 M0 dr calm E ops K (⟨d, o, t, p, af, some gd⟩ :: r) ⟨fr, H, n⟩ := by
 refine .inl ?_; unfold Fy; simp only [hg, h]; exact ⟨fun hb => ⟨(h1 hb).1, (h1 hb).2, hl, h2 hb⟩, fun hb => ⟨fun _ => Ev.refl _, h3 hb⟩⟩
theorem At (hg : Bg ops fr (some gd) = some (some false)) (hk : AG W0 M0 dr calm E ops K r ⟨putD d (.cond false .any) fr, H, n⟩) : AG W0 M0 dr calm E ops K (⟨d, o, t, p, af, some gd⟩ :: r) ⟨fr, H, n⟩ := .inr (.inl ⟨hg, hk⟩)
theorem AS (hm : (dr && Ku calm d o) = false) (h : D2 W0 M0 E ⟨d, o, t, p, af, none⟩ ⟨fr, H, n⟩ (AG W0 M0 dr calm E ops K r)) : AG W0 M0 dr calm E ops K (⟨d, o, t, p, af, none⟩ :: r) ⟨fr, H, n⟩ := by
 have hm' : (dr && EK o) = false ∧ (dr && DK calm d o) = false := by
  cases dr with
  | false => exact ⟨rfl, rfl⟩
  | true => simpa [Ku] using hm
 exact .inr (.inr (.inl ⟨.inl rfl, hm'.1, h.mono fun st hs => ⟨fun h => by (have := hm'.2; simp only at h; rw [this] at h; cases h), hs⟩⟩))
theorem Rk (hq : Ep o = false) (h : RU W0 M0 E ⟨d, o, t, p, af, none⟩ ⟨fr, H, n⟩ c) (hk : AG W0 M0 dr calm E ops K r ⟨putD d c fr, H, n⟩) : AG W0 M0 dr calm E ops K (⟨d, o, t, p, af, none⟩ :: r) ⟨fr, H, n⟩ :=
 .inr (.inr (.inr ⟨.inl rfl, hq, c, h, hk⟩))
theorem Xc (hm : (dr && EK o) = false) (h : D2 W0 M0 E ⟨d, o, t, p, af, none⟩ ⟨fr, H, n⟩ (fun st' => ((dr && DK calm d o) = true → Ev H st'.H) ∧ AG W0 M0 dr calm E ops K r st')) : AG W0 M0 dr calm E ops K (⟨d, o, t, p, af, none⟩ :: r) ⟨fr, H, n⟩ := .inr (.inr (.inl ⟨.inl rfl, hm, h⟩))
end
theorem U7 (dr : Bool) (calm : List FuncId) (d : Option Tmp) (o : Op) (H : Av) : (dr && DK calm d o) = true → Ev H H := fun _ => Ev.refl _
end
end Go.Vc
/- The Vc layer: operations known by what they do to worlds: nil tests of slices, cap, append of made rows, clear, append in place, slices beyond the length. -/
set_option linter.all false
namespace Go.Vc
open Go Go.RowKit
section
variable [Bl] {P : Program} {E : Bq P} {W0 : World} {M0 : Nat → Prop} {w : World} {S : Lays} {n : Nat} {H : Av} {fr : Nat → AV} {K : St → Prop} {d : Option Tmp} {t t' ty' : TypeId} {p : String} {af : Array Edge}
theorem D2.value {o : Oper} {st : St} (hd : ∀ c, o.op ≠ .defer c) (h : ∀ (a : Act) (w : World) (S : Lays), Ai W0 M0 st.H st.n w S → (∀ x ∈ o.op.operands.toList, R w S st.n (Bc st.fr x) (a.eval x)) →
  ∃ c H' n' r w' S', (execOp a.eval o).run P w = .ok (.value r) w' ∧ Ai W0 M0 H' n' w' S' ∧ Cu w S st.n w' S' n' ∧ R w' S' n' c r ∧ K ⟨putD o.dst c st.fr, H', n'⟩) : D2 W0 M0 E o st K := by
 intro a w S h1 h2 Q
 obtain ⟨c, H', n', r, w', S', e1, e2, e3, e4, e5⟩ := h a w S h1 h2
 refine FY hd ?_
 rw [e1]
 exact ⟨c, H', n', r, S', rfl, e2, e3, e4, e5⟩
def IE : AV → Prop
 | .d (.sl xs) => xs = []
 | .d .nils => True
 | .sl _ _ len => len = 0
 | _ => False
def R9 (H : Av) : AV → Option Unit
 | .d (.sl _) => some ()
 | .d .nils => some ()
 | .sl id _ _ => match H id with
  | some (.vec ..) => some ()
  | _ => none
 | _ => none
theorem VQ (hH : Ai W0 M0 H n w S) {x : AV} {v : Value} (h : R9 H x = some ()) (hx : R w S n x v) : ∃ a l c, v = .slice a l c ∧ (a.isNone = true → IE x) ∧ (x = .d .nils → a.isNone = true) := by
 unfold R9 at h
 split at h
 ·cases hx with | d hx =>
  obtain ⟨a, cap, rfl, _⟩ := hx.slice_form
  refine ⟨a, _, cap, rfl, fun ha => ?_, fun e => by cases e⟩
  cases hx with
  | sl0 => rfl
  | sl => cases ha
 ·cases hx with | d hx =>
  cases hx
  exact ⟨none, 0, 0, rfl, fun _ => trivial, fun _ => rfl⟩
 ·rename_i id off len
  split at h
  ·rename_i hb
   obtain ⟨l, o, hS, ⟨_, _, _, _, hnil, _⟩, rfl, hcap, _, _⟩ := hx.sl_live hH hb
   refine ⟨_, _, _, rfl, fun ha => ?_, fun e => by cases e⟩
   cases hk : l.blk with
   | none => have := hnil hk; show len = 0; omega
   | some b => rw [hk] at ha; cases ha
  ·cases h
 ·cases h
theorem T0 {e : TypeId} {s b : Nat} {z : List D} {x : Operand} {c : AV} (hx : AD (Bc fr x) = c) (hn : Bw (Bc fr x)) (hty : E.X.ty t = some ⟨.slice e, s, b, z⟩) (hs : R9 H c = some ())
  (k : ∀ b : Bool, (b = true → IE c) → (c = .d .nils → b = true) → K ⟨putD d (.d (.bool b)) fr, H, n⟩) : D2 W0 M0 E ⟨d, .binOp .eql t x (.const (.slice none 0 0)) ty', t', p, af, none⟩ ⟨fr, H, n⟩ K := by
 refine .value (fun c h => by cases h) fun a w S hH hop => ?_
 have hR := (hop x (by simp [Op.operands])).bare_of hn
 rw [hx] at hR
 obtain ⟨ad, l, cp, hv, h1, h2⟩ := VQ hH hs hR
 refine ⟨_, H, n, .bool ad.isNone, w, S, ?_, hH, Cu.refl _ _ _, R.mkBool _, k _ h1 h2⟩
 have hrun := Go.Lib.run_eql_slice_nil (P := P) w t e ad l cp 0 0 (E.X.facts hty).slice
 simp only [execOp, hv, show a.eval (.const (.slice none 0 0)) = .slice none 0 0 from rfl]
 simp [eqGuard, hrun]
theorem GX {e : TypeId} {s b : Nat} {z : List D} {x : Operand} {c : AV} (hx : AD (Bc fr x) = c) (hn : Bw (Bc fr x)) (hty : E.X.ty t = some ⟨.slice e, s, b, z⟩) (hs : R9 H c = some ())
  (k : ∀ b : Bool, (b = false → IE c) → (c = .d .nils → b = false) → K ⟨putD d (.d (.bool b)) fr, H, n⟩) : D2 W0 M0 E ⟨d, .binOp .neq t x (.const (.slice none 0 0)) ty', t', p, af, none⟩ ⟨fr, H, n⟩ K := by
 refine .value (fun c h => by cases h) fun a w S hH hop => ?_
 have hR := (hop x (by simp [Op.operands])).bare_of hn
 rw [hx] at hR
 obtain ⟨ad, l, cp, hv, h1, h2⟩ := VQ hH hs hR
 refine ⟨_, H, n, .bool !ad.isNone, w, S, ?_, hH, Cu.refl _ _ _, R.mkBool _, k _ (fun h => h1 (by simpa using h)) (fun h => by simpa using h2 h)⟩
 have hrun := Go.run_neq_slice_nil (P := P) w t e ad l cp (E.X.facts hty).slice
 simp only [execOp, hv, show a.eval (.const (.slice none 0 0)) = .slice none 0 0 from rfl]
 simp [eqGuard, hrun]
/-! ### rows written in their place -/
theorem KK (hH : Ai W0 M0 H n w S) {id k tb sz : Nat} {l : Lay} {xs : List (List D)} {cur : Array Value} (hb : H id = some (.vec tb sz xs)) (hS : S id = some l) (hk : l.blk = some k) (hcur : w.heap[k]? = some (.cells cur tb (0, 0)))
  {ys : List (List D)} {news : List Value} {e0 : Nat} (hr : CW sz ys) (hnl : news.length = ys.length * sz) (he : e0 ≤ xs.length) (hfit : e0 + ys.length ≤ l.cap) (hc : ∀ e f c, D4 ys e f = some c → ∃ u, news[e * sz + f]? = some u ∧ RD w (own S) c u) :
  Ai W0 M0 (CI H id (some (.vec tb sz (A6 xs e0 ys)))) n (w.setRow k (A6 cur.toList (e0 * sz) news).toArray) S ∧ Cu w S n (w.setRow k (A6 cur.toList (e0 * sz) news).toArray) S n := by
 obtain ⟨l', hl', hsz, hcm, hxl, hz, hnil, hbk⟩ := hH.box id _ hb
 rw [hS] at hl'; cases hl'
 obtain ⟨cur', hcur', hsize, hcell⟩ := hbk k hk
 rw [hcur] at hcur'; cases hcur'
 subst hsz
 have hcs : cur.size = l.cap * l.sz := hsize
 have hmul : e0 * l.sz + news.length ≤ cur.size := by
  rw [hcs, hnl, ← Nat.add_mul]; exact Nat.mul_le_mul_right _ hfit
 refine hH.write (w' := w.setRow k (A6 cur.toList (e0 * l.sz) news).toArray) hS hk (hH.plain id l _ hb hS rfl) _ (by rw [hb]; rfl) (by simp) rfl rfl (DJ _ _ _) (fun d hd => setRow_other w k d _ hd) (fun hE => ?_)
 refine ⟨rfl, hcm, ?_, fun y hy => ?_, hnil, fun k' hk' => ?_⟩
 ·simp only [A6, List.length_append, List.length_take, List.length_drop]; omega
 ·simp only [A6, List.mem_append] at hy
  rcases hy with (hy | hy) | hy
  ·exact hz y (List.mem_of_mem_take hy)
  ·exact hr y hy
  ·exact hz y (List.mem_of_mem_drop hy)
 ·rw [hk] at hk'; cases hk'
  refine ⟨_, setRow_heap w k cur _ tb (0, 0) hcur, ?_, fun e' f' c hh => ?_⟩
  ·simp only [List.size_toArray]
   rw [CG (by simpa using hmul)]
   simpa using hsize
  ·obtain ⟨row', hrow', hf'⟩ := B4 hh
   simp only [List.getElem?_toArray]
   rw [Ea (by simpa using hmul)]
   have hl1 : (xs.take e0).length = e0 := by rw [List.length_take]; omega
   have hrl : row'.length = l.sz := by
    have : row' ∈ A6 xs e0 ys := List.mem_of_getElem? hrow'
    simp only [A6, List.mem_append] at this
    rcases this with (hy | hy) | hy
    ·exact hz _ (List.mem_of_mem_take hy)
    ·exact hr _ hy
    ·exact hz _ (List.mem_of_mem_drop hy)
   have hfl : f' < l.sz := by rw [← hrl]; exact (List.getElem?_eq_some_iff.1 hf').1
   unfold A6 at hrow'
   by_cases h1 : e' < e0
   ·rw [List.append_assoc, List.getElem?_append_left (by omega), List.getElem?_take, if_pos h1] at hrow'
    have : e' * l.sz + f' < e0 * l.sz := by
     have := Nat.mul_le_mul_right l.sz (show e' + 1 ≤ e0 from h1); rw [Nat.add_mul] at this; omega
    rw [if_neg (by omega), Array.getElem?_toList]
    obtain ⟨u, hu, hR⟩ := hcell e' f' c (by simp [D4, hrow', hf'])
    exact ⟨u, hu, hE.rd hR⟩
   ·by_cases h2 : e' < e0 + ys.length
    ·rw [List.getElem?_append_left (by rw [List.length_append]; omega), List.getElem?_append_right (by omega), hl1] at hrow'
     obtain ⟨u, hu, hR⟩ := hc (e' - e0) f' c (by simp [D4, hrow', hf'])
     have e1 : e' * l.sz = e0 * l.sz + (e' - e0) * l.sz := by rw [← Nat.add_mul]; congr 1; omega
     have e2 : (e' - e0) * l.sz + f' < news.length := (List.getElem?_eq_some_iff.1 hu).1
     rw [if_pos ⟨by omega, by omega⟩, show e' * l.sz + f' - e0 * l.sz = (e' - e0) * l.sz + f' by omega]
     exact ⟨u, hu, hE.rd hR⟩
    ·rw [List.getElem?_append_right (by rw [List.length_append]; omega), List.getElem?_drop, List.length_append, hl1, show e0 + ys.length + (e' - (e0 + ys.length)) = e' by omega] at hrow'
     have : e0 * l.sz + news.length ≤ e' * l.sz := by rw [hnl, ← Nat.add_mul]; exact Nat.mul_le_mul_right _ (by omega)
     rw [if_neg (by omega), Array.getElem?_toList]
     obtain ⟨u, hu, hR⟩ := hcell e' f' c (by simp [D4, hrow', hf'])
     exact ⟨u, hu, hE.rd hR⟩
theorem BQ.short {tb sz : Nat} {xs ys : List (List D)} {l : Lay} (h : BQ w S n (.vec tb sz (xs ++ ys)) l) : BQ w S n (.vec tb sz xs) l := by
 obtain ⟨h1, h2, h3, h4, h5, h6⟩ := h
 refine ⟨h1, h2, by rw [List.length_append] at h3; omega, fun x hx => h4 x (by simp [hx]), h5, fun b hb => ?_⟩
 obtain ⟨cur, e1, e2, e3⟩ := h6 b hb
 refine ⟨cur, e1, e2, fun e f c hh => e3 e f c ?_⟩
 obtain ⟨x, hx, hf⟩ := B4 hh
 simp [D4, List.getElem?_append_left (List.getElem?_eq_some_iff.1 hx).1, hx, hf]
theorem Ai.short (hH : Ai W0 M0 H n w S) {id tb sz : Nat} {xs ys : List (List D)} (hb : H id = some (.vec tb sz (xs ++ ys))) : Ai W0 M0 (CI H id (some (.vec tb sz xs))) n w S := by
 refine ⟨hH.bnd, hH.lt2, fun i b h => ?_, hH.inj2, hH.nod, fun i l b h1 h2 h3 => ?pl, fun i l b h1 h2 h3 => ?_, hH.os, hH.tape, hH.output, hH.size, hH.same, hH.far, hH.pin, hH.gl⟩
 case pl =>
  rw [AA] at h1
  split at h1
  ·rename_i hi; subst hi; exact hH.plain i l _ hb h2 rfl
  ·exact hH.plain i l b h1 h2 h3
 ·rw [AA] at h
  split at h
  ·rename_i hi; subst hi; cases h
   obtain ⟨l, h1, h2⟩ := hH.box i _ hb
   exact ⟨l, h1, h2.short⟩
  ·exact hH.box i b h
 ·rw [AA] at h1
  split at h1
  ·rename_i hi; subst hi; exact hH.mut2 i l b (by rw [hb]; rfl) h2 h3
  ·exact hH.mut2 i l b h1 h2 h3
end
end Go.Vc
/- The Vc layer: clear; append of made rows. -/
set_option linter.all false
namespace Go.Vc
open Go Go.RowKit
section
variable [Bl] {P : Program} {E : Bq P} {W0 : World} {M0 : Nat → Prop} {w : World} {S : Lays} {n : Nat} {H : Av} {fr : Nat → AV} {K : St → Prop} {d : Option Tmp} {t t' ty' : TypeId} {p : String} {af : Array Edge}
theorem Dx {z : Array Value} {m j : Nat} (hj : j < m * z.size) : ∃ u, (Builtin.zeroCells z m)[j]? = some u ∧ z[j % z.size]? = some u := by
 have hz : 0 < z.size := by
  rcases Nat.eq_zero_or_pos z.size with h | h
  ·rw [h] at hj; omega
  ·exact h
 have hm := Nat.mod_lt j hz
 refine ⟨z[j % z.size], ?_, by simp [hm]⟩
 simp [Builtin.zeroCells, hj, hm]
theorem LK {e : TypeId} {s b s' b' sz : Nat} {z z' : List D} {z0 : D} {sh : Sh} {x : Operand} {id off len : Nat} {xs : List (List D)} (hx : AD (Bc fr x) = .sl id off len) (hn : Bw (Bc fr x)) (hbx : H id = some (.vec e sz xs)) (hty : E.X.ty t = some ⟨.slice e, s, b, z⟩)
  (hte : E.X.ty e = some ⟨sh, s', b', z0 :: z'⟩) (hsz : s' = sz) (k : K ⟨putD d .any fr, CI H id (some (.vec e sz (xs.take off))), n⟩) : D2 W0 M0 E ⟨d, .call ⟨.builtin .clear, #[x], #[t]⟩, ty', p, af, none⟩ ⟨fr, H, n⟩ K := by
 refine .value (fun c h => by cases h) fun a w S hH hop => ?_
 have hR := (hop x (by simp [Op.operands, Call.operands])).bare_of hn
 rw [hx] at hR
 obtain ⟨lay, o, hS, hbox, hv, hcap, ho, h0⟩ := hR.sl_live hH hbx
 have hu := (E.X.facts hty).slice
 have hshort : Ai W0 M0 (CI H id (some (.vec e sz (xs.take off)))) n w S := hH.short (ys := xs.drop off) (by rw [List.take_append_drop]; exact hbx)
 have exec : ∀ {w' : World}, (Builtin.clear_ #[t] ty' #[a.eval x]).run P w = .ok (.tuple #[]) w' → (execOp a.eval ⟨d, .call ⟨.builtin .clear, #[x], #[t]⟩, ty', p, af, none⟩).run P w = .ok (.value (.tuple #[])) w' := by
  intro w' hrun
  simp only [execOp, resolve, invoke, builtin, Sem.run_bind, Sem.run_pure, Result.andThen_ok, List.map_toArray, List.map_cons, List.map_nil]
  rw [hrun]; rfl
 by_cases hl0 : len = 0
 ·subst hl0
  refine ⟨_, _, n, _, w, S, exec ?_, hshort, Cu.refl _ _ _, .any _, k⟩
  rw [hv]
  simp [Builtin.clear_, run_underlying hu]
  cases lay.blk <;> simp
 ·have hbox' := hbox
  obtain ⟨hsz', hcm, hxl, hz, hnil, hbk⟩ := hbox'
  cases hk : lay.blk with
  | none => have := hnil hk; omega
  | some g =>
   obtain ⟨cur, hcur, hsize, hcell⟩ := hbk g hk
   obtain ⟨i, zv, hi, his, hib, hzv, hzs, hzero⟩ := (E.X.facts hte).info
   obtain ⟨hzl, hzr⟩ := hzero (by simp)
   simp only at his hzs hzl
   have hes : sz = lay.sz := hsz'.symm
   have ho' := ho (by omega)
   have hzlen : (Builtin.zeroCells zv.cells len).toList.length = len * sz := by simp [Builtin.zeroCells, hzs, hsz]
   have hzsz : (Builtin.zeroCells zv.cells len).size = len * sz := by simpa using hzlen
   have hfit : off * sz + len * sz ≤ cur.size := by rw [hsize, ← Nat.add_mul]; exact Nat.mul_le_mul_right _ hcap
   have hrun := run_storeCells_at (P := P) g (off * sz) e (Builtin.zeroCells zv.cells len).toList 0 cur w hcur (by rw [hzlen]; omega) (fun u hu => by
    obtain ⟨j, hj⟩ := List.getElem?_of_mem hu
    rw [Array.getElem?_toList] at hj
    have hjl : j < len * zv.cells.size := by
     have := (Array.getElem?_eq_some_iff.1 hj).1
     simpa [Builtin.zeroCells] using this
    obtain ⟨u', h1, h2⟩ := Dx hjl
    rw [hj] at h1; cases h1
    have hlt := (Array.getElem?_eq_some_iff.1 h2).1
    have hlt' : j % zv.cells.size < (z0 :: z').length := by omega
    exact (hzr w (fun _ => False) _ _ _ (List.getElem?_eq_getElem hlt') h2).one)
   simp only [Nat.add_zero] at hrun
   obtain ⟨hH', hE⟩ := hshort.write (w' := w.setRow g (A6 cur.toList (off * sz) (Builtin.zeroCells zv.cells len).toList).toArray) hS hk (hH.plain _ lay _ hbx hS rfl) (.vec e sz (xs.take off)) (by rw [AA, if_pos rfl]; rfl) rfl rfl rfl (DJ _ _ _) (fun d hd => setRow_other w g d _ hd) (fun hE => by
    refine ⟨hsz', hcm, by rw [List.length_take]; omega, fun y hy => hz y (List.mem_of_mem_take hy), hnil, fun k' hk' => ?_⟩
    rw [hk] at hk'; cases hk'
    refine ⟨_, setRow_heap w g cur _ e (0, 0) hcur, ?_, fun e1 f1 c1 hh => ?_⟩
    ·simp only [List.size_toArray]
     rw [CG (by simp only [Array.length_toList]; rw [hzsz]; exact hfit)]
     simpa using hsize
    ·obtain ⟨row, hrow, hf⟩ := B4 hh
     rw [List.getElem?_take] at hrow
     split at hrow
     ·rename_i h1
      obtain ⟨u, hu, hR⟩ := hcell e1 f1 c1 (by simp [D4, hrow, hf])
      have hfl : f1 < sz := by rw [← hz row (List.mem_of_getElem? hrow)]; exact (List.getElem?_eq_some_iff.1 hf).1
      have : e1 * sz + f1 < off * sz := by
       have := Nat.mul_le_mul_right sz (show e1 + 1 ≤ off from h1); rw [Nat.add_mul] at this; omega
      refine ⟨u, ?_, hE.rd hR⟩
      simp only [List.getElem?_toArray]
      rw [Ea (by simp only [Array.length_toList]; rw [hzsz]; exact hfit), if_neg (by omega), Array.getElem?_toList]
      exact hu
     ·cases hrow)
   have e2 : CI (CI H id (some (.vec e sz (xs.take off)))) id (some (.vec e sz (xs.take off))) = CI H id (some (.vec e sz (xs.take off))) := by
    funext j; simp only [AA]; split <;> rfl
   rw [e2] at hH'
   refine ⟨_, _, n, _, _, S, exec ?_, hH', hE, .any _, k⟩
   rw [hv, hk]
   obtain ⟨m, rfl⟩ : ∃ m, len = m + 1 := ⟨len - 1, by omega⟩
   have hzv' : ∀ w, (zeroValue e).run P w = .ok zv w := fun w => by simp [zeroValue, typeInfo, hi, hzv]
   rw [ho', ← hes]
   simp [Builtin.clear_, run_underlying hu, hzv', hrun, A6]
theorem TK (z : Array Value) (a b : Nat) : Builtin.zeroCells z a ++ Builtin.zeroCells z b = Builtin.zeroCells z (a + b) := by
 apply Array.ext_getElem?
 intro j
 rw [Array.getElem?_append]
 have hsz : ∀ m, (Builtin.zeroCells z m).size = m * z.size := fun m => by simp [Builtin.zeroCells]
 rw [hsz]
 split
 ·rename_i h
  obtain ⟨u, h1, h2⟩ := Dx h
  obtain ⟨u', h3, h4⟩ := Dx (z := z) (m := a + b) (j := j) (by rw [Nat.add_mul]; omega)
  rw [h2] at h4; cases h4
  rw [h1, h3]
 ·rename_i h
  by_cases hb : j < (a + b) * z.size
  ·have hb' : j - a * z.size < b * z.size := by rw [Nat.add_mul] at hb; omega
   obtain ⟨u, h1, h2⟩ := Dx hb'
   obtain ⟨u', h3, h4⟩ := Dx hb
   have hm : (j - a * z.size) % z.size = j % z.size := by
    have e0 : a * z.size = z.size * a := Nat.mul_comm _ _
    conv => rhs; rw [show j = (j - a * z.size) + z.size * a by omega]
    rw [Nat.add_mul_mod_self_left]
   rw [hm, h4] at h2; cases h2
   rw [h1, h3]
  ·rw [Array.getElem?_eq_none (by rw [hsz, ]; rw [Nat.add_mul] at hb; omega), Array.getElem?_eq_none (by rw [hsz]; omega)]
end
end Go.Vc
/- The Vc layer: boxes as lists: rewriting rules. -/
set_option linter.all false
namespace Go.Vc
open Go Go.RowKit
def Cc : List (Option B7) → Nat → Option B7 → List (Option B7)
 | [], 0, b => [b]
 | [], i + 1, b => none :: Cc [] i b
 | _ :: l, 0, b => b :: l
 | x :: l, i + 1, b => x :: Cc l i b
theorem Oc (i : Nat) : Ax [] i = none := rfl
theorem SG (b : Option B7) (l : List (Option B7)) : Ax (b :: l) 0 = b := by simp [Ax]
theorem CT (b : Option B7) (l : List (Option B7)) (i : Nat) : Ax (b :: l) (i + 1) = Ax l i := by simp [Ax]
theorem SF : ∀ (i : Nat) (l : List (Option B7)) (b : Option B7) (j : Nat), Ax (Cc l i b) j = if j = i then b else Ax l j := by
 intro i
 induction i with
 | zero =>
  intro l b j
  cases l with
  | nil => cases j with
   | zero => simp [Cc, Ax]
   | succ j => simp [Cc, Ax]
  | cons x l => cases j with
   | zero => simp [Cc, Ax]
   | succ j => simp [Cc, Ax]
 | succ i ih =>
  intro l b j
  cases l with
  | nil => cases j with
   | zero => simp [Cc, Ax]
   | succ j => rw [Cc, CT, ih, Oc, Oc]; simp
  | cons x l => cases j with
   | zero => simp [Cc, Ax]
   | succ j => rw [Cc, CT, ih, CT]; simp
theorem Es (l : List (Option B7)) (i : Nat) (b : Option B7) : CI (Ax l) i b = Ax (Cc l i b) := by
 funext j; rw [SF]; rfl
def Bk (B : List Nat) : List (Option B7) → Nat → List (Option B7)
 | [], _ => []
 | b :: r, i => (if i ∈ B then none else b) :: Bk B r (i + 1)
theorem FM (B : List Nat) : ∀ (l : List (Option B7)) (k j : Nat), Ax (Bk B l k) j = if k + j ∈ B then none else Ax l j := by
 intro l
 induction l with
 | nil => intro k j; simp [Bk, Ax]
 | cons b r ih =>
  intro k j
  cases j with
  | zero => simp [Bk, Ax]
  | succ j => rw [Bk, CT, ih, CT, show k + 1 + j = k + (j + 1) by omega]
theorem SR (B : List Nat) (l : List (Option B7)) : B6 B (Ax l) = Ax (Bk B l 0) := by
 funext j; rw [FM]; simp [B6]
/-! ### calls that hand boxes over -/
def K2 (ds B : List Nat) (n : Nat) (bf : List (Option B7)) : List (Option B7) → Nat → List (Option B7)
 | [], _ => []
 | b :: r, i => (if i ∈ B then none else match Dk ds i with | some j => Ex ds n (Ax bf j) | none => b) :: K2 ds B n bf r (i + 1)
def MJ (ds : List Nat) (n : Nat) : List (Option B7) → List (Option B7)
 | [] => []
 | b :: r => Ex ds n b :: MJ ds n r
def L4 : List Nat → Nat → Prop
 | [], _ => True
 | b :: r, n => b < n ∧ L4 r n
theorem OA (ds B : List Nat) (n : Nat) (bf : List (Option B7)) : ∀ (l : List (Option B7)) (k : Nat), (K2 ds B n bf l k).length = l.length := by
 intro l
 induction l with
 | nil => intro k; rfl
 | cons b r ih => intro k; simp [K2, ih]
theorem SE (ds B : List Nat) (n : Nat) (bf : List (Option B7)) : ∀ (l : List (Option B7)) (k j : Nat), j < l.length → Ax (K2 ds B n bf l k) j = if k + j ∈ B then none else match Dk ds (k + j) with | some m => Ex ds n (Ax bf m) | none => Ax l j := by
 intro l
 induction l with
 | nil => intro k j h; simp at h
 | cons b r ih =>
  intro k j h
  cases j with
  | zero => simp [K2, Ax]
  | succ j => rw [K2, CT, ih _ _ (by simpa using h), CT, show k + 1 + j = k + (j + 1) by omega]
theorem SD (ds : List Nat) (n : Nat) : ∀ (l : List (Option B7)) (j : Nat), Ax (MJ ds n l) j = Ex ds n (Ax l j) := by
 intro l
 induction l with
 | nil => intro j; rfl
 | cons b r ih =>
  intro j
  cases j with
  | zero => simp [MJ, Ax]
  | succ j => rw [MJ, CT, ih, CT]
theorem IH {l m : List (Option B7)} {j : Nat} (h : j < l.length) : Ax (l ++ m) j = Ax l j := by simp [Ax, List.getElem?_append_left h]
theorem HT {l m : List (Option B7)} {j : Nat} (h : l.length ≤ j) : Ax (l ++ m) j = Ax m (j - l.length) := by simp [Ax, List.getElem?_append_right h]
theorem SC (l : List (Option B7)) (k j : Nat) : Ax (l.drop k) j = Ax l (k + j) := by simp [Ax, List.getElem?_drop]
theorem UW : ∀ {B : List Nat} {n i : Nat}, L4 B n → i ∈ B → i < n := by
 intro B
 induction B with
 | nil => intro n i _ h; cases h
 | cons b r ih =>
  intro n i h hi
  rcases List.mem_cons.1 hi with rfl | hi
  ·exact h.1
  ·exact ih h.2 hi
theorem HS {ds B : List Nat} {n : Nat} {bl bf : List (Option B7)} (hn : bl.length = n) (hB : L4 B n) : B6 B (Ed ds n (Ax bl) (Nl ds n (Cb ds (Ax bl)) bf)) = Ax (K2 ds B n bf bl 0 ++ MJ ds n (bf.drop ds.length)) := by
 funext j
 have hol := OA ds B n bf bl 0
 by_cases hj : j < n
 ·rw [IH (by omega), SE _ _ _ _ _ _ _ (by omega), Nat.zero_add]
  show (if j ∈ B then none else Ed ds n (Ax bl) (Nl ds n (Cb ds (Ax bl)) bf) j) = _
  split
  ·rfl
  ·unfold Ed
   cases hx : Dk ds j with
   | none =>
    have := GT hx
    rw [if_neg (by rintro (h | h); exact this h; omega)]
   | some m =>
    have := Ot hx
    rw [if_pos (.inl this)]
    unfold Nl
    rw [if_pos hj, hx]
 ·rw [HT (by omega), SD, SC, hol, hn]
  show (if j ∈ B then none else Ed ds n (Ax bl) (Nl ds n (Cb ds (Ax bl)) bf) j) = _
  rw [if_neg (fun h => hj (UW hB h))]
  unfold Ed Nl
  rw [if_pos (.inr (by omega)), if_neg hj]
theorem IG {ds : List Nat} {n : Nat} {bl bf : List (Option B7)} (hn : bl.length = n) : Ed ds n (Ax bl) (Nl ds n (Cb ds (Ax bl)) bf) = Ax (K2 ds [] n bf bl 0 ++ MJ ds n (bf.drop ds.length)) := by
 rw [← HS hn (B := []) trivial]
 funext j; simp [B6]
theorem Um : (∀ b, Cc [] 0 b = [b]) ∧ (∀ i b, Cc [] (i + 1) b = none :: Cc [] i b) ∧ (∀ x l b, Cc (x :: l) 0 b = b :: l) ∧ (∀ x l i b, Cc (x :: l) (i + 1) b = x :: Cc l i b) ∧
  (∀ B i, Bk B [] i = []) ∧ (∀ B b r i, Bk B (b :: r) i = (if i ∈ B then none else b) :: Bk B r (i + 1)) ∧
  (∀ ds B n bf i, K2 ds B n bf [] i = []) ∧ (∀ ds B n bf b r i, K2 ds B n bf (b :: r) i = (if i ∈ B then none else match Dk ds i with | some j => Ex ds n (Ax bf j) | none => b) :: K2 ds B n bf r (i + 1)) ∧
  (∀ ds n, MJ ds n [] = []) ∧ (∀ ds n b r, MJ ds n (b :: r) = Ex ds n b :: MJ ds n r) ∧ (∀ n, L4 [] n = True) ∧ (∀ b r n, L4 (b :: r) n = (b < n ∧ L4 r n)) :=
 ⟨fun _ => rfl, fun _ _ => rfl, fun _ _ _ => rfl, fun _ _ _ _ => rfl, fun _ _ => rfl, fun _ _ _ _ => rfl, fun _ _ _ _ _ => rfl, fun _ _ _ _ _ _ _ => rfl, fun _ _ => rfl, fun _ _ _ _ => rfl, fun _ => rfl, fun _ _ _ => rfl⟩
theorem U8 : (∀ i o l, M6 (.sl i o l) = [i]) ∧ (∀ i o l, M6 (.ptr i o l) = [i]) ∧ (∀ x, M6 (.d x) = []) ∧ (M6 .any = []) ∧ (∀ z xs e f, M6 (.ip z xs e f) = []) ∧ (KY [] = []) ∧ (∀ c cs, KY (c :: cs) = M6 c ++ KY cs) ∧
  (∀ cs, KX (.agg cs) = KY cs) ∧ (∀ f cs, KX (.clo f cs) = KY cs) ∧ (∀ i o l, KX (.sl i o l) = [i]) ∧ (∀ i o l, KX (.ptr i o l) = [i]) ∧ (∀ x, KX (.d x) = []) ∧ (KX .any = []) ∧ (∀ z xs e f, KX (.ip z xs e f) = []) ∧
  (Og [] = []) ∧ (∀ c cs, Og (c :: cs) = KX c ++ Og cs) ∧ (∀ t cs, SK (some (.one t cs)) = KY cs) ∧ (∀ t s xs, SK (some (.vec t s xs)) = []) ∧ (SK none = []) ∧ (∀ l, Eg l [] = l) ∧ (∀ l i r, Eg l (i :: r) = if i ∈ l then Eg l r else Eg (l ++ [i]) r) ∧
  (∀ H, L0 H [] = []) ∧ (∀ H i r, L0 H (i :: r) = SK (H i) ++ L0 H r) ∧ (∀ args H, Jh args H = Eg (Eg [] (Og args)) (L0 H (Eg [] (Og args)))) ∧
  (∀ i, Dk [] i = none) ∧ (∀ d r i, Dk (d :: r) i = if i = d then some 0 else (Dk r i).map (· + 1)) ∧ (Ei [] = true) ∧ (∀ d r, Ei (d :: r) = if d ∈ r then false else Ei r) ∧ (∀ i, M6 (.mp i) = [i]) ∧ (∀ i, KX (.mp i) = [i]) ∧ (∀ o, SK (some (.ob o)) = []) := by
 refine ⟨fun _ _ _ => rfl, fun _ _ _ => rfl, fun _ => rfl, rfl, fun _ _ _ _ => rfl, rfl, fun _ _ => rfl, fun _ => rfl, fun _ _ => rfl, fun _ _ _ => rfl, fun _ _ _ => rfl, fun _ => rfl, rfl, fun _ _ _ _ => rfl, rfl, fun _ _ => rfl, fun _ _ => rfl, fun _ _ _ => rfl, rfl, fun _ => rfl, fun l i r => ?_, fun _ => rfl, fun _ _ _ => rfl, fun _ _ => rfl, fun _ => rfl, fun d r i => ?_, rfl, fun d r => ?_, fun _ => rfl, fun _ => rfl, fun _ => rfl⟩
 ·by_cases h : i ∈ l
  ·simp [Eg, h]
  ·simp [Eg, h]
 ·by_cases hi : i = d
  ·simp [Dk, hi]
  ·cases h : Dk r i <;> simp [Dk, hi, h]
 ·by_cases h : d ∈ r <;> simp [Ei, h]
theorem UM : (∀ ds i o l, HW ds (.sl i o l) = (Dk ds i).map fun j => .sl j o l) ∧ (∀ ds i e f, HW ds (.ptr i e f) = (Dk ds i).map fun j => .ptr j e f) ∧ (∀ ds x, HW ds (.d x) = some (.d x)) ∧ (∀ ds z xs e f, HW ds (.ip z xs e f) = some (.ip z xs e f)) ∧ (∀ ds, HW ds .any = some .any) ∧
  (∀ ds, Oq ds [] = some []) ∧ (∀ ds c cs, Oq ds (c :: cs) = (HW ds c).bind fun x => (Oq ds cs).map (x :: ·)) ∧ (∀ ds cs, HX ds (.agg cs) = (Oq ds cs).map .agg) ∧ (∀ ds f cs, HX ds (.clo f cs) = (Oq ds cs).map (.clo f)) ∧
  (∀ ds i o l, HX ds (.sl i o l) = (Dk ds i).map fun j => .sl j o l) ∧ (∀ ds i e f, HX ds (.ptr i e f) = (Dk ds i).map fun j => .ptr j e f) ∧ (∀ ds x, HX ds (.d x) = some (.d x)) ∧ (∀ ds z xs e f, HX ds (.ip z xs e f) = some (.ip z xs e f)) ∧ (∀ ds, HX ds .any = some .any) ∧
  (∀ ds, UG ds [] = some []) ∧ (∀ ds c cs, UG ds (c :: cs) = (HX ds c).bind fun x => (UG ds cs).map (x :: ·)) ∧ (∀ ds t s xs, GB ds (some (.vec t s xs)) = some (.vec t s xs)) ∧ (∀ ds t cs, GB ds (some (.one t cs)) = (Oq ds cs).map (.one t)) ∧ (∀ ds, GB ds none = none) ∧
  (∀ ds H, HY ds H [] = some []) ∧ (∀ ds H d r, HY ds H (d :: r) = (GB ds (H d)).bind fun b => (HY ds H r).map (some b :: ·)) ∧ (∀ ds i, HW ds (.mp i) = (Dk ds i).map fun j => .mp j) ∧ (∀ ds i, HX ds (.mp i) = (Dk ds i).map fun j => .mp j) ∧ (∀ ds o, GB ds (some (.ob o)) = some (.ob o)) := by
 refine ⟨fun ds i o l => ?_, fun ds i o l => ?_, fun _ _ => rfl, fun _ _ _ _ _ => rfl, fun _ => rfl, fun _ => rfl, fun ds c cs => ?_, fun ds cs => ?_, fun ds f cs => ?_, fun ds i o l => ?_, fun ds i o l => ?_, fun _ _ => rfl, fun _ _ _ _ _ => rfl, fun _ => rfl, fun _ => rfl, fun ds c cs => ?_, fun _ _ _ _ => rfl, fun ds t cs => ?_, fun _ => rfl, fun _ _ => rfl, fun ds H d r => ?_, fun ds i => ?_, fun ds i => ?_, fun _ _ => rfl⟩
 ·cases h : Dk ds i <;> simp [HW, h]
 ·cases h : Dk ds i <;> simp [HW, h]
 ·rw [Oq]; cases HW ds c <;> cases Oq ds cs <;> rfl
 ·cases h : Oq ds cs <;> simp [HX, h]
 ·cases h : Oq ds cs <;> simp [HX, h]
 ·cases h : Dk ds i <;> simp [HX, HW, h]
 ·cases h : Dk ds i <;> simp [HX, HW, h]
 ·rw [UG]; cases HX ds c <;> cases UG ds cs <;> rfl
 ·cases h : Oq ds cs <;> simp [GB, h]
 ·rw [HY]; cases GB ds (H d) <;> cases HY ds H r <;> rfl
 ·cases h : Dk ds i <;> simp [HW, h]
 ·cases h : Dk ds i <;> simp [HX, HW, h]
theorem V1 : (∀ n i, KM [] n i = n + i) ∧ (∀ d ds n, KM (d :: ds) n 0 = d) ∧ (∀ d ds n i, KM (d :: ds) n (i + 1) = KM ds n i) ∧ (∀ ds n i o l, Vw ds n (.sl i o l) = .sl (KM ds n i) o l) ∧ (∀ ds n i e f, Vw ds n (.ptr i e f) = .ptr (KM ds n i) e f) ∧ (∀ ds n x, Vw ds n (.d x) = .d x) ∧
  (∀ ds n z xs e f, Vw ds n (.ip z xs e f) = .ip z xs e f) ∧ (∀ ds n, Vw ds n .any = .any) ∧ (∀ ds n, Nm ds n [] = []) ∧ (∀ ds n c cs, Nm ds n (c :: cs) = Vw ds n c :: Nm ds n cs) ∧ (∀ ds n, Jv ds n [] = []) ∧ (∀ ds n c cs, Jv ds n (c :: cs) = Ru ds n c :: Jv ds n cs) ∧
  (∀ ds n cs, Ru ds n (.agg cs) = .agg (Nm ds n cs)) ∧ (∀ ds n f cs, Ru ds n (.clo f cs) = .clo f (Nm ds n cs)) ∧ (∀ ds n i o l, Ru ds n (.sl i o l) = .sl (KM ds n i) o l) ∧ (∀ ds n i e f, Ru ds n (.ptr i e f) = .ptr (KM ds n i) e f) ∧ (∀ ds n x, Ru ds n (.d x) = .d x) ∧
  (∀ ds n z xs e f, Ru ds n (.ip z xs e f) = .ip z xs e f) ∧ (∀ ds n, Ru ds n .any = .any) ∧ (∀ ds n cs, Ti ds n (.tup cs) = .tup (Jv ds n cs)) ∧ (∀ ds n cs, Ti ds n (.agg cs) = .agg (Nm ds n cs)) ∧ (∀ ds n f cs, Ti ds n (.clo f cs) = .clo f (Nm ds n cs)) ∧
  (∀ ds n i o l, Ti ds n (.sl i o l) = .sl (KM ds n i) o l) ∧ (∀ ds n i e f, Ti ds n (.ptr i e f) = .ptr (KM ds n i) e f) ∧ (∀ ds n x, Ti ds n (.d x) = .d x) ∧ (∀ ds n, Ti ds n .any = .any) ∧ (∀ ds n t s xs, Ex ds n (some (.vec t s xs)) = some (.vec t s xs)) ∧ (∀ ds n t cs, Ex ds n (some (.one t cs)) = some (.one t (Nm ds n cs))) ∧ (∀ ds n, Ex ds n none = none) ∧
  (DD [] = true) ∧ (∀ b r, DD (some b :: r) = DD r) ∧ (∀ ds n i, Vw ds n (.mp i) = .mp (KM ds n i)) ∧ (∀ ds n i, Ru ds n (.mp i) = .mp (KM ds n i)) ∧ (∀ ds n i, Ti ds n (.mp i) = .mp (KM ds n i)) ∧ (∀ ds n o, Ex ds n (some (.ob o)) = some (.ob o)) := by
 refine ⟨fun n i => ?_, fun _ _ _ => rfl, fun d ds n i => ?_, fun _ _ _ _ _ => rfl, fun _ _ _ _ _ => rfl, fun _ _ _ => rfl, fun _ _ _ _ _ _ => rfl, fun _ _ => rfl, fun _ _ => rfl, fun _ _ _ _ => rfl, fun _ _ => rfl, fun _ _ _ _ => rfl, fun _ _ _ => rfl, fun _ _ _ _ => rfl, fun _ _ _ _ _ => rfl, fun _ _ _ _ _ => rfl, fun _ _ _ => rfl, fun _ _ _ _ _ _ => rfl, fun _ _ => rfl, fun _ _ _ => rfl, fun _ _ _ => rfl, fun _ _ _ _ => rfl, fun _ _ _ _ _ => rfl, fun _ _ _ _ _ => rfl, fun _ _ _ => rfl, fun _ _ => rfl, fun _ _ _ _ _ => rfl, fun _ _ _ _ => rfl, fun _ _ => rfl, rfl, fun _ _ => rfl, fun _ _ _ => rfl, fun _ _ _ => rfl, fun _ _ _ => rfl, fun _ _ _ => rfl⟩
 ·simp [KM]
 ·simp only [KM, List.getElem?_cons_succ, List.length_cons, Nat.add_sub_add_right]
theorem WR (g : DP) (ds : List Nat) (args : List AV) (H : Av) (n : Nat) : Ft g ds args H n = (UG ds args).bind fun ia => (HY ds H ds).bind fun bl => (g ia bl).bind fun x => if Ei ds = true ∧ ds.length ≤ x.2.2.length ∧ DD (x.2.2.drop ds.length) = true then some (x.1, Ti ds n x.2.1, some (Nl ds n H x.2.2, n + (x.2.2.length - ds.length))) else none := by
 unfold Ft
 cases UG ds args with
 | none => rfl
 | some ia =>
  cases HY ds H ds with
  | none => rfl
  | some bl =>
   simp only [Option.bind_some]
   cases g ia bl with
   | none => rfl
   | some x => obtain ⟨p, r, bf⟩ := x; rfl
/-! ### more boxes -/
def W2 : List (Option B7) → List (Option B7) → Prop
 | [], _ => True
 | none :: r, _ :: r' => W2 r r'
 | some b :: r, c :: r' => c = some b ∧ W2 r r'
 | none :: r, [] => W2 r []
 | some _ :: _, [] => False
theorem Y6 : ∀ {l l' : List (Option B7)}, W2 l l' → Ev (Ax l) (Ax l') := by
 intro l
 induction l with
 | nil => intro l' _ i b h; cases h
 | cons x l ih =>
  intro l' h i b hb
  cases x with
  | none => cases l' with
   | nil =>
    cases i with
    | zero => cases hb
    | succ i => rw [CT] at hb; exact ih (l' := []) h i b hb
   | cons c r =>
    cases i with
    | zero => cases hb
    | succ i => rw [CT] at hb ⊢; exact ih h i b hb
  | some y => cases l' with
   | nil => exact h.elim
   | cons c r =>
    cases i with
    | zero => rw [SG] at hb ⊢; cases hb; exact h.1
    | succ i => rw [CT] at hb ⊢; exact ih h.2 i b hb
theorem UR : (∀ l, W2 [] l = True) ∧ (∀ r c r', W2 (none :: r) (c :: r') = W2 r r') ∧ (∀ b r c r', W2 (some b :: r) (c :: r') = (c = some b ∧ W2 r r')) := ⟨fun l => by cases l <;> rfl, fun _ _ _ => rfl, fun _ _ _ _ => rfl⟩
theorem U6 (dr : Bool) (calm : List FuncId) (d : Option Tmp) (o : Op) {l l' : List (Option B7)} (h : W2 l l') : (dr && DK calm d o) = true → Ev (Ax l) (Ax l') := fun _ => Y6 h
def bw := And.intro @Es (And.intro @SR @Um)
def gw := And.intro @U8 (And.intro @UM (And.intro @V1 @WR))
end Go.Vc
/- The Vc layer: parts of rows that are handed on with no room behind. -/
set_option linter.all false
namespace Go.Vc
open Go Go.RowKit
end Go.Vc
/- The Vc layer: regions taken in an order of one's own. -/
set_option linter.all false
namespace Go.Vc
open Go Go.RowKit
def Ee (l : List Oper) : List Nat → List Oper
 | [] => []
 | i :: r => match l[i]? with
  | some o => o :: Ee l r
  | none => Ee l r
def K1 (calm : List FuncId) (md : Region.Mode) (ops : Array Oper) : List Nat → Array Bool → Bool
 | [], l => (Region.ready md ops l).isEmpty
 | i :: r, l => decide (i < ops.size) && (H0 calm md ops l i || Region.ready md ops l == [i]) && K1 calm md ops r (l.setIfInBounds i true)
def Vr (calm : List FuncId) (N : Nat) (ord : List Nat) (ops : Array Oper) : Bool :=
 ops.all (fun o => match o.dst with | some d => decide (d < N) | none => true) && ord.length == ops.size && K1 calm .any ops ord (Array.replicate ops.size false)
section
variable [Bl] {P : Program} {E : Bq P} {W0 : World} {M0 : Nat → Prop}
theorem RQ {calm : List FuncId} {md : Region.Mode} {ops : List Oper} {K : St → Prop} : ∀ (ord : List Nat) (l : Array Bool) (st : St), K1 calm md ops.toArray ord l = true → AG W0 M0 true calm E ops.toArray K (Ee ops ord) st → Fj W0 M0 calm E md ops.toArray K ord.length l st := by
 intro ord
 induction ord with
 | nil =>
  intro l st hok h
  exact ⟨by simpa [K1] using hok, h⟩
 | cons i ord ih =>
  intro l st hok h
  simp only [K1, Bool.and_eq_true, Bool.or_eq_true, decide_eq_true_eq] at hok
  obtain ⟨⟨hi, hf⟩, hok⟩ := hok
  have ho : ops[i]? = some (ops[i]'(by simpa using hi)) := List.getElem?_eq_getElem _
  generalize ops[i]'(by simpa using hi) = o at ho
  have ho' : ops.toArray[i]? = some o := by simpa using ho
  have h' : stepG W0 M0 true calm E ops.toArray o st (AG W0 M0 true calm E ops.toArray K (Ee ops ord)) := by
   unfold Ee at h; rw [ho] at h; exact h
  have next : ∀ st, AG W0 M0 true calm E ops.toArray K (Ee ops ord) st → Fj W0 M0 calm E md ops.toArray K ord.length (l.setIfInBounds i true) st := fun st hs => ih _ st hok hs
  rcases hf with hf | hone
  ·simp only [H0, ho', Bool.and_eq_true] at hf
   obtain ⟨⟨ht, hrd⟩, ⟨⟨hiW, hWl⟩, hWa⟩, hfree⟩ := hf
   obtain ⟨c, hv, hK⟩ := HB ht h'
   generalize Iy md ops.toArray l i = W at *
   refine Gw ho' ht W (by simpa using hiW) ord.length l st (fun j hj => ?_) (fun j hj hne oj hoj => ?_) (fun j oj hoj hjW hun => ?_) (by simpa using hrd) hv (next _ hK)
   ·have := List.all_eq_true.1 hWl j hj
    simpa using this
   ·have := List.all_eq_true.1 hWa j hj
    simp only [hoj, Bool.or_eq_true, beq_iff_eq, hne, false_or] at this
    obtain ⟨e, he, hb⟩ := Array.any_eq_true'.1 this
    simp only [Bool.and_eq_true] at hb
    exact ⟨e, he, hb.1, by simpa using hb.2⟩
   ·have := List.all_eq_true.1 hfree j (List.mem_range.2 (Array.getElem?_eq_some_iff.1 hoj).1)
    simp only [hoj, Bool.or_eq_true, Bool.and_eq_true, hun, Bool.false_eq_true, or_false] at this
    rcases this with h1 | h1
    ·exact absurd (by simpa using h1) hjW
    ·exact ⟨h1.1, h1.2⟩
  ·have hone : Region.ready md ops.toArray l = [i] := by simpa using hone
   refine ⟨fun h0 => absurd (hone.symm.trans h0) (by simp), fun j hj oj hoj => ?_⟩
   rw [hone] at hj
   simp only [List.mem_singleton] at hj
   subst hj
   rw [ho'] at hoj; cases hoj
   exact Fx next h'
theorem JF (calm : List FuncId) (ord : List Nat) (hm : P.follows .mixedOrders = true) {id : Nat} {l : List Oper} (hok : Vr calm E.N ord l.toArray = true) {st : St} {K : Exit → St → Prop} (h : AG W0 M0 true calm E l.toArray (K .normal) (Ee l ord) st) : VC E W0 M0 (.region id l.toArray true) st K := by
 intro a w hs
 simp only [Vr, Bool.and_eq_true, beq_iff_eq] at hok
 have hd : ∀ o ∈ l, ∀ d, o.dst = some d → d < E.N := by
  intro o ho d hd
  have := Array.all_eq_true_iff_forall_mem.1 hok.1.1 o (by simpa using ho)
  rw [hd] at this
  simpa using this
 refine wpIn_region_any hm (JI (calm := calm) (E := E) (W0 := W0) (M0 := M0) (K := K .normal) (fun i o d ho hdd => hd o (by
  have := List.mem_of_getElem? (l := l) (i := i) (by simpa using ho); exact this) d hdd) (fun st a w h1 h2 => ⟨st, h1, h2⟩) _ _ st a _ ?_ hs.drawn)
 have := RQ (md := .any) ord _ st hok.2 h
 rw [hok.1.2] at this
 exact this
end
theorem Ah : (∀ l, Ee l [] = []) ∧ (∀ l i r, Ee l (i :: r) = match l[i]? with | some o => o :: Ee l r | none => Ee l r) := ⟨fun _ => rfl, fun _ _ _ => rfl⟩
end Go.Vc
/- The Vc layer: calls whose arguments are handed on as they are known (a nil that must be seen to be nil). -/
set_option linter.all false
namespace Go.Vc
open Go Go.RowKit
section
variable [Bl] {P : Program} {E : Bq P} {W0 : World} {M0 : Nat → Prop} {w : World} {S : Lays} {n : Nat} {H : Av} {fr : Nat → AV} {K : St → Prop} {d : Option Tmp} {t' : TypeId} {p : String} {af : Array Edge}
end
end Go.Vc
/- The Vc layer: what an argument's data is, by its type; facts about types by closed Booleans. -/
set_option linter.all false
namespace Go.Vc
open Go Go.RowKit
section
variable {P : Program} {k : Nat} {t e : TypeId}
def Om (P : Program) (t : TypeId) : Bool := match P.underlying t with | some (.int .i64) => true | _ => false
def Ri (P : Program) (t : TypeId) : Bool := match P.underlying t with | some .string => true | _ => false
def On (P : Program) (t e : TypeId) : Bool := match P.underlying t with | some (.slice x) => x == e | _ => false
def Jd (P : Program) (t : TypeId) (n : Nat) (l : List (Nat × Nat × TypeId)) : Bool := match P.underlying t with
 | some (.struct fs) => P.cellsOf t == n && (fs.toList.map fun f => (f.offset, P.cellsOf f.type, f.type)) == l
 | _ => false
theorem UD (h : Om P t = true) : P.underlying t = some (.int .i64) := by
 unfold Om at h; split at h
 ·assumption
 ·cases h
theorem UE (h : Ri P t = true) : P.underlying t = some .string := by
 unfold Ri at h; split at h
 ·assumption
 ·cases h
theorem Rh (h : On P t e = true) : P.underlying t = some (.slice e) := by
 unfold On at h; split at h
 ·rename_i x hx; rw [hx, beq_iff_eq.1 h]
 ·cases h
theorem Ng {ds : List D} (h : WT P (k + 1) t ds) (ht : Om P t = true) : ∃ n, ds = eI n ∧ D1 n := by
 unfold WT at h; rw [UD ht] at h
 obtain ⟨n, rfl, hn⟩ := h
 refine ⟨n, rfl, ?_⟩
 simp only [Lit.wf, Bool.and_eq_true, decide_eq_true_eq] at hn
 exact hn
theorem QH {ds : List D} (h : WT P (k + 1) t ds) (ht : Ri P t = true) : ∃ s, ds = eS s ∧ s.length ≤ 9223372036854775807 := by
 unfold WT at h; rw [UE ht] at h; obtain ⟨s, h1, h2, _⟩ := h; exact ⟨s, h1, h2⟩
theorem Ph {ds : List D} (h : WT P (k + 1) t ds) (ht : On P t e = true) : ∃ xs, ds = [.sl xs] ∧ xs.length ≤ 9223372036854775807 ∧ ∀ x ∈ xs, WT P k e x := by
 unfold WT at h; rw [Rh ht] at h; obtain ⟨s, h1, h2, h3, _⟩ := h; exact ⟨s, h1, h2, h3⟩
theorem QG {ds : List D} {n : Nat} {l : List (Nat × Nat × TypeId)} (h : WT P (k + 1) t ds) (ht : Jd P t n l = true) : ds.length = n ∧ ∀ o c u, (o, c, u) ∈ l → WT P k u ((ds.drop o).take c) := by
 unfold Jd at ht
 split at ht
 ·rename_i fs hfs
  simp only [Bool.and_eq_true, beq_iff_eq] at ht
  unfold WT at h; rw [hfs] at h
  refine ⟨by rw [← ht.1]; exact h.1, fun o c u hm => ?_⟩
  rw [← ht.2] at hm
  obtain ⟨f, hf, he⟩ := List.mem_map.1 hm
  simp only [Prod.mk.injEq] at he
  obtain ⟨rfl, rfl, rfl⟩ := he
  exact h.2 f hf
 ·cases ht
theorem JD {α : Type} {f : α → List D} {q : α → Prop} {xs : List (List D)} (h : ∀ x ∈ xs, ∃ a, x = f a ∧ q a) : ∃ l, xs = rows f l ∧ ∀ a ∈ l, q a := by
 induction xs with
 | nil => exact ⟨[], rfl, fun a h => by cases h⟩
 | cons x xs ih =>
  obtain ⟨a, rfl, ha⟩ := h x (by simp)
  obtain ⟨l, rfl, hl⟩ := ih fun y hy => h y (by simp [hy])
  exact ⟨a :: l, rfl, fun b hb => by rcases List.mem_cons.1 hb with rfl | hb; exact ha; exact hl b hb⟩
theorem RK {xs : List (List D)} (h : ∀ x ∈ xs, WT P (k + 1) e x) (he : Om P e = true) : ∃ l, xs = rows eI l ∧ ∀ n ∈ l, D1 n := JD fun x hx => Ng (h x hx) he
theorem Sk {c : AV} (h : Fk P k t c) (ht : ∀ fs, P.underlying t ≠ some (.struct fs)) (ht' : ∀ n e, P.underlying t ≠ some (.array n e)) : ∃ x, c = .d x ∧ WT P k t [x] := by
 unfold Fk at h
 split at h
 ·rename_i fs hf; exact absurd hf (ht fs)
 ·rename_i n e hf; exact absurd hf (ht' n e)
 ·exact h
theorem Yi {c : AV} (h : Fk P (k + 1) t c) (ht : On P t e = true) : ∃ xs, c = .d (.sl xs) ∧ xs.length ≤ 9223372036854775807 ∧ ∀ x ∈ xs, WT P k e x := by
 have hu := Rh ht
 obtain ⟨x, rfl, hx⟩ := Sk h (fun fs => by rw [hu]; simp) (fun n e => by rw [hu]; simp)
 obtain ⟨xs, hn, hi⟩ := Ph hx ht
 exact ⟨xs, by simp only [List.cons.injEq, and_true] at hn; rw [hn], hi⟩
theorem QX {c : AV} {n : Nat} {l : List (Nat × Nat × TypeId)} (h : Fk P (k + 1) t c) (ht : Jd P t n l = true) : ∃ ds : List D, c = .agg (ds.map .d) ∧ ds.length = n ∧ ∀ o c u, (o, c, u) ∈ l → WT P k u ((ds.drop o).take c) := by
 have hu : ∃ fs, P.underlying t = some (.struct fs) := by
  unfold Jd at ht
  split at ht
  ·exact ⟨_, by assumption⟩
  ·cases ht
 obtain ⟨fs, hu⟩ := hu
 unfold Fk at h
 rw [hu] at h
 obtain ⟨ds, rfl, hw⟩ := h
 exact ⟨ds, rfl, QG hw ht⟩
theorem WZ {t u v : TypeId} {g : List AV → Option (Prop × AV)} (h : ∀ a b c, Fk P k t a → Fk P k u b → Fk P k v c → ∃ p, g [a, b, c] = some (p, .d (.bool true)) ∧ p) : QR P k [t, u, v] g := by
 intro args hl ha
 match args, hl with
 | [a, b, c], _ => exact h a b c (ha 0 _ _ rfl rfl) (ha 1 _ _ rfl rfl) (ha 2 _ _ rfl rfl)
end
end Go.Vc
/- The rules of the walks, with their proofs as default arguments (printed by wip/gen/laws.py). -/
set_option linter.all false
namespace Go.Vc
open Go Go.RowKit
theorem Ci [h : Decidable True] : @decide True h = true := decide_eq_true trivial
theorem Ch [h : Decidable False] : @decide False h = false := decide_eq_false id
theorem GE {p : Prop} (h : p := by simp only [EG, EH, AX, AP, AW, eq_self, Nat.reduceEqDiff, reduceIte, and_true, true_and, AF, List.map_cons, List.map_nil]) : p := h
theorem AQ {p : Prop} (h : p := by (first | trivial | omega | assumption | (unfold D1; omega) | ((repeat' apply And.intro) <;> first | rfl | trivial | omega | assumption | (unfold D1; omega)) | (simp; done) | (simp; omega))) : p := h
theorem U5 {p : Prop} (h : p := by first | exact (fun h => Bool.noConfusion (show false = true from h)) | exact U7 _ _ _ _ _ | exact U6 _ _ _ _ (by simp only [UR, eq_self, and_true, true_and])) : p := h
theorem Bb {p : Prop} (h : p := by first | (simp only [F5, Af, Ig, AP, eq_self, Nat.reduceEqDiff, reduceIte, Fq, hx]; done) | (simp only [F5, Af, Ig, AP, eq_self, Nat.reduceEqDiff, reduceIte, Fq, hx]; rfl)) : p := h
theorem SB {p : Prop} (h : p := by simp only [F5, Af, Ig, AP, eq_self, Nat.reduceEqDiff, reduceIte, Fq, hx]; rfl) : p := h
theorem AN {p : Prop} (h : p := by (first | omega | (first | trivial | omega | assumption | (unfold D1; omega) | ((repeat' apply And.intro) <;> first | rfl | trivial | omega | assumption | (unfold D1; omega)) | (simp; done) | (simp; omega)))) : p := h
theorem Ap {p : Prop} (h : p := by (first | exact True.intro | (unfold D1; omega) | omega | (first | trivial | omega | assumption | (unfold D1; omega) | ((repeat' apply And.intro) <;> first | rfl | trivial | omega | assumption | (unfold D1; omega)) | (simp; done) | (simp; omega)))) : p := h
theorem Hg {b : Bool} {p : Prop} (h : b = true → p := by (intro hg; (try simp only [C5, Ca, CC] at hg); (first | omega | (first | trivial | omega | assumption | (unfold D1; omega) | ((repeat' apply And.intro) <;> first | rfl | trivial | omega | assumption | (unfold D1; omega)) | (simp; done) | (simp; omega))))) : b = true → p := h
theorem Au {p : Prop} (h : p := by (repeat' apply And.intro) <;> (first | rfl | exact Or.inr rfl | exact Or.inl rfl | trivial | omega | assumption | (simp; done) | (simp; omega))) : p := h
theorem SH {b : Bool} {p q : Prop} (hq : b = true → q := by (intro hg; (try simp only [C5, Ca, CC] at hg); (first | trivial | omega | assumption | (unfold D1; omega) | ((repeat' apply And.intro) <;> first | rfl | trivial | omega | assumption | (unfold D1; omega)) | (simp; done) | (simp; omega)))) (hn : b = true → p := by first | (simp only [EG, EH, AX, AP, AW, eq_self, Nat.reduceEqDiff, reduceIte, and_true, true_and, AF, List.map_cons, List.map_nil]; done) | (intro hg; simp only [EG, EH, AX, AP, AW, eq_self, Nat.reduceEqDiff, reduceIte, and_true, true_and, AF, List.map_cons, List.map_nil]; exact hg) | (intro hg; simp_all [EG, EH, AX, AP, AW, eq_self, Nat.reduceEqDiff, reduceIte, and_true, true_and, AF, List.map_cons, List.map_nil]; done) | (intro hg; (try simp only [C5, Ca, CC] at hg); simp only [EG, EH, AX, AP, AW, eq_self, Nat.reduceEqDiff, reduceIte, and_true, true_and, AF, List.map_cons, List.map_nil]; (first | trivial | omega | assumption | (unfold D1; omega) | ((repeat' apply And.intro) <;> first | rfl | trivial | omega | assumption | (unfold D1; omega)) | (simp; done) | (simp; omega)))) : b = true → p ∧ q := fun h => ⟨hn h, hq h⟩
section
variable [Bl] {P : Program} {E : Bq P} {W0 : World} {M0 : Nat → Prop} {dr : Bool} {calm : List FuncId} {ops : Array Oper} {K : St → Prop} {o : Op} {d : Option Tmp} {t : TypeId} {p : String} {af : Array Edge} {r : List Oper} {fr : Nat → AV} {H H' : Av} {n n' : Nat} {q : Prop} {c : AV} {b : Bool} {gd : Nat × Bool}
theorem Ia (hg : Bg ops fr (some gd) = some (some b)) (h : (b = false ∧ c = .any ∧ q = True) ∨ (C0 E fr H n o = .v q c ∧ (b = true → CN fr o ∧ q))) (hk : AG W0 M0 dr calm E ops K r ⟨putD d (.cond b c) fr, H, n⟩) : AG W0 M0 dr calm E ops K (⟨d, o, t, p, af, some gd⟩ :: r) ⟨fr, H, n⟩ := by
 rcases h with ⟨rfl, rfl, -⟩ | ⟨h, hq⟩
 ·exact At hg hk
 ·exact F6 hg h hq hk
theorem Yp {a b : RS} (h : a = b := by simp only [Bo, AX, AP, AW, Bp, eq_self, Nat.reduceEqDiff, reduceIte, bw]; rfl) : a = b := h
theorem Ad (hk : AG W0 M0 dr calm E ops K r ⟨putD d c fr, H, n⟩) (h : C0 E fr H n o = .v q c := by exact Yp) (hq : q := by exact AQ) (hn : CN fr o := by exact GE) : AG W0 M0 dr calm E ops K (⟨d, o, t, p, af, none⟩ :: r) ⟨fr, H, n⟩ := H6 h hn hq hk
theorem Cw (hk : AG W0 M0 dr calm E ops K r ⟨putD d (.cond b c) fr, H, n⟩) (hg : Bg ops fr (some gd) = some (some b) := by exact SB) (h : (b = false ∧ c = .any ∧ q = True) ∨ (C0 E fr H n o = .v q c ∧ (b = true → CN fr o ∧ q)) := by first | (with_reducible exact Or.inl ⟨rfl, rfl, rfl⟩) | (refine Or.inr ⟨?_, ?_⟩; (focus exact Yp); exact SH)) : AG W0 M0 dr calm E ops K (⟨d, o, t, p, af, some gd⟩ :: r) ⟨fr, H, n⟩ := Ia hg h hk
theorem C3 (hk : AG W0 M0 dr calm E ops K r ⟨putD d (.cond true c) fr, H, n⟩) (hg : Bg ops fr (some gd) = some (some true) := by exact Bb) (h : C0 E fr H n o = .v q c := by exact Yp) (hn : CN fr o := by exact GE) (hq : q := by exact AQ) : AG W0 M0 dr calm E ops K (⟨d, o, t, p, af, some gd⟩ :: r) ⟨fr, H, n⟩ := F6 hg h (fun _ => ⟨hn, hq⟩) hk
theorem Yq {a b : RS} (h : a = b := by simp only [Bo, AX, AP, AW, Bp, eq_self, Nat.reduceEqDiff, reduceIte, bw, KI, Ca, CC, Fq]; rfl) : a = b := h
theorem AH (hk : AG W0 M0 dr calm E ops K r ⟨putD d c fr, H, n⟩) (h : C0 E fr H n o = .v q c := by exact Yq) (hq : q := by exact AQ) (hn : CN fr o := by exact GE) : AG W0 M0 dr calm E ops K (⟨d, o, t, p, af, none⟩ :: r) ⟨fr, H, n⟩ := H6 h hn hq hk
theorem Z0 (hk : AG W0 M0 dr calm E ops K r ⟨putD d (.cond b c) fr, H, n⟩) (hg : Bg ops fr (some gd) = some (some b) := by exact SB) (h : (b = false ∧ c = .any ∧ q = True) ∨ (C0 E fr H n o = .v q c ∧ (b = true → CN fr o ∧ q)) := by first | (with_reducible exact Or.inl ⟨rfl, rfl, rfl⟩) | (refine Or.inr ⟨?_, ?_⟩; (focus exact Yq); exact SH)) : AG W0 M0 dr calm E ops K (⟨d, o, t, p, af, some gd⟩ :: r) ⟨fr, H, n⟩ := Ia hg h hk
theorem Gv (hk : AG W0 M0 dr calm E ops K r ⟨putD d (.cond true c) fr, H, n⟩) (hg : Bg ops fr (some gd) = some (some true) := by exact Bb) (h : C0 E fr H n o = .v q c := by exact Yq) (hn : CN fr o := by exact GE) (hq : q := by exact AQ) : AG W0 M0 dr calm E ops K (⟨d, o, t, p, af, some gd⟩ :: r) ⟨fr, H, n⟩ := F6 hg h (fun _ => ⟨hn, hq⟩) hk
theorem WL {a b : RS} (h : a = b := by simp only [Bo, AX, AP, AW, Bp, eq_self, Nat.reduceEqDiff, reduceIte, bw, BI, LO, hT, CZ, Ls, HN, LN, NS, So, Bool.true_and, Bool.and_true, hx]; rfl) : a = b := h
theorem Ao (hk : AG W0 M0 dr calm E ops K r ⟨putD d c fr, H, n⟩) (h : C0 E fr H n o = .v q c := by exact WL) (hq : q := by exact AQ) (hn : CN fr o := by exact GE) : AG W0 M0 dr calm E ops K (⟨d, o, t, p, af, none⟩ :: r) ⟨fr, H, n⟩ := H6 h hn hq hk
theorem CD (hk : AG W0 M0 dr calm E ops K r ⟨putD d (.cond b c) fr, H, n⟩) (hg : Bg ops fr (some gd) = some (some b) := by exact SB) (h : (b = false ∧ c = .any ∧ q = True) ∨ (C0 E fr H n o = .v q c ∧ (b = true → CN fr o ∧ q)) := by first | (with_reducible exact Or.inl ⟨rfl, rfl, rfl⟩) | (refine Or.inr ⟨?_, ?_⟩; (focus exact WL); exact SH)) : AG W0 M0 dr calm E ops K (⟨d, o, t, p, af, some gd⟩ :: r) ⟨fr, H, n⟩ := Ia hg h hk
theorem Qu (hk : AG W0 M0 dr calm E ops K r ⟨putD d (.cond b c) fr, H, n⟩) (hg : Bg ops fr (some gd) = some (some b) := by exact SB) (h : C0 E fr H n o = .v q c := by exact WL) (hq : b = true → q) (hn : b = true → CN fr o := by (refine fun hb => And.left (b := True) ?_; revert hb; exact SH)) : AG W0 M0 dr calm E ops K (⟨d, o, t, p, af, some gd⟩ :: r) ⟨fr, H, n⟩ := F6 hg h (fun hb => ⟨hn hb, hq hb⟩) hk
theorem DO (hk : AG W0 M0 dr calm E ops K r ⟨putD d (.cond true c) fr, H, n⟩) (hg : Bg ops fr (some gd) = some (some true) := by exact Bb) (h : C0 E fr H n o = .v q c := by exact WL) (hn : CN fr o := by exact GE) (hq : q := by exact AQ) : AG W0 M0 dr calm E ops K (⟨d, o, t, p, af, some gd⟩ :: r) ⟨fr, H, n⟩ := F6 hg h (fun _ => ⟨hn, hq⟩) hk
theorem Yr {a b : RS} (h : a = b := by simp only [Bo, AX, AP, AW, Bp, eq_self, Nat.reduceEqDiff, reduceIte, bw, KI, HN, Bool.not_not, hx]; rfl) : a = b := h
theorem EL (hk : AG W0 M0 dr calm E ops K r ⟨putD d c fr, H, n⟩) (h : C0 E fr H n o = .v q c := by exact Yr) (hq : q := by exact AQ) (hn : CN fr o := by exact GE) : AG W0 M0 dr calm E ops K (⟨d, o, t, p, af, none⟩ :: r) ⟨fr, H, n⟩ := H6 h hn hq hk
theorem KW (hk : AG W0 M0 dr calm E ops K r ⟨putD d (.cond b c) fr, H, n⟩) (hg : Bg ops fr (some gd) = some (some b) := by exact SB) (h : (b = false ∧ c = .any ∧ q = True) ∨ (C0 E fr H n o = .v q c ∧ (b = true → CN fr o ∧ q)) := by first | (with_reducible exact Or.inl ⟨rfl, rfl, rfl⟩) | (refine Or.inr ⟨?_, ?_⟩; (focus exact Yr); exact SH)) : AG W0 M0 dr calm E ops K (⟨d, o, t, p, af, some gd⟩ :: r) ⟨fr, H, n⟩ := Ia hg h hk
theorem Wp (hk : AG W0 M0 dr calm E ops K r ⟨putD d (.cond true c) fr, H, n⟩) (hg : Bg ops fr (some gd) = some (some true) := by exact Bb) (h : C0 E fr H n o = .v q c := by exact Yr) (hn : CN fr o := by exact GE) (hq : q := by exact AQ) : AG W0 M0 dr calm E ops K (⟨d, o, t, p, af, some gd⟩ :: r) ⟨fr, H, n⟩ := F6 hg h (fun _ => ⟨hn, hq⟩) hk
theorem Zt {a b : RS} (h : a = b := by simp only [Bo, AX, AP, AW, Bp, eq_self, Nat.reduceEqDiff, reduceIte, bw, Mj, hx]; rfl) : a = b := h
theorem BB (hk : AG W0 M0 dr calm E ops K r ⟨putD d c fr, H, n⟩) (h : C0 E fr H n o = .v q c := by exact Zt) (hq : q := by exact AQ) (hn : CN fr o := by exact GE) : AG W0 M0 dr calm E ops K (⟨d, o, t, p, af, none⟩ :: r) ⟨fr, H, n⟩ := H6 h hn hq hk
theorem XB (hk : AG W0 M0 dr calm E ops K r ⟨putD d (.cond true c) fr, H, n⟩) (hg : Bg ops fr (some gd) = some (some true) := by exact Bb) (h : C0 E fr H n o = .v q c := by exact Zt) (hn : CN fr o := by exact GE) (hq : q := by exact AQ) : AG W0 M0 dr calm E ops K (⟨d, o, t, p, af, some gd⟩ :: r) ⟨fr, H, n⟩ := F6 hg h (fun _ => ⟨hn, hq⟩) hk
theorem Aai {a b : RS} (h : a = b := by simp only [Bo, AX, AP, AW, Bp, eq_self, Nat.reduceEqDiff, reduceIte, bw, BI, LO, hT, CZ, HJ, HN, Af, BJ, AF, BT, Bd, Bv, AY, BS, BU, Cn, Int.toNat_natCast, Int.reduceToNat, Nat.reduceAdd, Nat.reduceMul, Nat.reduceSub, Nat.reduceLeDiff, Nat.zero_add, Nat.add_zero, true_and, and_true, and_assoc, BO, Cr, BV, Ct, Cs, BR, BP, Cl, BG, AZ, Br, Bt, BF, or_false, false_or, not_true_eq_false, not_false_eq_true, hx]; rfl) : a = b := h
theorem Wk (hk : AG W0 M0 dr calm E ops K r ⟨putD d c fr, H, n⟩) (h : C0 E fr H n o = .v q c := by exact Aai) (hq : q := by exact AQ) (hn : CN fr o := by exact GE) : AG W0 M0 dr calm E ops K (⟨d, o, t, p, af, none⟩ :: r) ⟨fr, H, n⟩ := H6 h hn hq hk
theorem WN {a b : RS} (h : a = b := by simp only [Bo, AX, AP, AW, Bp, eq_self, Nat.reduceEqDiff, reduceIte, bw, Dv, FJ, F7, BI, LO, hT, CZ, Af, BJ, AF, BT, Bd, Bv, AY, BS, BU, Cn, Int.toNat_natCast, Int.reduceToNat, Nat.reduceAdd, Nat.reduceMul, Nat.reduceSub, Nat.reduceLeDiff, Nat.zero_add, Nat.add_zero, true_and, and_true, and_assoc, BO, Cr, BV, Ct, Cs, BR, BP, Cl, BG, AZ, Br, Bt, BF, or_false, false_or, not_true_eq_false, not_false_eq_true, hx]; rfl) : a = b := h
theorem Aq (hk : AG W0 M0 dr calm E ops K r ⟨putD d c fr, H, n⟩) (h : C0 E fr H n o = .v q c := by exact WN) (hq : q := by exact AQ) (hn : CN fr o := by exact GE) : AG W0 M0 dr calm E ops K (⟨d, o, t, p, af, none⟩ :: r) ⟨fr, H, n⟩ := H6 h hn hq hk
theorem B8 (hk : AG W0 M0 dr calm E ops K r ⟨putD d (.cond b c) fr, H, n⟩) (hg : Bg ops fr (some gd) = some (some b) := by exact SB) (h : (b = false ∧ c = .any ∧ q = True) ∨ (C0 E fr H n o = .v q c ∧ (b = true → CN fr o ∧ q)) := by first | (with_reducible exact Or.inl ⟨rfl, rfl, rfl⟩) | (refine Or.inr ⟨?_, ?_⟩; (focus exact WN); exact SH)) : AG W0 M0 dr calm E ops K (⟨d, o, t, p, af, some gd⟩ :: r) ⟨fr, H, n⟩ := Ia hg h hk
theorem Gg (hk : AG W0 M0 dr calm E ops K r ⟨putD d (.cond b c) fr, H, n⟩) (hg : Bg ops fr (some gd) = some (some b) := by exact SB) (h : C0 E fr H n o = .v q c := by exact WN) (hq : b = true → q) (hn : b = true → CN fr o := by (refine fun hb => And.left (b := True) ?_; revert hb; exact SH)) : AG W0 M0 dr calm E ops K (⟨d, o, t, p, af, some gd⟩ :: r) ⟨fr, H, n⟩ := F6 hg h (fun hb => ⟨hn hb, hq hb⟩) hk
theorem C9 (hk : AG W0 M0 dr calm E ops K r ⟨putD d (.cond true c) fr, H, n⟩) (hg : Bg ops fr (some gd) = some (some true) := by exact Bb) (h : C0 E fr H n o = .v q c := by exact WN) (hn : CN fr o := by exact GE) (hq : q := by exact AQ) : AG W0 M0 dr calm E ops K (⟨d, o, t, p, af, some gd⟩ :: r) ⟨fr, H, n⟩ := F6 hg h (fun _ => ⟨hn, hq⟩) hk
theorem WO {a b : RS} (h : a = b := by simp only [Bo, AX, AP, AW, Bp, eq_self, Nat.reduceEqDiff, reduceIte, bw, Dv, Dn, I4, Dp, I5, Lm, BI, LO, hT, CZ, Af, BJ, AF, BT, Bd, Bv, AY, BS, BU, Cn, Int.toNat_natCast, Int.reduceToNat, Nat.reduceAdd, Nat.reduceMul, Nat.reduceSub, Nat.reduceLeDiff, Nat.zero_add, Nat.add_zero, true_and, and_true, and_assoc, BO, Cr, BV, Ct, Cs, BR, BP, Cl, BG, AZ, Br, Bt, BF, or_false, false_or, not_true_eq_false, not_false_eq_true, hx]; rfl) : a = b := h
theorem Ar (hk : AG W0 M0 dr calm E ops K r ⟨putD d c fr, H, n⟩) (h : C0 E fr H n o = .v q c := by exact WO) (hq : q := by exact AQ) (hn : CN fr o := by exact GE) : AG W0 M0 dr calm E ops K (⟨d, o, t, p, af, none⟩ :: r) ⟨fr, H, n⟩ := H6 h hn hq hk
theorem B9 (hk : AG W0 M0 dr calm E ops K r ⟨putD d (.cond b c) fr, H, n⟩) (hg : Bg ops fr (some gd) = some (some b) := by exact SB) (h : (b = false ∧ c = .any ∧ q = True) ∨ (C0 E fr H n o = .v q c ∧ (b = true → CN fr o ∧ q)) := by first | (with_reducible exact Or.inl ⟨rfl, rfl, rfl⟩) | (refine Or.inr ⟨?_, ?_⟩; (focus exact WO); exact SH)) : AG W0 M0 dr calm E ops K (⟨d, o, t, p, af, some gd⟩ :: r) ⟨fr, H, n⟩ := Ia hg h hk
theorem Gh (hk : AG W0 M0 dr calm E ops K r ⟨putD d (.cond b c) fr, H, n⟩) (hg : Bg ops fr (some gd) = some (some b) := by exact SB) (h : C0 E fr H n o = .v q c := by exact WO) (hq : b = true → q) (hn : b = true → CN fr o := by (refine fun hb => And.left (b := True) ?_; revert hb; exact SH)) : AG W0 M0 dr calm E ops K (⟨d, o, t, p, af, some gd⟩ :: r) ⟨fr, H, n⟩ := F6 hg h (fun hb => ⟨hn hb, hq hb⟩) hk
theorem CQ (hk : AG W0 M0 dr calm E ops K r ⟨putD d (.cond true c) fr, H, n⟩) (hg : Bg ops fr (some gd) = some (some true) := by exact Bb) (h : C0 E fr H n o = .v q c := by exact WO) (hn : CN fr o := by exact GE) (hq : q := by exact AQ) : AG W0 M0 dr calm E ops K (⟨d, o, t, p, af, some gd⟩ :: r) ⟨fr, H, n⟩ := F6 hg h (fun _ => ⟨hn, hq⟩) hk
theorem Aao {a b : RS} (h : a = b := by simp only [Bo, AX, AP, AW, Bp, eq_self, Nat.reduceEqDiff, reduceIte, bw, Dv, EO, BI, LO, hT, CZ, Af, BJ, AF, BT, Bd, Bv, AY, BS, BU, Cn, Int.toNat_natCast, Int.reduceToNat, Nat.reduceAdd, Nat.reduceMul, Nat.reduceSub, Nat.reduceLeDiff, Nat.zero_add, Nat.add_zero, true_and, and_true, and_assoc, BO, Cr, BV, Ct, Cs, BR, BP, Cl, BG, AZ, Br, Bt, BF, or_false, false_or, not_true_eq_false, not_false_eq_true, hx]; rfl) : a = b := h
theorem BZ (hk : AG W0 M0 dr calm E ops K r ⟨putD d c fr, H, n⟩) (h : C0 E fr H n o = .v q c := by exact Aao) (hq : q := by exact AQ) (hn : CN fr o := by exact GE) : AG W0 M0 dr calm E ops K (⟨d, o, t, p, af, none⟩ :: r) ⟨fr, H, n⟩ := H6 h hn hq hk
theorem Aaj {a b : RS} (h : a = b := by simp only [Bo, AX, AP, AW, Bp, eq_self, Nat.reduceEqDiff, reduceIte, bw, Dv, FI, Af, hx]; rfl) : a = b := h
theorem Dt (hk : AG W0 M0 dr calm E ops K r ⟨putD d c fr, H, n⟩) (h : C0 E fr H n o = .v q c := by exact Aaj) (hq : q := by exact AQ) (hn : CN fr o := by exact GE) : AG W0 M0 dr calm E ops K (⟨d, o, t, p, af, none⟩ :: r) ⟨fr, H, n⟩ := H6 h hn hq hk
theorem Aag {a b : RS} (h : a = b := by simp only [Bo, AX, AP, AW, Bp, eq_self, Nat.reduceEqDiff, reduceIte, bw, Dv, Fm, BI, LO, hT, CZ, Af, BJ, AF, BT, Bd, Bv, AY, BS, BU, Cn, Int.toNat_natCast, Int.reduceToNat, Nat.reduceAdd, Nat.reduceMul, Nat.reduceSub, Nat.reduceLeDiff, Nat.zero_add, Nat.add_zero, true_and, and_true, and_assoc, BO, Cr, BV, Ct, Cs, BR, BP, Cl, BG, AZ, Br, Bt, BF, or_false, false_or, not_true_eq_false, not_false_eq_true, hx]; rfl) : a = b := h
theorem BD (hk : AG W0 M0 dr calm E ops K r ⟨putD d c fr, H, n⟩) (h : C0 E fr H n o = .v q c := by exact Aag) (hq : q := by exact AQ) (hn : CN fr o := by exact GE) : AG W0 M0 dr calm E ops K (⟨d, o, t, p, af, none⟩ :: r) ⟨fr, H, n⟩ := H6 h hn hq hk
theorem Aam {a b : RS} (h : a = b := by simp only [Bo, AX, AP, AW, Bp, eq_self, Nat.reduceEqDiff, reduceIte, bw, Dv, AF, hx]; rfl) : a = b := h
theorem Hh (hk : AG W0 M0 dr calm E ops K r ⟨putD d c fr, H, n⟩) (h : C0 E fr H n o = .v q c := by exact Aam) (hq : q := by exact AQ) (hn : CN fr o := by exact GE) : AG W0 M0 dr calm E ops K (⟨d, o, t, p, af, none⟩ :: r) ⟨fr, H, n⟩ := H6 h hn hq hk
theorem Yo {a b : RS} (h : a = b := by simp only [Bo, AX, AP, AW, Bp, eq_self, Nat.reduceEqDiff, reduceIte, bw, Dv, Mi, BI, LO, hT, CZ, Af, BJ, AF, BT, Bd, Bv, AY, BS, BU, Cn, Int.toNat_natCast, Int.reduceToNat, Nat.reduceAdd, Nat.reduceMul, Nat.reduceSub, Nat.reduceLeDiff, Nat.zero_add, Nat.add_zero, true_and, and_true, and_assoc, BO, Cr, BV, Ct, Cs, BR, BP, Cl, BG, AZ, Br, Bt, BF, or_false, false_or, not_true_eq_false, not_false_eq_true, hx]; rfl) : a = b := h
theorem AU (hk : AG W0 M0 dr calm E ops K r ⟨putD d c fr, H, n⟩) (h : C0 E fr H n o = .v q c := by exact Yo) (hq : q := by exact AQ) (hn : CN fr o := by exact GE) : AG W0 M0 dr calm E ops K (⟨d, o, t, p, af, none⟩ :: r) ⟨fr, H, n⟩ := H6 h hn hq hk
theorem Kj (hk : AG W0 M0 dr calm E ops K r ⟨putD d (.cond b c) fr, H, n⟩) (hg : Bg ops fr (some gd) = some (some b) := by exact SB) (h : (b = false ∧ c = .any ∧ q = True) ∨ (C0 E fr H n o = .v q c ∧ (b = true → CN fr o ∧ q)) := by first | (with_reducible exact Or.inl ⟨rfl, rfl, rfl⟩) | (refine Or.inr ⟨?_, ?_⟩; (focus exact Yo); exact SH)) : AG W0 M0 dr calm E ops K (⟨d, o, t, p, af, some gd⟩ :: r) ⟨fr, H, n⟩ := Ia hg h hk
theorem J2 (hk : AG W0 M0 dr calm E ops K r ⟨putD d (.cond true c) fr, H, n⟩) (hg : Bg ops fr (some gd) = some (some true) := by exact Bb) (h : C0 E fr H n o = .v q c := by exact Yo) (hn : CN fr o := by exact GE) (hq : q := by exact AQ) : AG W0 M0 dr calm E ops K (⟨d, o, t, p, af, some gd⟩ :: r) ⟨fr, H, n⟩ := F6 hg h (fun _ => ⟨hn, hq⟩) hk
theorem WM {a b : RS} (h : a = b := by simp only [hc, Bo, AX, AP, AW, Bp, eq_self, Nat.reduceEqDiff, reduceIte, bw, D5, CL, CK, Bi, BX, hs, CM, A2, Af, BJ, AF, BT, Bd, Bv, AY, BS, BU, Cn, Int.toNat_natCast, Int.reduceToNat, Nat.reduceAdd, Nat.reduceMul, Nat.reduceSub, Nat.reduceLeDiff, Nat.zero_add, Nat.add_zero, true_and, and_true, and_assoc, BO, Cr, BV, Ct, Cs, BR, BP, Cl, BG, AZ, Br, Bt, BF, or_false, false_or, not_true_eq_false, not_false_eq_true, List.mem_cons, List.not_mem_nil, AE, Dd, D0, hx]; rfl) : a = b := h
theorem Ba (hk : AG W0 M0 dr calm E ops K r ⟨putD d c fr, H, n⟩) (h : C0 E fr H n o = .v q c := by exact WM) (hq : q := by exact AQ) (hn : CN fr o := by exact GE) : AG W0 M0 dr calm E ops K (⟨d, o, t, p, af, none⟩ :: r) ⟨fr, H, n⟩ := H6 h hn hq hk
theorem H3 (hk : AG W0 M0 dr calm E ops K r ⟨putD d (.cond b c) fr, H, n⟩) (hg : Bg ops fr (some gd) = some (some b) := by exact SB) (h : (b = false ∧ c = .any ∧ q = True) ∨ (C0 E fr H n o = .v q c ∧ (b = true → CN fr o ∧ q)) := by first | (with_reducible exact Or.inl ⟨rfl, rfl, rfl⟩) | (refine Or.inr ⟨?_, ?_⟩; (focus exact WM); exact SH)) : AG W0 M0 dr calm E ops K (⟨d, o, t, p, af, some gd⟩ :: r) ⟨fr, H, n⟩ := Ia hg h hk
theorem YK (hk : AG W0 M0 dr calm E ops K r ⟨putD d (.cond b c) fr, H, n⟩) (hg : Bg ops fr (some gd) = some (some b) := by exact SB) (h : C0 E fr H n o = .v q c := by exact WM) (hq : b = true → q) (hn : b = true → CN fr o := by (refine fun hb => And.left (b := True) ?_; revert hb; exact SH)) : AG W0 M0 dr calm E ops K (⟨d, o, t, p, af, some gd⟩ :: r) ⟨fr, H, n⟩ := F6 hg h (fun hb => ⟨hn hb, hq hb⟩) hk
theorem Lf (hk : AG W0 M0 dr calm E ops K r ⟨putD d (.cond true c) fr, H, n⟩) (hg : Bg ops fr (some gd) = some (some true) := by exact Bb) (h : C0 E fr H n o = .v q c := by exact WM) (hn : CN fr o := by exact GE) (hq : q := by exact AQ) : AG W0 M0 dr calm E ops K (⟨d, o, t, p, af, some gd⟩ :: r) ⟨fr, H, n⟩ := F6 hg h (fun _ => ⟨hn, hq⟩) hk
theorem Zs {a b : RS} (h : a = b := by simp only [NF, Bo, AX, AP, AW, Bp, eq_self, Nat.reduceEqDiff, reduceIte, bw, D5, CL, CK, Bi, BX, hs, CM, A2, hc, Af, BJ, AF, BT, Bd, Bv, AY, BS, BU, Cn, Int.toNat_natCast, Int.reduceToNat, Nat.reduceAdd, Nat.reduceMul, Nat.reduceSub, Nat.reduceLeDiff, Nat.zero_add, Nat.add_zero, true_and, and_true, and_assoc, BO, Cr, BV, Ct, Cs, BR, BP, Cl, BG, AZ, Br, Bt, BF, or_false, false_or, not_true_eq_false, not_false_eq_true, List.mem_cons, List.not_mem_nil, AE, Dd, D0, hx]; rfl) : a = b := h
theorem Q6 (hk : AG W0 M0 dr calm E ops K r ⟨putD d c fr, H, n⟩) (h : C0 E fr H n o = .v q c := by exact Zs) (hq : q := by exact AQ) (hn : CN fr o := by exact GE) : AG W0 M0 dr calm E ops K (⟨d, o, t, p, af, none⟩ :: r) ⟨fr, H, n⟩ := H6 h hn hq hk
theorem Zz (hk : AG W0 M0 dr calm E ops K r ⟨putD d (.cond b c) fr, H, n⟩) (hg : Bg ops fr (some gd) = some (some b) := by exact SB) (h : (b = false ∧ c = .any ∧ q = True) ∨ (C0 E fr H n o = .v q c ∧ (b = true → CN fr o ∧ q)) := by first | (with_reducible exact Or.inl ⟨rfl, rfl, rfl⟩) | (refine Or.inr ⟨?_, ?_⟩; (focus exact Zs); exact SH)) : AG W0 M0 dr calm E ops K (⟨d, o, t, p, af, some gd⟩ :: r) ⟨fr, H, n⟩ := Ia hg h hk
theorem Aae {a b : RS} (h : a = b := by simp only [Bo, AX, AP, AW, Bp, eq_self, Nat.reduceEqDiff, reduceIte, bw, I3, BI, LO, hT, CZ, Af, BJ, AF, BT, Bd, Bv, AY, BS, BU, Cn, Int.toNat_natCast, Int.reduceToNat, Nat.reduceAdd, Nat.reduceMul, Nat.reduceSub, Nat.reduceLeDiff, Nat.zero_add, Nat.add_zero, true_and, and_true, and_assoc, BO, Cr, BV, Ct, Cs, BR, BP, Cl, BG, AZ, Br, Bt, BF, or_false, false_or, not_true_eq_false, not_false_eq_true, hx]; rfl) : a = b := h
theorem Bj (hk : AG W0 M0 dr calm E ops K r ⟨putD d c fr, H', n'⟩) (h : C0 E fr H n o = .h q c H' n' := by exact Aae) (hq : q := by exact AQ) (hn : CN fr o := by exact GE) (hl : (dr && DK calm d o) = true → Ev H H' := by exact U5) : AG W0 M0 dr calm E ops K (⟨d, o, t, p, af, none⟩ :: r) ⟨fr, H, n⟩ := Ox h hn hq hl hk
theorem Aah {a b : RS} (h : a = b := by simp only [Bo, AX, AP, AW, Bp, eq_self, Nat.reduceEqDiff, reduceIte, bw, RX, Af, BJ, AF, BT, Bd, Bv, AY, BS, BU, Cn, Int.toNat_natCast, Int.reduceToNat, Nat.reduceAdd, Nat.reduceMul, Nat.reduceSub, Nat.reduceLeDiff, Nat.zero_add, Nat.add_zero, true_and, and_true, and_assoc, BO, Cr, BV, Ct, Cs, BR, BP, Cl, BG, AZ, Br, Bt, BF, or_false, false_or, not_true_eq_false, not_false_eq_true, hx]; rfl) : a = b := h
theorem Fz (hk : AG W0 M0 dr calm E ops K r ⟨putD d c fr, H', n'⟩) (h : C0 E fr H n o = .h q c H' n' := by exact Aah) (hq : q := by exact AQ) (hn : CN fr o := by exact GE) (hl : (dr && DK calm d o) = true → Ev H H' := by exact U5) : AG W0 M0 dr calm E ops K (⟨d, o, t, p, af, none⟩ :: r) ⟨fr, H, n⟩ := Ox h hn hq hl hk
theorem Zq {a b : RS} (h : a = b := by simp only [Bo, AX, AP, AW, Bp, eq_self, Nat.reduceEqDiff, reduceIte, bw, Eb, BI, LO, hT, CZ, Af, BJ, AF, BT, Bd, Bv, AY, BS, BU, Cn, Int.toNat_natCast, Int.reduceToNat, Nat.reduceAdd, Nat.reduceMul, Nat.reduceSub, Nat.reduceLeDiff, Nat.zero_add, Nat.add_zero, true_and, and_true, and_assoc, BO, Cr, BV, Ct, Cs, BR, BP, Cl, BG, AZ, Br, Bt, BF, or_false, false_or, not_true_eq_false, not_false_eq_true, hx]; rfl) : a = b := h
theorem Di (hk : AG W0 M0 dr calm E ops K r ⟨putD d c fr, H', n'⟩) (h : C0 E fr H n o = .h q c H' n' := by exact Zq) (hq : q := by exact AQ) (hn : CN fr o := by exact GE) (hl : (dr && DK calm d o) = true → Ev H H' := by exact U5) : AG W0 M0 dr calm E ops K (⟨d, o, t, p, af, none⟩ :: r) ⟨fr, H, n⟩ := Ox h hn hq hl hk
theorem Aan {a b : RS} (h : a = b := by simp only [Bo, AX, AP, AW, Bp, eq_self, Nat.reduceEqDiff, reduceIte, bw, Lk, BI, LO, hT, CZ, Af, BJ, AF, BT, Bd, Bv, AY, BS, BU, Cn, Int.toNat_natCast, Int.reduceToNat, Nat.reduceAdd, Nat.reduceMul, Nat.reduceSub, Nat.reduceLeDiff, Nat.zero_add, Nat.add_zero, true_and, and_true, and_assoc, BO, Cr, BV, Ct, Cs, BR, BP, Cl, BG, AZ, Br, Bt, BF, or_false, false_or, not_true_eq_false, not_false_eq_true, hx]; rfl) : a = b := h
theorem ZS (hk : AG W0 M0 dr calm E ops K r ⟨putD d c fr, H', n'⟩) (h : C0 E fr H n o = .h q c H' n' := by exact Aan) (hq : q := by exact AQ) (hn : CN fr o := by exact GE) (hl : (dr && DK calm d o) = true → Ev H H' := by exact U5) : AG W0 M0 dr calm E ops K (⟨d, o, t, p, af, none⟩ :: r) ⟨fr, H, n⟩ := Ox h hn hq hl hk
theorem Aap {a b : RS} (h : a = b := by simp only [Bo, AX, AP, AW, Bp, eq_self, Nat.reduceEqDiff, reduceIte, bw, G0, BI, LO, hT, CZ, Af, BJ, AF, BT, Bd, Bv, AY, BS, BU, Cn, Int.toNat_natCast, Int.reduceToNat, Nat.reduceAdd, Nat.reduceMul, Nat.reduceSub, Nat.reduceLeDiff, Nat.zero_add, Nat.add_zero, true_and, and_true, and_assoc, BO, Cr, BV, Ct, Cs, BR, BP, Cl, BG, AZ, Br, Bt, BF, or_false, false_or, not_true_eq_false, not_false_eq_true, hx]; rfl) : a = b := h
theorem A4 (hk : AG W0 M0 dr calm E ops K r ⟨putD d c fr, H', n'⟩) (h : C0 E fr H n o = .h q c H' n' := by exact Aap) (hq : q := by exact AQ) (hn : CN fr o := by exact GE) (hl : (dr && DK calm d o) = true → Ev H H' := by exact U5) : AG W0 M0 dr calm E ops K (⟨d, o, t, p, af, none⟩ :: r) ⟨fr, H, n⟩ := Ox h hn hq hl hk
theorem Aaf {a b : RS} (h : a = b := by simp only [Bo, AX, AP, AW, Bp, eq_self, Nat.reduceEqDiff, reduceIte, bw, E3, C7, or_self, BI, LO, hT, CZ, Af, BJ, AF, BT, Bd, Bv, AY, BS, BU, Cn, Int.toNat_natCast, Int.reduceToNat, Nat.reduceAdd, Nat.reduceMul, Nat.reduceSub, Nat.reduceLeDiff, Nat.zero_add, Nat.add_zero, true_and, and_true, and_assoc, BO, Cr, BV, Ct, Cs, BR, BP, Cl, BG, AZ, Br, Bt, BF, or_false, false_or, not_true_eq_false, not_false_eq_true, hx]; rfl) : a = b := h
theorem Bf (hk : AG W0 M0 dr calm E ops K r ⟨putD d c fr, H', n'⟩) (h : C0 E fr H n o = .h q c H' n' := by exact Aaf) (hq : q := by exact AQ) (hn : CN fr o := by exact GE) (hl : (dr && DK calm d o) = true → Ev H H' := by exact U5) : AG W0 M0 dr calm E ops K (⟨d, o, t, p, af, none⟩ :: r) ⟨fr, H, n⟩ := Ox h hn hq hl hk
theorem Zr {a b : RS} (h : a = b := by simp only [hc, Bo, AX, AP, AW, Bp, eq_self, Nat.reduceEqDiff, reduceIte, bw, D5, CL, CK, Bi, BX, hs, CM, A2, Af, BJ, AF, BT, Bd, Bv, AY, BS, BU, Cn, Int.toNat_natCast, Int.reduceToNat, Nat.reduceAdd, Nat.reduceMul, Nat.reduceSub, Nat.reduceLeDiff, Nat.zero_add, Nat.add_zero, true_and, and_true, and_assoc, BO, Cr, BV, Ct, Cs, BR, BP, Cl, BG, AZ, Br, Bt, BF, or_false, false_or, not_true_eq_false, not_false_eq_true, List.mem_cons, List.not_mem_nil, AE, Dd, D0, hx]; rfl) : a = b := h
theorem Fc (hk : AG W0 M0 dr calm E ops K r ⟨putD d c fr, H', n'⟩) (h : C0 E fr H n o = .h q c H' n' := by exact Zr) (hq : q := by exact AQ) (hn : CN fr o := by exact GE) (hl : (dr && DK calm d o) = true → Ev H H' := by exact U5) : AG W0 M0 dr calm E ops K (⟨d, o, t, p, af, none⟩ :: r) ⟨fr, H, n⟩ := Ox h hn hq hl hk
theorem Aak {a b : RS} (h : a = b := by simp only [hc, Bo, AX, AP, AW, Bp, eq_self, Nat.reduceEqDiff, reduceIte, bw, D5, CL, CK, Bi, BX, hs, CM, A2, Af, BJ, AF, BT, Bd, Bv, AY, BS, BU, Cn, Int.toNat_natCast, Int.reduceToNat, Nat.reduceAdd, Nat.reduceMul, Nat.reduceSub, Nat.reduceLeDiff, Nat.zero_add, Nat.add_zero, true_and, and_true, and_assoc, BO, Cr, BV, Ct, Cs, BR, BP, Cl, BG, AZ, Br, Bt, BF, or_false, false_or, not_true_eq_false, not_false_eq_true, List.mem_cons, List.not_mem_nil, AE, Dd, D0, hx, GR, gw, HS, IG, DD, Nat.reduceAdd, Nat.reduceSub, Nat.reduceLT, Nat.reduceLeDiff, if_true, if_false, ite_self, List.mem_append, true_implies, Option.bind_some]; rfl) : a = b := h
theorem BM (hk : AG W0 M0 dr calm E ops K r ⟨putD d c fr, H', n'⟩) (h : C0 E fr H n o = .h q c H' n' := by exact Aak) (hq : q := by exact AQ) (hn : CN fr o := by exact GE) (hl : (dr && DK calm d o) = true → Ev H H' := by exact U5) : AG W0 M0 dr calm E ops K (⟨d, o, t, p, af, none⟩ :: r) ⟨fr, H, n⟩ := Ox h hn hq hl hk
theorem Aal {a b : RS} (h : a = b := by simp only [NF, Bo, AX, AP, AW, Bp, eq_self, Nat.reduceEqDiff, reduceIte, bw, D5, CL, CK, Bi, BX, hs, CM, A2, hc, Af, BJ, AF, BT, Bd, Bv, AY, BS, BU, Cn, Int.toNat_natCast, Int.reduceToNat, Nat.reduceAdd, Nat.reduceMul, Nat.reduceSub, Nat.reduceLeDiff, Nat.zero_add, Nat.add_zero, true_and, and_true, and_assoc, BO, Cr, BV, Ct, Cs, BR, BP, Cl, BG, AZ, Br, Bt, BF, or_false, false_or, not_true_eq_false, not_false_eq_true, List.mem_cons, List.not_mem_nil, AE, Dd, D0, hx, GR, gw, HS, IG, DD, Nat.reduceAdd, Nat.reduceSub, Nat.reduceLT, Nat.reduceLeDiff, if_true, if_false, ite_self, List.mem_append, true_implies, Option.bind_some]; rfl) : a = b := h
theorem t_bs (hk : AG W0 M0 dr calm E ops K r ⟨putD d c fr, H', n'⟩) (h : C0 E fr H n o = .h q c H' n' := by exact Zq) (hg : Bg ops fr (some gd) = some (some true) := by exact Bb) (hq : q := by exact AQ) (hn : CN fr o := by exact GE) (hl : (dr && DK calm d o) = true → Ev H H' := by exact U5) : AG W0 M0 dr calm E ops K (⟨d, o, t, p, af, some gd⟩ :: r) ⟨fr, H, n⟩ := US hg h (fun _ => ⟨hn, hq⟩) hl (fun _ => hk) (fun h => Bool.noConfusion h)
theorem YR (hk : AG W0 M0 dr calm E ops K r ⟨putD d c fr, H', n'⟩) (h : C0 E fr H n o = .h q c H' n' := by exact Zr) (hg : Bg ops fr (some gd) = some (some true) := by exact Bb) (hq : q := by exact AQ) (hn : CN fr o := by exact GE) (hl : (dr && DK calm d o) = true → Ev H H' := by exact U5) : AG W0 M0 dr calm E ops K (⟨d, o, t, p, af, some gd⟩ :: r) ⟨fr, H, n⟩ := US hg h (fun _ => ⟨hn, hq⟩) hl (fun _ => hk) (fun h => Bool.noConfusion h)
theorem Pb (hk : AG W0 M0 dr calm E ops K r ⟨putD d c fr, H', n'⟩) (h : C0 E fr H n o = .h q c H' n' := by exact Aal) (hg : Bg ops fr (some gd) = some (some true) := by exact Bb) (hq : q := by exact AQ) (hn : CN fr o := by exact GE) (hl : (dr && DK calm d o) = true → Ev H H' := by exact U5) : AG W0 M0 dr calm E ops K (⟨d, o, t, p, af, some gd⟩ :: r) ⟨fr, H, n⟩ := US hg h (fun _ => ⟨hn, hq⟩) hl (fun _ => hk) (fun h => Bool.noConfusion h)
theorem Ac {id : Nat} {l : List Oper} {draw : Bool} {st : St} {K : Exit → St → Prop} (h : AG W0 M0 draw [] E l.toArray (K .normal) l st) (hm : P.follows .mixedOrders = true := by exact ER) (hok : Qk [] E.N draw l.toArray = true := by kernel_rfl) : VC E W0 M0 (.region id l.toArray draw) st K := Eu [] hm hok h
theorem Ak {v : Operand} {x y : Code} {st : St} {K : Exit → St → Prop} {b : Bool} {p q : Prop} (h1 : p → VC E W0 M0 x st K) (h2 : q → VC E W0 M0 y st K) (hb : Bc st.fr v = .d (.bool b) := by simp only [w1, w3, eq_self, Nat.reduceEqDiff, reduceIte]; rfl) (e1 : (b = true) = p := by first | (simp only [C5, Ca, CC]; rfl) | rfl) (e2 : (b = false) = q := by first | (simp only [C5, Ca, CC]; rfl) | rfl) : VC E W0 M0 (.cond v x y) st K := TG hb (fun h => h1 (e1 ▸ h)) (fun h => h2 (e2 ▸ h))
end
theorem Aj {p q : Prop} (h : q) (e : p = q := by first | (simp only [w1, w2, w3, w4, LO, Ae, eq_self, Nat.reduceEqDiff, Nat.reduceLeDiff, Nat.reduceAdd, Nat.reduceSub, Nat.reduceMul, Int.toNat_natCast, Int.reduceToNat, Int.reduceNeg, List.mem_cons, List.not_mem_nil, or_false, false_or, not_true_eq_false, not_false_eq_true, Ca, CC, reduceIte, true_and, and_true, and_assoc, true_implies, forall_const, implies_true, Bool.true_eq_false, Bool.false_eq_true, false_implies, Bd, BT, Bv, AY, BS, BU, BR, BO, Cr, BV, Ct, Cs, reduceCtorEq, or_true, true_or, hx, hT]; rfl) | rfl) : p := e ▸ h
theorem Aw {p q : Prop} (h : q) (e : p = q := by first | (simp only [w1, w2, w3, w4, LO, Ae, eq_self, Nat.reduceEqDiff, Nat.reduceLeDiff, Nat.reduceAdd, Nat.reduceSub, Nat.reduceMul, Int.toNat_natCast, Int.reduceToNat, Int.reduceNeg, List.mem_cons, List.not_mem_nil, or_false, false_or, not_true_eq_false, not_false_eq_true, Ca, CC, reduceIte, true_and, and_true, and_assoc, true_implies, forall_const, implies_true, Bool.true_eq_false, Bool.false_eq_true, false_implies, Bd, BT, Bv, AY, BS, BU, BR, BO, Cr, BV, Ct, Cs, reduceCtorEq, or_true, true_or, hx, hT]; (try simp only [w1, w2, w3, w4, LO, Ae, eq_self, Nat.reduceEqDiff, Nat.reduceLeDiff, Nat.reduceAdd, Nat.reduceSub, Nat.reduceMul, Int.toNat_natCast, Int.reduceToNat, Int.reduceNeg, List.mem_cons, List.not_mem_nil, or_false, false_or, not_true_eq_false, not_false_eq_true, Ca, CC, reduceIte, true_and, and_true, and_assoc, true_implies, forall_const, implies_true, Bool.true_eq_false, Bool.false_eq_true, false_implies, Bd, BT, Bv, AY, BS, BU, BR, BO, Cr, BV, Ct, Cs, reduceCtorEq, or_true, true_or, hx, hT]); rfl) | rfl) : p := e ▸ h
end Go.Vc
/- The Vc layer: regions taken in several orders: where two operations may come first, both are shown. -/
set_option linter.all false
namespace Go.Vc
open Go Go.RowKit
inductive JS where
 | nil
 | seq (is : List Nat) (t : JS)
 | alt (i : Nat) (a : JS) (r : JS)
def U4 : JS → List Nat
 | .alt i _ r => i :: U4 r
 | _ => []
def O8 (calm : List FuncId) (ops : Array Oper) : List Nat → Array Bool → Option (Array Bool)
 | [], l => some l
 | i :: r, l => if decide (i < ops.size) && (H0 calm .any ops l i || Region.ready .any ops l == [i]) then O8 calm ops r (l.setIfInBounds i true) else none
def Gr (calm : List FuncId) (ops : Array Oper) : Bool → JS → Nat → Array Bool → Bool
 | c, .nil, n, l => c || (n == 0 && (Region.ready .any ops l).isEmpty)
 | c, .seq is t, n, l => !c && match O8 calm ops is l with
  | some l' => decide (is.length ≤ n) && Gr calm ops false t (n - is.length) l'
  | none => false
 | c, .alt i a r, n, l => (c || Region.ready .any ops l == i :: U4 r) && decide (i < ops.size) && decide (0 < n) && Gr calm ops false a (n - 1) (l.setIfInBounds i true) && Gr calm ops true r n l
def Vs (calm : List FuncId) (N : Nat) (t : JS) (ops : Array Oper) : Bool :=
 ops.all (fun o => match o.dst with | some d => decide (d < N) | none => true) && Gr calm ops false t ops.size (Array.replicate ops.size false)
section
variable [Bl] {P : Program} {E : Bq P} {W0 : World} {M0 : Nat → Prop}
def AT (W0 : World) (M0 : Nat → Prop) (calm : List FuncId) (E : Bq P) (ops : List Oper) (K : St → Prop) : Bool → JS → St → Prop
 | c, .nil, st => c = true ∨ K st
 | _, .seq is t, st => AG W0 M0 true calm E ops.toArray (AT W0 M0 calm E ops K false t) (Ee ops is) st
 | _, .alt i a r, st => AG W0 M0 true calm E ops.toArray (AT W0 M0 calm E ops K false a) (Ee ops [i]) st ∧ AT W0 M0 calm E ops K true r st
theorem RP {calm : List FuncId} {ops : List Oper} {K N : St → Prop} {i : Nat} {o : Oper} {l : Array Bool} {n : Nat} {st : St} (ho : ops[i]? = some o) (hf : H0 calm .any ops.toArray l i = true ∨ Region.ready .any ops.toArray l = [i])
  (h' : stepG W0 M0 true calm E ops.toArray o st N) (next : ∀ st, N st → Fj W0 M0 calm E .any ops.toArray K n (l.setIfInBounds i true) st) : Fj W0 M0 calm E .any ops.toArray K (n + 1) l st := by
 have ho' : ops.toArray[i]? = some o := by simpa using ho
 rcases hf with hf | hone
 ·simp only [H0, ho', Bool.and_eq_true] at hf
  obtain ⟨⟨ht, hrd⟩, ⟨⟨hiW, hWl⟩, hWa⟩, hfree⟩ := hf
  obtain ⟨c, hv, hK⟩ := HB ht h'
  generalize Iy .any ops.toArray l i = W at *
  refine Gw ho' ht W (by simpa using hiW) n l st (fun j hj => ?_) (fun j hj hne oj hoj => ?_) (fun j oj hoj hjW hun => ?_) (by simpa using hrd) hv (next _ hK)
  ·have := List.all_eq_true.1 hWl j hj
   simpa using this
  ·have := List.all_eq_true.1 hWa j hj
   simp only [hoj, Bool.or_eq_true, beq_iff_eq, hne, false_or] at this
   obtain ⟨e, he, hb⟩ := Array.any_eq_true'.1 this
   simp only [Bool.and_eq_true] at hb
   exact ⟨e, he, hb.1, by simpa using hb.2⟩
  ·have := List.all_eq_true.1 hfree j (List.mem_range.2 (Array.getElem?_eq_some_iff.1 hoj).1)
   simp only [hoj, Bool.or_eq_true, Bool.and_eq_true, hun, Bool.false_eq_true, or_false] at this
   rcases this with h1 | h1
   ·exact absurd (by simpa using h1) hjW
   ·exact ⟨h1.1, h1.2⟩
 ·refine ⟨fun h0 => absurd (hone.symm.trans h0) (by simp), fun j hj oj hoj => ?_⟩
  rw [hone] at hj
  simp only [List.mem_singleton] at hj
  subst hj
  rw [ho'] at hoj; cases hoj
  exact Fx next h'
theorem LF {ops : List Oper} {i : Nat} {o : Oper} (h : ops[i]? = some o) (r : List Nat) : Ee ops (i :: r) = o :: Ee ops r := by rw [Ee, h]
theorem RR {calm : List FuncId} {ops : List Oper} {K N : St → Prop} : ∀ (is : List Nat) (l l' : Array Bool) (n : Nat) (st : St), O8 calm ops.toArray is l = some l' → AG W0 M0 true calm E ops.toArray N (Ee ops is) st →
  (∀ st, N st → Fj W0 M0 calm E .any ops.toArray K n l' st) → Fj W0 M0 calm E .any ops.toArray K (n + is.length) l st := by
 intro is
 induction is with
 | nil => intro l l' n st hok h hn; simp only [O8, Option.some.injEq] at hok; subst hok; exact hn _ h
 | cons i is ih =>
  intro l l' n st hok h hn
  rw [O8] at hok
  split at hok
  ·rename_i hc
   simp only [Bool.and_eq_true, Bool.or_eq_true, decide_eq_true_eq, beq_iff_eq] at hc
   have ho : ops[i]? = some (ops[i]'(by simpa using hc.1)) := List.getElem?_eq_getElem _
   rw [LF ho] at h
   exact RP (n := n + is.length) ho hc.2 h fun st hs => ih _ _ _ _ hok hs hn
  ·cases hok
def ZX (calm : List FuncId) (E : Bq P) (W0 : World) (M0 : Nat → Prop) (ops : List Oper) (K : St → Prop) (n : Nat) (l : Array Bool) (st : St) (is : List Nat) : Prop :=
 ∀ i ∈ is, ∀ o, ops.toArray[i]? = some o → stepG W0 M0 true calm E ops.toArray o st (Fj W0 M0 calm E .any ops.toArray K n (l.setIfInBounds i true))
theorem Pl {calm : List FuncId} {ops : List Oper} {K : St → Prop} : ∀ (t : JS) (n : Nat) (l : Array Bool) (st : St),
  (Gr calm ops.toArray false t n l = true → AT W0 M0 calm E ops K false t st → Fj W0 M0 calm E .any ops.toArray K n l st) ∧
  (Gr calm ops.toArray true t (n + 1) l = true → AT W0 M0 calm E ops K true t st → ZX calm E W0 M0 ops K n l st (U4 t)) := by
 intro t
 induction t with
 | nil =>
  intro n l st
  refine ⟨fun hok h => ?_, fun hok h i hi => by cases hi⟩
  simp only [Gr, Bool.false_or, Bool.and_eq_true, beq_iff_eq] at hok
  obtain ⟨rfl, hok⟩ := hok
  simp only [AT, Bool.false_eq_true, false_or] at h
  exact ⟨by simpa using hok, h⟩
 | seq is t ih =>
  intro n l st
  refine ⟨fun hok h => ?_, fun hok h i hi => by cases hi⟩
  rw [Gr] at hok
  simp only [Bool.not_false, Bool.true_and] at hok
  split at hok
  ·rename_i l' hs
   simp only [Bool.and_eq_true, decide_eq_true_eq] at hok
   have e : n = (n - is.length) + is.length := by omega
   rw [e]
   exact RR is _ _ _ _ hs h fun st hs => (ih _ _ _).1 hok.2 hs
  ·cases hok
 | alt i a r iha ihr =>
  intro n l st
  have one : ∀ m, Gr calm ops.toArray false a m (l.setIfInBounds i true) = true → AG W0 M0 true calm E ops.toArray (AT W0 M0 calm E ops K false a) (Ee ops [i]) st → ∀ o, ops.toArray[i]? = some o →
    stepG W0 M0 true calm E ops.toArray o st (Fj W0 M0 calm E .any ops.toArray K m (l.setIfInBounds i true)) := fun m hok h o ho => by
   have ho' : ops[i]? = some o := by simpa using ho
   rw [LF ho'] at h
   exact Fx (fun st hs => (iha _ _ _).1 hok hs) h
  refine ⟨fun hok h => ?_, fun hok h => ?_⟩
  ·simp only [Gr, Bool.false_or, Bool.and_eq_true, decide_eq_true_eq, beq_iff_eq] at hok
   obtain ⟨⟨⟨⟨hr, hi⟩, hn⟩, ha⟩, hc⟩ := hok
   have e : n = (n - 1) + 1 := by omega
   rw [e] at hc ⊢
   refine ⟨fun h0 => absurd (hr.symm.trans h0) (by simp), fun k hk ok hok => ?_⟩
   rw [hr] at hk
   rcases List.mem_cons.1 hk with rfl | hk
   ·exact one _ ha h.1 ok hok
   ·exact (ihr (n - 1) l st).2 hc h.2 k hk ok hok
  ·simp only [Gr, Bool.true_or, Bool.true_and, Bool.and_eq_true, decide_eq_true_eq] at hok
   obtain ⟨⟨⟨hi, hn⟩, ha⟩, hc⟩ := hok
   intro k hk ok hok
   rcases List.mem_cons.1 hk with rfl | hk
   ·exact one _ ha h.1 ok hok
   ·exact (ihr n l st).2 hc h.2 k hk ok hok
theorem EA (calm : List FuncId) (t : JS) (hm : P.follows .mixedOrders = true) {id : Nat} {l : List Oper} (hok : Vs calm E.N t l.toArray = true) {st : St} {K : Exit → St → Prop} (h : AT W0 M0 calm E l (K .normal) false t st) : VC E W0 M0 (.region id l.toArray true) st K := by
 intro a w hs
 simp only [Vs, Bool.and_eq_true] at hok
 have hd : ∀ o ∈ l, ∀ d, o.dst = some d → d < E.N := by
  intro o ho d hd
  have := Array.all_eq_true_iff_forall_mem.1 hok.1 o (by simpa using ho)
  rw [hd] at this
  simpa using this
 exact wpIn_region_any hm (JI (calm := calm) (E := E) (W0 := W0) (M0 := M0) (K := K .normal) (fun i o d ho hdd => hd o (by
  have := List.mem_of_getElem? (l := l) (i := i) (by simpa using ho); exact this) d hdd) (fun st a w h1 h2 => ⟨st, h1, h2⟩) _ _ st a _ ((Pl t _ _ st).1 hok.2 h) hs.drawn)
theorem A7 {calm : List FuncId} {ops : List Oper} {K : St → Prop} {is : List Nat} {t : JS} {st : St} (h : AG W0 M0 true calm E ops.toArray (AT W0 M0 calm E ops K false t) (Ee ops is) st) : AT W0 M0 calm E ops K false (.seq is t) st := h
theorem A0 {calm : List FuncId} {ops : List Oper} {K : St → Prop} {c : Bool} {i : Nat} {a r : JS} {st : St} (h : AG W0 M0 true calm E ops.toArray (AT W0 M0 calm E ops K false a) (Ee ops [i]) st) (h' : AT W0 M0 calm E ops K true r st) : AT W0 M0 calm E ops K c (.alt i a r) st := ⟨h, h'⟩
theorem Bh {calm : List FuncId} {ops : List Oper} {K : St → Prop} {st : St} : AT W0 M0 calm E ops K true .nil st := .inl rfl
theorem AK {calm : List FuncId} {ops : List Oper} {K : St → Prop} {st : St} (h : K st) : AT W0 M0 calm E ops K false .nil st := .inr h
end
end Go.Vc
/- The Vc layer: a sequence cut in the middle: what comes behind is walked once, whatever ways lead there. -/
set_option linter.all false
namespace Go.Vc
open Go Go.RowKit
section
variable [Bl] {P : Program} {E : Bq P} {W0 : World} {M0 : Nat → Prop}
theorem F0 {σ : Type} (inv : σ → Prop) (fl : σ → List (Nat × AV)) (bl : σ → List (Option B7)) {np : Nat} (hnp : Bl.np = np) {x y : Code} {st : St} {K : Exit → St → Prop}
  (hy : ∀ s, inv s → VC E W0 M0 y (Hd (fl s) (bl s)) K) (hx : ∀ N : St → Prop, (∀ st', (∃ s, inv s ∧ ∃ ρ : Ren, KF np ρ st' (fl s) (bl s)) → N st') → VC E W0 M0 x st (Jp N K)) : VC E W0 M0 (.seq x y) st K :=
 Wt (hx _ fun st' ⟨s, h1, ρ, h2⟩ => YY hnp (fl s) (bl s) ρ h2 (hy s h1))
end
