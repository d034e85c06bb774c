/- The Vc layer, part 4. -/
import Derived.Test.YtmbjnkgpcbpclaaGreatV3
import Derived.Lib.SliceRun
import Derived.Lib.LazyBuf
/- The Vc layer: regions once more: operations known by what they do to worlds; calls that only add boxes. -/
set_option linter.all false
namespace Go.Vc
open Go Go.RowKit

def Dr (calm : List FuncId) (d : Option Tmp) : Op → Bool
 | .alloc _ | .box .. | .buildSlice .. | .makeSlice .. => true
 | .call ⟨.value (.func f), _, _⟩ => calm.contains f
 | .call ⟨.builtin .append, _, _⟩ => calm.contains (1000000 + d.getD 0)
 | _ => false
def J4 (calm : List FuncId) (d : Option Tmp) (o : Op) : Bool := Em o || Dr calm d o

section
variable [Bd] {P : Program} {E : Bn P} {W0 : World} {M0 : Nat → Prop}

def CZ (W0 : World) (M0 : Nat → Prop) (E : Bn P) (o : Oper) (st : St) (K : St → Prop) : Prop :=
 ∀ (a : Act) (w : World) (S : Lays), Ah W0 M0 st.H st.n w S → (∀ x ∈ o.op.operands.toList, R w S st.n (AR st.fr x) (a.eval x)) →
  ∀ Q, o.wpIn (MG E.ρ) 0 P a w (fun a' w' => ∃ c H' n' v S', a' = a.put o.dst v ∧ Ah W0 M0 H' n' w' S' ∧ Cb w S st.n w' S' n' ∧ R w' S' n' c v ∧ K ⟨putD o.dst c st.fr, H', n'⟩) Q

theorem CZ.mono {o : Oper} {st : St} {K K' : St → Prop} (hk : ∀ st, K st → K' st) (h : CZ W0 M0 E o st K) : CZ W0 M0 E o st K' := fun a w S h1 h2 Q =>
 Oper.wpIn_mono (fun a' w' ⟨c, H', n', v, S', g1, g2, g3, g4, g5⟩ => ⟨c, H', n', v, S', g1, g2, g3, g4, hk _ g5⟩) (h a w S h1 h2 Q)

def Qm (W0 : World) (M0 : Nat → Prop) (E : Bn P) (o : Oper) (st : St) (c : AV) : Prop :=
 ∀ (H' : Av) (n' : Nat), DK st.H H' → ∀ (a : Act) (w : World) (S : Lays), Ah W0 M0 H' n' w S → (∀ x ∈ o.op.operands.toList, R w S n' (AR st.fr x) (a.eval x)) →
  ∀ Q, o.wpIn (MG E.ρ) 0 P a w (fun a' w' => ∃ v, a' = a.put o.dst v ∧ w' = w ∧ R w S n' c v) Q

def stepG (W0 : World) (M0 : Nat → Prop) (dr : Bool) (calm : List FuncId) (E : Bn P) (ops : Array Oper) (o : Oper) (st : St) (K : St → Prop) : Prop :=
 EG E ops o st (fun st' => ((dr && Dr calm o.dst o.op) = true → DK st.H st'.H) ∧ K st') ∨ (AW ops st.fr o.guard = some (some false) ∧ K ⟨putD o.dst (.cond false .any) st.fr, st.H, st.n⟩) ∨
  ((o.guard = none ∨ AW ops st.fr o.guard = some (some true)) ∧ (dr && Em o.op) = false ∧ CZ W0 M0 E o st (fun st' => ((dr && Dr calm o.dst o.op) = true → DK st.H st'.H) ∧ K st')) ∨
  ((o.guard = none ∨ AW ops st.fr o.guard = some (some true)) ∧ DH o.op = false ∧ ∃ c, Qm W0 M0 E o st c ∧ K ⟨putD o.dst c st.fr, st.H, st.n⟩)

theorem EF {dr : Bool} {calm : List FuncId} {ops : Array Oper} {o : Oper} {st : St} {K K' : St → Prop} (hk : ∀ st, K st → K' st) (h : stepG W0 M0 dr calm E ops o st K) : stepG W0 M0 dr calm E ops o st K' := by
 rcases h with h | h | h | h
 ·exact .inl (JK (fun st h => ⟨h.1, hk _ h.2⟩) h)
 ·exact .inr (.inl ⟨h.1, hk _ h.2⟩)
 ·exact .inr (.inr (.inl ⟨h.1, h.2.1, h.2.2.mono fun st h => ⟨h.1, hk _ h.2⟩⟩))
 ·obtain ⟨h1, h2, c, h3, h4⟩ := h
  exact .inr (.inr (.inr ⟨h1, h2, c, h3, hk _ h4⟩))

theorem Nz {dr : Bool} {calm : List FuncId} {a : Act} {w : World} {ops : Array Oper} {o : Oper} {st : St} {K : St → Prop} (h : stepG W0 M0 dr calm E ops o st K) (hd : ∀ d, o.dst = some d → d < E.N) (hs : Lh W0 M0 E.N st a w) (Q : Exit → Act → World → Prop) :
  if Region.wanted o (yielded ops a.tmps) = true then o.wpIn (MG E.ρ) 0 P a w (IQ W0 M0 E.N K) Q else IQ W0 M0 E.N K (a.put o.dst undef) w := by
 rcases h with h | h | h | h
 ·exact Ut (JK (fun st h => h.2) h) hd hs Q
 ·obtain ⟨S, hH, hF, hM⟩ := hs
  rw [Fu h.1 hF.at_, if_neg (by simp)]
  exact ⟨_, h.2, S, hH, hF.putD hd (.cond _ _ _ (fun e => by cases e) (fun _ => rfl)), by rw [DU]; exact hM⟩
 ·obtain ⟨S, hH, hF, hM⟩ := hs
  have hw : Region.wanted o (yielded ops a.tmps) = true := by
   rcases h.1 with h0 | h0
   ·exact GP (ops := ops) (fr := st.fr) (by rw [h0]; rfl) _
   ·exact Fu h0 hF.at_
  rw [if_pos hw]
  refine Oper.wpIn_mono ?_ (h.2.2 a w S hH (fun x _ => Er hH.gl hF.at_ x) Q)
  rintro a' w' ⟨c, H', n', v, S', rfl, g2, g3, g4, g5⟩
  exact ⟨_, g5.2, S', g2, (hF.ext g3).putD hd g4, by rw [DU]; exact hM.ext g3⟩
 ·obtain ⟨h1, _, c, h3, h4⟩ := h
  obtain ⟨S, hH, hF, hM⟩ := hs
  have hw : Region.wanted o (yielded ops a.tmps) = true := by
   rcases h1 with h0 | h0
   ·exact GP (ops := ops) (fr := st.fr) (by rw [h0]; rfl) _
   ·exact Fu h0 hF.at_
  rw [if_pos hw]
  refine Oper.wpIn_mono ?_ (h3 st.H st.n (fun _ _ h => h) a w S hH (fun x _ => Er hH.gl hF.at_ x) Q)
  rintro a' w' ⟨v, rfl, rfl, g4⟩
  exact ⟨_, h4, S, hH, hF.putD hd g4, by rw [DU]; exact hM⟩

def VR (W0 : World) (M0 : Nat → Prop) (E : Bn P) (ops : Array Oper) (o : Oper) (st : St) (c : AV) : Prop :=
 (∃ p, NH E ops o st = some (p, c) ∧ p) ∨ (AW ops st.fr o.guard = some (some false) ∧ c = .cond false .any) ∨
  ((o.guard = none ∨ AW ops st.fr o.guard = some (some true)) ∧ DH o.op = false ∧ Qm W0 M0 E o st c)

theorem DK.refl (H : Av) : DK H H := fun _ _ h => h
theorem Py {dr : Bool} {calm : List FuncId} {ops : Array Oper} {o : Oper} {st : St} {c : AV} (h : VR W0 M0 E ops o st c) {K : St → Prop} (hK : K ⟨putD o.dst c st.fr, st.H, st.n⟩) : stepG W0 M0 dr calm E ops o st K := by
 rcases h with ⟨p, h, hp⟩ | ⟨h, rfl⟩ | ⟨h1, h2, h3⟩
 ·exact .inl (RN h hp ⟨fun _ => DK.refl _, hK⟩)
 ·exact .inr (.inl ⟨h, hK⟩)
 ·exact .inr (.inr (.inr ⟨h1, h2, c, h3, hK⟩))
theorem UO {ops : Array Oper} {o : Oper} {st : St} {c : AV} (h : VR W0 M0 E ops o st c) {fr' : Nat → AV} {H' : Av} {n' : Nat}
  (ha : ∀ x ∈ o.op.operands.toList, AR fr' x = AR st.fr x) (hg : ∀ d, (∃ g want, o.guard = some (g, want) ∧ (ops[g]?).bind (·.dst) = some d) → fr' d = st.fr d)
  (ht : Em o.op = true) (hs : DH o.op = true ∨ DK st.H H') : VR W0 M0 E ops o ⟨fr', H', n'⟩ c := by
 rcases h with ⟨p, h, hp⟩ | ⟨h, rfl⟩ | ⟨h1, h2, h3⟩
 ·exact .inl ⟨p, RM h ha hg ht hs, hp⟩
 ·exact .inr (.inl ⟨by rw [CQ hg]; exact h, rfl⟩)
 ·refine .inr (.inr ⟨h1.imp (fun h0 => h0) (fun h0 => by rw [CQ hg]; exact h0), h2, fun H2 n2 hle a w S hH hop Q => ?_⟩)
  have hle' : DK st.H H' := by
   rcases hs with hs | hs
   ·rw [h2] at hs; cases hs
   ·exact hs
  exact h3 H2 n2 (fun id b hb => hle id b (hle' id b hb)) a w S hH (fun x hx => by rw [← ha x hx]; exact hop x hx) Q
theorem GV {calm : List FuncId} {ops : Array Oper} {o : Oper} {st : St} {K : St → Prop} (ht : Em o.op = true) (h : stepG W0 M0 true calm E ops o st K) : ∃ c, VR W0 M0 E ops o st c ∧ K ⟨putD o.dst c st.fr, st.H, st.n⟩ := by
 rcases h with h | h | h | h
 ·obtain ⟨p, c, h1, h2, h3⟩ := Pd ht h
  exact ⟨c, .inl ⟨p, h1, h2⟩, h3.2⟩
 ·exact ⟨_, .inr (.inl ⟨h.1, rfl⟩), h.2⟩
 ·have := h.2.1
  simp [ht] at this
 ·obtain ⟨h1, h2, c, h3, h4⟩ := h
  exact ⟨c, .inr (.inr ⟨h1, h2, h3⟩), h4⟩

theorem Pc {calm : List FuncId} {ops : Array Oper} {oi oj : Oper} (hap : oi.apart ops oj = true) (ht : Em oi.op = true) (hq : DH oi.op = true ∨ J4 calm oj.dst oj.op = true) {st : St} {c : AV} (hv : VR W0 M0 E ops oi st c) {K : St → Prop}
  (h : stepG W0 M0 true calm E ops oj ⟨putD oi.dst c st.fr, st.H, st.n⟩ K) : stepG W0 M0 true calm E ops oj st (fun st' => VR W0 M0 E ops oi st' c ∧ K ⟨putD oi.dst c st'.fr, st'.H, st'.n⟩) := by
 obtain ⟨h1, h2, h3⟩ := Oper.apart_spec hap
 obtain ⟨g1, g2⟩ := JC (o := oj) (c := c) (fr := st.fr) h1
 have back : ∀ e, (∀ x ∈ oi.op.operands.toList, AR (putD oj.dst e st.fr) x = AR st.fr x) ∧ ∀ d, (∃ g want, oi.guard = some (g, want) ∧ (ops[g]?).bind (·.dst) = some d) → putD oj.dst e st.fr d = st.fr d :=
  fun e => JC (o := oi) (c := e) (fr := st.fr) h3
 have fin : ∀ {e : AV} {H' : Av} {n' : Nat}, (DH oi.op = true ∨ DK st.H H') → K ⟨putD oj.dst e (putD oi.dst c st.fr), H', n'⟩ →
   VR W0 M0 E ops oi ⟨putD oj.dst e st.fr, H', n'⟩ c ∧ K ⟨putD oi.dst c (putD oj.dst e st.fr), H', n'⟩ := by
  intro e H' n' hh hK
  refine ⟨UO hv (back e).1 (back e).2 ht hh, ?_⟩
  rw [Rs h2] at hK
  exact hK
 have same : DH oi.op = true ∨ DK st.H st.H := .inr (DK.refl _)
 rcases h with h | h | h | h
 ·refine .inl ?_
  have heap : ∀ {p : Prop} {e : AV} {H' : Av} {n' : Nat}, Cf E st.fr st.H st.n oj.op = .h p e H' n' → ((true && Dr calm oj.dst oj.op) = true → DK st.H H') → DH oi.op = true ∨ DK st.H H' := by
   intro p e H' n' hr hg
   rcases hq with hs | hq
   ·exact .inl hs
   ·simp only [J4, Bool.or_eq_true] at hq
    rcases hq with hq | hq
    ·have : LN [] oj.op = true := by
      unfold LN
      split
      ·rename_i hop; rw [hop] at hq; simp [Em, Qa] at hq
      ·exact hq
     exact (Qu (Calm.nil E) this hr).elim
    ·exact .inr (hg (by simpa using hq))
  unfold EG at *
  simp only at h
  rw [CQ g2, Kr g1, KJ g1] at h
  split at h
  ·exact h
  ·split at h
   ·exact ⟨h.1, h.2.1, h.2.2.1, fin same h.2.2.2⟩
   ·rename_i hr; exact ⟨h.1, h.2.1, h.2.2.1, fin (heap hr h.2.2.1) h.2.2.2⟩
   ·exact h
  ·split at h
   ·exact ⟨h.1, h.2.1, fin same h.2.2⟩
   ·rename_i hr; exact ⟨fun hb => ⟨(h.1 hb).1, (h.1 hb).2.1, (h.1 hb).2.2.1, fin (heap hr (h.1 hb).2.2.1) (h.1 hb).2.2.2⟩, fun hb => ⟨(h.2 hb).1, fin same (h.2 hb).2⟩⟩
   ·exact h
 ·simp only at h
  rw [CQ g2] at h
  exact .inr (.inl ⟨h.1, fin same h.2⟩)
 ·refine .inr (.inr (.inl ⟨h.1.imp (fun h0 => h0) (fun h0 => by simp only at h0; rw [CQ g2] at h0; exact h0), h.2.1, ?_⟩))
  have hs : ∀ {H' : Av}, ((true && Dr calm oj.dst oj.op) = true → DK st.H H') → DH oi.op = true ∨ DK st.H H' := by
   intro H' hg
   rcases hq with hs | hq
   ·exact .inl hs
   ·have h1 := h.2.1
    simp only [J4, Bool.or_eq_true] at hq
    rcases hq with hq | hq
    ·rw [hq] at h1; cases h1
    ·exact .inr (hg (by simpa using hq))
  intro a w S hH hx Q
  refine Oper.wpIn_mono ?_ (h.2.2 a w S hH (fun x hx' => by simp only; rw [g1 x hx']; exact hx x hx') Q)
  rintro a' w' ⟨c', H', n', v, S', e1, e2, e3, e4, e5⟩
  exact ⟨c', H', n', v, S', e1, e2, e3, e4, e5.1, fin (hs e5.1) e5.2⟩
 ·obtain ⟨k1, k2, c', k3, k4⟩ := h
  refine .inr (.inr (.inr ⟨k1.imp (fun h0 => h0) (fun h0 => by simp only at h0; rw [CQ g2] at h0; exact h0), k2, c', fun H2 n2 hle a w S hH hop Q => ?_, fin same k4⟩))
  exact k3 H2 n2 hle a w S hH (fun x hx' => by simp only; rw [g1 x hx']; exact hop x hx') Q

def E5 (W0 : World) (M0 : Nat → Prop) (calm : List FuncId) (E : Bn P) (md : Region.Mode) (ops : Array Oper) (K : St → Prop) : Nat → Array Bool → St → Prop
 | 0, l, st => Region.ready md ops l = [] ∧ K st
 | fuel + 1, l, st => (Region.ready md ops l = [] → K st) ∧ ∀ i ∈ Region.ready md ops l, ∀ o, ops[i]? = some o → stepG W0 M0 true calm E ops o st (E5 W0 M0 calm E md ops K fuel (l.setIfInBounds i true))

theorem IM {calm : List FuncId} {md : Region.Mode} {ops : Array Oper} {K : St → Prop} {Q : Exit → Act → World → Prop} (hd : ∀ (i : Nat) (o : Oper) (d : Tmp), ops[i]? = some o → o.dst = some d → d < E.N)
  (hQ : ∀ st a w, K st → Lh W0 M0 E.N st a w → Q .normal a w) : ∀ (fuel : Nat) (l : Array Bool) (st : St) (a : Act) (w : World), E5 W0 M0 calm E md ops K fuel l st → Lh W0 M0 E.N st a w → wpAnyIn (MG E.ρ) 0 P md ops Q fuel l a w := by
 intro fuel
 induction fuel with
 | zero => intro l st a w h hs; exact ⟨h.1, hQ _ _ _ h.2 hs⟩
 | succ fuel ih =>
  intro l st a w h hs
  refine ⟨fun hr => hQ _ _ _ (h.1 hr) hs, fun i hi => ?_⟩
  obtain ⟨_, o, ho, _⟩ := mem_ready.1 hi
  have h1 := Nz (h.2 i hi o ho) (fun d hd' => hd i o d ho hd') hs Q
  unfold wpOpIn
  simp only [ho]
  split
  ·rename_i hw
   rw [if_pos hw] at h1
   exact (Oper.wpIn_mono (fun a' w' ⟨st', h2, h3⟩ => ih _ _ _ _ h2 h3) h1)
  ·rename_i hw
   rw [if_neg hw] at h1
   obtain ⟨st', h2, h3⟩ := h1
   exact ⟨fun _ _ => trivial, ih _ _ _ _ h2 h3⟩

theorem FI {calm : List FuncId} {md : Region.Mode} {ops : Array Oper} {K : St → Prop} {i : Nat} {oi : Oper} (hi : ops[i]? = some oi) (ht : Em oi.op = true) {c : AV} (W : List Nat) (hiW : i ∈ W) :
  ∀ (fuel : Nat) (l : Array Bool) (st : St),
   (∀ j ∈ W, l.getD j false = false) → (∀ j ∈ W, j ≠ i → ∀ oj, ops[j]? = some oj → ∃ e ∈ oj.after, Region.binds md e = true ∧ e.on ∈ W) →
   (∀ j oj, ops[j]? = some oj → j ∉ W → l.getD j true = false → oi.apart ops oj = true ∧ (DH oi.op = true ∨ J4 calm oj.dst oj.op = true)) →
   i ∈ Region.ready md ops l → VR W0 M0 E ops oi st c →
   E5 W0 M0 calm E md ops K fuel (l.setIfInBounds i true) ⟨putD oi.dst c st.fr, st.H, st.n⟩ → E5 W0 M0 calm E md ops K (fuel + 1) l st := by
 intro fuel
 induction fuel with
 | zero =>
  intro l st hWl hWa hfree hr hv H
  refine ⟨fun h => (by rw [h] at hr; cases hr), fun j hj o ho => ?_⟩
  by_cases hji : j = i
  ·subst hji
   rw [hi] at ho; cases ho
   exact Py hv H
  ·have := ready_mono hj hji
   rw [H.1] at this
   cases this
 | succ fuel ih =>
  intro l st hWl hWa hfree hr hv H
  refine ⟨fun h => (by rw [h] at hr; cases hr), fun j hj o ho => ?_⟩
  by_cases hji : j = i
  ·subst hji
   rw [hi] at ho; cases ho
   exact Py hv H
  ·obtain ⟨hjun, oj, hoj, hall⟩ := mem_ready.1 hj
   rw [ho] at hoj; cases hoj
   have hjW : j ∉ W := fun hjW => by
    obtain ⟨e, he, hb, hon⟩ := hWa j hjW hji o ho
    have := hall e he hb
    rw [hWl _ hon] at this; cases this
   obtain ⟨hap, hq⟩ := hfree j o ho hjW hjun
   have h2 := Pc hap ht hq hv (H.2 j (ready_mono hj hji) o ho)
   refine EF (fun st' ⟨h3, h5⟩ => ?_) h2
   refine ih (l.setIfInBounds j true) st' (fun k hk => ?_) hWa (fun k ok hk hkW hun => ?_) (ready_mono hr (Ne.symm hji)) h3 ?_
   ·rw [getD_set_ne false (fun e : j = k => hjW (by rw [e]; exact hk))]; exact hWl k hk
   ·refine hfree k ok hk hkW ?_
    by_cases hjk : j = k
    ·subst hjk; exact hjun
    ·rw [getD_set_ne true hjk] at hun; exact hun
   ·rw [Array.setIfInBounds_comm _ _ hji]
    exact h5

def GN (calm : List FuncId) (md : Region.Mode) (ops : Array Oper) (l : Array Bool) (i : Nat) : Bool :=
 match ops[i]? with
 | none => false
 | some oi => Em oi.op && (Region.ready md ops l).contains i && (fun W => W.contains i && W.all (fun j => !l.getD j false) &&
   W.all (fun j => j == i || match ops[j]? with | some oj => oj.after.any (fun e => Region.binds md e && W.contains e.on) | none => true) &&
   (List.range ops.size).all (fun j => W.contains j || l.getD j true || match ops[j]? with | some oj => oi.apart ops oj && (DH oi.op || J4 calm oj.dst oj.op) | none => true)) (H8 md ops l i)

def HW (calm : List FuncId) (md : Region.Mode) (ops : Array Oper) : Nat → Nat → Array Bool → Bool
 | 0, _, l => (Region.ready md ops l).isEmpty
 | k + 1, i, l => (GN calm md ops l i || Region.ready md ops l == [i]) && HW calm md ops k (i + 1) (l.setIfInBounds i true)

def OL (calm : List FuncId) (N : Nat) (draw : Bool) (ops : Array Oper) : Bool :=
 ops.all (fun o => match o.dst with | some d => decide (d < N) | none => true) && (!draw || HW calm .any ops ops.size 0 (Array.replicate ops.size false))

def AG (W0 : World) (M0 : Nat → Prop) (dr : Bool) (calm : List FuncId) (E : Bn P) (ops : Array Oper) (K : St → Prop) : List Oper → St → Prop
 | [], st => K st
 | o :: r, st => stepG W0 M0 dr calm E ops o st (AG W0 M0 dr calm E ops K r)

theorem X6 {dr : Bool} {calm : List FuncId} {ops : Array Oper} {K : St → Prop} {Q : Exit → Act → World → Prop} (hQ : ∀ st a w, K st → Lh W0 M0 E.N st a w → Q .normal a w) :
  ∀ (l : List Oper) (k : Nat) (st : St) (a : Act) (w : World), (∀ j, l[j]? = ops[k + j]?) → (∀ o ∈ l, ∀ d, o.dst = some d → d < E.N) → AG W0 M0 dr calm E ops K l st → Lh W0 M0 E.N st a w → wpOpsIn (MG E.ρ) 0 P ops Q (List.range' k l.length) a w := by
 intro l
 induction l with
 | nil => intro k st a w _ _ h hs; exact hQ _ _ _ h hs
 | cons o r ih =>
  intro k st a w hl hd h hs
  have ho : ops[k]? = some o := by have := hl 0; simpa using this.symm
  have h1 := Nz (h : stepG W0 M0 dr calm E ops o st (AG W0 M0 dr calm E ops K r)) (hd o (by simp)) hs Q
  have ih' := fun st a w => ih (k + 1) st a w (fun j => by have := hl (j + 1); simpa [Nat.add_assoc, Nat.add_comm 1 j] using this) (fun o ho => hd o (by simp [ho]))
  simp only [List.length_cons, List.range'_succ, wpOpsIn, ho]
  split
  ·rename_i hw
   rw [if_pos hw] at h1
   exact (Oper.wpIn_mono (fun a' w' ⟨st', h2, h3⟩ => ih' _ _ _ h2 h3) h1)
  ·rename_i hw
   rw [if_neg hw] at h1
   obtain ⟨st', h2, h3⟩ := h1
   exact ⟨fun _ _ => trivial, ih' _ _ _ h2 h3⟩

theorem Qg {calm : List FuncId} {md : Region.Mode} {ops : Array Oper} {K : St → Prop} : ∀ (k i : Nat) (l : Array Bool) (r : List Oper) (st : St), r.length = k → (∀ j, r[j]? = ops[i + j]?) →
  HW calm md ops k i l = true → AG W0 M0 true calm E ops K r st → E5 W0 M0 calm E md ops K k l st := by
 intro k
 induction k with
 | zero =>
  intro i l r st hl _ hok h
  have : r = [] := List.eq_nil_of_length_eq_zero hl
  subst this
  exact ⟨by simpa [HW] using hok, h⟩
 | succ k ih =>
  intro i l r st hl hr hok h
  cases r with
  | nil => cases hl
  | cons o r =>
   have ho : ops[i]? = some o := by have := hr 0; simpa using this.symm
   have hr' : ∀ j, r[j]? = ops[i + 1 + j]? := fun j => by have := hr (j + 1); simpa [Nat.add_assoc, Nat.add_comm 1 j] using this
   simp only [HW, Bool.and_eq_true, Bool.or_eq_true] at hok
   have h' : stepG W0 M0 true calm E ops o st (AG W0 M0 true calm E ops K r) := h
   have next : ∀ st, AG W0 M0 true calm E ops K r st → E5 W0 M0 calm E md ops K k (l.setIfInBounds i true) st := fun st hs => ih (i + 1) _ r st (by simpa using hl) hr' hok.2 hs
   rcases hok.1 with hf | hone
   ·simp only [GN, ho, Bool.and_eq_true] at hf
    obtain ⟨⟨ht, hrd⟩, ⟨⟨hiW, hWl⟩, hWa⟩, hfree⟩ := hf
    obtain ⟨c, hv, hK⟩ := GV ht h'
    generalize H8 md ops l i = W at *
    refine FI ho ht W (by simpa using hiW) k l st (fun j hj => ?_) (fun j hj hne oj hoj => ?_) (fun j oj hoj hjW hun => ?_) (by simpa using hrd) hv (next _ hK)
    ·have := List.all_eq_true.1 hWl j hj
     simpa using this
    ·have := List.all_eq_true.1 hWa j hj
     simp only [hoj, Bool.or_eq_true, beq_iff_eq, hne, false_or] at this
     obtain ⟨e, he, hb⟩ := Array.any_eq_true'.1 this
     simp only [Bool.and_eq_true] at hb
     exact ⟨e, he, hb.1, by simpa using hb.2⟩
    ·have := List.all_eq_true.1 hfree j (List.mem_range.2 (Array.getElem?_eq_some_iff.1 hoj).1)
     simp only [hoj, Bool.or_eq_true, Bool.and_eq_true, hun, Bool.false_eq_true, or_false] at this
     rcases this with h1 | h1
     ·exact absurd (by simpa using h1) hjW
     ·exact ⟨h1.1, h1.2⟩
   ·have hone : Region.ready md ops l = [i] := by simpa using hone
    refine ⟨fun h0 => absurd (hone.symm.trans h0) (by simp), fun j hj oj hoj => ?_⟩
    rw [hone] at hj
    simp only [List.mem_singleton] at hj
    subst hj
    rw [ho] at hoj; cases hoj
    exact EF next h'

theorem F8 (calm : List FuncId) (hm : P.follows .mixedOrders = true) {id : Nat} {l : List Oper} {draw : Bool} (hok : OL calm E.N draw l.toArray = true) {st : St} {K : Exit → St → Prop} (h : AG W0 M0 draw calm E l.toArray (K .normal) l st) : VC E W0 M0 (.region id l.toArray draw) st K := by
 intro a w hs
 simp only [OL, Bool.and_eq_true, Bool.or_eq_true, Bool.not_eq_true'] at hok
 have hd : ∀ o ∈ l, ∀ d, o.dst = some d → d < E.N := by
  intro o ho d hd
  have := Array.all_eq_true_iff_forall_mem.1 hok.1 o (by simpa using ho)
  rw [hd] at this
  simpa using this
 cases draw with
 | false => exact wpIn_region (by
   have := X6 (E := E) (W0 := W0) (M0 := M0) (ops := l.toArray) (Q := AU E W0 M0 K) (fun st a w h1 h2 => ⟨st, h1, h2⟩) l 0 st a w (fun j => by simp) hd h hs
   simpa [List.range_eq_range'] using this)
 | true =>
  have hl : HW calm .any l.toArray l.toArray.size 0 (Array.replicate l.toArray.size false) = true := by simpa using hok.2
  refine wpIn_region_any hm (IM (calm := calm) (E := E) (W0 := W0) (M0 := M0) (K := K .normal) (fun i o d ho hdd => hd o (by
   have := List.mem_of_getElem? (l := l) (i := i) (by simpa using ho); exact this) d hdd) (fun st a w h1 h2 => ⟨st, h1, h2⟩) _ _ st a _ ?_ hs.drawn)
  exact Qg _ 0 _ l st (by simp) (fun j => by simp) hl h

/-! one operation at a time -/
section
variable {dr : Bool} {calm : List FuncId} {ops : Array Oper} {K : St → Prop} {o : Op} {d : Option Tmp} {t : TypeId} {p : String} {af : Array Edge} {r : List Oper} {fr : Nat → AV} {H H' : Av} {n n' : Nat} {q : Prop} {c : AV} {b : Bool} {gd : Nat × Bool}
theorem Ab {st : St} (h : K st) : AG W0 M0 dr calm E ops K [] st := h
theorem Ac {l : List Oper} {fl : List (Nat × AV)} {bl : List (Option Bt)} (h : AG W0 M0 dr calm E ops K l ⟨GO fl, Aw bl, bl.length⟩) : AG W0 M0 dr calm E ops K l (G5 fl bl) := h
theorem GQ (h : Cf E fr H n o = .v q c) (hn : Cv fr o) (hq : q) (hk : AG W0 M0 dr calm E ops K r ⟨putD d c fr, H, n⟩) : AG W0 M0 dr calm E ops K (⟨d, o, t, p, af, none⟩ :: r) ⟨fr, H, n⟩ := by
 refine .inl ?_; unfold EG; simp only [In, h]; exact ⟨hn, hq, fun _ => DK.refl _, hk⟩
theorem Nb (h : Cf E fr H n o = .h q c H' n') (hn : Cv fr o) (hq : q) (hl : (dr && Dr calm d o) = true → DK H H') (hk : AG W0 M0 dr calm E ops K r ⟨putD d c fr, H', n'⟩) : AG W0 M0 dr calm E ops K (⟨d, o, t, p, af, none⟩ :: r) ⟨fr, H, n⟩ := by
 refine .inl ?_; unfold EG; simp only [In, h]; exact ⟨hn, hq, hl, hk⟩
theorem Fg (hg : AW ops fr (some gd) = some (some b)) (h : Cf E fr H n o = .v q c) (hq : b = true → Cv fr o ∧ q) (hk : AG W0 M0 dr calm E ops K r ⟨putD d (.cond b c) fr, H, n⟩) : AG W0 M0 dr calm E ops K (⟨d, o, t, p, af, some gd⟩ :: r) ⟨fr, H, n⟩ := by
 refine .inl ?_; unfold EG; simp only [hg, h]; exact ⟨hq, fun _ => DK.refl _, hk⟩
theorem To (hg : AW ops fr (some gd) = some (some b)) (h : Cf E fr H n o = .h q c H' n') (h1 : b = true → Cv fr o ∧ q) (hl : (dr && Dr calm d o) = true → DK H H') (h2 : b = true → AG W0 M0 dr calm E ops K r ⟨putD d c fr, H', n'⟩) (h3 : b = false → AG W0 M0 dr calm E ops K r ⟨putD d (.cond false .any) fr, H, n⟩) :
  AG W0 M0 dr calm E ops K (⟨d, o, t, p, af, some gd⟩ :: r) ⟨fr, H, n⟩ := by
 refine .inl ?_; unfold EG; simp only [hg, h]; exact ⟨fun hb => ⟨(h1 hb).1, (h1 hb).2, hl, h2 hb⟩, fun hb => ⟨fun _ => DK.refl _, h3 hb⟩⟩
theorem Ar (hg : AW ops fr (some gd) = some (some false)) (hk : AG W0 M0 dr calm E ops K r ⟨putD d (.cond false .any) fr, H, n⟩) : AG W0 M0 dr calm E ops K (⟨d, o, t, p, af, some gd⟩ :: r) ⟨fr, H, n⟩ := .inr (.inl ⟨hg, hk⟩)
theorem AN (hm : (dr && J4 calm d o) = false) (h : CZ W0 M0 E ⟨d, o, t, p, af, none⟩ ⟨fr, H, n⟩ (AG W0 M0 dr calm E ops K r)) : AG W0 M0 dr calm E ops K (⟨d, o, t, p, af, none⟩ :: r) ⟨fr, H, n⟩ := by
 have hm' : (dr && Em o) = false ∧ (dr && Dr calm d o) = false := by
  cases dr with
  | false => exact ⟨rfl, rfl⟩
  | true => simpa [J4] using hm
 exact .inr (.inr (.inl ⟨.inl rfl, hm'.1, h.mono fun st hs => ⟨fun h => by (have := hm'.2; simp only at h; rw [this] at h; cases h), hs⟩⟩))
theorem P9 (hq : DH o = false) (h : Qm W0 M0 E ⟨d, o, t, p, af, none⟩ ⟨fr, H, n⟩ c) (hk : AG W0 M0 dr calm E ops K r ⟨putD d c fr, H, n⟩) : AG W0 M0 dr calm E ops K (⟨d, o, t, p, af, none⟩ :: r) ⟨fr, H, n⟩ :=
 .inr (.inr (.inr ⟨.inl rfl, hq, c, h, hk⟩))
theorem V1 (hm : (dr && Em o) = false) (h : CZ W0 M0 E ⟨d, o, t, p, af, none⟩ ⟨fr, H, n⟩ (fun st' => ((dr && Dr calm d o) = true → DK H st'.H) ∧ AG W0 M0 dr calm E ops K r st')) : AG W0 M0 dr calm E ops K (⟨d, o, t, p, af, none⟩ :: r) ⟨fr, H, n⟩ := .inr (.inr (.inl ⟨.inl rfl, hm, h⟩))
end

theorem SS (dr : Bool) (calm : List FuncId) (d : Option Tmp) (o : Op) (H : Av) : (dr && Dr calm d o) = true → DK H H := fun _ => DK.refl _
end
end Go.Vc
/- The Vc layer: operations known by what they do to worlds: nil tests of slices, cap, append of made rows, clear, append in place, slices beyond the length. -/
set_option linter.all false
namespace Go.Vc
open Go Go.RowKit
section
variable [Bd] {P : Program} {E : Bn P} {W0 : World} {M0 : Nat → Prop} {w : World} {S : Lays} {n : Nat} {H : Av} {fr : Nat → AV} {K : St → Prop} {d : Option Tmp} {t t' ty' : TypeId} {p : String} {af : Array Edge}

theorem CZ.value {o : Oper} {st : St} (hd : ∀ c, o.op ≠ .defer c) (h : ∀ (a : Act) (w : World) (S : Lays), Ah W0 M0 st.H st.n w S → (∀ x ∈ o.op.operands.toList, R w S st.n (AR st.fr x) (a.eval x)) →
  ∃ c H' n' r w' S', (execOp a.eval o).run P w = .ok (.value r) w' ∧ Ah W0 M0 H' n' w' S' ∧ Cb w S st.n w' S' n' ∧ R w' S' n' c r ∧ K ⟨putD o.dst c st.fr, H', n'⟩) : CZ W0 M0 E o st K := by
 intro a w S h1 h2 Q
 obtain ⟨c, H', n', r, w', S', e1, e2, e3, e4, e5⟩ := h a w S h1 h2
 refine Fs hd ?_
 rw [e1]
 exact ⟨c, H', n', r, S', rfl, e2, e3, e4, e5⟩

def HO : AV → Prop
 | .d (.sl xs) => xs = []
 | .d .nils => True
 | .sl _ _ len => len = 0
 | _ => False
def PW (H : Av) : AV → Option Unit
 | .d (.sl _) => some ()
 | .d .nils => some ()
 | .sl id _ _ => match H id with
  | some (.vec ..) => some ()
  | _ => none
 | _ => none

theorem Un (hH : Ah W0 M0 H n w S) {x : AV} {v : Value} (h : PW H x = some ()) (hx : R w S n x v) : ∃ a l c, v = .slice a l c ∧ (a.isNone = true → HO x) ∧ (x = .d .nils → a.isNone = true) := by
 unfold PW at h
 split at h
 ·cases hx with | d hx =>
  obtain ⟨a, cap, rfl, _⟩ := hx.slice_form
  refine ⟨a, _, cap, rfl, fun ha => ?_, fun e => by cases e⟩
  cases hx with
  | sl0 => rfl
  | sl => cases ha
 ·cases hx with | d hx =>
  cases hx
  exact ⟨none, 0, 0, rfl, fun _ => trivial, fun _ => rfl⟩
 ·rename_i id off len
  split at h
  ·rename_i hb
   obtain ⟨l, o, hS, ⟨_, _, _, _, hnil, _⟩, rfl, hcap, _, _⟩ := hx.sl_live hH hb
   refine ⟨_, _, _, rfl, fun ha => ?_, fun e => by cases e⟩
   cases hk : l.blk with
   | none => have := hnil hk; show len = 0; omega
   | some b => rw [hk] at ha; cases ha
  ·cases h
 ·cases h

theorem R7 {e : TypeId} {s b : Nat} {z : List D} {x : Operand} {c : AV} (hx : A8 (AR fr x) = c) (hn : Bm (AR fr x)) (hty : E.X.ty t = some ⟨.slice e, s, b, z⟩) (hs : PW H c = some ())
  (k : ∀ b : Bool, (b = true → HO c) → (c = .d .nils → b = true) → K ⟨putD d (.d (.bool b)) fr, H, n⟩) : CZ W0 M0 E ⟨d, .binOp .eql t x (.const (.slice none 0 0)) ty', t', p, af, none⟩ ⟨fr, H, n⟩ K := by
 refine .value (fun c h => by cases h) fun a w S hH hop => ?_
 have hR := (hop x (by simp [Op.operands])).bare_of hn
 rw [hx] at hR
 obtain ⟨ad, l, cp, hv, h1, h2⟩ := Un hH hs hR
 refine ⟨_, H, n, .bool ad.isNone, w, S, ?_, hH, Cb.refl _ _ _, R.mkBool _, k _ h1 h2⟩
 have hrun := Go.Lib.run_eql_slice_nil (P := P) w t e ad l cp 0 0 (E.X.facts hty).slice
 simp only [execOp, hv, show a.eval (.const (.slice none 0 0)) = .slice none 0 0 from rfl]
 simp [eqGuard, hrun]

theorem Gy {e : TypeId} {s b : Nat} {z : List D} {x : Operand} {c : AV} (hx : A8 (AR fr x) = c) (hn : Bm (AR fr x)) (hty : E.X.ty t = some ⟨.slice e, s, b, z⟩) (hs : PW H c = some ())
  (k : ∀ b : Bool, (b = false → HO c) → (c = .d .nils → b = false) → K ⟨putD d (.d (.bool b)) fr, H, n⟩) : CZ W0 M0 E ⟨d, .binOp .neq t x (.const (.slice none 0 0)) ty', t', p, af, none⟩ ⟨fr, H, n⟩ K := by
 refine .value (fun c h => by cases h) fun a w S hH hop => ?_
 have hR := (hop x (by simp [Op.operands])).bare_of hn
 rw [hx] at hR
 obtain ⟨ad, l, cp, hv, h1, h2⟩ := Un hH hs hR
 refine ⟨_, H, n, .bool !ad.isNone, w, S, ?_, hH, Cb.refl _ _ _, R.mkBool _, k _ (fun h => h1 (by simpa using h)) (fun h => by simpa using h2 h)⟩
 have hrun := Go.run_neq_slice_nil (P := P) w t e ad l cp (E.X.facts hty).slice
 simp only [execOp, hv, show a.eval (.const (.slice none 0 0)) = .slice none 0 0 from rfl]
 simp [eqGuard, hrun]

/-! ### rows written in their place -/
theorem JT (hH : Ah W0 M0 H n w S) {id k tb sz : Nat} {l : Lay} {xs : List (List D)} {cur : Array Value} (hb : H id = some (.vec tb sz xs)) (hS : S id = some l) (hk : l.blk = some k) (hcur : w.heap[k]? = some (.cells cur tb (0, 0)))
  {ys : List (List D)} {news : List Value} {e0 : Nat} (hr : C4 sz ys) (hnl : news.length = ys.length * sz) (he : e0 ≤ xs.length) (hfit : e0 + ys.length ≤ l.cap) (hc : ∀ e f c, Da ys e f = some c → ∃ u, news[e * sz + f]? = some u ∧ RD w (own S) c u) :
  Ah W0 M0 (Cr H id (some (.vec tb sz (A2 xs e0 ys)))) n (w.setRow k (A2 cur.toList (e0 * sz) news).toArray) S ∧ Cb w S n (w.setRow k (A2 cur.toList (e0 * sz) news).toArray) S n := by
 obtain ⟨l', hl', hsz, hcm, hxl, hz, hnil, hbk⟩ := hH.box id _ hb
 rw [hS] at hl'; cases hl'
 obtain ⟨cur', hcur', hsize, hcell⟩ := hbk k hk
 rw [hcur] at hcur'; cases hcur'
 subst hsz
 have hcs : cur.size = l.cap * l.sz := hsize
 have hmul : e0 * l.sz + news.length ≤ cur.size := by
  rw [hcs, hnl, ← Nat.add_mul]; exact Nat.mul_le_mul_right _ hfit
 refine hH.write (w' := w.setRow k (A2 cur.toList (e0 * l.sz) news).toArray) hS hk (hH.plain id l _ hb hS rfl) _ (by rw [hb]; rfl) (by simp) rfl rfl (Dm _ _ _) (fun d hd => setRow_other w k d _ hd) (fun hE => ?_)
 refine ⟨rfl, hcm, ?_, fun y hy => ?_, hnil, fun k' hk' => ?_⟩
 ·simp only [A2, List.length_append, List.length_take, List.length_drop]; omega
 ·simp only [A2, List.mem_append] at hy
  rcases hy with (hy | hy) | hy
  ·exact hz y (List.mem_of_mem_take hy)
  ·exact hr y hy
  ·exact hz y (List.mem_of_mem_drop hy)
 ·rw [hk] at hk'; cases hk'
  refine ⟨_, setRow_heap w k cur _ tb (0, 0) hcur, ?_, fun e' f' c hh => ?_⟩
  ·simp only [List.size_toArray]
   rw [Co (by simpa using hmul)]
   simpa using hsize
  ·obtain ⟨row', hrow', hf'⟩ := Bo hh
   simp only [List.getElem?_toArray]
   rw [Dy (by simpa using hmul)]
   have hl1 : (xs.take e0).length = e0 := by rw [List.length_take]; omega
   have hrl : row'.length = l.sz := by
    have : row' ∈ A2 xs e0 ys := List.mem_of_getElem? hrow'
    simp only [A2, List.mem_append] at this
    rcases this with (hy | hy) | hy
    ·exact hz _ (List.mem_of_mem_take hy)
    ·exact hr _ hy
    ·exact hz _ (List.mem_of_mem_drop hy)
   have hfl : f' < l.sz := by rw [← hrl]; exact (List.getElem?_eq_some_iff.1 hf').1
   unfold A2 at hrow'
   by_cases h1 : e' < e0
   ·rw [List.append_assoc, List.getElem?_append_left (by omega), List.getElem?_take, if_pos h1] at hrow'
    have : e' * l.sz + f' < e0 * l.sz := by
     have := Nat.mul_le_mul_right l.sz (show e' + 1 ≤ e0 from h1); rw [Nat.add_mul] at this; omega
    rw [if_neg (by omega), Array.getElem?_toList]
    obtain ⟨u, hu, hR⟩ := hcell e' f' c (by simp [Da, hrow', hf'])
    exact ⟨u, hu, hE.rd hR⟩
   ·by_cases h2 : e' < e0 + ys.length
    ·rw [List.getElem?_append_left (by rw [List.length_append]; omega), List.getElem?_append_right (by omega), hl1] at hrow'
     obtain ⟨u, hu, hR⟩ := hc (e' - e0) f' c (by simp [Da, hrow', hf'])
     have e1 : e' * l.sz = e0 * l.sz + (e' - e0) * l.sz := by rw [← Nat.add_mul]; congr 1; omega
     have e2 : (e' - e0) * l.sz + f' < news.length := (List.getElem?_eq_some_iff.1 hu).1
     rw [if_pos ⟨by omega, by omega⟩, show e' * l.sz + f' - e0 * l.sz = (e' - e0) * l.sz + f' by omega]
     exact ⟨u, hu, hE.rd hR⟩
    ·rw [List.getElem?_append_right (by rw [List.length_append]; omega), List.getElem?_drop, List.length_append, hl1, show e0 + ys.length + (e' - (e0 + ys.length)) = e' by omega] at hrow'
     have : e0 * l.sz + news.length ≤ e' * l.sz := by rw [hnl, ← Nat.add_mul]; exact Nat.mul_le_mul_right _ (by omega)
     rw [if_neg (by omega), Array.getElem?_toList]
     obtain ⟨u, hu, hR⟩ := hcell e' f' c (by simp [Da, hrow', hf'])
     exact ⟨u, hu, hE.rd hR⟩

theorem BB.short {tb sz : Nat} {xs ys : List (List D)} {l : Lay} (h : BB w S n (.vec tb sz (xs ++ ys)) l) : BB w S n (.vec tb sz xs) l := by
 obtain ⟨h1, h2, h3, h4, h5, h6⟩ := h
 refine ⟨h1, h2, by rw [List.length_append] at h3; omega, fun x hx => h4 x (by simp [hx]), h5, fun b hb => ?_⟩
 obtain ⟨cur, e1, e2, e3⟩ := h6 b hb
 refine ⟨cur, e1, e2, fun e f c hh => e3 e f c ?_⟩
 obtain ⟨x, hx, hf⟩ := Bo hh
 simp [Da, List.getElem?_append_left (List.getElem?_eq_some_iff.1 hx).1, hx, hf]

theorem Ah.short (hH : Ah W0 M0 H n w S) {id tb sz : Nat} {xs ys : List (List D)} (hb : H id = some (.vec tb sz (xs ++ ys))) : Ah W0 M0 (Cr H id (some (.vec tb sz xs))) n w S := by
 refine ⟨hH.bnd, hH.lt2, fun i b h => ?_, hH.inj2, hH.nod, fun i l b h1 h2 h3 => ?pl, fun i l b h1 h2 h3 => ?_, hH.os, hH.tape, hH.output, hH.size, hH.same, hH.far, hH.pin, hH.gl⟩
 case pl =>
  rw [A6] at h1
  split at h1
  ·rename_i hi; subst hi; exact hH.plain i l _ hb h2 rfl
  ·exact hH.plain i l b h1 h2 h3
 ·rw [A6] at h
  split at h
  ·rename_i hi; subst hi; cases h
   obtain ⟨l, h1, h2⟩ := hH.box i _ hb
   exact ⟨l, h1, h2.short⟩
  ·exact hH.box i b h
 ·rw [A6] at h1
  split at h1
  ·rename_i hi; subst hi; exact hH.mut2 i l b (by rw [hb]; rfl) h2 h3
  ·exact hH.mut2 i l b h1 h2 h3

end
end Go.Vc
/- The Vc layer: clear; append of made rows. -/
set_option linter.all false
namespace Go.Vc
open Go Go.RowKit
section
variable [Bd] {P : Program} {E : Bn P} {W0 : World} {M0 : Nat → Prop} {w : World} {S : Lays} {n : Nat} {H : Av} {fr : Nat → AV} {K : St → Prop} {d : Option Tmp} {t t' ty' : TypeId} {p : String} {af : Array Edge}

theorem CW {z : Array Value} {m j : Nat} (hj : j < m * z.size) : ∃ u, (Builtin.zeroCells z m)[j]? = some u ∧ z[j % z.size]? = some u := by
 have hz : 0 < z.size := by
  rcases Nat.eq_zero_or_pos z.size with h | h
  ·rw [h] at hj; omega
  ·exact h
 have hm := Nat.mod_lt j hz
 refine ⟨z[j % z.size], ?_, by simp [hm]⟩
 simp [Builtin.zeroCells, hj, hm]

theorem R6 {e : TypeId} {s b s' b' sz : Nat} {z z' : List D} {z0 : D} {sh : Sh} {x : Operand} {id off len : Nat} {xs : List (List D)} (hx : A8 (AR fr x) = .sl id off len) (hn : Bm (AR fr x)) (hbx : H id = some (.vec e sz xs)) (hty : E.X.ty t = some ⟨.slice e, s, b, z⟩)
  (hte : E.X.ty e = some ⟨sh, s', b', z0 :: z'⟩) (hsz : s' = sz) (k : K ⟨putD d .any fr, Cr H id (some (.vec e sz (xs.take off))), n⟩) : CZ W0 M0 E ⟨d, .call ⟨.builtin .clear, #[x], #[t]⟩, ty', p, af, none⟩ ⟨fr, H, n⟩ K := by
 refine .value (fun c h => by cases h) fun a w S hH hop => ?_
 have hR := (hop x (by simp [Op.operands, Call.operands])).bare_of hn
 rw [hx] at hR
 obtain ⟨lay, o, hS, hbox, hv, hcap, ho, h0⟩ := hR.sl_live hH hbx
 have hu := (E.X.facts hty).slice
 have hshort : Ah W0 M0 (Cr H id (some (.vec e sz (xs.take off)))) n w S := hH.short (ys := xs.drop off) (by rw [List.take_append_drop]; exact hbx)
 have exec : ∀ {w' : World}, (Builtin.clear_ #[t] ty' #[a.eval x]).run P w = .ok (.tuple #[]) w' → (execOp a.eval ⟨d, .call ⟨.builtin .clear, #[x], #[t]⟩, ty', p, af, none⟩).run P w = .ok (.value (.tuple #[])) w' := by
  intro w' hrun
  simp only [execOp, resolve, invoke, builtin, Sem.run_bind, Sem.run_pure, Result.andThen_ok, List.map_toArray, List.map_cons, List.map_nil]
  rw [hrun]; rfl
 by_cases hl0 : len = 0
 ·subst hl0
  refine ⟨_, _, n, _, w, S, exec ?_, hshort, Cb.refl _ _ _, .any _, k⟩
  rw [hv]
  simp [Builtin.clear_, run_underlying hu]
  cases lay.blk <;> simp
 ·have hbox' := hbox
  obtain ⟨hsz', hcm, hxl, hz, hnil, hbk⟩ := hbox'
  cases hk : lay.blk with
  | none => have := hnil hk; omega
  | some g =>
   obtain ⟨cur, hcur, hsize, hcell⟩ := hbk g hk
   obtain ⟨i, zv, hi, his, hib, hzv, hzs, hzero⟩ := (E.X.facts hte).info
   obtain ⟨hzl, hzr⟩ := hzero (by simp)
   simp only at his hzs hzl
   have hes : sz = lay.sz := hsz'.symm
   have ho' := ho (by omega)
   have hzlen : (Builtin.zeroCells zv.cells len).toList.length = len * sz := by simp [Builtin.zeroCells, hzs, hsz]
   have hzsz : (Builtin.zeroCells zv.cells len).size = len * sz := by simpa using hzlen
   have hfit : off * sz + len * sz ≤ cur.size := by rw [hsize, ← Nat.add_mul]; exact Nat.mul_le_mul_right _ hcap
   have hrun := run_storeCells_at (P := P) g (off * sz) e (Builtin.zeroCells zv.cells len).toList 0 cur w hcur (by rw [hzlen]; omega) (fun u hu => by
    obtain ⟨j, hj⟩ := List.getElem?_of_mem hu
    rw [Array.getElem?_toList] at hj
    have hjl : j < len * zv.cells.size := by
     have := (Array.getElem?_eq_some_iff.1 hj).1
     simpa [Builtin.zeroCells] using this
    obtain ⟨u', h1, h2⟩ := CW hjl
    rw [hj] at h1; cases h1
    have hlt := (Array.getElem?_eq_some_iff.1 h2).1
    have hlt' : j % zv.cells.size < (z0 :: z').length := by omega
    exact (hzr w (fun _ => False) _ _ _ (List.getElem?_eq_getElem hlt') h2).one)
   simp only [Nat.add_zero] at hrun
   obtain ⟨hH', hE⟩ := hshort.write (w' := w.setRow g (A2 cur.toList (off * sz) (Builtin.zeroCells zv.cells len).toList).toArray) hS hk (hH.plain _ lay _ hbx hS rfl) (.vec e sz (xs.take off)) (by rw [A6, if_pos rfl]; rfl) rfl rfl rfl (Dm _ _ _) (fun d hd => setRow_other w g d _ hd) (fun hE => by
    refine ⟨hsz', hcm, by rw [List.length_take]; omega, fun y hy => hz y (List.mem_of_mem_take hy), hnil, fun k' hk' => ?_⟩
    rw [hk] at hk'; cases hk'
    refine ⟨_, setRow_heap w g cur _ e (0, 0) hcur, ?_, fun e1 f1 c1 hh => ?_⟩
    ·simp only [List.size_toArray]
     rw [Co (by simp only [Array.length_toList]; rw [hzsz]; exact hfit)]
     simpa using hsize
    ·obtain ⟨row, hrow, hf⟩ := Bo hh
     rw [List.getElem?_take] at hrow
     split at hrow
     ·rename_i h1
      obtain ⟨u, hu, hR⟩ := hcell e1 f1 c1 (by simp [Da, hrow, hf])
      have hfl : f1 < sz := by rw [← hz row (List.mem_of_getElem? hrow)]; exact (List.getElem?_eq_some_iff.1 hf).1
      have : e1 * sz + f1 < off * sz := by
       have := Nat.mul_le_mul_right sz (show e1 + 1 ≤ off from h1); rw [Nat.add_mul] at this; omega
      refine ⟨u, ?_, hE.rd hR⟩
      simp only [List.getElem?_toArray]
      rw [Dy (by simp only [Array.length_toList]; rw [hzsz]; exact hfit), if_neg (by omega), Array.getElem?_toList]
      exact hu
     ·cases hrow)
   have e2 : Cr (Cr H id (some (.vec e sz (xs.take off)))) id (some (.vec e sz (xs.take off))) = Cr H id (some (.vec e sz (xs.take off))) := by
    funext j; simp only [A6]; split <;> rfl
   rw [e2] at hH'
   refine ⟨_, _, n, _, _, S, exec ?_, hH', hE, .any _, k⟩
   rw [hv, hk]
   obtain ⟨m, rfl⟩ : ∃ m, len = m + 1 := ⟨len - 1, by omega⟩
   have hzv' : ∀ w, (zeroValue e).run P w = .ok zv w := fun w => by simp [zeroValue, typeInfo, hi, hzv]
   rw [ho', ← hes]
   simp [Builtin.clear_, run_underlying hu, hzv', hrun, A2]

theorem RW (z : Array Value) (a b : Nat) : Builtin.zeroCells z a ++ Builtin.zeroCells z b = Builtin.zeroCells z (a + b) := by
 apply Array.ext_getElem?
 intro j
 rw [Array.getElem?_append]
 have hsz : ∀ m, (Builtin.zeroCells z m).size = m * z.size := fun m => by simp [Builtin.zeroCells]
 rw [hsz]
 split
 ·rename_i h
  obtain ⟨u, h1, h2⟩ := CW h
  obtain ⟨u', h3, h4⟩ := CW (z := z) (m := a + b) (j := j) (by rw [Nat.add_mul]; omega)
  rw [h2] at h4; cases h4
  rw [h1, h3]
 ·rename_i h
  by_cases hb : j < (a + b) * z.size
  ·have hb' : j - a * z.size < b * z.size := by rw [Nat.add_mul] at hb; omega
   obtain ⟨u, h1, h2⟩ := CW hb'
   obtain ⟨u', h3, h4⟩ := CW hb
   have hm : (j - a * z.size) % z.size = j % z.size := by
    have e0 : a * z.size = z.size * a := Nat.mul_comm _ _
    conv => rhs; rw [show j = (j - a * z.size) + z.size * a by omega]
    rw [Nat.add_mul_mod_self_left]
   rw [hm, h4] at h2; cases h2
   rw [h1, h3]
  ·rw [Array.getElem?_eq_none (by rw [hsz, ]; rw [Nat.add_mul] at hb; omega), Array.getElem?_eq_none (by rw [hsz]; omega)]

end
end Go.Vc
/- The Vc layer: boxes as lists: rewriting rules. -/
set_option linter.all false
namespace Go.Vc
open Go Go.RowKit

def BS : List (Option Bt) → Nat → Option Bt → List (Option Bt)
 | [], 0, b => [b]
 | [], i + 1, b => none :: BS [] i b
 | _ :: l, 0, b => b :: l
 | x :: l, i + 1, b => x :: BS l i b

theorem MM (i : Nat) : Aw [] i = none := rfl
theorem QQ (b : Option Bt) (l : List (Option Bt)) : Aw (b :: l) 0 = b := by simp [Aw]
theorem C2 (b : Option Bt) (l : List (Option Bt)) (i : Nat) : Aw (b :: l) (i + 1) = Aw l i := by simp [Aw]

theorem QP : ∀ (i : Nat) (l : List (Option Bt)) (b : Option Bt) (j : Nat), Aw (BS l i b) j = if j = i then b else Aw l j := by
 intro i
 induction i with
 | zero =>
  intro l b j
  cases l with
  | nil => cases j with
   | zero => simp [BS, Aw]
   | succ j => simp [BS, Aw]
  | cons x l => cases j with
   | zero => simp [BS, Aw]
   | succ j => simp [BS, Aw]
 | succ i ih =>
  intro l b j
  cases l with
  | nil => cases j with
   | zero => simp [BS, Aw]
   | succ j => rw [BS, C2, ih, MM, MM]; simp
  | cons x l => cases j with
   | zero => simp [BS, Aw]
   | succ j => rw [BS, C2, ih, C2]; simp
theorem DJ (l : List (Option Bt)) (i : Nat) (b : Option Bt) : Cr (Aw l) i b = Aw (BS l i b) := by
 funext j; rw [QP]; rfl

def Bc (B : List Nat) : List (Option Bt) → Nat → List (Option Bt)
 | [], _ => []
 | b :: r, i => (if i ∈ B then none else b) :: Bc B r (i + 1)
theorem Fe (B : List Nat) : ∀ (l : List (Option Bt)) (k j : Nat), Aw (Bc B l k) j = if k + j ∈ B then none else Aw l j := by
 intro l
 induction l with
 | nil => intro k j; simp [Bc, Aw]
 | cons b r ih =>
  intro k j
  cases j with
  | zero => simp [Bc, Aw]
  | succ j => rw [Bc, C2, ih, C2, show k + 1 + j = k + (j + 1) by omega]
theorem QZ (B : List Nat) (l : List (Option Bt)) : Bp B (Aw l) = Aw (Bc B l 0) := by
 funext j; rw [Fe]; simp [Bp]

/-! ### calls that hand boxes over -/
def JA (ds B : List Nat) (n : Nat) (bf : List (Option Bt)) : List (Option Bt) → Nat → List (Option Bt)
 | [], _ => []
 | b :: r, i => (if i ∈ B then none else match CH ds i with | some j => DN ds n (Aw bf j) | none => b) :: JA ds B n bf r (i + 1)
def LG (ds : List Nat) (n : Nat) : List (Option Bt) → List (Option Bt)
 | [] => []
 | b :: r => DN ds n b :: LG ds n r
def KC : List Nat → Nat → Prop
 | [], _ => True
 | b :: r, n => b < n ∧ KC r n

theorem Nj (ds B : List Nat) (n : Nat) (bf : List (Option Bt)) : ∀ (l : List (Option Bt)) (k : Nat), (JA ds B n bf l k).length = l.length := by
 intro l
 induction l with
 | nil => intro k; rfl
 | cons b r ih => intro k; simp [JA, ih]
theorem QO (ds B : List Nat) (n : Nat) (bf : List (Option Bt)) : ∀ (l : List (Option Bt)) (k j : Nat), j < l.length → Aw (JA ds B n bf l k) j = if k + j ∈ B then none else match CH ds (k + j) with | some m => DN ds n (Aw bf m) | none => Aw l j := by
 intro l
 induction l with
 | nil => intro k j h; simp at h
 | cons b r ih =>
  intro k j h
  cases j with
  | zero => simp [JA, Aw]
  | succ j => rw [JA, C2, ih _ _ (by simpa using h), C2, show k + 1 + j = k + (j + 1) by omega]
theorem QN (ds : List Nat) (n : Nat) : ∀ (l : List (Option Bt)) (j : Nat), Aw (LG ds n l) j = DN ds n (Aw l j) := by
 intro l
 induction l with
 | nil => intro j; rfl
 | cons b r ih =>
  intro j
  cases j with
  | zero => simp [LG, Aw]
  | succ j => rw [LG, C2, ih, C2]
theorem HR {l m : List (Option Bt)} {j : Nat} (h : j < l.length) : Aw (l ++ m) j = Aw l j := by simp [Aw, List.getElem?_append_left h]
theorem Hl {l m : List (Option Bt)} {j : Nat} (h : l.length ≤ j) : Aw (l ++ m) j = Aw m (j - l.length) := by simp [Aw, List.getElem?_append_right h]
theorem QM (l : List (Option Bt)) (k j : Nat) : Aw (l.drop k) j = Aw l (k + j) := by simp [Aw, List.getElem?_drop]

theorem Ts : ∀ {B : List Nat} {n i : Nat}, KC B n → i ∈ B → i < n := by
 intro B
 induction B with
 | nil => intro n i _ h; cases h
 | cons b r ih =>
  intro n i h hi
  rcases List.mem_cons.1 hi with rfl | hi
  ·exact h.1
  ·exact ih h.2 hi

theorem Hk {ds B : List Nat} {n : Nat} {bl bf : List (Option Bt)} (hn : bl.length = n) (hB : KC B n) : Bp B (D1 ds n (Aw bl) (Mi ds n (BN ds (Aw bl)) bf)) = Aw (JA ds B n bf bl 0 ++ LG ds n (bf.drop ds.length)) := by
 funext j
 have hol := Nj ds B n bf bl 0
 by_cases hj : j < n
 ·rw [HR (by omega), QO _ _ _ _ _ _ _ (by omega), Nat.zero_add]
  show (if j ∈ B then none else D1 ds n (Aw bl) (Mi ds n (BN ds (Aw bl)) bf) j) = _
  split
  ·rfl
  ·unfold D1
   cases hx : CH ds j with
   | none =>
    have := Gu hx
    rw [if_neg (by rintro (h | h); exact this h; omega)]
   | some m =>
    have := MX hx
    rw [if_pos (.inl this)]
    unfold Mi
    rw [if_pos hj, hx]
 ·rw [Hl (by omega), QN, QM, hol, hn]
  show (if j ∈ B then none else D1 ds n (Aw bl) (Mi ds n (BN ds (Aw bl)) bf) j) = _
  rw [if_neg (fun h => hj (Ts hB h))]
  unfold D1 Mi
  rw [if_pos (.inr (by omega)), if_neg hj]
theorem HQ {ds : List Nat} {n : Nat} {bl bf : List (Option Bt)} (hn : bl.length = n) : D1 ds n (Aw bl) (Mi ds n (BN ds (Aw bl)) bf) = Aw (JA ds [] n bf bl 0 ++ LG ds n (bf.drop ds.length)) := by
 rw [← Hk hn (B := []) trivial]
 funext j; simp [Bp]

theorem S4 : (∀ b, BS [] 0 b = [b]) ∧ (∀ i b, BS [] (i + 1) b = none :: BS [] i b) ∧ (∀ x l b, BS (x :: l) 0 b = b :: l) ∧ (∀ x l i b, BS (x :: l) (i + 1) b = x :: BS l i b) ∧
  (∀ B i, Bc B [] i = []) ∧ (∀ B b r i, Bc B (b :: r) i = (if i ∈ B then none else b) :: Bc B r (i + 1)) ∧
  (∀ ds B n bf i, JA ds B n bf [] i = []) ∧ (∀ ds B n bf b r i, JA ds B n bf (b :: r) i = (if i ∈ B then none else match CH ds i with | some j => DN ds n (Aw bf j) | none => b) :: JA ds B n bf r (i + 1)) ∧
  (∀ ds n, LG ds n [] = []) ∧ (∀ ds n b r, LG ds n (b :: r) = DN ds n b :: LG ds n r) ∧ (∀ n, KC [] n = True) ∧ (∀ b r n, KC (b :: r) n = (b < n ∧ KC r n)) :=
 ⟨fun _ => rfl, fun _ _ => rfl, fun _ _ _ => rfl, fun _ _ _ _ => rfl, fun _ _ => rfl, fun _ _ _ _ => rfl, fun _ _ _ _ _ => rfl, fun _ _ _ _ _ _ _ => rfl, fun _ _ => rfl, fun _ _ _ _ => rfl, fun _ => rfl, fun _ _ _ => rfl⟩

theorem SU : (∀ i o l, Lz (.sl i o l) = [i]) ∧ (∀ i o l, Lz (.ptr i o l) = [i]) ∧ (∀ x, Lz (.d x) = []) ∧ (Lz .any = []) ∧ (∀ z xs e f, Lz (.ip z xs e f) = []) ∧ (Kf [] = []) ∧ (∀ c cs, Kf (c :: cs) = Lz c ++ Kf cs) ∧
  (∀ cs, Ke (.agg cs) = Kf cs) ∧ (∀ f cs, Ke (.clo f cs) = Kf cs) ∧ (∀ i o l, Ke (.sl i o l) = [i]) ∧ (∀ i o l, Ke (.ptr i o l) = [i]) ∧ (∀ x, Ke (.d x) = []) ∧ (Ke .any = []) ∧ (∀ z xs e f, Ke (.ip z xs e f) = []) ∧
  (MP [] = []) ∧ (∀ c cs, MP (c :: cs) = Ke c ++ MP cs) ∧ (∀ t cs, QU (some (.one t cs)) = Kf cs) ∧ (∀ t s xs, QU (some (.vec t s xs)) = []) ∧ (QU none = []) ∧ (∀ l, D6 l [] = l) ∧ (∀ l i r, D6 l (i :: r) = if i ∈ l then D6 l r else D6 (l ++ [i]) r) ∧
  (∀ H, K8 H [] = []) ∧ (∀ H i r, K8 H (i :: r) = QU (H i) ++ K8 H r) ∧ (∀ args H, Iu args H = D6 (D6 [] (MP args)) (K8 H (D6 [] (MP args)))) ∧
  (∀ i, CH [] i = none) ∧ (∀ d r i, CH (d :: r) i = if i = d then some 0 else (CH r i).map (· + 1)) ∧ (DA [] = true) ∧ (∀ d r, DA (d :: r) = if d ∈ r then false else DA r) ∧ (∀ i, Lz (.mp i) = [i]) ∧ (∀ i, Ke (.mp i) = [i]) ∧ (∀ o, QU (some (.ob o)) = []) := by
 refine ⟨fun _ _ _ => rfl, fun _ _ _ => rfl, fun _ => rfl, rfl, fun _ _ _ _ => rfl, rfl, fun _ _ => rfl, fun _ => rfl, fun _ _ => rfl, fun _ _ _ => rfl, fun _ _ _ => rfl, fun _ => rfl, rfl, fun _ _ _ _ => rfl, rfl, fun _ _ => rfl, fun _ _ => rfl, fun _ _ _ => rfl, rfl, fun _ => rfl, fun l i r => ?_, fun _ => rfl, fun _ _ _ => rfl, fun _ _ => rfl, fun _ => rfl, fun d r i => ?_, rfl, fun d r => ?_, fun _ => rfl, fun _ => rfl, fun _ => rfl⟩
 ·by_cases h : i ∈ l
  ·simp [D6, h]
  ·simp [D6, h]
 ·by_cases hi : i = d
  ·simp [CH, hi]
  ·cases h : CH r i <;> simp [CH, hi, h]
 ·by_cases h : d ∈ r <;> simp [DA, h]

theorem Ti : (∀ ds i o l, L4 ds (.sl i o l) = (CH ds i).map fun j => .sl j o l) ∧ (∀ ds i e f, L4 ds (.ptr i e f) = (CH ds i).map fun j => .ptr j e f) ∧ (∀ ds x, L4 ds (.d x) = some (.d x)) ∧ (∀ ds z xs e f, L4 ds (.ip z xs e f) = some (.ip z xs e f)) ∧ (∀ ds, L4 ds .any = some .any) ∧
  (∀ ds, MW ds [] = some []) ∧ (∀ ds c cs, MW ds (c :: cs) = (L4 ds c).bind fun x => (MW ds cs).map (x :: ·)) ∧ (∀ ds cs, L6 ds (.agg cs) = (MW ds cs).map .agg) ∧ (∀ ds f cs, L6 ds (.clo f cs) = (MW ds cs).map (.clo f)) ∧
  (∀ ds i o l, L6 ds (.sl i o l) = (CH ds i).map fun j => .sl j o l) ∧ (∀ ds i e f, L6 ds (.ptr i e f) = (CH ds i).map fun j => .ptr j e f) ∧ (∀ ds x, L6 ds (.d x) = some (.d x)) ∧ (∀ ds z xs e f, L6 ds (.ip z xs e f) = some (.ip z xs e f)) ∧ (∀ ds, L6 ds .any = some .any) ∧
  (∀ ds, Td ds [] = some []) ∧ (∀ ds c cs, Td ds (c :: cs) = (L6 ds c).bind fun x => (Td ds cs).map (x :: ·)) ∧ (∀ ds t s xs, FY ds (some (.vec t s xs)) = some (.vec t s xs)) ∧ (∀ ds t cs, FY ds (some (.one t cs)) = (MW ds cs).map (.one t)) ∧ (∀ ds, FY ds none = none) ∧
  (∀ ds H, Hp ds H [] = some []) ∧ (∀ ds H d r, Hp ds H (d :: r) = (FY ds (H d)).bind fun b => (Hp ds H r).map (some b :: ·)) ∧ (∀ ds i, L4 ds (.mp i) = (CH ds i).map fun j => .mp j) ∧ (∀ ds i, L6 ds (.mp i) = (CH ds i).map fun j => .mp j) ∧ (∀ ds o, FY ds (some (.ob o)) = some (.ob o)) := by
 refine ⟨fun ds i o l => ?_, fun ds i o l => ?_, fun _ _ => rfl, fun _ _ _ _ _ => rfl, fun _ => rfl, fun _ => rfl, fun ds c cs => ?_, fun ds cs => ?_, fun ds f cs => ?_, fun ds i o l => ?_, fun ds i o l => ?_, fun _ _ => rfl, fun _ _ _ _ _ => rfl, fun _ => rfl, fun _ => rfl, fun ds c cs => ?_, fun _ _ _ _ => rfl, fun ds t cs => ?_, fun _ => rfl, fun _ _ => rfl, fun ds H d r => ?_, fun ds i => ?_, fun ds i => ?_, fun _ _ => rfl⟩
 ·cases h : CH ds i <;> simp [L4, h]
 ·cases h : CH ds i <;> simp [L4, h]
 ·rw [MW]; cases L4 ds c <;> cases MW ds cs <;> rfl
 ·cases h : MW ds cs <;> simp [L6, h]
 ·cases h : MW ds cs <;> simp [L6, h]
 ·cases h : CH ds i <;> simp [L6, L4, h]
 ·cases h : CH ds i <;> simp [L6, L4, h]
 ·rw [Td]; cases L6 ds c <;> cases Td ds cs <;> rfl
 ·cases h : MW ds cs <;> simp [FY, h]
 ·rw [Hp]; cases FY ds (H d) <;> cases Hp ds H r <;> rfl
 ·cases h : CH ds i <;> simp [L4, h]
 ·cases h : CH ds i <;> simp [L6, L4, h]

theorem TP : (∀ n i, JW [] n i = n + i) ∧ (∀ d ds n, JW (d :: ds) n 0 = d) ∧ (∀ d ds n i, JW (d :: ds) n (i + 1) = JW ds n i) ∧ (∀ ds n i o l, TK ds n (.sl i o l) = .sl (JW ds n i) o l) ∧ (∀ ds n i e f, TK ds n (.ptr i e f) = .ptr (JW ds n i) e f) ∧ (∀ ds n x, TK ds n (.d x) = .d x) ∧
  (∀ ds n z xs e f, TK ds n (.ip z xs e f) = .ip z xs e f) ∧ (∀ ds n, TK ds n .any = .any) ∧ (∀ ds n, Mj ds n [] = []) ∧ (∀ ds n c cs, Mj ds n (c :: cs) = TK ds n c :: Mj ds n cs) ∧ (∀ ds n, I5 ds n [] = []) ∧ (∀ ds n c cs, I5 ds n (c :: cs) = PG ds n c :: I5 ds n cs) ∧
  (∀ ds n cs, PG ds n (.agg cs) = .agg (Mj ds n cs)) ∧ (∀ ds n f cs, PG ds n (.clo f cs) = .clo f (Mj ds n cs)) ∧ (∀ ds n i o l, PG ds n (.sl i o l) = .sl (JW ds n i) o l) ∧ (∀ ds n i e f, PG ds n (.ptr i e f) = .ptr (JW ds n i) e f) ∧ (∀ ds n x, PG ds n (.d x) = .d x) ∧
  (∀ ds n z xs e f, PG ds n (.ip z xs e f) = .ip z xs e f) ∧ (∀ ds n, PG ds n .any = .any) ∧ (∀ ds n cs, Rn ds n (.tup cs) = .tup (I5 ds n cs)) ∧ (∀ ds n cs, Rn ds n (.agg cs) = .agg (Mj ds n cs)) ∧ (∀ ds n f cs, Rn ds n (.clo f cs) = .clo f (Mj ds n cs)) ∧
  (∀ ds n i o l, Rn ds n (.sl i o l) = .sl (JW ds n i) o l) ∧ (∀ ds n i e f, Rn ds n (.ptr i e f) = .ptr (JW ds n i) e f) ∧ (∀ ds n x, Rn ds n (.d x) = .d x) ∧ (∀ ds n, Rn ds n .any = .any) ∧ (∀ ds n t s xs, DN ds n (some (.vec t s xs)) = some (.vec t s xs)) ∧ (∀ ds n t cs, DN ds n (some (.one t cs)) = some (.one t (Mj ds n cs))) ∧ (∀ ds n, DN ds n none = none) ∧
  (Di [] = true) ∧ (∀ b r, Di (some b :: r) = Di r) ∧ (∀ ds n i, TK ds n (.mp i) = .mp (JW ds n i)) ∧ (∀ ds n i, PG ds n (.mp i) = .mp (JW ds n i)) ∧ (∀ ds n i, Rn ds n (.mp i) = .mp (JW ds n i)) ∧ (∀ ds n o, DN ds n (some (.ob o)) = some (.ob o)) := by
 refine ⟨fun n i => ?_, fun _ _ _ => rfl, fun d ds n i => ?_, fun _ _ _ _ _ => rfl, fun _ _ _ _ _ => rfl, fun _ _ _ => rfl, fun _ _ _ _ _ _ => rfl, fun _ _ => rfl, fun _ _ => rfl, fun _ _ _ _ => rfl, fun _ _ => rfl, fun _ _ _ _ => rfl, fun _ _ _ => rfl, fun _ _ _ _ => rfl, fun _ _ _ _ _ => rfl, fun _ _ _ _ _ => rfl, fun _ _ _ => rfl, fun _ _ _ _ _ _ => rfl, fun _ _ => rfl, fun _ _ _ => rfl, fun _ _ _ => rfl, fun _ _ _ _ => rfl, fun _ _ _ _ _ => rfl, fun _ _ _ _ _ => rfl, fun _ _ _ => rfl, fun _ _ => rfl, fun _ _ _ _ _ => rfl, fun _ _ _ _ => rfl, fun _ _ => rfl, rfl, fun _ _ => rfl, fun _ _ _ => rfl, fun _ _ _ => rfl, fun _ _ _ => rfl, fun _ _ _ => rfl⟩
 ·simp [JW]
 ·simp only [JW, List.getElem?_cons_succ, List.length_cons, Nat.add_sub_add_right]

theorem Vn (g : D3) (ds : List Nat) (args : List AV) (H : Av) (n : Nat) : ED g ds args H n = (Td ds args).bind fun ia => (Hp ds H ds).bind fun bl => (g ia bl).bind fun x => if DA ds = true ∧ ds.length ≤ x.2.2.length ∧ Di (x.2.2.drop ds.length) = true then some (x.1, Rn ds n x.2.1, some (Mi ds n H x.2.2, n + (x.2.2.length - ds.length))) else none := by
 unfold ED
 cases Td ds args with
 | none => rfl
 | some ia =>
  cases Hp ds H ds with
  | none => rfl
  | some bl =>
   simp only [Option.bind_some]
   cases g ia bl with
   | none => rfl
   | some x => obtain ⟨p, r, bf⟩ := x; rfl

/-! ### more boxes -/
def UL : List (Option Bt) → List (Option Bt) → Prop
 | [], _ => True
 | none :: r, _ :: r' => UL r r'
 | some b :: r, c :: r' => c = some b ∧ UL r r'
 | none :: r, [] => UL r []
 | some _ :: _, [] => False
theorem Xb : ∀ {l l' : List (Option Bt)}, UL l l' → DK (Aw l) (Aw l') := by
 intro l
 induction l with
 | nil => intro l' _ i b h; cases h
 | cons x l ih =>
  intro l' h i b hb
  cases x with
  | none => cases l' with
   | nil =>
    cases i with
    | zero => cases hb
    | succ i => rw [C2] at hb; exact ih (l' := []) h i b hb
   | cons c r =>
    cases i with
    | zero => cases hb
    | succ i => rw [C2] at hb ⊢; exact ih h i b hb
  | some y => cases l' with
   | nil => exact h.elim
   | cons c r =>
    cases i with
    | zero => rw [QQ] at hb ⊢; cases hb; exact h.1
    | succ i => rw [C2] at hb ⊢; exact ih h.2 i b hb
theorem Tn : (∀ l, UL [] l = True) ∧ (∀ r c r', UL (none :: r) (c :: r') = UL r r') ∧ (∀ b r c r', UL (some b :: r) (c :: r') = (c = some b ∧ UL r r')) := ⟨fun l => by cases l <;> rfl, fun _ _ _ => rfl, fun _ _ _ _ => rfl⟩
theorem SR (dr : Bool) (calm : List FuncId) (d : Option Tmp) (o : Op) {l l' : List (Option Bt)} (h : UL l l') : (dr && Dr calm d o) = true → DK (Aw l) (Aw l') := fun _ => Xb h
def bw := And.intro @DJ (And.intro @QZ @S4)
def gw := And.intro @SU (And.intro @Ti (And.intro @TP @Vn))
end Go.Vc
/- The Vc layer: parts of rows that are handed on with no room behind. -/
set_option linter.all false
namespace Go.Vc
open Go Go.RowKit
end Go.Vc
/- The Vc layer: regions taken in an order of one's own. -/
set_option linter.all false
namespace Go.Vc
open Go Go.RowKit
def D2 (l : List Oper) : List Nat → List Oper
 | [] => []
 | i :: r => match l[i]? with
  | some o => o :: D2 l r
  | none => D2 l r
def J9 (calm : List FuncId) (md : Region.Mode) (ops : Array Oper) : List Nat → Array Bool → Bool
 | [], l => (Region.ready md ops l).isEmpty
 | i :: r, l => decide (i < ops.size) && (GN calm md ops l i || Region.ready md ops l == [i]) && J9 calm md ops r (l.setIfInBounds i true)
def TE (calm : List FuncId) (N : Nat) (ord : List Nat) (ops : Array Oper) : Bool :=
 ops.all (fun o => match o.dst with | some d => decide (d < N) | none => true) && ord.length == ops.size && J9 calm .any ops ord (Array.replicate ops.size false)
section
variable [Bd] {P : Program} {E : Bn P} {W0 : World} {M0 : Nat → Prop}
theorem Qi {calm : List FuncId} {md : Region.Mode} {ops : List Oper} {K : St → Prop} : ∀ (ord : List Nat) (l : Array Bool) (st : St), J9 calm md ops.toArray ord l = true → AG W0 M0 true calm E ops.toArray K (D2 ops ord) st → E5 W0 M0 calm E md ops.toArray K ord.length l st := by
 intro ord
 induction ord with
 | nil =>
  intro l st hok h
  exact ⟨by simpa [J9] using hok, h⟩
 | cons i ord ih =>
  intro l st hok h
  simp only [J9, Bool.and_eq_true, Bool.or_eq_true, decide_eq_true_eq] at hok
  obtain ⟨⟨hi, hf⟩, hok⟩ := hok
  have ho : ops[i]? = some (ops[i]'(by simpa using hi)) := List.getElem?_eq_getElem _
  generalize ops[i]'(by simpa using hi) = o at ho
  have ho' : ops.toArray[i]? = some o := by simpa using ho
  have h' : stepG W0 M0 true calm E ops.toArray o st (AG W0 M0 true calm E ops.toArray K (D2 ops ord)) := by
   unfold D2 at h; rw [ho] at h; exact h
  have next : ∀ st, AG W0 M0 true calm E ops.toArray K (D2 ops ord) st → E5 W0 M0 calm E md ops.toArray K ord.length (l.setIfInBounds i true) st := fun st hs => ih _ st hok hs
  rcases hf with hf | hone
  ·simp only [GN, ho', Bool.and_eq_true] at hf
   obtain ⟨⟨ht, hrd⟩, ⟨⟨hiW, hWl⟩, hWa⟩, hfree⟩ := hf
   obtain ⟨c, hv, hK⟩ := GV ht h'
   generalize H8 md ops.toArray l i = W at *
   refine FI ho' ht W (by simpa using hiW) ord.length l st (fun j hj => ?_) (fun j hj hne oj hoj => ?_) (fun j oj hoj hjW hun => ?_) (by simpa using hrd) hv (next _ hK)
   ·have := List.all_eq_true.1 hWl j hj
    simpa using this
   ·have := List.all_eq_true.1 hWa j hj
    simp only [hoj, Bool.or_eq_true, beq_iff_eq, hne, false_or] at this
    obtain ⟨e, he, hb⟩ := Array.any_eq_true'.1 this
    simp only [Bool.and_eq_true] at hb
    exact ⟨e, he, hb.1, by simpa using hb.2⟩
   ·have := List.all_eq_true.1 hfree j (List.mem_range.2 (Array.getElem?_eq_some_iff.1 hoj).1)
    simp only [hoj, Bool.or_eq_true, Bool.and_eq_true, hun, Bool.false_eq_true, or_false] at this
    rcases this with h1 | h1
    ·exact absurd (by simpa using h1) hjW
    ·exact ⟨h1.1, h1.2⟩
  ·have hone : Region.ready md ops.toArray l = [i] := by simpa using hone
   refine ⟨fun h0 => absurd (hone.symm.trans h0) (by simp), fun j hj oj hoj => ?_⟩
   rw [hone] at hj
   simp only [List.mem_singleton] at hj
   subst hj
   rw [ho'] at hoj; cases hoj
   exact EF next h'

theorem G0 (calm : List FuncId) (ord : List Nat) (hm : P.follows .mixedOrders = true) {id : Nat} {l : List Oper} (hok : TE calm E.N ord l.toArray = true) {st : St} {K : Exit → St → Prop} (h : AG W0 M0 true calm E l.toArray (K .normal) (D2 l ord) st) : VC E W0 M0 (.region id l.toArray true) st K := by
 intro a w hs
 simp only [TE, Bool.and_eq_true, beq_iff_eq] at hok
 have hd : ∀ o ∈ l, ∀ d, o.dst = some d → d < E.N := by
  intro o ho d hd
  have := Array.all_eq_true_iff_forall_mem.1 hok.1.1 o (by simpa using ho)
  rw [hd] at this
  simpa using this
 refine wpIn_region_any hm (IM (calm := calm) (E := E) (W0 := W0) (M0 := M0) (K := K .normal) (fun i o d ho hdd => hd o (by
  have := List.mem_of_getElem? (l := l) (i := i) (by simpa using ho); exact this) d hdd) (fun st a w h1 h2 => ⟨st, h1, h2⟩) _ _ st a _ ?_ hs.drawn)
 have := Qi (md := .any) ord _ st hok.2 h
 rw [hok.1.2] at this
 exact this
end
theorem Ao : (∀ l, D2 l [] = []) ∧ (∀ l i r, D2 l (i :: r) = match l[i]? with | some o => o :: D2 l r | none => D2 l r) := ⟨fun _ => rfl, fun _ _ _ => rfl⟩
end Go.Vc
/- The Vc layer: calls whose arguments are handed on as they are known (a nil that must be seen to be nil). -/
set_option linter.all false
namespace Go.Vc
open Go Go.RowKit
section
variable [Bd] {P : Program} {E : Bn P} {W0 : World} {M0 : Nat → Prop} {w : World} {S : Lays} {n : Nat} {H : Av} {fr : Nat → AV} {K : St → Prop} {d : Option Tmp} {t' : TypeId} {p : String} {af : Array Edge}
end
end Go.Vc
/- The Vc layer: what an argument's data is, by its type; facts about types by closed Booleans. -/
set_option linter.all false
namespace Go.Vc
open Go Go.RowKit

section
variable {P : Program} {k : Nat} {t e : TypeId}
def MU (P : Program) (t : TypeId) : Bool := match P.underlying t with | some (.int .i64) => true | _ => false
def P8 (P : Program) (t : TypeId) : Bool := match P.underlying t with | some .string => true | _ => false
def QW (P : Program) (t e : TypeId) : Bool := match P.underlying t with | some (.slice x) => x == e | _ => false
def Ip (P : Program) (t : TypeId) (n : Nat) (l : List (Nat × Nat × TypeId)) : Bool := match P.underlying t with
 | some (.struct fs) => P.cellsOf t == n && (fs.toList.map fun f => (f.offset, P.cellsOf f.type, f.type)) == l
 | _ => false
theorem Ta (h : MU P t = true) : P.underlying t = some (.int .i64) := by
 unfold MU at h; split at h
 ·assumption
 ·cases h
theorem Tb (h : P8 P t = true) : P.underlying t = some .string := by
 unfold P8 at h; split at h
 ·assumption
 ·cases h
theorem Vu (h : QW P t e = true) : P.underlying t = some (.slice e) := by
 unfold QW at h; split at h
 ·rename_i x hx; rw [hx, beq_iff_eq.1 h]
 ·cases h
theorem Md {ds : List D} (h : WT P (k + 1) t ds) (ht : MU P t = true) : ∃ n, ds = eI n ∧ CL n := by
 unfold WT at h; rw [Ta ht] at h
 obtain ⟨n, rfl, hn⟩ := h
 refine ⟨n, rfl, ?_⟩
 simp only [Lit.wf, Bool.and_eq_true, decide_eq_true_eq] at hn
 exact hn
theorem UG {ds : List D} (h : WT P (k + 1) t ds) (ht : P8 P t = true) : ∃ s, ds = eS s ∧ s.length ≤ 9223372036854775807 := by
 unfold WT at h; rw [Tb ht] at h; obtain ⟨s, h1, h2, _⟩ := h; exact ⟨s, h1, h2⟩
theorem Qd {ds : List D} (h : WT P (k + 1) t ds) (ht : QW P t e = true) : ∃ xs, ds = [.sl xs] ∧ xs.length ≤ 9223372036854775807 ∧ ∀ x ∈ xs, WT P k e x := by
 unfold WT at h; rw [Vu ht] at h; obtain ⟨s, h1, h2, h3, _⟩ := h; exact ⟨s, h1, h2, h3⟩
theorem Pp {ds : List D} {n : Nat} {l : List (Nat × Nat × TypeId)} (h : WT P (k + 1) t ds) (ht : Ip P t n l = true) : ds.length = n ∧ ∀ o c u, (o, c, u) ∈ l → WT P k u ((ds.drop o).take c) := by
 unfold Ip at ht
 split at ht
 ·rename_i fs hfs
  simp only [Bool.and_eq_true, beq_iff_eq] at ht
  unfold WT at h; rw [hfs] at h
  refine ⟨by rw [← ht.1]; exact h.1, fun o c u hm => ?_⟩
  rw [← ht.2] at hm
  obtain ⟨f, hf, he⟩ := List.mem_map.1 hm
  simp only [Prod.mk.injEq] at he
  obtain ⟨rfl, rfl, rfl⟩ := he
  exact h.2 f hf
 ·cases ht
theorem LR {α : Type} {f : α → List D} {q : α → Prop} {xs : List (List D)} (h : ∀ x ∈ xs, ∃ a, x = f a ∧ q a) : ∃ l, xs = rows f l ∧ ∀ a ∈ l, q a := by
 induction xs with
 | nil => exact ⟨[], rfl, fun a h => by cases h⟩
 | cons x xs ih =>
  obtain ⟨a, rfl, ha⟩ := h x (by simp)
  obtain ⟨l, rfl, hl⟩ := ih fun y hy => h y (by simp [hy])
  exact ⟨a :: l, rfl, fun b hb => by rcases List.mem_cons.1 hb with rfl | hb; exact ha; exact hl b hb⟩
theorem Qc {xs : List (List D)} (h : ∀ x ∈ xs, WT P (k + 1) e x) (he : MU P e = true) : ∃ l, xs = rows eI l ∧ ∀ n ∈ l, CL n := LR fun x hx => Md (h x hx) he
theorem P0 {c : AV} {n : Nat} {l : List (Nat × Nat × TypeId)} (h : G9 P (k + 1) t c) (ht : Ip P t n l = true) : ∃ ds : List D, c = .agg (ds.map .d) ∧ ds.length = n ∧ ∀ o c u, (o, c, u) ∈ l → WT P k u ((ds.drop o).take c) := by
 have hu : ∃ fs, P.underlying t = some (.struct fs) := by
  unfold Ip at ht
  split at ht
  ·exact ⟨_, by assumption⟩
  ·cases ht
 obtain ⟨fs, hu⟩ := hu
 unfold G9 at h
 rw [hu] at h
 obtain ⟨ds, rfl, hw⟩ := h
 exact ⟨ds, rfl, Pp hw ht⟩
theorem Vy {t u : TypeId} {g : List AV → Option (Prop × AV)} (h : ∀ a b, G9 P k t a → G9 P k u b → ∃ p, g [a, b] = some (p, .d (.bool true)) ∧ p) : Pw P k [t, u] g := by
 intro args hl ha
 match args, hl with
 | [a, b], _ => exact h a b (ha 0 _ _ rfl rfl) (ha 1 _ _ rfl rfl)
end
end Go.Vc
/- The rules of the walks, with their proofs as default arguments (printed by wip/gen/laws.py). -/
set_option linter.all false
namespace Go.Vc
open Go Go.RowKit
theorem Ci [h : Decidable True] : @decide True h = true := decide_eq_true trivial
theorem Ch [h : Decidable False] : @decide False h = false := decide_eq_false id
theorem Gc {p : Prop} (h : p := by simp only [Ei, Ej, AM, AC, AL, eq_self, Nat.reduceEqDiff, reduceIte, and_true, true_and, A9, List.map_cons, List.map_nil]) : p := h
theorem A3 {p : Prop} (h : p := by (first | trivial | omega | assumption | (unfold CL; omega) | ((repeat' apply And.intro) <;> first | rfl | trivial | omega | assumption | (unfold CL; omega)) | (simp; done) | (simp; omega))) : p := h
theorem SQ {p : Prop} (h : p := by first | exact (fun h => Bool.noConfusion (show false = true from h)) | exact SS _ _ _ _ _ | exact SR _ _ _ _ (by simp only [Tn, eq_self, and_true, true_and])) : p := h
theorem AP {p : Prop} (h : p := by first | (simp only [EK, Ak, Hu, AC, eq_self, Nat.reduceEqDiff, reduceIte, EA, hx]; done) | (simp only [EK, Ak, Hu, AC, eq_self, Nat.reduceEqDiff, reduceIte, EA, hx]; rfl)) : p := h
theorem QL {p : Prop} (h : p := by simp only [EK, Ak, Hu, AC, eq_self, Nat.reduceEqDiff, reduceIte, EA, hx]; rfl) : p := h
theorem AD {p : Prop} (h : p := by (first | omega | (first | trivial | omega | assumption | (unfold CL; omega) | ((repeat' apply And.intro) <;> first | rfl | trivial | omega | assumption | (unfold CL; omega)) | (simp; done) | (simp; omega)))) : p := h
theorem Aq {p : Prop} (h : p := by (first | exact True.intro | (unfold CL; omega) | omega | (first | trivial | omega | assumption | (unfold CL; omega) | ((repeat' apply And.intro) <;> first | rfl | trivial | omega | assumption | (unfold CL; omega)) | (simp; done) | (simp; omega)))) : p := h
theorem G8 {b : Bool} {p : Prop} (h : b = true → p := by (intro hg; (try simp only [Hh, Ey, Fo] at hg); (first | omega | (first | trivial | omega | assumption | (unfold CL; omega) | ((repeat' apply And.intro) <;> first | rfl | trivial | omega | assumption | (unfold CL; omega)) | (simp; done) | (simp; omega))))) : b = true → p := h
theorem As {p : Prop} (h : p := by (repeat' apply And.intro) <;> (first | rfl | exact Or.inr rfl | exact Or.inl rfl | trivial | omega | assumption | (simp; done) | (simp; omega))) : p := h
theorem QR {b : Bool} {p q : Prop} (hq : b = true → q := by (intro hg; (try simp only [Hh, Ey, Fo] at hg); (first | trivial | omega | assumption | (unfold CL; omega) | ((repeat' apply And.intro) <;> first | rfl | trivial | omega | assumption | (unfold CL; omega)) | (simp; done) | (simp; omega)))) (hn : b = true → p := by first | (simp only [Ei, Ej, AM, AC, AL, eq_self, Nat.reduceEqDiff, reduceIte, and_true, true_and, A9, List.map_cons, List.map_nil]; done) | (intro hg; simp only [Ei, Ej, AM, AC, AL, eq_self, Nat.reduceEqDiff, reduceIte, and_true, true_and, A9, List.map_cons, List.map_nil]; exact hg) | (intro hg; simp_all [Ei, Ej, AM, AC, AL, eq_self, Nat.reduceEqDiff, reduceIte, and_true, true_and, A9, List.map_cons, List.map_nil]; done) | (intro hg; (try simp only [Hh, Ey, Fo] at hg); simp only [Ei, Ej, AM, AC, AL, eq_self, Nat.reduceEqDiff, reduceIte, and_true, true_and, A9, List.map_cons, List.map_nil]; (first | trivial | omega | assumption | (unfold CL; omega) | ((repeat' apply And.intro) <;> first | rfl | trivial | omega | assumption | (unfold CL; omega)) | (simp; done) | (simp; omega)))) : b = true → p ∧ q := fun h => ⟨hn h, hq h⟩
section
variable [Bd] {P : Program} {E : Bn P} {W0 : World} {M0 : Nat → Prop} {dr : Bool} {calm : List FuncId} {ops : Array Oper} {K : St → Prop} {o : Op} {d : Option Tmp} {t : TypeId} {p : String} {af : Array Edge} {r : List Oper} {fr : Nat → AV} {H H' : Av} {n n' : Nat} {q : Prop} {c : AV} {b : Bool} {gd : Nat × Bool}
theorem GC (hg : AW ops fr (some gd) = some (some b)) (h : (b = false ∧ c = .any ∧ q = True) ∨ (Cf E fr H n o = .v q c ∧ (b = true → Cv fr o ∧ q))) (hk : AG W0 M0 dr calm E ops K r ⟨putD d (.cond b c) fr, H, n⟩) : AG W0 M0 dr calm E ops K (⟨d, o, t, p, af, some gd⟩ :: r) ⟨fr, H, n⟩ := by
 rcases h with ⟨rfl, rfl, -⟩ | ⟨h, hq⟩
 ·exact Ar hg hk
 ·exact Fg hg h hq hk
theorem WI {a b : RS} (h : a = b := by simp only [Bf, AM, AC, AL, Bg, eq_self, Nat.reduceEqDiff, reduceIte, bw]; rfl) : a = b := h
theorem Ae (hk : AG W0 M0 dr calm E ops K r ⟨putD d c fr, H, n⟩) (h : Cf E fr H n o = .v q c := by exact WI) (hq : q := by exact A3) (hn : Cv fr o := by exact Gc) : AG W0 M0 dr calm E ops K (⟨d, o, t, p, af, none⟩ :: r) ⟨fr, H, n⟩ := GQ h hn hq hk
theorem BI (hk : AG W0 M0 dr calm E ops K r ⟨putD d (.cond b c) fr, H, n⟩) (hg : AW ops fr (some gd) = some (some b) := by exact QL) (h : (b = false ∧ c = .any ∧ q = True) ∨ (Cf E fr H n o = .v q c ∧ (b = true → Cv fr o ∧ q)) := by first | (with_reducible exact Or.inl ⟨rfl, rfl, rfl⟩) | (refine Or.inr ⟨?_, ?_⟩; (focus exact WI); exact QR)) : AG W0 M0 dr calm E ops K (⟨d, o, t, p, af, some gd⟩ :: r) ⟨fr, H, n⟩ := GC hg h hk
theorem Cl (hk : AG W0 M0 dr calm E ops K r ⟨putD d (.cond true c) fr, H, n⟩) (hg : AW ops fr (some gd) = some (some true) := by exact AP) (h : Cf E fr H n o = .v q c := by exact WI) (hn : Cv fr o := by exact Gc) (hq : q := by exact A3) : AG W0 M0 dr calm E ops K (⟨d, o, t, p, af, some gd⟩ :: r) ⟨fr, H, n⟩ := Fg hg h (fun _ => ⟨hn, hq⟩) hk
theorem WJ {a b : RS} (h : a = b := by simp only [Bf, AM, AC, AL, Bg, eq_self, Nat.reduceEqDiff, reduceIte, bw, JQ, Ey, Fo, EA]; rfl) : a = b := h
theorem A7 (hk : AG W0 M0 dr calm E ops K r ⟨putD d c fr, H, n⟩) (h : Cf E fr H n o = .v q c := by exact WJ) (hq : q := by exact A3) (hn : Cv fr o := by exact Gc) : AG W0 M0 dr calm E ops K (⟨d, o, t, p, af, none⟩ :: r) ⟨fr, H, n⟩ := GQ h hn hq hk
theorem SK (hk : AG W0 M0 dr calm E ops K r ⟨putD d (.cond b c) fr, H, n⟩) (hg : AW ops fr (some gd) = some (some b) := by exact QL) (h : (b = false ∧ c = .any ∧ q = True) ∨ (Cf E fr H n o = .v q c ∧ (b = true → Cv fr o ∧ q)) := by first | (with_reducible exact Or.inl ⟨rfl, rfl, rfl⟩) | (refine Or.inr ⟨?_, ?_⟩; (focus exact WJ); exact QR)) : AG W0 M0 dr calm E ops K (⟨d, o, t, p, af, some gd⟩ :: r) ⟨fr, H, n⟩ := GC hg h hk
theorem H6 (hk : AG W0 M0 dr calm E ops K r ⟨putD d (.cond true c) fr, H, n⟩) (hg : AW ops fr (some gd) = some (some true) := by exact AP) (h : Cf E fr H n o = .v q c := by exact WJ) (hn : Cv fr o := by exact Gc) (hq : q := by exact A3) : AG W0 M0 dr calm E ops K (⟨d, o, t, p, af, some gd⟩ :: r) ⟨fr, H, n⟩ := Fg hg h (fun _ => ⟨hn, hq⟩) hk
theorem Vh {a b : RS} (h : a = b := by simp only [Bf, AM, AC, AL, Bg, eq_self, Nat.reduceEqDiff, reduceIte, bw, B9, KV, hT, C7, Ky, Hg, KU, MD, Q3, Bool.true_and, Bool.and_true, hx]; rfl) : a = b := h
theorem Al (hk : AG W0 M0 dr calm E ops K r ⟨putD d c fr, H, n⟩) (h : Cf E fr H n o = .v q c := by exact Vh) (hq : q := by exact A3) (hn : Cv fr o := by exact Gc) : AG W0 M0 dr calm E ops K (⟨d, o, t, p, af, none⟩ :: r) ⟨fr, H, n⟩ := GQ h hn hq hk
theorem B7 (hk : AG W0 M0 dr calm E ops K r ⟨putD d (.cond b c) fr, H, n⟩) (hg : AW ops fr (some gd) = some (some b) := by exact QL) (h : (b = false ∧ c = .any ∧ q = True) ∨ (Cf E fr H n o = .v q c ∧ (b = true → Cv fr o ∧ q)) := by first | (with_reducible exact Or.inl ⟨rfl, rfl, rfl⟩) | (refine Or.inr ⟨?_, ?_⟩; (focus exact Vh); exact QR)) : AG W0 M0 dr calm E ops K (⟨d, o, t, p, af, some gd⟩ :: r) ⟨fr, H, n⟩ := GC hg h hk
theorem OW (hk : AG W0 M0 dr calm E ops K r ⟨putD d (.cond b c) fr, H, n⟩) (hg : AW ops fr (some gd) = some (some b) := by exact QL) (h : Cf E fr H n o = .v q c := by exact Vh) (hq : b = true → q) (hn : b = true → Cv fr o := by (refine fun hb => And.left (b := True) ?_; revert hb; exact QR)) : AG W0 M0 dr calm E ops K (⟨d, o, t, p, af, some gd⟩ :: r) ⟨fr, H, n⟩ := Fg hg h (fun hb => ⟨hn hb, hq hb⟩) hk
theorem DW (hk : AG W0 M0 dr calm E ops K r ⟨putD d (.cond true c) fr, H, n⟩) (hg : AW ops fr (some gd) = some (some true) := by exact AP) (h : Cf E fr H n o = .v q c := by exact Vh) (hn : Cv fr o := by exact Gc) (hq : q := by exact A3) : AG W0 M0 dr calm E ops K (⟨d, o, t, p, af, some gd⟩ :: r) ⟨fr, H, n⟩ := Fg hg h (fun _ => ⟨hn, hq⟩) hk
theorem WK {a b : RS} (h : a = b := by simp only [Bf, AM, AC, AL, Bg, eq_self, Nat.reduceEqDiff, reduceIte, bw, JQ, Hg, Bool.not_not, hx]; rfl) : a = b := h
theorem Gl (hk : AG W0 M0 dr calm E ops K r ⟨putD d c fr, H, n⟩) (h : Cf E fr H n o = .v q c := by exact WK) (hq : q := by exact A3) (hn : Cv fr o := by exact Gc) : AG W0 M0 dr calm E ops K (⟨d, o, t, p, af, none⟩ :: r) ⟨fr, H, n⟩ := GQ h hn hq hk
theorem HP (hk : AG W0 M0 dr calm E ops K r ⟨putD d (.cond b c) fr, H, n⟩) (hg : AW ops fr (some gd) = some (some b) := by exact QL) (h : (b = false ∧ c = .any ∧ q = True) ∨ (Cf E fr H n o = .v q c ∧ (b = true → Cv fr o ∧ q)) := by first | (with_reducible exact Or.inl ⟨rfl, rfl, rfl⟩) | (refine Or.inr ⟨?_, ?_⟩; (focus exact WK); exact QR)) : AG W0 M0 dr calm E ops K (⟨d, o, t, p, af, some gd⟩ :: r) ⟨fr, H, n⟩ := GC hg h hk
theorem U9 (hk : AG W0 M0 dr calm E ops K r ⟨putD d (.cond true c) fr, H, n⟩) (hg : AW ops fr (some gd) = some (some true) := by exact AP) (h : Cf E fr H n o = .v q c := by exact WK) (hn : Cv fr o := by exact Gc) (hq : q := by exact A3) : AG W0 M0 dr calm E ops K (⟨d, o, t, p, af, some gd⟩ :: r) ⟨fr, H, n⟩ := Fg hg h (fun _ => ⟨hn, hq⟩) hk
theorem XK {a b : RS} (h : a = b := by simp only [Bf, AM, AC, AL, Bg, eq_self, Nat.reduceEqDiff, reduceIte, bw, Lj, hx]; rfl) : a = b := h
theorem Bv (hk : AG W0 M0 dr calm E ops K r ⟨putD d c fr, H, n⟩) (h : Cf E fr H n o = .v q c := by exact XK) (hq : q := by exact A3) (hn : Cv fr o := by exact Gc) : AG W0 M0 dr calm E ops K (⟨d, o, t, p, af, none⟩ :: r) ⟨fr, H, n⟩ := GQ h hn hq hk
theorem Wc (hk : AG W0 M0 dr calm E ops K r ⟨putD d (.cond true c) fr, H, n⟩) (hg : AW ops fr (some gd) = some (some true) := by exact AP) (h : Cf E fr H n o = .v q c := by exact XK) (hn : Cv fr o := by exact Gc) (hq : q := by exact A3) : AG W0 M0 dr calm E ops K (⟨d, o, t, p, af, some gd⟩ :: r) ⟨fr, H, n⟩ := Fg hg h (fun _ => ⟨hn, hq⟩) hk
theorem YB {a b : RS} (h : a = b := by simp only [Bf, AM, AC, AL, Bg, eq_self, Nat.reduceEqDiff, reduceIte, bw, B9, KV, hT, C7, He, Hg, Ak, B6, A9, BE, Be, Bl, AO, BD, BF, BV, Int.toNat_natCast, Int.reduceToNat, Nat.reduceAdd, Nat.reduceMul, Nat.reduceSub, Nat.reduceLeDiff, Nat.zero_add, Nat.add_zero, true_and, and_true, and_assoc, BM, BX, BH, Ca, BZ, BC, BA, BU, B3, AQ, Bi, Bj, Bz, or_false, false_or, not_true_eq_false, not_false_eq_true, hx]; rfl) : a = b := h
theorem U4 (hk : AG W0 M0 dr calm E ops K r ⟨putD d c fr, H, n⟩) (h : Cf E fr H n o = .v q c := by exact YB) (hq : q := by exact A3) (hn : Cv fr o := by exact Gc) : AG W0 M0 dr calm E ops K (⟨d, o, t, p, af, none⟩ :: r) ⟨fr, H, n⟩ := GQ h hn hq hk
theorem Vi {a b : RS} (h : a = b := by simp only [Bf, AM, AC, AL, Bg, eq_self, Nat.reduceEqDiff, reduceIte, bw, CU, Fb, EL, B9, KV, hT, C7, Ak, B6, A9, BE, Be, Bl, AO, BD, BF, BV, Int.toNat_natCast, Int.reduceToNat, Nat.reduceAdd, Nat.reduceMul, Nat.reduceSub, Nat.reduceLeDiff, Nat.zero_add, Nat.add_zero, true_and, and_true, and_assoc, BM, BX, BH, Ca, BZ, BC, BA, BU, B3, AQ, Bi, Bj, Bz, or_false, false_or, not_true_eq_false, not_false_eq_true, hx]; rfl) : a = b := h
theorem Ap (hk : AG W0 M0 dr calm E ops K r ⟨putD d c fr, H, n⟩) (h : Cf E fr H n o = .v q c := by exact Vi) (hq : q := by exact A3) (hn : Cv fr o := by exact Gc) : AG W0 M0 dr calm E ops K (⟨d, o, t, p, af, none⟩ :: r) ⟨fr, H, n⟩ := GQ h hn hq hk
theorem AJ (hk : AG W0 M0 dr calm E ops K r ⟨putD d (.cond b c) fr, H, n⟩) (hg : AW ops fr (some gd) = some (some b) := by exact QL) (h : (b = false ∧ c = .any ∧ q = True) ∨ (Cf E fr H n o = .v q c ∧ (b = true → Cv fr o ∧ q)) := by first | (with_reducible exact Or.inl ⟨rfl, rfl, rfl⟩) | (refine Or.inr ⟨?_, ?_⟩; (focus exact Vi); exact QR)) : AG W0 M0 dr calm E ops K (⟨d, o, t, p, af, some gd⟩ :: r) ⟨fr, H, n⟩ := GC hg h hk
theorem Ic (hk : AG W0 M0 dr calm E ops K r ⟨putD d (.cond b c) fr, H, n⟩) (hg : AW ops fr (some gd) = some (some b) := by exact QL) (h : Cf E fr H n o = .v q c := by exact Vi) (hq : b = true → q) (hn : b = true → Cv fr o := by (refine fun hb => And.left (b := True) ?_; revert hb; exact QR)) : AG W0 M0 dr calm E ops K (⟨d, o, t, p, af, some gd⟩ :: r) ⟨fr, H, n⟩ := Fg hg h (fun hb => ⟨hn hb, hq hb⟩) hk
theorem CF (hk : AG W0 M0 dr calm E ops K r ⟨putD d (.cond true c) fr, H, n⟩) (hg : AW ops fr (some gd) = some (some true) := by exact AP) (h : Cf E fr H n o = .v q c := by exact Vi) (hn : Cv fr o := by exact Gc) (hq : q := by exact A3) : AG W0 M0 dr calm E ops K (⟨d, o, t, p, af, some gd⟩ :: r) ⟨fr, H, n⟩ := Fg hg h (fun _ => ⟨hn, hq⟩) hk
theorem Vj {a b : RS} (h : a = b := by simp only [Bf, AM, AC, AL, Bg, eq_self, Nat.reduceEqDiff, reduceIte, bw, CU, CN, HF, CO, HG, Ks, B9, KV, hT, C7, Ak, B6, A9, BE, Be, Bl, AO, BD, BF, BV, Int.toNat_natCast, Int.reduceToNat, Nat.reduceAdd, Nat.reduceMul, Nat.reduceSub, Nat.reduceLeDiff, Nat.zero_add, Nat.add_zero, true_and, and_true, and_assoc, BM, BX, BH, Ca, BZ, BC, BA, BU, B3, AQ, Bi, Bj, Bz, or_false, false_or, not_true_eq_false, not_false_eq_true, hx]; rfl) : a = b := h
theorem At (hk : AG W0 M0 dr calm E ops K r ⟨putD d c fr, H, n⟩) (h : Cf E fr H n o = .v q c := by exact Vj) (hq : q := by exact A3) (hn : Cv fr o := by exact Gc) : AG W0 M0 dr calm E ops K (⟨d, o, t, p, af, none⟩ :: r) ⟨fr, H, n⟩ := GQ h hn hq hk
theorem AK (hk : AG W0 M0 dr calm E ops K r ⟨putD d (.cond b c) fr, H, n⟩) (hg : AW ops fr (some gd) = some (some b) := by exact QL) (h : (b = false ∧ c = .any ∧ q = True) ∨ (Cf E fr H n o = .v q c ∧ (b = true → Cv fr o ∧ q)) := by first | (with_reducible exact Or.inl ⟨rfl, rfl, rfl⟩) | (refine Or.inr ⟨?_, ?_⟩; (focus exact Vj); exact QR)) : AG W0 M0 dr calm E ops K (⟨d, o, t, p, af, some gd⟩ :: r) ⟨fr, H, n⟩ := GC hg h hk
theorem Ie (hk : AG W0 M0 dr calm E ops K r ⟨putD d (.cond b c) fr, H, n⟩) (hg : AW ops fr (some gd) = some (some b) := by exact QL) (h : Cf E fr H n o = .v q c := by exact Vj) (hq : b = true → q) (hn : b = true → Cv fr o := by (refine fun hb => And.left (b := True) ?_; revert hb; exact QR)) : AG W0 M0 dr calm E ops K (⟨d, o, t, p, af, some gd⟩ :: r) ⟨fr, H, n⟩ := Fg hg h (fun hb => ⟨hn hb, hq hb⟩) hk
theorem CG (hk : AG W0 M0 dr calm E ops K r ⟨putD d (.cond true c) fr, H, n⟩) (hg : AW ops fr (some gd) = some (some true) := by exact AP) (h : Cf E fr H n o = .v q c := by exact Vj) (hn : Cv fr o := by exact Gc) (hq : q := by exact A3) : AG W0 M0 dr calm E ops K (⟨d, o, t, p, af, some gd⟩ :: r) ⟨fr, H, n⟩ := Fg hg h (fun _ => ⟨hn, hq⟩) hk
theorem XL {a b : RS} (h : a = b := by simp only [Bf, AM, AC, AL, Bg, eq_self, Nat.reduceEqDiff, reduceIte, bw, CU, Ep, B9, KV, hT, C7, Ak, B6, A9, BE, Be, Bl, AO, BD, BF, BV, Int.toNat_natCast, Int.reduceToNat, Nat.reduceAdd, Nat.reduceMul, Nat.reduceSub, Nat.reduceLeDiff, Nat.zero_add, Nat.add_zero, true_and, and_true, and_assoc, BM, BX, BH, Ca, BZ, BC, BA, BU, B3, AQ, Bi, Bj, Bz, or_false, false_or, not_true_eq_false, not_false_eq_true, hx]; rfl) : a = b := h
theorem DL (hk : AG W0 M0 dr calm E ops K r ⟨putD d c fr, H, n⟩) (h : Cf E fr H n o = .v q c := by exact XL) (hq : q := by exact A3) (hn : Cv fr o := by exact Gc) : AG W0 M0 dr calm E ops K (⟨d, o, t, p, af, none⟩ :: r) ⟨fr, H, n⟩ := GQ h hn hq hk
theorem WX (hk : AG W0 M0 dr calm E ops K r ⟨putD d (.cond b c) fr, H, n⟩) (hg : AW ops fr (some gd) = some (some b) := by exact QL) (h : (b = false ∧ c = .any ∧ q = True) ∨ (Cf E fr H n o = .v q c ∧ (b = true → Cv fr o ∧ q)) := by first | (with_reducible exact Or.inl ⟨rfl, rfl, rfl⟩) | (refine Or.inr ⟨?_, ?_⟩; (focus exact XL); exact QR)) : AG W0 M0 dr calm E ops K (⟨d, o, t, p, af, some gd⟩ :: r) ⟨fr, H, n⟩ := GC hg h hk
theorem YC {a b : RS} (h : a = b := by simp only [Bf, AM, AC, AL, Bg, eq_self, Nat.reduceEqDiff, reduceIte, bw, CU, Fa, Ak, hx]; rfl) : a = b := h
theorem Dz (hk : AG W0 M0 dr calm E ops K r ⟨putD d c fr, H, n⟩) (h : Cf E fr H n o = .v q c := by exact YC) (hq : q := by exact A3) (hn : Cv fr o := by exact Gc) : AG W0 M0 dr calm E ops K (⟨d, o, t, p, af, none⟩ :: r) ⟨fr, H, n⟩ := GQ h hn hq hk
theorem Y9 {a b : RS} (h : a = b := by simp only [Bf, AM, AC, AL, Bg, eq_self, Nat.reduceEqDiff, reduceIte, bw, CU, E8, B9, KV, hT, C7, Ak, B6, A9, BE, Be, Bl, AO, BD, BF, BV, Int.toNat_natCast, Int.reduceToNat, Nat.reduceAdd, Nat.reduceMul, Nat.reduceSub, Nat.reduceLeDiff, Nat.zero_add, Nat.add_zero, true_and, and_true, and_assoc, BM, BX, BH, Ca, BZ, BC, BA, BU, B3, AQ, Bi, Bj, Bz, or_false, false_or, not_true_eq_false, not_false_eq_true, hx]; rfl) : a = b := h
theorem BL (hk : AG W0 M0 dr calm E ops K r ⟨putD d c fr, H, n⟩) (h : Cf E fr H n o = .v q c := by exact Y9) (hq : q := by exact A3) (hn : Cv fr o := by exact Gc) : AG W0 M0 dr calm E ops K (⟨d, o, t, p, af, none⟩ :: r) ⟨fr, H, n⟩ := GQ h hn hq hk
theorem YF {a b : RS} (h : a = b := by simp only [Bf, AM, AC, AL, Bg, eq_self, Nat.reduceEqDiff, reduceIte, bw, CU, A9, hx]; rfl) : a = b := h
theorem GW (hk : AG W0 M0 dr calm E ops K r ⟨putD d c fr, H, n⟩) (h : Cf E fr H n o = .v q c := by exact YF) (hq : q := by exact A3) (hn : Cv fr o := by exact Gc) : AG W0 M0 dr calm E ops K (⟨d, o, t, p, af, none⟩ :: r) ⟨fr, H, n⟩ := GQ h hn hq hk
theorem WH {a b : RS} (h : a = b := by simp only [Bf, AM, AC, AL, Bg, eq_self, Nat.reduceEqDiff, reduceIte, bw, CU, Li, B9, KV, hT, C7, Ak, B6, A9, BE, Be, Bl, AO, BD, BF, BV, Int.toNat_natCast, Int.reduceToNat, Nat.reduceAdd, Nat.reduceMul, Nat.reduceSub, Nat.reduceLeDiff, Nat.zero_add, Nat.add_zero, true_and, and_true, and_assoc, BM, BX, BH, Ca, BZ, BC, BA, BU, B3, AQ, Bi, Bj, Bz, or_false, false_or, not_true_eq_false, not_false_eq_true, hx]; rfl) : a = b := h
theorem AZ (hk : AG W0 M0 dr calm E ops K r ⟨putD d c fr, H, n⟩) (h : Cf E fr H n o = .v q c := by exact WH) (hq : q := by exact A3) (hn : Cv fr o := by exact Gc) : AG W0 M0 dr calm E ops K (⟨d, o, t, p, af, none⟩ :: r) ⟨fr, H, n⟩ := GQ h hn hq hk
theorem I3 (hk : AG W0 M0 dr calm E ops K r ⟨putD d (.cond b c) fr, H, n⟩) (hg : AW ops fr (some gd) = some (some b) := by exact QL) (h : (b = false ∧ c = .any ∧ q = True) ∨ (Cf E fr H n o = .v q c ∧ (b = true → Cv fr o ∧ q)) := by first | (with_reducible exact Or.inl ⟨rfl, rfl, rfl⟩) | (refine Or.inr ⟨?_, ?_⟩; (focus exact WH); exact QR)) : AG W0 M0 dr calm E ops K (⟨d, o, t, p, af, some gd⟩ :: r) ⟨fr, H, n⟩ := GC hg h hk
theorem JR (hk : AG W0 M0 dr calm E ops K r ⟨putD d (.cond true c) fr, H, n⟩) (hg : AW ops fr (some gd) = some (some true) := by exact AP) (h : Cf E fr H n o = .v q c := by exact WH) (hn : Cv fr o := by exact Gc) (hq : q := by exact A3) : AG W0 M0 dr calm E ops K (⟨d, o, t, p, af, some gd⟩ :: r) ⟨fr, H, n⟩ := Fg hg h (fun _ => ⟨hn, hq⟩) hk
theorem WG {a b : RS} (h : a = b := by simp only [hc, Bf, AM, AC, AL, Bg, eq_self, Nat.reduceEqDiff, reduceIte, bw, Db, Ct, Cs, Bb, BJ, hs, Cu, Ay, Ak, B6, A9, BE, Be, Bl, AO, BD, BF, BV, Int.toNat_natCast, Int.reduceToNat, Nat.reduceAdd, Nat.reduceMul, Nat.reduceSub, Nat.reduceLeDiff, Nat.zero_add, Nat.add_zero, true_and, and_true, and_assoc, BM, BX, BH, Ca, BZ, BC, BA, BU, B3, AQ, Bi, Bj, Bz, or_false, false_or, not_true_eq_false, not_false_eq_true, List.mem_cons, List.not_mem_nil, AA, CP, CY, hx]; rfl) : a = b := h
theorem AS (hk : AG W0 M0 dr calm E ops K r ⟨putD d c fr, H, n⟩) (h : Cf E fr H n o = .v q c := by exact WG) (hq : q := by exact A3) (hn : Cv fr o := by exact Gc) : AG W0 M0 dr calm E ops K (⟨d, o, t, p, af, none⟩ :: r) ⟨fr, H, n⟩ := GQ h hn hq hk
theorem ER (hk : AG W0 M0 dr calm E ops K r ⟨putD d (.cond b c) fr, H, n⟩) (hg : AW ops fr (some gd) = some (some b) := by exact QL) (h : (b = false ∧ c = .any ∧ q = True) ∨ (Cf E fr H n o = .v q c ∧ (b = true → Cv fr o ∧ q)) := by first | (with_reducible exact Or.inl ⟨rfl, rfl, rfl⟩) | (refine Or.inr ⟨?_, ?_⟩; (focus exact WG); exact QR)) : AG W0 M0 dr calm E ops K (⟨d, o, t, p, af, some gd⟩ :: r) ⟨fr, H, n⟩ := GC hg h hk
theorem Kl (hk : AG W0 M0 dr calm E ops K r ⟨putD d (.cond true c) fr, H, n⟩) (hg : AW ops fr (some gd) = some (some true) := by exact AP) (h : Cf E fr H n o = .v q c := by exact WG) (hn : Cv fr o := by exact Gc) (hq : q := by exact A3) : AG W0 M0 dr calm E ops K (⟨d, o, t, p, af, some gd⟩ :: r) ⟨fr, H, n⟩ := Fg hg h (fun _ => ⟨hn, hq⟩) hk
theorem XJ {a b : RS} (h : a = b := by simp only [M3, Bf, AM, AC, AL, Bg, eq_self, Nat.reduceEqDiff, reduceIte, bw, Db, Ct, Cs, Bb, BJ, hs, Cu, Ay, hc, Ak, B6, A9, BE, Be, Bl, AO, BD, BF, BV, Int.toNat_natCast, Int.reduceToNat, Nat.reduceAdd, Nat.reduceMul, Nat.reduceSub, Nat.reduceLeDiff, Nat.zero_add, Nat.add_zero, true_and, and_true, and_assoc, BM, BX, BH, Ca, BZ, BC, BA, BU, B3, AQ, Bi, Bj, Bz, or_false, false_or, not_true_eq_false, not_false_eq_true, List.mem_cons, List.not_mem_nil, AA, CP, CY, hx]; rfl) : a = b := h
theorem Wb (hk : AG W0 M0 dr calm E ops K r ⟨putD d c fr, H, n⟩) (h : Cf E fr H n o = .v q c := by exact XJ) (hq : q := by exact A3) (hn : Cv fr o := by exact Gc) : AG W0 M0 dr calm E ops K (⟨d, o, t, p, af, none⟩ :: r) ⟨fr, H, n⟩ := GQ h hn hq hk
theorem XR (hk : AG W0 M0 dr calm E ops K r ⟨putD d (.cond b c) fr, H, n⟩) (hg : AW ops fr (some gd) = some (some b) := by exact QL) (h : (b = false ∧ c = .any ∧ q = True) ∨ (Cf E fr H n o = .v q c ∧ (b = true → Cv fr o ∧ q)) := by first | (with_reducible exact Or.inl ⟨rfl, rfl, rfl⟩) | (refine Or.inr ⟨?_, ?_⟩; (focus exact XJ); exact QR)) : AG W0 M0 dr calm E ops K (⟨d, o, t, p, af, some gd⟩ :: r) ⟨fr, H, n⟩ := GC hg h hk
theorem Y7 {a b : RS} (h : a = b := by simp only [Bf, AM, AC, AL, Bg, eq_self, Nat.reduceEqDiff, reduceIte, bw, HE, B9, KV, hT, C7, Ak, B6, A9, BE, Be, Bl, AO, BD, BF, BV, Int.toNat_natCast, Int.reduceToNat, Nat.reduceAdd, Nat.reduceMul, Nat.reduceSub, Nat.reduceLeDiff, Nat.zero_add, Nat.add_zero, true_and, and_true, and_assoc, BM, BX, BH, Ca, BZ, BC, BA, BU, B3, AQ, Bi, Bj, Bz, or_false, false_or, not_true_eq_false, not_false_eq_true, hx]; rfl) : a = b := h
theorem Bw (hk : AG W0 M0 dr calm E ops K r ⟨putD d c fr, H', n'⟩) (h : Cf E fr H n o = .h q c H' n' := by exact Y7) (hq : q := by exact A3) (hn : Cv fr o := by exact Gc) (hl : (dr && Dr calm d o) = true → DK H H' := by exact SQ) : AG W0 M0 dr calm E ops K (⟨d, o, t, p, af, none⟩ :: r) ⟨fr, H, n⟩ := Nb h hn hq hl hk
theorem YA {a b : RS} (h : a = b := by simp only [Bf, AM, AC, AL, Bg, eq_self, Nat.reduceEqDiff, reduceIte, bw, Qp, Ak, B6, A9, BE, Be, Bl, AO, BD, BF, BV, Int.toNat_natCast, Int.reduceToNat, Nat.reduceAdd, Nat.reduceMul, Nat.reduceSub, Nat.reduceLeDiff, Nat.zero_add, Nat.add_zero, true_and, and_true, and_assoc, BM, BX, BH, Ca, BZ, BC, BA, BU, B3, AQ, Bi, Bj, Bz, or_false, false_or, not_true_eq_false, not_false_eq_true, hx]; rfl) : a = b := h
theorem EX (hk : AG W0 M0 dr calm E ops K r ⟨putD d c fr, H', n'⟩) (h : Cf E fr H n o = .h q c H' n' := by exact YA) (hq : q := by exact A3) (hn : Cv fr o := by exact Gc) (hl : (dr && Dr calm d o) = true → DK H H' := by exact SQ) : AG W0 M0 dr calm E ops K (⟨d, o, t, p, af, none⟩ :: r) ⟨fr, H, n⟩ := Nb h hn hq hl hk
theorem XH {a b : RS} (h : a = b := by simp only [Bf, AM, AC, AL, Bg, eq_self, Nat.reduceEqDiff, reduceIte, bw, D0, B9, KV, hT, C7, Ak, B6, A9, BE, Be, Bl, AO, BD, BF, BV, Int.toNat_natCast, Int.reduceToNat, Nat.reduceAdd, Nat.reduceMul, Nat.reduceSub, Nat.reduceLeDiff, Nat.zero_add, Nat.add_zero, true_and, and_true, and_assoc, BM, BX, BH, Ca, BZ, BC, BA, BU, B3, AQ, Bi, Bj, Bz, or_false, false_or, not_true_eq_false, not_false_eq_true, hx]; rfl) : a = b := h
theorem FH (hk : AG W0 M0 dr calm E ops K r ⟨putD d c fr, H', n'⟩) (h : Cf E fr H n o = .h q c H' n' := by exact XH) (hq : q := by exact A3) (hn : Cv fr o := by exact Gc) (hl : (dr && Dr calm d o) = true → DK H H' := by exact SQ) : AG W0 M0 dr calm E ops K (⟨d, o, t, p, af, none⟩ :: r) ⟨fr, H, n⟩ := Nb h hn hq hl hk
theorem YG {a b : RS} (h : a = b := by simp only [Bf, AM, AC, AL, Bg, eq_self, Nat.reduceEqDiff, reduceIte, bw, Kq, B9, KV, hT, C7, Ak, B6, A9, BE, Be, Bl, AO, BD, BF, BV, Int.toNat_natCast, Int.reduceToNat, Nat.reduceAdd, Nat.reduceMul, Nat.reduceSub, Nat.reduceLeDiff, Nat.zero_add, Nat.add_zero, true_and, and_true, and_assoc, BM, BX, BH, Ca, BZ, BC, BA, BU, B3, AQ, Bi, Bj, Bz, or_false, false_or, not_true_eq_false, not_false_eq_true, hx]; rfl) : a = b := h
theorem Yx (hk : AG W0 M0 dr calm E ops K r ⟨putD d c fr, H', n'⟩) (h : Cf E fr H n o = .h q c H' n' := by exact YG) (hq : q := by exact A3) (hn : Cv fr o := by exact Gc) (hl : (dr && Dr calm d o) = true → DK H H' := by exact SQ) : AG W0 M0 dr calm E ops K (⟨d, o, t, p, af, none⟩ :: r) ⟨fr, H, n⟩ := Nb h hn hq hl hk
theorem YH {a b : RS} (h : a = b := by simp only [Bf, AM, AC, AL, Bg, eq_self, Nat.reduceEqDiff, reduceIte, bw, FM, B9, KV, hT, C7, Ak, B6, A9, BE, Be, Bl, AO, BD, BF, BV, Int.toNat_natCast, Int.reduceToNat, Nat.reduceAdd, Nat.reduceMul, Nat.reduceSub, Nat.reduceLeDiff, Nat.zero_add, Nat.add_zero, true_and, and_true, and_assoc, BM, BX, BH, Ca, BZ, BC, BA, BU, B3, AQ, Bi, Bj, Bz, or_false, false_or, not_true_eq_false, not_false_eq_true, hx]; rfl) : a = b := h
theorem A4 (hk : AG W0 M0 dr calm E ops K r ⟨putD d c fr, H', n'⟩) (h : Cf E fr H n o = .h q c H' n' := by exact YH) (hq : q := by exact A3) (hn : Cv fr o := by exact Gc) (hl : (dr && Dr calm d o) = true → DK H H' := by exact SQ) : AG W0 M0 dr calm E ops K (⟨d, o, t, p, af, none⟩ :: r) ⟨fr, H, n⟩ := Nb h hn hq hl hk
theorem Y8 {a b : RS} (h : a = b := by simp only [Bf, AM, AC, AL, Bg, eq_self, Nat.reduceEqDiff, reduceIte, bw, DX, Cj, or_self, B9, KV, hT, C7, Ak, B6, A9, BE, Be, Bl, AO, BD, BF, BV, Int.toNat_natCast, Int.reduceToNat, Nat.reduceAdd, Nat.reduceMul, Nat.reduceSub, Nat.reduceLeDiff, Nat.zero_add, Nat.add_zero, true_and, and_true, and_assoc, BM, BX, BH, Ca, BZ, BC, BA, BU, B3, AQ, Bi, Bj, Bz, or_false, false_or, not_true_eq_false, not_false_eq_true, hx]; rfl) : a = b := h
theorem Ih (hk : AG W0 M0 dr calm E ops K r ⟨putD d c fr, H', n'⟩) (h : Cf E fr H n o = .h q c H' n' := by exact Y8) (hq : q := by exact A3) (hn : Cv fr o := by exact Gc) (hl : (dr && Dr calm d o) = true → DK H H' := by exact SQ) : AG W0 M0 dr calm E ops K (⟨d, o, t, p, af, none⟩ :: r) ⟨fr, H, n⟩ := Nb h hn hq hl hk
theorem XI {a b : RS} (h : a = b := by simp only [hc, Bf, AM, AC, AL, Bg, eq_self, Nat.reduceEqDiff, reduceIte, bw, Db, Ct, Cs, Bb, BJ, hs, Cu, Ay, Ak, B6, A9, BE, Be, Bl, AO, BD, BF, BV, Int.toNat_natCast, Int.reduceToNat, Nat.reduceAdd, Nat.reduceMul, Nat.reduceSub, Nat.reduceLeDiff, Nat.zero_add, Nat.add_zero, true_and, and_true, and_assoc, BM, BX, BH, Ca, BZ, BC, BA, BU, B3, AQ, Bi, Bj, Bz, or_false, false_or, not_true_eq_false, not_false_eq_true, List.mem_cons, List.not_mem_nil, AA, CP, CY, hx]; rfl) : a = b := h
theorem JP (hk : AG W0 M0 dr calm E ops K r ⟨putD d c fr, H', n'⟩) (h : Cf E fr H n o = .h q c H' n' := by exact XI) (hq : q := by exact A3) (hn : Cv fr o := by exact Gc) (hl : (dr && Dr calm d o) = true → DK H H' := by exact SQ) : AG W0 M0 dr calm E ops K (⟨d, o, t, p, af, none⟩ :: r) ⟨fr, H, n⟩ := Nb h hn hq hl hk
theorem YD {a b : RS} (h : a = b := by simp only [hc, Bf, AM, AC, AL, Bg, eq_self, Nat.reduceEqDiff, reduceIte, bw, Db, Ct, Cs, Bb, BJ, hs, Cu, Ay, Ak, B6, A9, BE, Be, Bl, AO, BD, BF, BV, Int.toNat_natCast, Int.reduceToNat, Nat.reduceAdd, Nat.reduceMul, Nat.reduceSub, Nat.reduceLeDiff, Nat.zero_add, Nat.add_zero, true_and, and_true, and_assoc, BM, BX, BH, Ca, BZ, BC, BA, BU, B3, AQ, Bi, Bj, Bz, or_false, false_or, not_true_eq_false, not_false_eq_true, List.mem_cons, List.not_mem_nil, AA, CP, CY, hx, Gt, gw, Hk, HQ, Di, Nat.reduceAdd, Nat.reduceSub, Nat.reduceLT, Nat.reduceLeDiff, if_true, if_false, ite_self, List.mem_append, true_implies, Option.bind_some]; rfl) : a = b := h
theorem B8 (hk : AG W0 M0 dr calm E ops K r ⟨putD d c fr, H', n'⟩) (h : Cf E fr H n o = .h q c H' n' := by exact YD) (hq : q := by exact A3) (hn : Cv fr o := by exact Gc) (hl : (dr && Dr calm d o) = true → DK H H' := by exact SQ) : AG W0 M0 dr calm E ops K (⟨d, o, t, p, af, none⟩ :: r) ⟨fr, H, n⟩ := Nb h hn hq hl hk
theorem YE {a b : RS} (h : a = b := by simp only [M3, Bf, AM, AC, AL, Bg, eq_self, Nat.reduceEqDiff, reduceIte, bw, Db, Ct, Cs, Bb, BJ, hs, Cu, Ay, hc, Ak, B6, A9, BE, Be, Bl, AO, BD, BF, BV, Int.toNat_natCast, Int.reduceToNat, Nat.reduceAdd, Nat.reduceMul, Nat.reduceSub, Nat.reduceLeDiff, Nat.zero_add, Nat.add_zero, true_and, and_true, and_assoc, BM, BX, BH, Ca, BZ, BC, BA, BU, B3, AQ, Bi, Bj, Bz, or_false, false_or, not_true_eq_false, not_false_eq_true, List.mem_cons, List.not_mem_nil, AA, CP, CY, hx, Gt, gw, Hk, HQ, Di, Nat.reduceAdd, Nat.reduceSub, Nat.reduceLT, Nat.reduceLeDiff, if_true, if_false, ite_self, List.mem_append, true_implies, Option.bind_some]; rfl) : a = b := h
theorem YS (hk : AG W0 M0 dr calm E ops K r ⟨putD d c fr, H', n'⟩) (h : Cf E fr H n o = .h q c H' n' := by exact XH) (hg : AW ops fr (some gd) = some (some true) := by exact AP) (hq : q := by exact A3) (hn : Cv fr o := by exact Gc) (hl : (dr && Dr calm d o) = true → DK H H' := by exact SQ) : AG W0 M0 dr calm E ops K (⟨d, o, t, p, af, some gd⟩ :: r) ⟨fr, H, n⟩ := To hg h (fun _ => ⟨hn, hq⟩) hl (fun _ => hk) (fun h => Bool.noConfusion h)
theorem YT (hk : AG W0 M0 dr calm E ops K r ⟨putD d c fr, H', n'⟩) (h : Cf E fr H n o = .h q c H' n' := by exact XI) (hg : AW ops fr (some gd) = some (some true) := by exact AP) (hq : q := by exact A3) (hn : Cv fr o := by exact Gc) (hl : (dr && Dr calm d o) = true → DK H H' := by exact SQ) : AG W0 M0 dr calm E ops K (⟨d, o, t, p, af, some gd⟩ :: r) ⟨fr, H, n⟩ := To hg h (fun _ => ⟨hn, hq⟩) hl (fun _ => hk) (fun h => Bool.noConfusion h)
theorem ND (hk : AG W0 M0 dr calm E ops K r ⟨putD d c fr, H', n'⟩) (h : Cf E fr H n o = .h q c H' n' := by exact YE) (hg : AW ops fr (some gd) = some (some true) := by exact AP) (hq : q := by exact A3) (hn : Cv fr o := by exact Gc) (hl : (dr && Dr calm d o) = true → DK H H' := by exact SQ) : AG W0 M0 dr calm E ops K (⟨d, o, t, p, af, some gd⟩ :: r) ⟨fr, H, n⟩ := To hg h (fun _ => ⟨hn, hq⟩) hl (fun _ => hk) (fun h => Bool.noConfusion h)
theorem Ad {id : Nat} {l : List Oper} {draw : Bool} {st : St} {K : Exit → St → Prop} (h : AG W0 M0 draw [] E l.toArray (K .normal) l st) (hm : P.follows .mixedOrders = true := by exact Fw) (hok : OL [] E.N draw l.toArray = true := by kernel_rfl) : VC E W0 M0 (.region id l.toArray draw) st K := F8 [] hm hok h
theorem Ai {v : Operand} {x y : Code} {st : St} {K : Exit → St → Prop} {b : Bool} {p q : Prop} (h1 : p → VC E W0 M0 x st K) (h2 : q → VC E W0 M0 y st K) (hb : AR st.fr v = .d (.bool b) := by simp only [w1, w3, eq_self, Nat.reduceEqDiff, reduceIte]; rfl) (e1 : (b = true) = p := by first | (simp only [Hh, Ey, Fo]; rfl) | rfl) (e2 : (b = false) = q := by first | (simp only [Hh, Ey, Fo]; rfl) | rfl) : VC E W0 M0 (.cond v x y) st K := RR hb (fun h => h1 (e1 ▸ h)) (fun h => h2 (e2 ▸ h))
end
theorem Aj {p q : Prop} (h : q) (e : p = q := by first | (simp only [w1, w2, w3, w4, KV, Af, eq_self, Nat.reduceEqDiff, Nat.reduceLeDiff, Nat.reduceAdd, Nat.reduceSub, Nat.reduceMul, Int.toNat_natCast, Int.reduceToNat, Int.reduceNeg, List.mem_cons, List.not_mem_nil, or_false, false_or, not_true_eq_false, not_false_eq_true, Ey, Fo, reduceIte, true_and, and_true, and_assoc, true_implies, forall_const, implies_true, Bool.true_eq_false, Bool.false_eq_true, false_implies, Be, BE, Bl, AO, BD, BF, BC, BM, BX, BH, Ca, BZ, reduceCtorEq, or_true, true_or, hx, hT]; rfl) | rfl) : p := e ▸ h
theorem Ax {p q : Prop} (h : q) (e : p = q := by first | (simp only [w1, w2, w3, w4, KV, Af, eq_self, Nat.reduceEqDiff, Nat.reduceLeDiff, Nat.reduceAdd, Nat.reduceSub, Nat.reduceMul, Int.toNat_natCast, Int.reduceToNat, Int.reduceNeg, List.mem_cons, List.not_mem_nil, or_false, false_or, not_true_eq_false, not_false_eq_true, Ey, Fo, reduceIte, true_and, and_true, and_assoc, true_implies, forall_const, implies_true, Bool.true_eq_false, Bool.false_eq_true, false_implies, Be, BE, Bl, AO, BD, BF, BC, BM, BX, BH, Ca, BZ, reduceCtorEq, or_true, true_or, hx, hT]; (try simp only [w1, w2, w3, w4, KV, Af, eq_self, Nat.reduceEqDiff, Nat.reduceLeDiff, Nat.reduceAdd, Nat.reduceSub, Nat.reduceMul, Int.toNat_natCast, Int.reduceToNat, Int.reduceNeg, List.mem_cons, List.not_mem_nil, or_false, false_or, not_true_eq_false, not_false_eq_true, Ey, Fo, reduceIte, true_and, and_true, and_assoc, true_implies, forall_const, implies_true, Bool.true_eq_false, Bool.false_eq_true, false_implies, Be, BE, Bl, AO, BD, BF, BC, BM, BX, BH, Ca, BZ, reduceCtorEq, or_true, true_or, hx, hT]); rfl) | rfl) : p := e ▸ h
end Go.Vc
/- The Vc layer: regions taken in several orders: where two operations may come first, both are shown. -/
set_option linter.all false
namespace Go.Vc
open Go Go.RowKit
inductive IZ where
 | nil
 | seq (is : List Nat) (t : IZ)
 | alt (i : Nat) (a : IZ) (r : IZ)
def SP : IZ → List Nat
 | .alt i _ r => i :: SP r
 | _ => []
def Nh (calm : List FuncId) (ops : Array Oper) : List Nat → Array Bool → Option (Array Bool)
 | [], l => some l
 | i :: r, l => if decide (i < ops.size) && (GN calm .any ops l i || Region.ready .any ops l == [i]) then Nh calm ops r (l.setIfInBounds i true) else none
def FC (calm : List FuncId) (ops : Array Oper) : Bool → IZ → Nat → Array Bool → Bool
 | c, .nil, n, l => c || (n == 0 && (Region.ready .any ops l).isEmpty)
 | c, .seq is t, n, l => !c && match Nh calm ops is l with
  | some l' => decide (is.length ≤ n) && FC calm ops false t (n - is.length) l'
  | none => false
 | c, .alt i a r, n, l => (c || Region.ready .any ops l == i :: SP r) && decide (i < ops.size) && decide (0 < n) && FC calm ops false a (n - 1) (l.setIfInBounds i true) && FC calm ops true r n l
def TF (calm : List FuncId) (N : Nat) (t : IZ) (ops : Array Oper) : Bool :=
 ops.all (fun o => match o.dst with | some d => decide (d < N) | none => true) && FC calm ops false t ops.size (Array.replicate ops.size false)
section
variable [Bd] {P : Program} {E : Bn P} {W0 : World} {M0 : Nat → Prop}
def AT (W0 : World) (M0 : Nat → Prop) (calm : List FuncId) (E : Bn P) (ops : List Oper) (K : St → Prop) : Bool → IZ → St → Prop
 | c, .nil, st => c = true ∨ K st
 | _, .seq is t, st => AG W0 M0 true calm E ops.toArray (AT W0 M0 calm E ops K false t) (D2 ops is) st
 | _, .alt i a r, st => AG W0 M0 true calm E ops.toArray (AT W0 M0 calm E ops K false a) (D2 ops [i]) st ∧ AT W0 M0 calm E ops K true r st
theorem Qh {calm : List FuncId} {ops : List Oper} {K N : St → Prop} {i : Nat} {o : Oper} {l : Array Bool} {n : Nat} {st : St} (ho : ops[i]? = some o) (hf : GN calm .any ops.toArray l i = true ∨ Region.ready .any ops.toArray l = [i])
  (h' : stepG W0 M0 true calm E ops.toArray o st N) (next : ∀ st, N st → E5 W0 M0 calm E .any ops.toArray K n (l.setIfInBounds i true) st) : E5 W0 M0 calm E .any ops.toArray K (n + 1) l st := by
 have ho' : ops.toArray[i]? = some o := by simpa using ho
 rcases hf with hf | hone
 ·simp only [GN, ho', Bool.and_eq_true] at hf
  obtain ⟨⟨ht, hrd⟩, ⟨⟨hiW, hWl⟩, hWa⟩, hfree⟩ := hf
  obtain ⟨c, hv, hK⟩ := GV ht h'
  generalize H8 .any ops.toArray l i = W at *
  refine FI ho' ht W (by simpa using hiW) n l st (fun j hj => ?_) (fun j hj hne oj hoj => ?_) (fun j oj hoj hjW hun => ?_) (by simpa using hrd) hv (next _ hK)
  ·have := List.all_eq_true.1 hWl j hj
   simpa using this
  ·have := List.all_eq_true.1 hWa j hj
   simp only [hoj, Bool.or_eq_true, beq_iff_eq, hne, false_or] at this
   obtain ⟨e, he, hb⟩ := Array.any_eq_true'.1 this
   simp only [Bool.and_eq_true] at hb
   exact ⟨e, he, hb.1, by simpa using hb.2⟩
  ·have := List.all_eq_true.1 hfree j (List.mem_range.2 (Array.getElem?_eq_some_iff.1 hoj).1)
   simp only [hoj, Bool.or_eq_true, Bool.and_eq_true, hun, Bool.false_eq_true, or_false] at this
   rcases this with h1 | h1
   ·exact absurd (by simpa using h1) hjW
   ·exact ⟨h1.1, h1.2⟩
 ·refine ⟨fun h0 => absurd (hone.symm.trans h0) (by simp), fun j hj oj hoj => ?_⟩
  rw [hone] at hj
  simp only [List.mem_singleton] at hj
  subst hj
  rw [ho'] at hoj; cases hoj
  exact EF next h'
theorem KM {ops : List Oper} {i : Nat} {o : Oper} (h : ops[i]? = some o) (r : List Nat) : D2 ops (i :: r) = o :: D2 ops r := by rw [D2, h]
theorem Qj {calm : List FuncId} {ops : List Oper} {K N : St → Prop} : ∀ (is : List Nat) (l l' : Array Bool) (n : Nat) (st : St), Nh calm ops.toArray is l = some l' → AG W0 M0 true calm E ops.toArray N (D2 ops is) st →
  (∀ st, N st → E5 W0 M0 calm E .any ops.toArray K n l' st) → E5 W0 M0 calm E .any ops.toArray K (n + is.length) l st := by
 intro is
 induction is with
 | nil => intro l l' n st hok h hn; simp only [Nh, Option.some.injEq] at hok; subst hok; exact hn _ h
 | cons i is ih =>
  intro l l' n st hok h hn
  rw [Nh] at hok
  split at hok
  ·rename_i hc
   simp only [Bool.and_eq_true, Bool.or_eq_true, decide_eq_true_eq, beq_iff_eq] at hc
   have ho : ops[i]? = some (ops[i]'(by simpa using hc.1)) := List.getElem?_eq_getElem _
   rw [KM ho] at h
   exact Qh (n := n + is.length) ho hc.2 h fun st hs => ih _ _ _ _ hok hs hn
  ·cases hok
def Y1 (calm : List FuncId) (E : Bn P) (W0 : World) (M0 : Nat → Prop) (ops : List Oper) (K : St → Prop) (n : Nat) (l : Array Bool) (st : St) (is : List Nat) : Prop :=
 ∀ i ∈ is, ∀ o, ops.toArray[i]? = some o → stepG W0 M0 true calm E ops.toArray o st (E5 W0 M0 calm E .any ops.toArray K n (l.setIfInBounds i true))
theorem NK {calm : List FuncId} {ops : List Oper} {K : St → Prop} : ∀ (t : IZ) (n : Nat) (l : Array Bool) (st : St),
  (FC calm ops.toArray false t n l = true → AT W0 M0 calm E ops K false t st → E5 W0 M0 calm E .any ops.toArray K n l st) ∧
  (FC calm ops.toArray true t (n + 1) l = true → AT W0 M0 calm E ops K true t st → Y1 calm E W0 M0 ops K n l st (SP t)) := by
 intro t
 induction t with
 | nil =>
  intro n l st
  refine ⟨fun hok h => ?_, fun hok h i hi => by cases hi⟩
  simp only [FC, Bool.false_or, Bool.and_eq_true, beq_iff_eq] at hok
  obtain ⟨rfl, hok⟩ := hok
  simp only [AT, Bool.false_eq_true, false_or] at h
  exact ⟨by simpa using hok, h⟩
 | seq is t ih =>
  intro n l st
  refine ⟨fun hok h => ?_, fun hok h i hi => by cases hi⟩
  rw [FC] at hok
  simp only [Bool.not_false, Bool.true_and] at hok
  split at hok
  ·rename_i l' hs
   simp only [Bool.and_eq_true, decide_eq_true_eq] at hok
   have e : n = (n - is.length) + is.length := by omega
   rw [e]
   exact Qj is _ _ _ _ hs h fun st hs => (ih _ _ _).1 hok.2 hs
  ·cases hok
 | alt i a r iha ihr =>
  intro n l st
  have one : ∀ m, FC calm ops.toArray false a m (l.setIfInBounds i true) = true → AG W0 M0 true calm E ops.toArray (AT W0 M0 calm E ops K false a) (D2 ops [i]) st → ∀ o, ops.toArray[i]? = some o →
    stepG W0 M0 true calm E ops.toArray o st (E5 W0 M0 calm E .any ops.toArray K m (l.setIfInBounds i true)) := fun m hok h o ho => by
   have ho' : ops[i]? = some o := by simpa using ho
   rw [KM ho'] at h
   exact EF (fun st hs => (iha _ _ _).1 hok hs) h
  refine ⟨fun hok h => ?_, fun hok h => ?_⟩
  ·simp only [FC, Bool.false_or, Bool.and_eq_true, decide_eq_true_eq, beq_iff_eq] at hok
   obtain ⟨⟨⟨⟨hr, hi⟩, hn⟩, ha⟩, hc⟩ := hok
   have e : n = (n - 1) + 1 := by omega
   rw [e] at hc ⊢
   refine ⟨fun h0 => absurd (hr.symm.trans h0) (by simp), fun k hk ok hok => ?_⟩
   rw [hr] at hk
   rcases List.mem_cons.1 hk with rfl | hk
   ·exact one _ ha h.1 ok hok
   ·exact (ihr (n - 1) l st).2 hc h.2 k hk ok hok
  ·simp only [FC, Bool.true_or, Bool.true_and, Bool.and_eq_true, decide_eq_true_eq] at hok
   obtain ⟨⟨⟨hi, hn⟩, ha⟩, hc⟩ := hok
   intro k hk ok hok
   rcases List.mem_cons.1 hk with rfl | hk
   ·exact one _ ha h.1 ok hok
   ·exact (ihr n l st).2 hc h.2 k hk ok hok
theorem G1 (calm : List FuncId) (t : IZ) (hm : P.follows .mixedOrders = true) {id : Nat} {l : List Oper} (hok : TF calm E.N t l.toArray = true) {st : St} {K : Exit → St → Prop} (h : AT W0 M0 calm E l (K .normal) false t st) : VC E W0 M0 (.region id l.toArray true) st K := by
 intro a w hs
 simp only [TF, Bool.and_eq_true] at hok
 have hd : ∀ o ∈ l, ∀ d, o.dst = some d → d < E.N := by
  intro o ho d hd
  have := Array.all_eq_true_iff_forall_mem.1 hok.1 o (by simpa using ho)
  rw [hd] at this
  simpa using this
 exact wpIn_region_any hm (IM (calm := calm) (E := E) (W0 := W0) (M0 := M0) (K := K .normal) (fun i o d ho hdd => hd o (by
  have := List.mem_of_getElem? (l := l) (i := i) (by simpa using ho); exact this) d hdd) (fun st a w h1 h2 => ⟨st, h1, h2⟩) _ _ st a _ ((NK t _ _ st).1 hok.2 h) hs.drawn)
theorem Bu {calm : List FuncId} {ops : List Oper} {K : St → Prop} {is : List Nat} {t : IZ} {st : St} (h : AG W0 M0 true calm E ops.toArray (AT W0 M0 calm E ops K false t) (D2 ops is) st) : AT W0 M0 calm E ops K false (.seq is t) st := h
theorem AX {calm : List FuncId} {ops : List Oper} {K : St → Prop} {c : Bool} {i : Nat} {a r : IZ} {st : St} (h : AG W0 M0 true calm E ops.toArray (AT W0 M0 calm E ops K false a) (D2 ops [i]) st) (h' : AT W0 M0 calm E ops K true r st) : AT W0 M0 calm E ops K c (.alt i a r) st := ⟨h, h'⟩
theorem C8 {calm : List FuncId} {ops : List Oper} {K : St → Prop} {st : St} : AT W0 M0 calm E ops K true .nil st := .inl rfl
theorem BO {calm : List FuncId} {ops : List Oper} {K : St → Prop} {st : St} (h : K st) : AT W0 M0 calm E ops K false .nil st := .inr h
end
end Go.Vc
/- The Vc layer: a sequence cut in the middle: what comes behind is walked once, whatever ways lead there. -/
set_option linter.all false
namespace Go.Vc
open Go Go.RowKit
section
variable [Bd] {P : Program} {E : Bn P} {W0 : World} {M0 : Nat → Prop}
theorem Gm {σ : Type} (inv : σ → Prop) (fl : σ → List (Nat × AV)) (bl : σ → List (Option Bt)) {np : Nat} (hnp : Bd.np = np) {x y : Code} {st : St} {K : Exit → St → Prop}
  (hy : ∀ s, inv s → VC E W0 M0 y (G5 (fl s) (bl s)) K) (hx : ∀ N : St → Prop, (∀ st', (∃ s, inv s ∧ ∃ ρ : Ren, JM np ρ st' (fl s) (bl s)) → N st') → VC E W0 M0 x st (I0 N K)) : VC E W0 M0 (.seq x y) st K :=
 UD (hx _ fun st' ⟨s, h1, ρ, h2⟩ => Xy hnp (fl s) (bl s) ρ h2 (hy s h1))
end
end Go.Vc
