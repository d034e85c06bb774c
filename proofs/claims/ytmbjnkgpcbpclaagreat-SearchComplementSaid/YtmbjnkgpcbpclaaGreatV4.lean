/- The Vc layer, part 4. -/
import Derived.Test.YtmbjnkgpcbpclaaGreatV3
import Derived.Lib.SliceRun
import Derived.Lib.LazyBuf
/- The Vc layer: regions once more: operations known by what they do to worlds; calls that only add boxes. -/
set_option linter.all false
namespace Go.Vc
open Go Go.RowKit

def Dd (calm : List FuncId) (d : Option Tmp) : Op → Bool
 | .alloc _ | .box .. | .buildSlice .. | .makeSlice .. => true
 | .call ⟨.value (.func f), _, _⟩ => calm.contains f
 | .call ⟨.builtin .append, _, _⟩ => calm.contains (1000000 + d.getD 0)
 | _ => false
def Jd (calm : List FuncId) (d : Option Tmp) (o : Op) : Bool := DY o || Dd calm d o

section
variable [AU] {P : Program} {E : Bo P} {W0 : World} {M0 : Nat → Prop}

def CK (W0 : World) (M0 : Nat → Prop) (E : Bo P) (o : Oper) (st : St) (K : St → Prop) : Prop :=
 ∀ (a : Act) (w : World) (S : Lays), Ag W0 M0 st.H st.n w S → (∀ x ∈ o.op.operands.toList, R w S st.n (AL st.fr x) (a.eval x)) →
  ∀ Q, o.wpIn (Ma E.ρ) 0 P a w (fun a' w' => ∃ c H' n' v S', a' = a.put o.dst v ∧ Ag W0 M0 H' n' w' S' ∧ BS w S st.n w' S' n' ∧ R w' S' n' c v ∧ K ⟨putD o.dst c st.fr, H', n'⟩) Q

theorem CK.mono {o : Oper} {st : St} {K K' : St → Prop} (hk : ∀ st, K st → K' st) (h : CK W0 M0 E o st K) : CK W0 M0 E o st K' := fun a w S h1 h2 Q =>
 Oper.wpIn_mono (fun a' w' ⟨c, H', n', v, S', g1, g2, g3, g4, g5⟩ => ⟨c, H', n', v, S', g1, g2, g3, g4, hk _ g5⟩) (h a w S h1 h2 Q)

def Px (W0 : World) (M0 : Nat → Prop) (E : Bo P) (o : Oper) (st : St) (c : AV) : Prop :=
 ∀ (H' : Ap) (n' : Nat), D8 st.H H' → ∀ (a : Act) (w : World) (S : Lays), Ag W0 M0 H' n' w S → (∀ x ∈ o.op.operands.toList, R w S n' (AL st.fr x) (a.eval x)) →
  ∀ Q, o.wpIn (Ma E.ρ) 0 P a w (fun a' w' => ∃ v, a' = a.put o.dst v ∧ w' = w ∧ R w S n' c v) Q

def stepG (W0 : World) (M0 : Nat → Prop) (dr : Bool) (calm : List FuncId) (E : Bo P) (ops : Array Oper) (o : Oper) (st : St) (K : St → Prop) : Prop :=
 E2 E ops o st (fun st' => ((dr && Dd calm o.dst o.op) = true → D8 st.H st'.H) ∧ K st') ∨ (AP ops st.fr o.guard = some (some false) ∧ K ⟨putD o.dst (.cond false .any) st.fr, st.H, st.n⟩) ∨
  ((o.guard = none ∨ AP ops st.fr o.guard = some (some true)) ∧ (dr && DY o.op) = false ∧ CK W0 M0 E o st (fun st' => ((dr && Dd calm o.dst o.op) = true → D8 st.H st'.H) ∧ K st')) ∨
  ((o.guard = none ∨ AP ops st.fr o.guard = some (some true)) ∧ D3 o.op = false ∧ ∃ c, Px W0 M0 E o st c ∧ K ⟨putD o.dst c st.fr, st.H, st.n⟩)

theorem E1 {dr : Bool} {calm : List FuncId} {ops : Array Oper} {o : Oper} {st : St} {K K' : St → Prop} (hk : ∀ st, K st → K' st) (h : stepG W0 M0 dr calm E ops o st K) : stepG W0 M0 dr calm E ops o st K' := by
 rcases h with h | h | h | h
 ·exact .inl (Js (fun st h => ⟨h.1, hk _ h.2⟩) h)
 ·exact .inr (.inl ⟨h.1, hk _ h.2⟩)
 ·exact .inr (.inr (.inl ⟨h.1, h.2.1, h.2.2.mono fun st h => ⟨h.1, hk _ h.2⟩⟩))
 ·obtain ⟨h1, h2, c, h3, h4⟩ := h
  exact .inr (.inr (.inr ⟨h1, h2, c, h3, hk _ h4⟩))

theorem MN {dr : Bool} {calm : List FuncId} {a : Act} {w : World} {ops : Array Oper} {o : Oper} {st : St} {K : St → Prop} (h : stepG W0 M0 dr calm E ops o st K) (hd : ∀ d, o.dst = some d → d < E.N) (hs : KF W0 M0 E.N st a w) (Q : Exit → Act → World → Prop) :
  if Region.wanted o (yielded ops a.tmps) = true then o.wpIn (Ma E.ρ) 0 P a w (I2 W0 M0 E.N K) Q else I2 W0 M0 E.N K (a.put o.dst undef) w := by
 rcases h with h | h | h | h
 ·exact T0 (Js (fun st h => h.2) h) hd hs Q
 ·obtain ⟨S, hH, hF, hM⟩ := hs
  rw [Fh h.1 hF.at_, if_neg (by simp)]
  exact ⟨_, h.2, S, hH, hF.putD hd (.cond _ _ _ (fun e => by cases e) (fun _ => rfl)), by rw [DF]; exact hM⟩
 ·obtain ⟨S, hH, hF, hM⟩ := hs
  have hw : Region.wanted o (yielded ops a.tmps) = true := by
   rcases h.1 with h0 | h0
   ·exact G6 (ops := ops) (fr := st.fr) (by rw [h0]; rfl) _
   ·exact Fh h0 hF.at_
  rw [if_pos hw]
  refine Oper.wpIn_mono ?_ (h.2.2 a w S hH (fun x _ => Eb hH.gl hF.at_ x) Q)
  rintro a' w' ⟨c, H', n', v, S', rfl, g2, g3, g4, g5⟩
  exact ⟨_, g5.2, S', g2, (hF.ext g3).putD hd g4, by rw [DF]; exact hM.ext g3⟩
 ·obtain ⟨h1, _, c, h3, h4⟩ := h
  obtain ⟨S, hH, hF, hM⟩ := hs
  have hw : Region.wanted o (yielded ops a.tmps) = true := by
   rcases h1 with h0 | h0
   ·exact G6 (ops := ops) (fr := st.fr) (by rw [h0]; rfl) _
   ·exact Fh h0 hF.at_
  rw [if_pos hw]
  refine Oper.wpIn_mono ?_ (h3 st.H st.n (fun _ _ h => h) a w S hH (fun x _ => Eb hH.gl hF.at_ x) Q)
  rintro a' w' ⟨v, rfl, rfl, g4⟩
  exact ⟨_, h4, S, hH, hF.putD hd g4, by rw [DF]; exact hM⟩

def VR (W0 : World) (M0 : Nat → Prop) (E : Bo P) (ops : Array Oper) (o : Oper) (st : St) (c : AV) : Prop :=
 (∃ p, MU E ops o st = some (p, c) ∧ p) ∨ (AP ops st.fr o.guard = some (some false) ∧ c = .cond false .any) ∨
  ((o.guard = none ∨ AP ops st.fr o.guard = some (some true)) ∧ D3 o.op = false ∧ Px W0 M0 E o st c)

theorem D8.refl (H : Ap) : D8 H H := fun _ _ h => h
theorem OA {dr : Bool} {calm : List FuncId} {ops : Array Oper} {o : Oper} {st : St} {c : AV} (h : VR W0 M0 E ops o st c) {K : St → Prop} (hK : K ⟨putD o.dst c st.fr, st.H, st.n⟩) : stepG W0 M0 dr calm E ops o st K := by
 rcases h with ⟨p, h, hp⟩ | ⟨h, rfl⟩ | ⟨h1, h2, h3⟩
 ·exact .inl (QS h hp ⟨fun _ => D8.refl _, hK⟩)
 ·exact .inr (.inl ⟨h, hK⟩)
 ·exact .inr (.inr (.inr ⟨h1, h2, c, h3, hK⟩))
theorem TX {ops : Array Oper} {o : Oper} {st : St} {c : AV} (h : VR W0 M0 E ops o st c) {fr' : Nat → AV} {H' : Ap} {n' : Nat}
  (ha : ∀ x ∈ o.op.operands.toList, AL fr' x = AL st.fr x) (hg : ∀ d, (∃ g want, o.guard = some (g, want) ∧ (ops[g]?).bind (·.dst) = some d) → fr' d = st.fr d)
  (ht : DY o.op = true) (hs : D3 o.op = true ∨ D8 st.H H') : VR W0 M0 E ops o ⟨fr', H', n'⟩ c := by
 rcases h with ⟨p, h, hp⟩ | ⟨h, rfl⟩ | ⟨h1, h2, h3⟩
 ·exact .inl ⟨p, QR h ha hg ht hs, hp⟩
 ·exact .inr (.inl ⟨by rw [CC hg]; exact h, rfl⟩)
 ·refine .inr (.inr ⟨h1.imp (fun h0 => h0) (fun h0 => by rw [CC hg]; exact h0), h2, fun H2 n2 hle a w S hH hop Q => ?_⟩)
  have hle' : D8 st.H H' := by
   rcases hs with hs | hs
   ·rw [h2] at hs; cases hs
   ·exact hs
  exact h3 H2 n2 (fun id b hb => hle id b (hle' id b hb)) a w S hH (fun x hx => by rw [← ha x hx]; exact hop x hx) Q
theorem GD {calm : List FuncId} {ops : Array Oper} {o : Oper} {st : St} {K : St → Prop} (ht : DY o.op = true) (h : stepG W0 M0 true calm E ops o st K) : ∃ c, VR W0 M0 E ops o st c ∧ K ⟨putD o.dst c st.fr, st.H, st.n⟩ := by
 rcases h with h | h | h | h
 ·obtain ⟨p, c, h1, h2, h3⟩ := Oo ht h
  exact ⟨c, .inl ⟨p, h1, h2⟩, h3.2⟩
 ·exact ⟨_, .inr (.inl ⟨h.1, rfl⟩), h.2⟩
 ·have := h.2.1
  simp [ht] at this
 ·obtain ⟨h1, h2, c, h3, h4⟩ := h
  exact ⟨c, .inr (.inr ⟨h1, h2, h3⟩), h4⟩

theorem On {calm : List FuncId} {ops : Array Oper} {oi oj : Oper} (hap : oi.apart ops oj = true) (ht : DY oi.op = true) (hq : D3 oi.op = true ∨ Jd calm oj.dst oj.op = true) {st : St} {c : AV} (hv : VR W0 M0 E ops oi st c) {K : St → Prop}
  (h : stepG W0 M0 true calm E ops oj ⟨putD oi.dst c st.fr, st.H, st.n⟩ K) : stepG W0 M0 true calm E ops oj st (fun st' => VR W0 M0 E ops oi st' c ∧ K ⟨putD oi.dst c st'.fr, st'.H, st'.n⟩) := by
 obtain ⟨h1, h2, h3⟩ := Oper.apart_spec hap
 obtain ⟨g1, g2⟩ := Jk (o := oj) (c := c) (fr := st.fr) h1
 have back : ∀ e, (∀ x ∈ oi.op.operands.toList, AL (putD oj.dst e st.fr) x = AL st.fr x) ∧ ∀ d, (∃ g want, oi.guard = some (g, want) ∧ (ops[g]?).bind (·.dst) = some d) → putD oj.dst e st.fr d = st.fr d :=
  fun e => Jk (o := oi) (c := e) (fr := st.fr) h3
 have fin : ∀ {e : AV} {H' : Ap} {n' : Nat}, (D3 oi.op = true ∨ D8 st.H H') → K ⟨putD oj.dst e (putD oi.dst c st.fr), H', n'⟩ →
   VR W0 M0 E ops oi ⟨putD oj.dst e st.fr, H', n'⟩ c ∧ K ⟨putD oi.dst c (putD oj.dst e st.fr), H', n'⟩ := by
  intro e H' n' hh hK
  refine ⟨TX hv (back e).1 (back e).2 ht hh, ?_⟩
  rw [Q0 h2] at hK
  exact hK
 have same : D3 oi.op = true ∨ D8 st.H st.H := .inr (D8.refl _)
 rcases h with h | h | h | h
 ·refine .inl ?_
  have heap : ∀ {p : Prop} {e : AV} {H' : Ap} {n' : Nat}, BZ E st.fr st.H st.n oj.op = .h p e H' n' → ((true && Dd calm oj.dst oj.op) = true → D8 st.H H') → D3 oi.op = true ∨ D8 st.H H' := by
   intro p e H' n' hr hg
   rcases hq with hs | hq
   ·exact .inl hs
   ·simp only [Jd, Bool.or_eq_true] at hq
    rcases hq with hq | hq
    ·have : Ls [] oj.op = true := by
      unfold Ls
      split
      ·rename_i hop; rw [hop] at hq; simp [DY, Pq] at hq
      ·exact hq
     exact (P4 (Calm.nil E) this hr).elim
    ·exact .inr (hg (by simpa using hq))
  unfold E2 at *
  simp only at h
  rw [CC g2, JM g1, Ks g1] at h
  split at h
  ·exact h
  ·split at h
   ·exact ⟨h.1, h.2.1, h.2.2.1, fin same h.2.2.2⟩
   ·rename_i hr; exact ⟨h.1, h.2.1, h.2.2.1, fin (heap hr h.2.2.1) h.2.2.2⟩
   ·exact h
  ·split at h
   ·exact ⟨h.1, h.2.1, fin same h.2.2⟩
   ·rename_i hr; exact ⟨fun hb => ⟨(h.1 hb).1, (h.1 hb).2.1, (h.1 hb).2.2.1, fin (heap hr (h.1 hb).2.2.1) (h.1 hb).2.2.2⟩, fun hb => ⟨(h.2 hb).1, fin same (h.2 hb).2⟩⟩
   ·exact h
 ·simp only at h
  rw [CC g2] at h
  exact .inr (.inl ⟨h.1, fin same h.2⟩)
 ·refine .inr (.inr (.inl ⟨h.1.imp (fun h0 => h0) (fun h0 => by simp only at h0; rw [CC g2] at h0; exact h0), h.2.1, ?_⟩))
  have hs : ∀ {H' : Ap}, ((true && Dd calm oj.dst oj.op) = true → D8 st.H H') → D3 oi.op = true ∨ D8 st.H H' := by
   intro H' hg
   rcases hq with hs | hq
   ·exact .inl hs
   ·have h1 := h.2.1
    simp only [Jd, Bool.or_eq_true] at hq
    rcases hq with hq | hq
    ·rw [hq] at h1; cases h1
    ·exact .inr (hg (by simpa using hq))
  intro a w S hH hx Q
  refine Oper.wpIn_mono ?_ (h.2.2 a w S hH (fun x hx' => by simp only; rw [g1 x hx']; exact hx x hx') Q)
  rintro a' w' ⟨c', H', n', v, S', e1, e2, e3, e4, e5⟩
  exact ⟨c', H', n', v, S', e1, e2, e3, e4, e5.1, fin (hs e5.1) e5.2⟩
 ·obtain ⟨k1, k2, c', k3, k4⟩ := h
  refine .inr (.inr (.inr ⟨k1.imp (fun h0 => h0) (fun h0 => by simp only at h0; rw [CC g2] at h0; exact h0), k2, c', fun H2 n2 hle a w S hH hop Q => ?_, fin same k4⟩))
  exact k3 H2 n2 hle a w S hH (fun x hx' => by simp only; rw [g1 x hx']; exact hop x hx') Q

def Er (W0 : World) (M0 : Nat → Prop) (calm : List FuncId) (E : Bo P) (md : Region.Mode) (ops : Array Oper) (K : St → Prop) : Nat → Array Bool → St → Prop
 | 0, l, st => Region.ready md ops l = [] ∧ K st
 | fuel + 1, l, st => (Region.ready md ops l = [] → K st) ∧ ∀ i ∈ Region.ready md ops l, ∀ o, ops[i]? = some o → stepG W0 M0 true calm E ops o st (Er W0 M0 calm E md ops K fuel (l.setIfInBounds i true))

theorem I0 {calm : List FuncId} {md : Region.Mode} {ops : Array Oper} {K : St → Prop} {Q : Exit → Act → World → Prop} (hd : ∀ (i : Nat) (o : Oper) (d : Tmp), ops[i]? = some o → o.dst = some d → d < E.N)
  (hQ : ∀ st a w, K st → KF W0 M0 E.N st a w → Q .normal a w) : ∀ (fuel : Nat) (l : Array Bool) (st : St) (a : Act) (w : World), Er W0 M0 calm E md ops K fuel l st → KF W0 M0 E.N st a w → wpAnyIn (Ma E.ρ) 0 P md ops Q fuel l a w := by
 intro fuel
 induction fuel with
 | zero => intro l st a w h hs; exact ⟨h.1, hQ _ _ _ h.2 hs⟩
 | succ fuel ih =>
  intro l st a w h hs
  refine ⟨fun hr => hQ _ _ _ (h.1 hr) hs, fun i hi => ?_⟩
  obtain ⟨_, o, ho, _⟩ := mem_ready.1 hi
  have h1 := MN (h.2 i hi o ho) (fun d hd' => hd i o d ho hd') hs Q
  unfold wpOpIn
  simp only [ho]
  split
  ·rename_i hw
   rw [if_pos hw] at h1
   exact (Oper.wpIn_mono (fun a' w' ⟨st', h2, h3⟩ => ih _ _ _ _ h2 h3) h1)
  ·rename_i hw
   rw [if_neg hw] at h1
   obtain ⟨st', h2, h3⟩ := h1
   exact ⟨fun _ _ => trivial, ih _ _ _ _ h2 h3⟩

theorem F0 {calm : List FuncId} {md : Region.Mode} {ops : Array Oper} {K : St → Prop} {i : Nat} {oi : Oper} (hi : ops[i]? = some oi) (ht : DY oi.op = true) {c : AV} (W : List Nat) (hiW : i ∈ W) :
  ∀ (fuel : Nat) (l : Array Bool) (st : St),
   (∀ j ∈ W, l.getD j false = false) → (∀ j ∈ W, j ≠ i → ∀ oj, ops[j]? = some oj → ∃ e ∈ oj.after, Region.binds md e = true ∧ e.on ∈ W) →
   (∀ j oj, ops[j]? = some oj → j ∉ W → l.getD j true = false → oi.apart ops oj = true ∧ (D3 oi.op = true ∨ Jd calm oj.dst oj.op = true)) →
   i ∈ Region.ready md ops l → VR W0 M0 E ops oi st c →
   Er W0 M0 calm E md ops K fuel (l.setIfInBounds i true) ⟨putD oi.dst c st.fr, st.H, st.n⟩ → Er W0 M0 calm E md ops K (fuel + 1) l st := by
 intro fuel
 induction fuel with
 | zero =>
  intro l st hWl hWa hfree hr hv H
  refine ⟨fun h => (by rw [h] at hr; cases hr), fun j hj o ho => ?_⟩
  by_cases hji : j = i
  ·subst hji
   rw [hi] at ho; cases ho
   exact OA hv H
  ·have := ready_mono hj hji
   rw [H.1] at this
   cases this
 | succ fuel ih =>
  intro l st hWl hWa hfree hr hv H
  refine ⟨fun h => (by rw [h] at hr; cases hr), fun j hj o ho => ?_⟩
  by_cases hji : j = i
  ·subst hji
   rw [hi] at ho; cases ho
   exact OA hv H
  ·obtain ⟨hjun, oj, hoj, hall⟩ := mem_ready.1 hj
   rw [ho] at hoj; cases hoj
   have hjW : j ∉ W := fun hjW => by
    obtain ⟨e, he, hb, hon⟩ := hWa j hjW hji o ho
    have := hall e he hb
    rw [hWl _ hon] at this; cases this
   obtain ⟨hap, hq⟩ := hfree j o ho hjW hjun
   have h2 := On hap ht hq hv (H.2 j (ready_mono hj hji) o ho)
   refine E1 (fun st' ⟨h3, h5⟩ => ?_) h2
   refine ih (l.setIfInBounds j true) st' (fun k hk => ?_) hWa (fun k ok hk hkW hun => ?_) (ready_mono hr (Ne.symm hji)) h3 ?_
   ·rw [getD_set_ne false (fun e : j = k => hjW (by rw [e]; exact hk))]; exact hWl k hk
   ·refine hfree k ok hk hkW ?_
    by_cases hjk : j = k
    ·subst hjk; exact hjun
    ·rw [getD_set_ne true hjk] at hun; exact hun
   ·rw [Array.setIfInBounds_comm _ _ hji]
    exact h5

def G4 (calm : List FuncId) (md : Region.Mode) (ops : Array Oper) (l : Array Bool) (i : Nat) : Bool :=
 match ops[i]? with
 | none => false
 | some oi => DY oi.op && (Region.ready md ops l).contains i && (fun W => W.contains i && W.all (fun j => !l.getD j false) &&
   W.all (fun j => j == i || match ops[j]? with | some oj => oj.after.any (fun e => Region.binds md e && W.contains e.on) | none => true) &&
   (List.range ops.size).all (fun j => W.contains j || l.getD j true || match ops[j]? with | some oj => oi.apart ops oj && (D3 oi.op || Jd calm oj.dst oj.op) | none => true)) (Hm md ops l i)

def H9 (calm : List FuncId) (md : Region.Mode) (ops : Array Oper) : Nat → Nat → Array Bool → Bool
 | 0, _, l => (Region.ready md ops l).isEmpty
 | k + 1, i, l => (G4 calm md ops l i || Region.ready md ops l == [i]) && H9 calm md ops k (i + 1) (l.setIfInBounds i true)

def NZ (calm : List FuncId) (N : Nat) (draw : Bool) (ops : Array Oper) : Bool :=
 ops.all (fun o => match o.dst with | some d => decide (d < N) | none => true) && (!draw || H9 calm .any ops ops.size 0 (Array.replicate ops.size false))

def AG (W0 : World) (M0 : Nat → Prop) (dr : Bool) (calm : List FuncId) (E : Bo P) (ops : Array Oper) (K : St → Prop) : List Oper → St → Prop
 | [], st => K st
 | o :: r, st => stepG W0 M0 dr calm E ops o st (AG W0 M0 dr calm E ops K r)

theorem WH {dr : Bool} {calm : List FuncId} {ops : Array Oper} {K : St → Prop} {Q : Exit → Act → World → Prop} (hQ : ∀ st a w, K st → KF W0 M0 E.N st a w → Q .normal a w) :
  ∀ (l : List Oper) (k : Nat) (st : St) (a : Act) (w : World), (∀ j, l[j]? = ops[k + j]?) → (∀ o ∈ l, ∀ d, o.dst = some d → d < E.N) → AG W0 M0 dr calm E ops K l st → KF W0 M0 E.N st a w → wpOpsIn (Ma E.ρ) 0 P ops Q (List.range' k l.length) a w := by
 intro l
 induction l with
 | nil => intro k st a w _ _ h hs; exact hQ _ _ _ h hs
 | cons o r ih =>
  intro k st a w hl hd h hs
  have ho : ops[k]? = some o := by have := hl 0; simpa using this.symm
  have h1 := MN (h : stepG W0 M0 dr calm E ops o st (AG W0 M0 dr calm E ops K r)) (hd o (by simp)) hs Q
  have ih' := fun st a w => ih (k + 1) st a w (fun j => by have := hl (j + 1); simpa [Nat.add_assoc, Nat.add_comm 1 j] using this) (fun o ho => hd o (by simp [ho]))
  simp only [List.length_cons, List.range'_succ, wpOpsIn, ho]
  split
  ·rename_i hw
   rw [if_pos hw] at h1
   exact (Oper.wpIn_mono (fun a' w' ⟨st', h2, h3⟩ => ih' _ _ _ h2 h3) h1)
  ·rename_i hw
   rw [if_neg hw] at h1
   obtain ⟨st', h2, h3⟩ := h1
   exact ⟨fun _ _ => trivial, ih' _ _ _ h2 h3⟩

theorem Ps {calm : List FuncId} {md : Region.Mode} {ops : Array Oper} {K : St → Prop} : ∀ (k i : Nat) (l : Array Bool) (r : List Oper) (st : St), r.length = k → (∀ j, r[j]? = ops[i + j]?) →
  H9 calm md ops k i l = true → AG W0 M0 true calm E ops K r st → Er W0 M0 calm E md ops K k l st := by
 intro k
 induction k with
 | zero =>
  intro i l r st hl _ hok h
  have : r = [] := List.eq_nil_of_length_eq_zero hl
  subst this
  exact ⟨by simpa [H9] using hok, h⟩
 | succ k ih =>
  intro i l r st hl hr hok h
  cases r with
  | nil => cases hl
  | cons o r =>
   have ho : ops[i]? = some o := by have := hr 0; simpa using this.symm
   have hr' : ∀ j, r[j]? = ops[i + 1 + j]? := fun j => by have := hr (j + 1); simpa [Nat.add_assoc, Nat.add_comm 1 j] using this
   simp only [H9, Bool.and_eq_true, Bool.or_eq_true] at hok
   have h' : stepG W0 M0 true calm E ops o st (AG W0 M0 true calm E ops K r) := h
   have next : ∀ st, AG W0 M0 true calm E ops K r st → Er W0 M0 calm E md ops K k (l.setIfInBounds i true) st := fun st hs => ih (i + 1) _ r st (by simpa using hl) hr' hok.2 hs
   rcases hok.1 with hf | hone
   ·simp only [G4, ho, Bool.and_eq_true] at hf
    obtain ⟨⟨ht, hrd⟩, ⟨⟨hiW, hWl⟩, hWa⟩, hfree⟩ := hf
    obtain ⟨c, hv, hK⟩ := GD ht h'
    generalize Hm md ops l i = W at *
    refine F0 ho ht W (by simpa using hiW) k l st (fun j hj => ?_) (fun j hj hne oj hoj => ?_) (fun j oj hoj hjW hun => ?_) (by simpa using hrd) hv (next _ hK)
    ·have := List.all_eq_true.1 hWl j hj
     simpa using this
    ·have := List.all_eq_true.1 hWa j hj
     simp only [hoj, Bool.or_eq_true, beq_iff_eq, hne, false_or] at this
     obtain ⟨e, he, hb⟩ := Array.any_eq_true'.1 this
     simp only [Bool.and_eq_true] at hb
     exact ⟨e, he, hb.1, by simpa using hb.2⟩
    ·have := List.all_eq_true.1 hfree j (List.mem_range.2 (Array.getElem?_eq_some_iff.1 hoj).1)
     simp only [hoj, Bool.or_eq_true, Bool.and_eq_true, hun, Bool.false_eq_true, or_false] at this
     rcases this with h1 | h1
     ·exact absurd (by simpa using h1) hjW
     ·exact ⟨h1.1, h1.2⟩
   ·have hone : Region.ready md ops l = [i] := by simpa using hone
    refine ⟨fun h0 => absurd (hone.symm.trans h0) (by simp), fun j hj oj hoj => ?_⟩
    rw [hone] at hj
    simp only [List.mem_singleton] at hj
    subst hj
    rw [ho] at hoj; cases hoj
    exact E1 next h'

theorem Hk (calm : List FuncId) (hm : P.follows .mixedOrders = true) {id : Nat} {l : List Oper} {draw : Bool} (hok : NZ calm E.N draw l.toArray = true) {st : St} {K : Exit → St → Prop} (h : AG W0 M0 draw calm E l.toArray (K .normal) l st) : VC E W0 M0 (.region id l.toArray draw) st K := by
 intro a w hs
 simp only [NZ, Bool.and_eq_true, Bool.or_eq_true, Bool.not_eq_true'] at hok
 have hd : ∀ o ∈ l, ∀ d, o.dst = some d → d < E.N := by
  intro o ho d hd
  have := Array.all_eq_true_iff_forall_mem.1 hok.1 o (by simpa using ho)
  rw [hd] at this
  simpa using this
 cases draw with
 | false => exact wpIn_region (by
   have := WH (E := E) (W0 := W0) (M0 := M0) (ops := l.toArray) (Q := AM E W0 M0 K) (fun st a w h1 h2 => ⟨st, h1, h2⟩) l 0 st a w (fun j => by simp) hd h hs
   simpa [List.range_eq_range'] using this)
 | true =>
  have hl : H9 calm .any l.toArray l.toArray.size 0 (Array.replicate l.toArray.size false) = true := by simpa using hok.2
  refine wpIn_region_any hm (I0 (calm := calm) (E := E) (W0 := W0) (M0 := M0) (K := K .normal) (fun i o d ho hdd => hd o (by
   have := List.mem_of_getElem? (l := l) (i := i) (by simpa using ho); exact this) d hdd) (fun st a w h1 h2 => ⟨st, h1, h2⟩) _ _ st a _ ?_ hs.drawn)
  exact Ps _ 0 _ l st (by simp) (fun j => by simp) hl h

/-! one operation at a time -/
section
variable {dr : Bool} {calm : List FuncId} {ops : Array Oper} {K : St → Prop} {o : Op} {d : Option Tmp} {t : TypeId} {p : String} {af : Array Edge} {r : List Oper} {fr : Nat → AV} {H H' : Ap} {n n' : Nat} {q : Prop} {c : AV} {b : Bool} {gd : Nat × Bool}
theorem Ab {st : St} (h : K st) : AG W0 M0 dr calm E ops K [] st := h
theorem Ac {l : List Oper} {fl : List (Nat × AV)} {bl : List (Option Bk)} (h : AG W0 M0 dr calm E ops K l ⟨G5 fl, As bl, bl.length⟩) : AG W0 M0 dr calm E ops K l (Gn fl bl) := h
theorem G8 (h : BZ E fr H n o = .v q c) (hn : Co fr o) (hq : q) (hk : AG W0 M0 dr calm E ops K r ⟨putD d c fr, H, n⟩) : AG W0 M0 dr calm E ops K (⟨d, o, t, p, af, none⟩ :: r) ⟨fr, H, n⟩ := by
 refine .inl ?_; unfold E2; simp only [HM, h]; exact ⟨hn, hq, fun _ => D8.refl _, hk⟩
theorem My (h : BZ E fr H n o = .h q c H' n') (hn : Co fr o) (hq : q) (hl : (dr && Dd calm d o) = true → D8 H H') (hk : AG W0 M0 dr calm E ops K r ⟨putD d c fr, H', n'⟩) : AG W0 M0 dr calm E ops K (⟨d, o, t, p, af, none⟩ :: r) ⟨fr, H, n⟩ := by
 refine .inl ?_; unfold E2; simp only [HM, h]; exact ⟨hn, hq, hl, hk⟩
theorem ET (hg : AP ops fr (some gd) = some (some b)) (h : BZ E fr H n o = .v q c) (hq : b = true → Co fr o ∧ q) (hk : AG W0 M0 dr calm E ops K r ⟨putD d (.cond b c) fr, H, n⟩) : AG W0 M0 dr calm E ops K (⟨d, o, t, p, af, some gd⟩ :: r) ⟨fr, H, n⟩ := by
 refine .inl ?_; unfold E2; simp only [hg, h]; exact ⟨hq, fun _ => D8.refl _, hk⟩
theorem V0 (hg : AP ops fr (some gd) = some (some b)) (h : BZ E fr H n o = .h q c H' n') (h1 : b = true → Co fr o ∧ q) (hl : (dr && Dd calm d o) = true → D8 H H') (h2 : b = true → AG W0 M0 dr calm E ops K r ⟨putD d c fr, H', n'⟩) (h3 : b = false → AG W0 M0 dr calm E ops K r ⟨putD d (.cond false .any) fr, H, n⟩) :
  AG W0 M0 dr calm E ops K (⟨d, o, t, p, af, some gd⟩ :: r) ⟨fr, H, n⟩ := by
 refine .inl ?_; unfold E2; simp only [hg, h]; exact ⟨fun hb => ⟨(h1 hb).1, (h1 hb).2, hl, h2 hb⟩, fun hb => ⟨fun _ => D8.refl _, h3 hb⟩⟩
theorem Av (hg : AP ops fr (some gd) = some (some false)) (hk : AG W0 M0 dr calm E ops K r ⟨putD d (.cond false .any) fr, H, n⟩) : AG W0 M0 dr calm E ops K (⟨d, o, t, p, af, some gd⟩ :: r) ⟨fr, H, n⟩ := .inr (.inl ⟨hg, hk⟩)
theorem AE (hm : (dr && Jd calm d o) = false) (h : CK W0 M0 E ⟨d, o, t, p, af, none⟩ ⟨fr, H, n⟩ (AG W0 M0 dr calm E ops K r)) : AG W0 M0 dr calm E ops K (⟨d, o, t, p, af, none⟩ :: r) ⟨fr, H, n⟩ := by
 have hm' : (dr && DY o) = false ∧ (dr && Dd calm d o) = false := by
  cases dr with
  | false => exact ⟨rfl, rfl⟩
  | true => simpa [Jd] using hm
 exact .inr (.inr (.inl ⟨.inl rfl, hm'.1, h.mono fun st hs => ⟨fun h => by (have := hm'.2; simp only at h; rw [this] at h; cases h), hs⟩⟩))
theorem OR (hq : D3 o = false) (h : Px W0 M0 E ⟨d, o, t, p, af, none⟩ ⟨fr, H, n⟩ c) (hk : AG W0 M0 dr calm E ops K r ⟨putD d c fr, H, n⟩) : AG W0 M0 dr calm E ops K (⟨d, o, t, p, af, none⟩ :: r) ⟨fr, H, n⟩ :=
 .inr (.inr (.inr ⟨.inl rfl, hq, c, h, hk⟩))
theorem U6 (hm : (dr && DY o) = false) (h : CK W0 M0 E ⟨d, o, t, p, af, none⟩ ⟨fr, H, n⟩ (fun st' => ((dr && Dd calm d o) = true → D8 H st'.H) ∧ AG W0 M0 dr calm E ops K r st')) : AG W0 M0 dr calm E ops K (⟨d, o, t, p, af, none⟩ :: r) ⟨fr, H, n⟩ := .inr (.inr (.inl ⟨.inl rfl, hm, h⟩))
end

theorem RZ (dr : Bool) (calm : List FuncId) (d : Option Tmp) (o : Op) (H : Ap) : (dr && Dd calm d o) = true → D8 H H := fun _ => D8.refl _
end
end Go.Vc
/- The Vc layer: operations known by what they do to worlds: nil tests of slices, cap, append of made rows, clear, append in place, slices beyond the length. -/
set_option linter.all false
namespace Go.Vc
open Go Go.RowKit
section
variable [AU] {P : Program} {E : Bo P} {W0 : World} {M0 : Nat → Prop} {w : World} {S : Lays} {n : Nat} {H : Ap} {fr : Nat → AV} {K : St → Prop} {d : Option Tmp} {t t' ty' : TypeId} {p : String} {af : Array Edge}

theorem CK.value {o : Oper} {st : St} (hd : ∀ c, o.op ≠ .defer c) (h : ∀ (a : Act) (w : World) (S : Lays), Ag W0 M0 st.H st.n w S → (∀ x ∈ o.op.operands.toList, R w S st.n (AL st.fr x) (a.eval x)) →
  ∃ c H' n' r w' S', (execOp a.eval o).run P w = .ok (.value r) w' ∧ Ag W0 M0 H' n' w' S' ∧ BS w S st.n w' S' n' ∧ R w' S' n' c r ∧ K ⟨putD o.dst c st.fr, H', n'⟩) : CK W0 M0 E o st K := by
 intro a w S h1 h2 Q
 obtain ⟨c, H', n', r, w', S', e1, e2, e3, e4, e5⟩ := h a w S h1 h2
 refine Ff hd ?_
 rw [e1]
 exact ⟨c, H', n', r, S', rfl, e2, e3, e4, e5⟩

def H0 : AV → Prop
 | .d (.sl xs) => xs = []
 | .d .nils => True
 | .sl _ _ len => len = 0
 | _ => False
def Pn (H : Ap) : AV → Option Unit
 | .d (.sl _) => some ()
 | .d .nils => some ()
 | .sl id _ _ => match H id with
  | some (.vec ..) => some ()
  | _ => none
 | _ => none

theorem Ts (hH : Ag W0 M0 H n w S) {x : AV} {v : Value} (h : Pn H x = some ()) (hx : R w S n x v) : ∃ a l c, v = .slice a l c ∧ (a.isNone = true → H0 x) ∧ (x = .d .nils → a.isNone = true) := by
 unfold Pn at h
 split at h
 ·cases hx with | d hx =>
  obtain ⟨a, cap, rfl, _⟩ := hx.slice_form
  refine ⟨a, _, cap, rfl, fun ha => ?_, fun e => by cases e⟩
  cases hx with
  | sl0 => rfl
  | sl => cases ha
 ·cases hx with | d hx =>
  cases hx
  exact ⟨none, 0, 0, rfl, fun _ => trivial, fun _ => rfl⟩
 ·rename_i id off len
  split at h
  ·rename_i hb
   obtain ⟨l, o, hS, ⟨_, _, _, _, hnil, _⟩, rfl, hcap, _, _⟩ := hx.sl_live hH hb
   refine ⟨_, _, _, rfl, fun ha => ?_, fun e => by cases e⟩
   cases hk : l.blk with
   | none => have := hnil hk; show len = 0; omega
   | some b => rw [hk] at ha; cases ha
  ·cases h
 ·cases h

theorem QG {e : TypeId} {s b : Nat} {z : List D} {x : Operand} {c : AV} (hx : A4 (AL fr x) = c) (hn : Bh (AL fr x)) (hty : E.X.ty t = some ⟨.slice e, s, b, z⟩) (hs : Pn H c = some ())
  (k : ∀ b : Bool, (b = true → H0 c) → (c = .d .nils → b = true) → K ⟨putD d (.d (.bool b)) fr, H, n⟩) : CK W0 M0 E ⟨d, .binOp .eql t x (.const (.slice none 0 0)) ty', t', p, af, none⟩ ⟨fr, H, n⟩ K := by
 refine .value (fun c h => by cases h) fun a w S hH hop => ?_
 have hR := (hop x (by simp [Op.operands])).bare_of hn
 rw [hx] at hR
 obtain ⟨ad, l, cp, hv, h1, h2⟩ := Ts hH hs hR
 refine ⟨_, H, n, .bool ad.isNone, w, S, ?_, hH, BS.refl _ _ _, R.mkBool _, k _ h1 h2⟩
 have hrun := Go.Lib.run_eql_slice_nil (P := P) w t e ad l cp 0 0 (E.X.facts hty).slice
 simp only [execOp, hv, show a.eval (.const (.slice none 0 0)) = .slice none 0 0 from rfl]
 simp [eqGuard, hrun]

theorem Gg {e : TypeId} {s b : Nat} {z : List D} {x : Operand} {c : AV} (hx : A4 (AL fr x) = c) (hn : Bh (AL fr x)) (hty : E.X.ty t = some ⟨.slice e, s, b, z⟩) (hs : Pn H c = some ())
  (k : ∀ b : Bool, (b = false → H0 c) → (c = .d .nils → b = false) → K ⟨putD d (.d (.bool b)) fr, H, n⟩) : CK W0 M0 E ⟨d, .binOp .neq t x (.const (.slice none 0 0)) ty', t', p, af, none⟩ ⟨fr, H, n⟩ K := by
 refine .value (fun c h => by cases h) fun a w S hH hop => ?_
 have hR := (hop x (by simp [Op.operands])).bare_of hn
 rw [hx] at hR
 obtain ⟨ad, l, cp, hv, h1, h2⟩ := Ts hH hs hR
 refine ⟨_, H, n, .bool !ad.isNone, w, S, ?_, hH, BS.refl _ _ _, R.mkBool _, k _ (fun h => h1 (by simpa using h)) (fun h => by simpa using h2 h)⟩
 have hrun := Go.run_neq_slice_nil (P := P) w t e ad l cp (E.X.facts hty).slice
 simp only [execOp, hv, show a.eval (.const (.slice none 0 0)) = .slice none 0 0 from rfl]
 simp [eqGuard, hrun]

/-! ### rows written in their place -/
theorem J0 (hH : Ag W0 M0 H n w S) {id k tb sz : Nat} {l : Lay} {xs : List (List D)} {cur : Array Value} (hb : H id = some (.vec tb sz xs)) (hS : S id = some l) (hk : l.blk = some k) (hcur : w.heap[k]? = some (.cells cur tb (0, 0)))
  {ys : List (List D)} {news : List Value} {e0 : Nat} (hr : Cs sz ys) (hnl : news.length = ys.length * sz) (he : e0 ≤ xs.length) (hfit : e0 + ys.length ≤ l.cap) (hc : ∀ e f c, CL ys e f = some c → ∃ u, news[e * sz + f]? = some u ∧ RD w (own S) c u) :
  Ag W0 M0 (Cf H id (some (.vec tb sz (Az xs e0 ys)))) n (w.setRow k (Az cur.toList (e0 * sz) news).toArray) S ∧ BS w S n (w.setRow k (Az cur.toList (e0 * sz) news).toArray) S n := by
 obtain ⟨l', hl', hsz, hcm, hxl, hz, hnil, hbk⟩ := hH.box id _ hb
 rw [hS] at hl'; cases hl'
 obtain ⟨cur', hcur', hsize, hcell⟩ := hbk k hk
 rw [hcur] at hcur'; cases hcur'
 subst hsz
 have hcs : cur.size = l.cap * l.sz := hsize
 have hmul : e0 * l.sz + news.length ≤ cur.size := by
  rw [hcs, hnl, ← Nat.add_mul]; exact Nat.mul_le_mul_right _ hfit
 refine hH.write (w' := w.setRow k (Az cur.toList (e0 * l.sz) news).toArray) hS hk (hH.plain id l _ hb hS rfl) _ (by rw [hb]; rfl) (by simp) rfl rfl (CX _ _ _) (fun d hd => setRow_other w k d _ hd) (fun hE => ?_)
 refine ⟨rfl, hcm, ?_, fun y hy => ?_, hnil, fun k' hk' => ?_⟩
 ·simp only [Az, List.length_append, List.length_take, List.length_drop]; omega
 ·simp only [Az, List.mem_append] at hy
  rcases hy with (hy | hy) | hy
  ·exact hz y (List.mem_of_mem_take hy)
  ·exact hr y hy
  ·exact hz y (List.mem_of_mem_drop hy)
 ·rw [hk] at hk'; cases hk'
  refine ⟨_, setRow_heap w k cur _ tb (0, 0) hcur, ?_, fun e' f' c hh => ?_⟩
  ·simp only [List.size_toArray]
   rw [Cd (by simpa using hmul)]
   simpa using hsize
  ·obtain ⟨row', hrow', hf'⟩ := Bi hh
   simp only [List.getElem?_toArray]
   rw [Dj (by simpa using hmul)]
   have hl1 : (xs.take e0).length = e0 := by rw [List.length_take]; omega
   have hrl : row'.length = l.sz := by
    have : row' ∈ Az xs e0 ys := List.mem_of_getElem? hrow'
    simp only [Az, List.mem_append] at this
    rcases this with (hy | hy) | hy
    ·exact hz _ (List.mem_of_mem_take hy)
    ·exact hr _ hy
    ·exact hz _ (List.mem_of_mem_drop hy)
   have hfl : f' < l.sz := by rw [← hrl]; exact (List.getElem?_eq_some_iff.1 hf').1
   unfold Az at hrow'
   by_cases h1 : e' < e0
   ·rw [List.append_assoc, List.getElem?_append_left (by omega), List.getElem?_take, if_pos h1] at hrow'
    have : e' * l.sz + f' < e0 * l.sz := by
     have := Nat.mul_le_mul_right l.sz (show e' + 1 ≤ e0 from h1); rw [Nat.add_mul] at this; omega
    rw [if_neg (by omega), Array.getElem?_toList]
    obtain ⟨u, hu, hR⟩ := hcell e' f' c (by simp [CL, hrow', hf'])
    exact ⟨u, hu, hE.rd hR⟩
   ·by_cases h2 : e' < e0 + ys.length
    ·rw [List.getElem?_append_left (by rw [List.length_append]; omega), List.getElem?_append_right (by omega), hl1] at hrow'
     obtain ⟨u, hu, hR⟩ := hc (e' - e0) f' c (by simp [CL, hrow', hf'])
     have e1 : e' * l.sz = e0 * l.sz + (e' - e0) * l.sz := by rw [← Nat.add_mul]; congr 1; omega
     have e2 : (e' - e0) * l.sz + f' < news.length := (List.getElem?_eq_some_iff.1 hu).1
     rw [if_pos ⟨by omega, by omega⟩, show e' * l.sz + f' - e0 * l.sz = (e' - e0) * l.sz + f' by omega]
     exact ⟨u, hu, hE.rd hR⟩
    ·rw [List.getElem?_append_right (by rw [List.length_append]; omega), List.getElem?_drop, List.length_append, hl1, show e0 + ys.length + (e' - (e0 + ys.length)) = e' by omega] at hrow'
     have : e0 * l.sz + news.length ≤ e' * l.sz := by rw [hnl, ← Nat.add_mul]; exact Nat.mul_le_mul_right _ (by omega)
     rw [if_neg (by omega), Array.getElem?_toList]
     obtain ⟨u, hu, hR⟩ := hcell e' f' c (by simp [CL, hrow', hf'])
     exact ⟨u, hu, hE.rd hR⟩

theorem Bx.short {tb sz : Nat} {xs ys : List (List D)} {l : Lay} (h : Bx w S n (.vec tb sz (xs ++ ys)) l) : Bx w S n (.vec tb sz xs) l := by
 obtain ⟨h1, h2, h3, h4, h5, h6⟩ := h
 refine ⟨h1, h2, by rw [List.length_append] at h3; omega, fun x hx => h4 x (by simp [hx]), h5, fun b hb => ?_⟩
 obtain ⟨cur, e1, e2, e3⟩ := h6 b hb
 refine ⟨cur, e1, e2, fun e f c hh => e3 e f c ?_⟩
 obtain ⟨x, hx, hf⟩ := Bi hh
 simp [CL, List.getElem?_append_left (List.getElem?_eq_some_iff.1 hx).1, hx, hf]

theorem Ag.short (hH : Ag W0 M0 H n w S) {id tb sz : Nat} {xs ys : List (List D)} (hb : H id = some (.vec tb sz (xs ++ ys))) : Ag W0 M0 (Cf H id (some (.vec tb sz xs))) n w S := by
 refine ⟨hH.bnd, hH.lt2, fun i b h => ?_, hH.inj2, hH.nod, fun i l b h1 h2 h3 => ?pl, fun i l b h1 h2 h3 => ?_, hH.os, hH.tape, hH.output, hH.size, hH.same, hH.far, hH.pin, hH.gl⟩
 case pl =>
  rw [A2] at h1
  split at h1
  ·rename_i hi; subst hi; exact hH.plain i l _ hb h2 rfl
  ·exact hH.plain i l b h1 h2 h3
 ·rw [A2] at h
  split at h
  ·rename_i hi; subst hi; cases h
   obtain ⟨l, h1, h2⟩ := hH.box i _ hb
   exact ⟨l, h1, h2.short⟩
  ·exact hH.box i b h
 ·rw [A2] at h1
  split at h1
  ·rename_i hi; subst hi; exact hH.mut2 i l b (by rw [hb]; rfl) h2 h3
  ·exact hH.mut2 i l b h1 h2 h3

end
end Go.Vc
/- The Vc layer: clear; append of made rows. -/
set_option linter.all false
namespace Go.Vc
open Go Go.RowKit
section
variable [AU] {P : Program} {E : Bo P} {W0 : World} {M0 : Nat → Prop} {w : World} {S : Lays} {n : Nat} {H : Ap} {fr : Nat → AV} {K : St → Prop} {d : Option Tmp} {t t' ty' : TypeId} {p : String} {af : Array Edge}

theorem CI {z : Array Value} {m j : Nat} (hj : j < m * z.size) : ∃ u, (Builtin.zeroCells z m)[j]? = some u ∧ z[j % z.size]? = some u := by
 have hz : 0 < z.size := by
  rcases Nat.eq_zero_or_pos z.size with h | h
  ·rw [h] at hj; omega
  ·exact h
 have hm := Nat.mod_lt j hz
 refine ⟨z[j % z.size], ?_, by simp [hm]⟩
 simp [Builtin.zeroCells, hj, hm]

theorem QF {e : TypeId} {s b s' b' sz : Nat} {z z' : List D} {z0 : D} {sh : Sh} {x : Operand} {id off len : Nat} {xs : List (List D)} (hx : A4 (AL fr x) = .sl id off len) (hn : Bh (AL fr x)) (hbx : H id = some (.vec e sz xs)) (hty : E.X.ty t = some ⟨.slice e, s, b, z⟩)
  (hte : E.X.ty e = some ⟨sh, s', b', z0 :: z'⟩) (hsz : s' = sz) (k : K ⟨putD d .any fr, Cf H id (some (.vec e sz (xs.take off))), n⟩) : CK W0 M0 E ⟨d, .call ⟨.builtin .clear, #[x], #[t]⟩, ty', p, af, none⟩ ⟨fr, H, n⟩ K := by
 refine .value (fun c h => by cases h) fun a w S hH hop => ?_
 have hR := (hop x (by simp [Op.operands, Call.operands])).bare_of hn
 rw [hx] at hR
 obtain ⟨lay, o, hS, hbox, hv, hcap, ho, h0⟩ := hR.sl_live hH hbx
 have hu := (E.X.facts hty).slice
 have hshort : Ag W0 M0 (Cf H id (some (.vec e sz (xs.take off)))) n w S := hH.short (ys := xs.drop off) (by rw [List.take_append_drop]; exact hbx)
 have exec : ∀ {w' : World}, (Builtin.clear_ #[t] ty' #[a.eval x]).run P w = .ok (.tuple #[]) w' → (execOp a.eval ⟨d, .call ⟨.builtin .clear, #[x], #[t]⟩, ty', p, af, none⟩).run P w = .ok (.value (.tuple #[])) w' := by
  intro w' hrun
  simp only [execOp, resolve, invoke, builtin, Sem.run_bind, Sem.run_pure, Result.andThen_ok, List.map_toArray, List.map_cons, List.map_nil]
  rw [hrun]; rfl
 by_cases hl0 : len = 0
 ·subst hl0
  refine ⟨_, _, n, _, w, S, exec ?_, hshort, BS.refl _ _ _, .any _, k⟩
  rw [hv]
  simp [Builtin.clear_, run_underlying hu]
  cases lay.blk <;> simp
 ·have hbox' := hbox
  obtain ⟨hsz', hcm, hxl, hz, hnil, hbk⟩ := hbox'
  cases hk : lay.blk with
  | none => have := hnil hk; omega
  | some g =>
   obtain ⟨cur, hcur, hsize, hcell⟩ := hbk g hk
   obtain ⟨i, zv, hi, his, hib, hzv, hzs, hzero⟩ := (E.X.facts hte).info
   obtain ⟨hzl, hzr⟩ := hzero (by simp)
   simp only at his hzs hzl
   have hes : sz = lay.sz := hsz'.symm
   have ho' := ho (by omega)
   have hzlen : (Builtin.zeroCells zv.cells len).toList.length = len * sz := by simp [Builtin.zeroCells, hzs, hsz]
   have hzsz : (Builtin.zeroCells zv.cells len).size = len * sz := by simpa using hzlen
   have hfit : off * sz + len * sz ≤ cur.size := by rw [hsize, ← Nat.add_mul]; exact Nat.mul_le_mul_right _ hcap
   have hrun := run_storeCells_at (P := P) g (off * sz) e (Builtin.zeroCells zv.cells len).toList 0 cur w hcur (by rw [hzlen]; omega) (fun u hu => by
    obtain ⟨j, hj⟩ := List.getElem?_of_mem hu
    rw [Array.getElem?_toList] at hj
    have hjl : j < len * zv.cells.size := by
     have := (Array.getElem?_eq_some_iff.1 hj).1
     simpa [Builtin.zeroCells] using this
    obtain ⟨u', h1, h2⟩ := CI hjl
    rw [hj] at h1; cases h1
    have hlt := (Array.getElem?_eq_some_iff.1 h2).1
    have hlt' : j % zv.cells.size < (z0 :: z').length := by omega
    exact (hzr w (fun _ => False) _ _ _ (List.getElem?_eq_getElem hlt') h2).one)
   simp only [Nat.add_zero] at hrun
   obtain ⟨hH', hE⟩ := hshort.write (w' := w.setRow g (Az cur.toList (off * sz) (Builtin.zeroCells zv.cells len).toList).toArray) hS hk (hH.plain _ lay _ hbx hS rfl) (.vec e sz (xs.take off)) (by rw [A2, if_pos rfl]; rfl) rfl rfl rfl (CX _ _ _) (fun d hd => setRow_other w g d _ hd) (fun hE => by
    refine ⟨hsz', hcm, by rw [List.length_take]; omega, fun y hy => hz y (List.mem_of_mem_take hy), hnil, fun k' hk' => ?_⟩
    rw [hk] at hk'; cases hk'
    refine ⟨_, setRow_heap w g cur _ e (0, 0) hcur, ?_, fun e1 f1 c1 hh => ?_⟩
    ·simp only [List.size_toArray]
     rw [Cd (by simp only [Array.length_toList]; rw [hzsz]; exact hfit)]
     simpa using hsize
    ·obtain ⟨row, hrow, hf⟩ := Bi hh
     rw [List.getElem?_take] at hrow
     split at hrow
     ·rename_i h1
      obtain ⟨u, hu, hR⟩ := hcell e1 f1 c1 (by simp [CL, hrow, hf])
      have hfl : f1 < sz := by rw [← hz row (List.mem_of_getElem? hrow)]; exact (List.getElem?_eq_some_iff.1 hf).1
      have : e1 * sz + f1 < off * sz := by
       have := Nat.mul_le_mul_right sz (show e1 + 1 ≤ off from h1); rw [Nat.add_mul] at this; omega
      refine ⟨u, ?_, hE.rd hR⟩
      simp only [List.getElem?_toArray]
      rw [Dj (by simp only [Array.length_toList]; rw [hzsz]; exact hfit), if_neg (by omega), Array.getElem?_toList]
      exact hu
     ·cases hrow)
   have e2 : Cf (Cf H id (some (.vec e sz (xs.take off)))) id (some (.vec e sz (xs.take off))) = Cf H id (some (.vec e sz (xs.take off))) := by
    funext j; simp only [A2]; split <;> rfl
   rw [e2] at hH'
   refine ⟨_, _, n, _, _, S, exec ?_, hH', hE, .any _, k⟩
   rw [hv, hk]
   obtain ⟨m, rfl⟩ : ∃ m, len = m + 1 := ⟨len - 1, by omega⟩
   have hzv' : ∀ w, (zeroValue e).run P w = .ok zv w := fun w => by simp [zeroValue, typeInfo, hi, hzv]
   rw [ho', ← hes]
   simp [Builtin.clear_, run_underlying hu, hzv', hrun, Az]

theorem QZ (z : Array Value) (a b : Nat) : Builtin.zeroCells z a ++ Builtin.zeroCells z b = Builtin.zeroCells z (a + b) := by
 apply Array.ext_getElem?
 intro j
 rw [Array.getElem?_append]
 have hsz : ∀ m, (Builtin.zeroCells z m).size = m * z.size := fun m => by simp [Builtin.zeroCells]
 rw [hsz]
 split
 ·rename_i h
  obtain ⟨u, h1, h2⟩ := CI h
  obtain ⟨u', h3, h4⟩ := CI (z := z) (m := a + b) (j := j) (by rw [Nat.add_mul]; omega)
  rw [h2] at h4; cases h4
  rw [h1, h3]
 ·rename_i h
  by_cases hb : j < (a + b) * z.size
  ·have hb' : j - a * z.size < b * z.size := by rw [Nat.add_mul] at hb; omega
   obtain ⟨u, h1, h2⟩ := CI hb'
   obtain ⟨u', h3, h4⟩ := CI hb
   have hm : (j - a * z.size) % z.size = j % z.size := by
    have e0 : a * z.size = z.size * a := Nat.mul_comm _ _
    conv => rhs; rw [show j = (j - a * z.size) + z.size * a by omega]
    rw [Nat.add_mul_mod_self_left]
   rw [hm, h4] at h2; cases h2
   rw [h1, h3]
  ·rw [Array.getElem?_eq_none (by rw [hsz, ]; rw [Nat.add_mul] at hb; omega), Array.getElem?_eq_none (by rw [hsz]; omega)]

end
end Go.Vc
/- The Vc layer: boxes as lists: rewriting rules. -/
set_option linter.all false
namespace Go.Vc
open Go Go.RowKit

def BI : List (Option Bk) → Nat → Option Bk → List (Option Bk)
 | [], 0, b => [b]
 | [], i + 1, b => none :: BI [] i b
 | _ :: l, 0, b => b :: l
 | x :: l, i + 1, b => x :: BI l i b

theorem Mi (i : Nat) : As [] i = none := rfl
theorem PZ (b : Option Bk) (l : List (Option Bk)) : As (b :: l) 0 = b := by simp [As]
theorem Cq (b : Option Bk) (l : List (Option Bk)) (i : Nat) : As (b :: l) (i + 1) = As l i := by simp [As]

theorem PY : ∀ (i : Nat) (l : List (Option Bk)) (b : Option Bk) (j : Nat), As (BI l i b) j = if j = i then b else As l j := by
 intro i
 induction i with
 | zero =>
  intro l b j
  cases l with
  | nil => cases j with
   | zero => simp [BI, As]
   | succ j => simp [BI, As]
  | cons x l => cases j with
   | zero => simp [BI, As]
   | succ j => simp [BI, As]
 | succ i ih =>
  intro l b j
  cases l with
  | nil => cases j with
   | zero => simp [BI, As]
   | succ j => rw [BI, Cq, ih, Mi, Mi]; simp
  | cons x l => cases j with
   | zero => simp [BI, As]
   | succ j => rw [BI, Cq, ih, Cq]; simp
theorem D5 (l : List (Option Bk)) (i : Nat) (b : Option Bk) : Cf (As l) i b = As (BI l i b) := by
 funext j; rw [PY]; rfl

def AS (B : List Nat) : List (Option Bk) → Nat → List (Option Bk)
 | [], _ => []
 | b :: r, i => (if i ∈ B then none else b) :: AS B r (i + 1)
theorem EP (B : List Nat) : ∀ (l : List (Option Bk)) (k j : Nat), As (AS B l k) j = if k + j ∈ B then none else As l j := by
 intro l
 induction l with
 | nil => intro k j; simp [AS, As]
 | cons b r ih =>
  intro k j
  cases j with
  | zero => simp [AS, As]
  | succ j => rw [AS, Cq, ih, Cq, show k + 1 + j = k + (j + 1) by omega]
theorem Qg (B : List Nat) (l : List (Option Bk)) : Bj B (As l) = As (AS B l 0) := by
 funext j; rw [EP]; simp [Bj]

/-! ### calls that hand boxes over -/
def Ji (ds B : List Nat) (n : Nat) (bf : List (Option Bk)) : List (Option Bk) → Nat → List (Option Bk)
 | [], _ => []
 | b :: r, i => (if i ∈ B then none else match C6 ds i with | some j => DA ds n (As bf j) | none => b) :: Ji ds B n bf r (i + 1)
def Li (ds : List Nat) (n : Nat) : List (Option Bk) → List (Option Bk)
 | [] => []
 | b :: r => DA ds n b :: Li ds n r
def Kk : List Nat → Nat → Prop
 | [], _ => True
 | b :: r, n => b < n ∧ Kk r n

theorem M7 (ds B : List Nat) (n : Nat) (bf : List (Option Bk)) : ∀ (l : List (Option Bk)) (k : Nat), (Ji ds B n bf l k).length = l.length := by
 intro l
 induction l with
 | nil => intro k; rfl
 | cons b r ih => intro k; simp [Ji, ih]
theorem PX (ds B : List Nat) (n : Nat) (bf : List (Option Bk)) : ∀ (l : List (Option Bk)) (k j : Nat), j < l.length → As (Ji ds B n bf l k) j = if k + j ∈ B then none else match C6 ds (k + j) with | some m => DA ds n (As bf m) | none => As l j := by
 intro l
 induction l with
 | nil => intro k j h; simp at h
 | cons b r ih =>
  intro k j h
  cases j with
  | zero => simp [Ji, As]
  | succ j => rw [Ji, Cq, ih _ _ (by simpa using h), Cq, show k + 1 + j = k + (j + 1) by omega]
theorem PW (ds : List Nat) (n : Nat) : ∀ (l : List (Option Bk)) (j : Nat), As (Li ds n l) j = DA ds n (As l j) := by
 intro l
 induction l with
 | nil => intro j; rfl
 | cons b r ih =>
  intro j
  cases j with
  | zero => simp [Li, As]
  | succ j => rw [Li, Cq, ih, Cq]
theorem H5 {l m : List (Option Bk)} {j : Nat} (h : j < l.length) : As (l ++ m) j = As l j := by simp [As, List.getElem?_append_left h]
theorem GV {l m : List (Option Bk)} {j : Nat} (h : l.length ≤ j) : As (l ++ m) j = As m (j - l.length) := by simp [As, List.getElem?_append_right h]
theorem PV (l : List (Option Bk)) (k j : Nat) : As (l.drop k) j = As l (k + j) := by simp [As, List.getElem?_drop]

theorem Sy : ∀ {B : List Nat} {n i : Nat}, Kk B n → i ∈ B → i < n := by
 intro B
 induction B with
 | nil => intro n i _ h; cases h
 | cons b r ih =>
  intro n i h hi
  rcases List.mem_cons.1 hi with rfl | hi
  ·exact h.1
  ·exact ih h.2 hi

theorem GU {ds B : List Nat} {n : Nat} {bl bf : List (Option Bk)} (hn : bl.length = n) (hB : Kk B n) : Bj B (Dm ds n (As bl) (L6 ds n (BE ds (As bl)) bf)) = As (Ji ds B n bf bl 0 ++ Li ds n (bf.drop ds.length)) := by
 funext j
 have hol := M7 ds B n bf bl 0
 by_cases hj : j < n
 ·rw [H5 (by omega), PX _ _ _ _ _ _ _ (by omega), Nat.zero_add]
  show (if j ∈ B then none else Dm ds n (As bl) (L6 ds n (BE ds (As bl)) bf) j) = _
  split
  ·rfl
  ·unfold Dm
   cases hx : C6 ds j with
   | none =>
    have := Gb hx
    rw [if_neg (by rintro (h | h); exact this h; omega)]
   | some m =>
    have := Mu hx
    rw [if_pos (.inl this)]
    unfold L6
    rw [if_pos hj, hx]
 ·rw [GV (by omega), PW, PV, hol, hn]
  show (if j ∈ B then none else Dm ds n (As bl) (L6 ds n (BE ds (As bl)) bf) j) = _
  rw [if_neg (fun h => hj (Sy hB h))]
  unfold Dm L6
  rw [if_pos (.inr (by omega)), if_neg hj]
theorem H4 {ds : List Nat} {n : Nat} {bl bf : List (Option Bk)} (hn : bl.length = n) : Dm ds n (As bl) (L6 ds n (BE ds (As bl)) bf) = As (Ji ds [] n bf bl 0 ++ Li ds n (bf.drop ds.length)) := by
 rw [← GU hn (B := []) trivial]
 funext j; simp [Bj]

theorem R3 : (∀ b, BI [] 0 b = [b]) ∧ (∀ i b, BI [] (i + 1) b = none :: BI [] i b) ∧ (∀ x l b, BI (x :: l) 0 b = b :: l) ∧ (∀ x l i b, BI (x :: l) (i + 1) b = x :: BI l i b) ∧
  (∀ B i, AS B [] i = []) ∧ (∀ B b r i, AS B (b :: r) i = (if i ∈ B then none else b) :: AS B r (i + 1)) ∧
  (∀ ds B n bf i, Ji ds B n bf [] i = []) ∧ (∀ ds B n bf b r i, Ji ds B n bf (b :: r) i = (if i ∈ B then none else match C6 ds i with | some j => DA ds n (As bf j) | none => b) :: Ji ds B n bf r (i + 1)) ∧
  (∀ ds n, Li ds n [] = []) ∧ (∀ ds n b r, Li ds n (b :: r) = DA ds n b :: Li ds n r) ∧ (∀ n, Kk [] n = True) ∧ (∀ b r n, Kk (b :: r) n = (b < n ∧ Kk r n)) :=
 ⟨fun _ => rfl, fun _ _ => rfl, fun _ _ _ => rfl, fun _ _ _ _ => rfl, fun _ _ => rfl, fun _ _ _ _ => rfl, fun _ _ _ _ _ => rfl, fun _ _ _ _ _ _ _ => rfl, fun _ _ => rfl, fun _ _ _ _ => rfl, fun _ => rfl, fun _ _ _ => rfl⟩

theorem Sa : (∀ i o l, KV (.sl i o l) = [i]) ∧ (∀ i o l, KV (.ptr i o l) = [i]) ∧ (∀ x, KV (.d x) = []) ∧ (KV .any = []) ∧ (∀ z xs e f, KV (.ip z xs e f) = []) ∧ (JB [] = []) ∧ (∀ c cs, JB (c :: cs) = KV c ++ JB cs) ∧
  (∀ cs, JA (.agg cs) = JB cs) ∧ (∀ f cs, JA (.clo f cs) = JB cs) ∧ (∀ i o l, JA (.sl i o l) = [i]) ∧ (∀ i o l, JA (.ptr i o l) = [i]) ∧ (∀ x, JA (.d x) = []) ∧ (JA .any = []) ∧ (∀ z xs e f, JA (.ip z xs e f) = []) ∧
  (Mk [] = []) ∧ (∀ c cs, Mk (c :: cs) = JA c ++ Mk cs) ∧ (∀ t cs, Qc (some (.one t cs)) = JB cs) ∧ (∀ t s xs, Qc (some (.vec t s xs)) = []) ∧ (Qc none = []) ∧ (∀ l, Ds l [] = l) ∧ (∀ l i r, Ds l (i :: r) = if i ∈ l then Ds l r else Ds (l ++ [i]) r) ∧
  (∀ H, Kf H [] = []) ∧ (∀ H i r, Kf H (i :: r) = Qc (H i) ++ Kf H r) ∧ (∀ args H, HR args H = Ds (Ds [] (Mk args)) (Kf H (Ds [] (Mk args)))) ∧
  (∀ i, C6 [] i = none) ∧ (∀ d r i, C6 (d :: r) i = if i = d then some 0 else (C6 r i).map (· + 1)) ∧ (Dw [] = true) ∧ (∀ d r, Dw (d :: r) = if d ∈ r then false else Dw r) ∧ (∀ i, KV (.mp i) = [i]) ∧ (∀ i, JA (.mp i) = [i]) ∧ (∀ o, Qc (some (.ob o)) = []) := by
 refine ⟨fun _ _ _ => rfl, fun _ _ _ => rfl, fun _ => rfl, rfl, fun _ _ _ _ => rfl, rfl, fun _ _ => rfl, fun _ => rfl, fun _ _ => rfl, fun _ _ _ => rfl, fun _ _ _ => rfl, fun _ => rfl, rfl, fun _ _ _ _ => rfl, rfl, fun _ _ => rfl, fun _ _ => rfl, fun _ _ _ => rfl, rfl, fun _ => rfl, fun l i r => ?_, fun _ => rfl, fun _ _ _ => rfl, fun _ _ => rfl, fun _ => rfl, fun d r i => ?_, rfl, fun d r => ?_, fun _ => rfl, fun _ => rfl, fun _ => rfl⟩
 ·by_cases h : i ∈ l
  ·simp [Ds, h]
  ·simp [Ds, h]
 ·by_cases hi : i = d
  ·simp [C6, hi]
  ·cases h : C6 r i <;> simp [C6, hi, h]
 ·by_cases h : d ∈ r <;> simp [Dw, h]

theorem So : (∀ ds i o l, JD ds (.sl i o l) = (C6 ds i).map fun j => .sl j o l) ∧ (∀ ds i e f, JD ds (.ptr i e f) = (C6 ds i).map fun j => .ptr j e f) ∧ (∀ ds x, JD ds (.d x) = some (.d x)) ∧ (∀ ds z xs e f, JD ds (.ip z xs e f) = some (.ip z xs e f)) ∧ (∀ ds, JD ds .any = some .any) ∧
  (∀ ds, Mt ds [] = some []) ∧ (∀ ds c cs, Mt ds (c :: cs) = (JD ds c).bind fun x => (Mt ds cs).map (x :: ·)) ∧ (∀ ds cs, JE ds (.agg cs) = (Mt ds cs).map .agg) ∧ (∀ ds f cs, JE ds (.clo f cs) = (Mt ds cs).map (.clo f)) ∧
  (∀ ds i o l, JE ds (.sl i o l) = (C6 ds i).map fun j => .sl j o l) ∧ (∀ ds i e f, JE ds (.ptr i e f) = (C6 ds i).map fun j => .ptr j e f) ∧ (∀ ds x, JE ds (.d x) = some (.d x)) ∧ (∀ ds z xs e f, JE ds (.ip z xs e f) = some (.ip z xs e f)) ∧ (∀ ds, JE ds .any = some .any) ∧
  (∀ ds, Si ds [] = some []) ∧ (∀ ds c cs, Si ds (c :: cs) = (JE ds c).bind fun x => (Si ds cs).map (x :: ·)) ∧ (∀ ds t s xs, FG ds (some (.vec t s xs)) = some (.vec t s xs)) ∧ (∀ ds t cs, FG ds (some (.one t cs)) = (Mt ds cs).map (.one t)) ∧ (∀ ds, FG ds none = none) ∧
  (∀ ds H, GX ds H [] = some []) ∧ (∀ ds H d r, GX ds H (d :: r) = (FG ds (H d)).bind fun b => (GX ds H r).map (some b :: ·)) ∧ (∀ ds i, JD ds (.mp i) = (C6 ds i).map fun j => .mp j) ∧ (∀ ds i, JE ds (.mp i) = (C6 ds i).map fun j => .mp j) ∧ (∀ ds o, FG ds (some (.ob o)) = some (.ob o)) := by
 refine ⟨fun ds i o l => ?_, fun ds i o l => ?_, fun _ _ => rfl, fun _ _ _ _ _ => rfl, fun _ => rfl, fun _ => rfl, fun ds c cs => ?_, fun ds cs => ?_, fun ds f cs => ?_, fun ds i o l => ?_, fun ds i o l => ?_, fun _ _ => rfl, fun _ _ _ _ _ => rfl, fun _ => rfl, fun _ => rfl, fun ds c cs => ?_, fun _ _ _ _ => rfl, fun ds t cs => ?_, fun _ => rfl, fun _ _ => rfl, fun ds H d r => ?_, fun ds i => ?_, fun ds i => ?_, fun _ _ => rfl⟩
 ·cases h : C6 ds i <;> simp [JD, h]
 ·cases h : C6 ds i <;> simp [JD, h]
 ·rw [Mt]; cases JD ds c <;> cases Mt ds cs <;> rfl
 ·cases h : Mt ds cs <;> simp [JE, h]
 ·cases h : Mt ds cs <;> simp [JE, h]
 ·cases h : C6 ds i <;> simp [JE, JD, h]
 ·cases h : C6 ds i <;> simp [JE, JD, h]
 ·rw [Si]; cases JE ds c <;> cases Si ds cs <;> rfl
 ·cases h : Mt ds cs <;> simp [FG, h]
 ·rw [GX]; cases FG ds (H d) <;> cases GX ds H r <;> rfl
 ·cases h : C6 ds i <;> simp [JD, h]
 ·cases h : C6 ds i <;> simp [JE, JD, h]

theorem SU : (∀ n i, J1 [] n i = n + i) ∧ (∀ d ds n, J1 (d :: ds) n 0 = d) ∧ (∀ d ds n i, J1 (d :: ds) n (i + 1) = J1 ds n i) ∧ (∀ ds n i o l, SO ds n (.sl i o l) = .sl (J1 ds n i) o l) ∧ (∀ ds n i e f, SO ds n (.ptr i e f) = .ptr (J1 ds n i) e f) ∧ (∀ ds n x, SO ds n (.d x) = .d x) ∧
  (∀ ds n z xs e f, SO ds n (.ip z xs e f) = .ip z xs e f) ∧ (∀ ds n, SO ds n .any = .any) ∧ (∀ ds n, L7 ds n [] = []) ∧ (∀ ds n c cs, L7 ds n (c :: cs) = SO ds n c :: L7 ds n cs) ∧ (∀ ds n, Ie ds n [] = []) ∧ (∀ ds n c cs, Ie ds n (c :: cs) = OX ds n c :: Ie ds n cs) ∧
  (∀ ds n cs, OX ds n (.agg cs) = .agg (L7 ds n cs)) ∧ (∀ ds n f cs, OX ds n (.clo f cs) = .clo f (L7 ds n cs)) ∧ (∀ ds n i o l, OX ds n (.sl i o l) = .sl (J1 ds n i) o l) ∧ (∀ ds n i e f, OX ds n (.ptr i e f) = .ptr (J1 ds n i) e f) ∧ (∀ ds n x, OX ds n (.d x) = .d x) ∧
  (∀ ds n z xs e f, OX ds n (.ip z xs e f) = .ip z xs e f) ∧ (∀ ds n, OX ds n .any = .any) ∧ (∀ ds n cs, Qw ds n (.tup cs) = .tup (Ie ds n cs)) ∧ (∀ ds n cs, Qw ds n (.agg cs) = .agg (L7 ds n cs)) ∧ (∀ ds n f cs, Qw ds n (.clo f cs) = .clo f (L7 ds n cs)) ∧
  (∀ ds n i o l, Qw ds n (.sl i o l) = .sl (J1 ds n i) o l) ∧ (∀ ds n i e f, Qw ds n (.ptr i e f) = .ptr (J1 ds n i) e f) ∧ (∀ ds n x, Qw ds n (.d x) = .d x) ∧ (∀ ds n, Qw ds n .any = .any) ∧ (∀ ds n t s xs, DA ds n (some (.vec t s xs)) = some (.vec t s xs)) ∧ (∀ ds n t cs, DA ds n (some (.one t cs)) = some (.one t (L7 ds n cs))) ∧ (∀ ds n, DA ds n none = none) ∧
  (CT [] = true) ∧ (∀ b r, CT (some b :: r) = CT r) ∧ (∀ ds n i, SO ds n (.mp i) = .mp (J1 ds n i)) ∧ (∀ ds n i, OX ds n (.mp i) = .mp (J1 ds n i)) ∧ (∀ ds n i, Qw ds n (.mp i) = .mp (J1 ds n i)) ∧ (∀ ds n o, DA ds n (some (.ob o)) = some (.ob o)) := by
 refine ⟨fun n i => ?_, fun _ _ _ => rfl, fun d ds n i => ?_, fun _ _ _ _ _ => rfl, fun _ _ _ _ _ => rfl, fun _ _ _ => rfl, fun _ _ _ _ _ _ => rfl, fun _ _ => rfl, fun _ _ => rfl, fun _ _ _ _ => rfl, fun _ _ => rfl, fun _ _ _ _ => rfl, fun _ _ _ => rfl, fun _ _ _ _ => rfl, fun _ _ _ _ _ => rfl, fun _ _ _ _ _ => rfl, fun _ _ _ => rfl, fun _ _ _ _ _ _ => rfl, fun _ _ => rfl, fun _ _ _ => rfl, fun _ _ _ => rfl, fun _ _ _ _ => rfl, fun _ _ _ _ _ => rfl, fun _ _ _ _ _ => rfl, fun _ _ _ => rfl, fun _ _ => rfl, fun _ _ _ _ _ => rfl, fun _ _ _ _ => rfl, fun _ _ => rfl, rfl, fun _ _ => rfl, fun _ _ _ => rfl, fun _ _ _ => rfl, fun _ _ _ => rfl, fun _ _ _ => rfl⟩
 ·simp [J1]
 ·simp only [J1, List.getElem?_cons_succ, List.length_cons, Nat.add_sub_add_right]

theorem Uu (g : Dr) (ds : List Nat) (args : List AV) (H : Ap) (n : Nat) : Ey g ds args H n = (Si ds args).bind fun ia => (GX ds H ds).bind fun bl => (g ia bl).bind fun x => if Dw ds = true ∧ ds.length ≤ x.2.2.length ∧ CT (x.2.2.drop ds.length) = true then some (x.1, Qw ds n x.2.1, some (L6 ds n H x.2.2, n + (x.2.2.length - ds.length))) else none := by
 unfold Ey
 cases Si ds args with
 | none => rfl
 | some ia =>
  cases GX ds H ds with
  | none => rfl
  | some bl =>
   simp only [Option.bind_some]
   cases g ia bl with
   | none => rfl
   | some x => obtain ⟨p, r, bf⟩ := x; rfl

/-! ### more boxes -/
def TU : List (Option Bk) → List (Option Bk) → Prop
 | [], _ => True
 | none :: r, _ :: r' => TU r r'
 | some b :: r, c :: r' => c = some b ∧ TU r r'
 | none :: r, [] => TU r []
 | some _ :: _, [] => False
theorem Wg : ∀ {l l' : List (Option Bk)}, TU l l' → D8 (As l) (As l') := by
 intro l
 induction l with
 | nil => intro l' _ i b h; cases h
 | cons x l ih =>
  intro l' h i b hb
  cases x with
  | none => cases l' with
   | nil =>
    cases i with
    | zero => cases hb
    | succ i => rw [Cq] at hb; exact ih (l' := []) h i b hb
   | cons c r =>
    cases i with
    | zero => cases hb
    | succ i => rw [Cq] at hb ⊢; exact ih h i b hb
  | some y => cases l' with
   | nil => exact h.elim
   | cons c r =>
    cases i with
    | zero => rw [PZ] at hb ⊢; cases hb; exact h.1
    | succ i => rw [Cq] at hb ⊢; exact ih h.2 i b hb
theorem Su : (∀ l, TU [] l = True) ∧ (∀ r c r', TU (none :: r) (c :: r') = TU r r') ∧ (∀ b r c r', TU (some b :: r) (c :: r') = (c = some b ∧ TU r r')) := ⟨fun l => by cases l <;> rfl, fun _ _ _ => rfl, fun _ _ _ _ => rfl⟩
theorem RY (dr : Bool) (calm : List FuncId) (d : Option Tmp) (o : Op) {l l' : List (Option Bk)} (h : TU l l') : (dr && Dd calm d o) = true → D8 (As l) (As l') := fun _ => Wg h
def bw := And.intro @D5 (And.intro @Qg @R3)
def gw := And.intro @Sa (And.intro @So (And.intro @SU @Uu))
end Go.Vc
/- The Vc layer: parts of rows that are handed on with no room behind. -/
set_option linter.all false
namespace Go.Vc
open Go Go.RowKit
end Go.Vc
/- The Vc layer: regions taken in an order of one's own. -/
set_option linter.all false
namespace Go.Vc
open Go Go.RowKit
def Dn (l : List Oper) : List Nat → List Oper
 | [] => []
 | i :: r => match l[i]? with
  | some o => o :: Dn l r
  | none => Dn l r
def Jh (calm : List FuncId) (md : Region.Mode) (ops : Array Oper) : List Nat → Array Bool → Bool
 | [], l => (Region.ready md ops l).isEmpty
 | i :: r, l => decide (i < ops.size) && (G4 calm md ops l i || Region.ready md ops l == [i]) && Jh calm md ops r (l.setIfInBounds i true)
def SM (calm : List FuncId) (N : Nat) (ord : List Nat) (ops : Array Oper) : Bool :=
 ops.all (fun o => match o.dst with | some d => decide (d < N) | none => true) && ord.length == ops.size && Jh calm .any ops ord (Array.replicate ops.size false)
section
variable [AU] {P : Program} {E : Bo P} {W0 : World} {M0 : Nat → Prop}
theorem Pu {calm : List FuncId} {md : Region.Mode} {ops : List Oper} {K : St → Prop} : ∀ (ord : List Nat) (l : Array Bool) (st : St), Jh calm md ops.toArray ord l = true → AG W0 M0 true calm E ops.toArray K (Dn ops ord) st → Er W0 M0 calm E md ops.toArray K ord.length l st := by
 intro ord
 induction ord with
 | nil =>
  intro l st hok h
  exact ⟨by simpa [Jh] using hok, h⟩
 | cons i ord ih =>
  intro l st hok h
  simp only [Jh, Bool.and_eq_true, Bool.or_eq_true, decide_eq_true_eq] at hok
  obtain ⟨⟨hi, hf⟩, hok⟩ := hok
  have ho : ops[i]? = some (ops[i]'(by simpa using hi)) := List.getElem?_eq_getElem _
  generalize ops[i]'(by simpa using hi) = o at ho
  have ho' : ops.toArray[i]? = some o := by simpa using ho
  have h' : stepG W0 M0 true calm E ops.toArray o st (AG W0 M0 true calm E ops.toArray K (Dn ops ord)) := by
   unfold Dn at h; rw [ho] at h; exact h
  have next : ∀ st, AG W0 M0 true calm E ops.toArray K (Dn ops ord) st → Er W0 M0 calm E md ops.toArray K ord.length (l.setIfInBounds i true) st := fun st hs => ih _ st hok hs
  rcases hf with hf | hone
  ·simp only [G4, ho', Bool.and_eq_true] at hf
   obtain ⟨⟨ht, hrd⟩, ⟨⟨hiW, hWl⟩, hWa⟩, hfree⟩ := hf
   obtain ⟨c, hv, hK⟩ := GD ht h'
   generalize Hm md ops.toArray l i = W at *
   refine F0 ho' ht W (by simpa using hiW) ord.length l st (fun j hj => ?_) (fun j hj hne oj hoj => ?_) (fun j oj hoj hjW hun => ?_) (by simpa using hrd) hv (next _ hK)
   ·have := List.all_eq_true.1 hWl j hj
    simpa using this
   ·have := List.all_eq_true.1 hWa j hj
    simp only [hoj, Bool.or_eq_true, beq_iff_eq, hne, false_or] at this
    obtain ⟨e, he, hb⟩ := Array.any_eq_true'.1 this
    simp only [Bool.and_eq_true] at hb
    exact ⟨e, he, hb.1, by simpa using hb.2⟩
   ·have := List.all_eq_true.1 hfree j (List.mem_range.2 (Array.getElem?_eq_some_iff.1 hoj).1)
    simp only [hoj, Bool.or_eq_true, Bool.and_eq_true, hun, Bool.false_eq_true, or_false] at this
    rcases this with h1 | h1
    ·exact absurd (by simpa using h1) hjW
    ·exact ⟨h1.1, h1.2⟩
  ·have hone : Region.ready md ops.toArray l = [i] := by simpa using hone
   refine ⟨fun h0 => absurd (hone.symm.trans h0) (by simp), fun j hj oj hoj => ?_⟩
   rw [hone] at hj
   simp only [List.mem_singleton] at hj
   subst hj
   rw [ho'] at hoj; cases hoj
   exact E1 next h'

theorem Iz (calm : List FuncId) (ord : List Nat) (hm : P.follows .mixedOrders = true) {id : Nat} {l : List Oper} (hok : SM calm E.N ord l.toArray = true) {st : St} {K : Exit → St → Prop} (h : AG W0 M0 true calm E l.toArray (K .normal) (Dn l ord) st) : VC E W0 M0 (.region id l.toArray true) st K := by
 intro a w hs
 simp only [SM, Bool.and_eq_true, beq_iff_eq] at hok
 have hd : ∀ o ∈ l, ∀ d, o.dst = some d → d < E.N := by
  intro o ho d hd
  have := Array.all_eq_true_iff_forall_mem.1 hok.1.1 o (by simpa using ho)
  rw [hd] at this
  simpa using this
 refine wpIn_region_any hm (I0 (calm := calm) (E := E) (W0 := W0) (M0 := M0) (K := K .normal) (fun i o d ho hdd => hd o (by
  have := List.mem_of_getElem? (l := l) (i := i) (by simpa using ho); exact this) d hdd) (fun st a w h1 h2 => ⟨st, h1, h2⟩) _ _ st a _ ?_ hs.drawn)
 have := Pu (md := .any) ord _ st hok.2 h
 rw [hok.1.2] at this
 exact this
end
theorem Ak : (∀ l, Dn l [] = []) ∧ (∀ l i r, Dn l (i :: r) = match l[i]? with | some o => o :: Dn l r | none => Dn l r) := ⟨fun _ => rfl, fun _ _ _ => rfl⟩
end Go.Vc
/- The Vc layer: calls whose arguments are handed on as they are known (a nil that must be seen to be nil). -/
set_option linter.all false
namespace Go.Vc
open Go Go.RowKit
section
variable [AU] {P : Program} {E : Bo P} {W0 : World} {M0 : Nat → Prop} {w : World} {S : Lays} {n : Nat} {H : Ap} {fr : Nat → AV} {K : St → Prop} {d : Option Tmp} {t' : TypeId} {p : String} {af : Array Edge}
end
end Go.Vc
/- The Vc layer: what an argument's data is, by its type; facts about types by closed Booleans. -/
set_option linter.all false
namespace Go.Vc
open Go Go.RowKit

section
variable {P : Program} {k : Nat} {t e : TypeId}
def ON (P : Program) (t : TypeId) : Bool := match P.underlying t with | some (.int .i64) => true | _ => false
def OP (P : Program) (t : TypeId) : Bool := match P.underlying t with | some .string => true | _ => false
def Qd (P : Program) (t e : TypeId) : Bool := match P.underlying t with | some (.slice x) => x == e | _ => false
def Ki (P : Program) (t : TypeId) (n : Nat) (l : List (Nat × Nat × TypeId)) : Bool := match P.underlying t with
 | some (.struct fs) => P.cellsOf t == n && (fs.toList.map fun f => (f.offset, P.cellsOf f.type, f.type)) == l
 | _ => false
theorem Se (h : ON P t = true) : P.underlying t = some (.int .i64) := by
 unfold ON at h; split at h
 ·assumption
 ·cases h
theorem Sf (h : OP P t = true) : P.underlying t = some .string := by
 unfold OP at h; split at h
 ·assumption
 ·cases h
theorem OO (h : Qd P t e = true) : P.underlying t = some (.slice e) := by
 unfold Qd at h; split at h
 ·rename_i x hx; rw [hx, beq_iff_eq.1 h]
 ·cases h
theorem O0 {ds : List D} (h : WT P (k + 1) t ds) (ht : ON P t = true) : ∃ n, ds = eI n ∧ BJ n := by
 unfold WT at h; rw [Se ht] at h
 obtain ⟨n, rfl, hn⟩ := h
 refine ⟨n, rfl, ?_⟩
 simp only [Lit.wf, Bool.and_eq_true, decide_eq_true_eq] at hn
 exact hn
theorem TO {ds : List D} (h : WT P (k + 1) t ds) (ht : OP P t = true) : ∃ s, ds = eS s ∧ s.length ≤ 9223372036854775807 := by
 unfold WT at h; rw [Sf ht] at h; obtain ⟨s, h1, h2, _⟩ := h; exact ⟨s, h1, h2⟩
theorem V9 {ds : List D} (h : WT P (k + 1) t ds) (ht : Qd P t e = true) : ∃ xs, ds = [.sl xs] ∧ xs.length ≤ 9223372036854775807 ∧ ∀ x ∈ xs, WT P k e x := by
 unfold WT at h; rw [OO ht] at h; obtain ⟨s, h1, h2, h3, _⟩ := h; exact ⟨s, h1, h2, h3⟩
theorem TN {ds : List D} {n : Nat} {l : List (Nat × Nat × TypeId)} (h : WT P (k + 1) t ds) (ht : Ki P t n l = true) : ds.length = n ∧ ∀ o c u, (o, c, u) ∈ l → WT P k u ((ds.drop o).take c) := by
 unfold Ki at ht
 split at ht
 ·rename_i fs hfs
  simp only [Bool.and_eq_true, beq_iff_eq] at ht
  unfold WT at h; rw [hfs] at h
  refine ⟨by rw [← ht.1]; exact h.1, fun o c u hm => ?_⟩
  rw [← ht.2] at hm
  obtain ⟨f, hf, he⟩ := List.mem_map.1 hm
  simp only [Prod.mk.injEq] at he
  obtain ⟨rfl, rfl, rfl⟩ := he
  exact h.2 f hf
 ·cases ht
theorem Pg {α : Type} {f : α → List D} {q : α → Prop} {xs : List (List D)} (h : ∀ x ∈ xs, ∃ a, x = f a ∧ q a) : ∃ l, xs = rows f l ∧ ∀ a ∈ l, q a := by
 induction xs with
 | nil => exact ⟨[], rfl, fun a h => by cases h⟩
 | cons x xs ih =>
  obtain ⟨a, rfl, ha⟩ := h x (by simp)
  obtain ⟨l, rfl, hl⟩ := ih fun y hy => h y (by simp [hy])
  exact ⟨a :: l, rfl, fun b hb => by rcases List.mem_cons.1 hb with rfl | hb; exact ha; exact hl b hb⟩
theorem P9 {c : AV} (h : EK P k t c) (ht : ∀ fs, P.underlying t ≠ some (.struct fs)) (ht' : ∀ n e, P.underlying t ≠ some (.array n e)) : ∃ x, c = .d x ∧ WT P k t [x] := by
 unfold EK at h
 split at h
 ·rename_i fs hf; exact absurd hf (ht fs)
 ·rename_i n e hf; exact absurd hf (ht' n e)
 ·exact h
theorem VG {c : AV} (h : EK P (k + 1) t c) (ht : Qd P t e = true) : ∃ xs, c = .d (.sl xs) ∧ xs.length ≤ 9223372036854775807 ∧ ∀ x ∈ xs, WT P k e x := by
 have hu := OO ht
 obtain ⟨x, rfl, hx⟩ := P9 h (fun fs => by rw [hu]; simp) (fun n e => by rw [hu]; simp)
 obtain ⟨xs, hn, hi⟩ := V9 hx ht
 exact ⟨xs, by simp only [List.cons.injEq, and_true] at hn; rw [hn], hi⟩
theorem Ui {c : AV} {n : Nat} {l : List (Nat × Nat × TypeId)} (h : EK P (k + 1) t c) (ht : Ki P t n l = true) : ∃ ds : List D, c = .agg (ds.map .d) ∧ ds.length = n ∧ ∀ o c u, (o, c, u) ∈ l → WT P k u ((ds.drop o).take c) := by
 have hu : ∃ fs, P.underlying t = some (.struct fs) := by
  unfold Ki at ht
  split at ht
  ·exact ⟨_, by assumption⟩
  ·cases ht
 obtain ⟨fs, hu⟩ := hu
 unfold EK at h
 rw [hu] at h
 obtain ⟨ds, rfl, hw⟩ := h
 exact ⟨ds, rfl, TN hw ht⟩
theorem U3 {t u : TypeId} {g : List AV → Option (Prop × AV)} (h : ∀ a b, EK P k t a → EK P k u b → ∃ p, g [a, b] = some (p, .d (.bool true)) ∧ p) : O8 P k [t, u] g := by
 intro args hl ha
 match args, hl with
 | [a, b], _ => exact h a b (ha 0 _ _ rfl rfl) (ha 1 _ _ rfl rfl)
end
end Go.Vc
/- The rules of the walks, with their proofs as default arguments (printed by wip/gen/laws.py). -/
set_option linter.all false
namespace Go.Vc
open Go Go.RowKit
theorem Cu [h : Decidable True] : @decide True h = true := decide_eq_true trivial
theorem Ct [h : Decidable False] : @decide False h = false := decide_eq_false id
theorem Ge {p : Prop} (h : p := by simp only [DU, DV, AD, AB, AC, eq_self, Nat.reduceEqDiff, reduceIte, and_true, true_and, A6, List.map_cons, List.map_nil]) : p := h
theorem Ay {p : Prop} (h : p := by (first | trivial | omega | assumption | (unfold BJ; omega) | ((repeat' apply And.intro) <;> first | rfl | trivial | omega | assumption | (unfold BJ; omega)) | (simp; done) | (simp; omega))) : p := h
theorem TT {p : Prop} (h : p := by first | exact (fun h => Bool.noConfusion (show false = true from h)) | exact RZ _ _ _ _ _ | exact RY _ _ _ _ (by simp only [Su, eq_self, and_true, true_and])) : p := h
theorem Bl {p : Prop} (h : p := by first | (simp only [E5, Ai, Hb, AB, eq_self, Nat.reduceEqDiff, reduceIte, Ev, hx]; done) | (simp only [E5, Ai, Hb, AB, eq_self, Nat.reduceEqDiff, reduceIte, Ev, hx]; rfl)) : p := h
theorem Rb {p : Prop} (h : p := by simp only [E5, Ai, Hb, AB, eq_self, Nat.reduceEqDiff, reduceIte, Ev, hx]; rfl) : p := h
theorem AW {p : Prop} (h : p := by (first | omega | (first | trivial | omega | assumption | (unfold BJ; omega) | ((repeat' apply And.intro) <;> first | rfl | trivial | omega | assumption | (unfold BJ; omega)) | (simp; done) | (simp; omega)))) : p := h
theorem Aq {p : Prop} (h : p := by (first | exact True.intro | (unfold BJ; omega) | omega | (first | trivial | omega | assumption | (unfold BJ; omega) | ((repeat' apply And.intro) <;> first | rfl | trivial | omega | assumption | (unfold BJ; omega)) | (simp; done) | (simp; omega)))) : p := h
theorem Gq {b : Bool} {p : Prop} (h : b = true → p := by (intro hg; (try simp only [GQ, Ej, Fa] at hg); (first | omega | (first | trivial | omega | assumption | (unfold BJ; omega) | ((repeat' apply And.intro) <;> first | rfl | trivial | omega | assumption | (unfold BJ; omega)) | (simp; done) | (simp; omega))))) : b = true → p := h
theorem At {p : Prop} (h : p := by (repeat' apply And.intro) <;> (first | rfl | exact Or.inr rfl | exact Or.inl rfl | trivial | omega | assumption | (simp; done) | (simp; omega))) : p := h
theorem Rc {b : Bool} {p q : Prop} (hq : b = true → q := by (intro hg; (try simp only [GQ, Ej, Fa] at hg); (first | trivial | omega | assumption | (unfold BJ; omega) | ((repeat' apply And.intro) <;> first | rfl | trivial | omega | assumption | (unfold BJ; omega)) | (simp; done) | (simp; omega)))) (hn : b = true → p := by first | (simp only [DU, DV, AD, AB, AC, eq_self, Nat.reduceEqDiff, reduceIte, and_true, true_and, A6, List.map_cons, List.map_nil]; done) | (intro hg; simp only [DU, DV, AD, AB, AC, eq_self, Nat.reduceEqDiff, reduceIte, and_true, true_and, A6, List.map_cons, List.map_nil]; exact hg) | (intro hg; simp_all [DU, DV, AD, AB, AC, eq_self, Nat.reduceEqDiff, reduceIte, and_true, true_and, A6, List.map_cons, List.map_nil]; done) | (intro hg; (try simp only [GQ, Ej, Fa] at hg); simp only [DU, DV, AD, AB, AC, eq_self, Nat.reduceEqDiff, reduceIte, and_true, true_and, A6, List.map_cons, List.map_nil]; (first | trivial | omega | assumption | (unfold BJ; omega) | ((repeat' apply And.intro) <;> first | rfl | trivial | omega | assumption | (unfold BJ; omega)) | (simp; done) | (simp; omega)))) : b = true → p ∧ q := fun h => ⟨hn h, hq h⟩
section
variable [AU] {P : Program} {E : Bo P} {W0 : World} {M0 : Nat → Prop} {dr : Bool} {calm : List FuncId} {ops : Array Oper} {K : St → Prop} {o : Op} {d : Option Tmp} {t : TypeId} {p : String} {af : Array Edge} {r : List Oper} {fr : Nat → AV} {H H' : Ap} {n n' : Nat} {q : Prop} {c : AV} {b : Bool} {gd : Nat × Bool}
theorem GY (hg : AP ops fr (some gd) = some (some b)) (h : (b = false ∧ c = .any ∧ q = True) ∨ (BZ E fr H n o = .v q c ∧ (b = true → Co fr o ∧ q))) (hk : AG W0 M0 dr calm E ops K r ⟨putD d (.cond b c) fr, H, n⟩) : AG W0 M0 dr calm E ops K (⟨d, o, t, p, af, some gd⟩ :: r) ⟨fr, H, n⟩ := by
 rcases h with ⟨rfl, rfl, -⟩ | ⟨h, hq⟩
 ·exact Av hg hk
 ·exact ET hg h hq hk
theorem VO {a b : RS} (h : a = b := by simp only [AY, AD, AB, AC, Ba, eq_self, Nat.reduceEqDiff, reduceIte, bw]; rfl) : a = b := h
theorem Ae (hk : AG W0 M0 dr calm E ops K r ⟨putD d c fr, H, n⟩) (h : BZ E fr H n o = .v q c := by exact VO) (hq : q := by exact Ay) (hn : Co fr o := by exact Ge) : AG W0 M0 dr calm E ops K (⟨d, o, t, p, af, none⟩ :: r) ⟨fr, H, n⟩ := G8 h hn hq hk
theorem Dp (hk : AG W0 M0 dr calm E ops K r ⟨putD d (.cond b c) fr, H, n⟩) (hg : AP ops fr (some gd) = some (some b) := by exact Rb) (h : (b = false ∧ c = .any ∧ q = True) ∨ (BZ E fr H n o = .v q c ∧ (b = true → Co fr o ∧ q)) := by first | (with_reducible exact Or.inl ⟨rfl, rfl, rfl⟩) | (refine Or.inr ⟨?_, ?_⟩; (focus exact VO); exact Rc)) : AG W0 M0 dr calm E ops K (⟨d, o, t, p, af, some gd⟩ :: r) ⟨fr, H, n⟩ := GY hg h hk
theorem Cy (hk : AG W0 M0 dr calm E ops K r ⟨putD d (.cond true c) fr, H, n⟩) (hg : AP ops fr (some gd) = some (some true) := by exact Bl) (h : BZ E fr H n o = .v q c := by exact VO) (hn : Co fr o := by exact Ge) (hq : q := by exact Ay) : AG W0 M0 dr calm E ops K (⟨d, o, t, p, af, some gd⟩ :: r) ⟨fr, H, n⟩ := ET hg h (fun _ => ⟨hn, hq⟩) hk
theorem VP {a b : RS} (h : a = b := by simp only [AY, AD, AB, AC, Ba, eq_self, Nat.reduceEqDiff, reduceIte, bw, Jy, Ej, Fa, Ev]; rfl) : a = b := h
theorem AQ (hk : AG W0 M0 dr calm E ops K r ⟨putD d c fr, H, n⟩) (h : BZ E fr H n o = .v q c := by exact VP) (hq : q := by exact Ay) (hn : Co fr o := by exact Ge) : AG W0 M0 dr calm E ops K (⟨d, o, t, p, af, none⟩ :: r) ⟨fr, H, n⟩ := G8 h hn hq hk
theorem Xc (hk : AG W0 M0 dr calm E ops K r ⟨putD d (.cond b c) fr, H, n⟩) (hg : AP ops fr (some gd) = some (some b) := by exact Rb) (h : (b = false ∧ c = .any ∧ q = True) ∨ (BZ E fr H n o = .v q c ∧ (b = true → Co fr o ∧ q)) := by first | (with_reducible exact Or.inl ⟨rfl, rfl, rfl⟩) | (refine Or.inr ⟨?_, ?_⟩; (focus exact VP); exact Rc)) : AG W0 M0 dr calm E ops K (⟨d, o, t, p, af, some gd⟩ :: r) ⟨fr, H, n⟩ := GY hg h hk
theorem QT (hk : AG W0 M0 dr calm E ops K r ⟨putD d (.cond true c) fr, H, n⟩) (hg : AP ops fr (some gd) = some (some true) := by exact Bl) (h : BZ E fr H n o = .v q c := by exact VP) (hn : Co fr o := by exact Ge) (hq : q := by exact Ay) : AG W0 M0 dr calm E ops K (⟨d, o, t, p, af, some gd⟩ :: r) ⟨fr, H, n⟩ := ET hg h (fun _ => ⟨hn, hq⟩) hk
theorem Uo {a b : RS} (h : a = b := by simp only [AY, AD, AB, AC, Ba, eq_self, Nat.reduceEqDiff, reduceIte, bw, Bv, K3, hT, Cw, JU, GP, K1, LY, PC, Bool.true_and, Bool.and_true, hx]; rfl) : a = b := h
theorem Am (hk : AG W0 M0 dr calm E ops K r ⟨putD d c fr, H, n⟩) (h : BZ E fr H n o = .v q c := by exact Uo) (hq : q := by exact Ay) (hn : Co fr o := by exact Ge) : AG W0 M0 dr calm E ops K (⟨d, o, t, p, af, none⟩ :: r) ⟨fr, H, n⟩ := G8 h hn hq hk
theorem CU (hk : AG W0 M0 dr calm E ops K r ⟨putD d (.cond b c) fr, H, n⟩) (hg : AP ops fr (some gd) = some (some b) := by exact Rb) (h : (b = false ∧ c = .any ∧ q = True) ∨ (BZ E fr H n o = .v q c ∧ (b = true → Co fr o ∧ q)) := by first | (with_reducible exact Or.inl ⟨rfl, rfl, rfl⟩) | (refine Or.inr ⟨?_, ?_⟩; (focus exact Uo); exact Rc)) : AG W0 M0 dr calm E ops K (⟨d, o, t, p, af, some gd⟩ :: r) ⟨fr, H, n⟩ := GY hg h hk
theorem Oh (hk : AG W0 M0 dr calm E ops K r ⟨putD d (.cond b c) fr, H, n⟩) (hg : AP ops fr (some gd) = some (some b) := by exact Rb) (h : BZ E fr H n o = .v q c := by exact Uo) (hq : b = true → q) (hn : b = true → Co fr o := by (refine fun hb => And.left (b := True) ?_; revert hb; exact Rc)) : AG W0 M0 dr calm E ops K (⟨d, o, t, p, af, some gd⟩ :: r) ⟨fr, H, n⟩ := ET hg h (fun hb => ⟨hn hb, hq hb⟩) hk
theorem Fz (hk : AG W0 M0 dr calm E ops K r ⟨putD d (.cond true c) fr, H, n⟩) (hg : AP ops fr (some gd) = some (some true) := by exact Bl) (h : BZ E fr H n o = .v q c := by exact Uo) (hn : Co fr o := by exact Ge) (hq : q := by exact Ay) : AG W0 M0 dr calm E ops K (⟨d, o, t, p, af, some gd⟩ :: r) ⟨fr, H, n⟩ := ET hg h (fun _ => ⟨hn, hq⟩) hk
theorem VQ {a b : RS} (h : a = b := by simp only [AY, AD, AB, AC, Ba, eq_self, Nat.reduceEqDiff, reduceIte, bw, Jy, GP, Bool.not_not, hx]; rfl) : a = b := h
theorem Ik (hk : AG W0 M0 dr calm E ops K r ⟨putD d c fr, H, n⟩) (h : BZ E fr H n o = .v q c := by exact VQ) (hq : q := by exact Ay) (hn : Co fr o := by exact Ge) : AG W0 M0 dr calm E ops K (⟨d, o, t, p, af, none⟩ :: r) ⟨fr, H, n⟩ := G8 h hn hq hk
theorem Mh (hk : AG W0 M0 dr calm E ops K r ⟨putD d (.cond b c) fr, H, n⟩) (hg : AP ops fr (some gd) = some (some b) := by exact Rb) (h : (b = false ∧ c = .any ∧ q = True) ∨ (BZ E fr H n o = .v q c ∧ (b = true → Co fr o ∧ q)) := by first | (with_reducible exact Or.inl ⟨rfl, rfl, rfl⟩) | (refine Or.inr ⟨?_, ?_⟩; (focus exact VQ); exact Rc)) : AG W0 M0 dr calm E ops K (⟨d, o, t, p, af, some gd⟩ :: r) ⟨fr, H, n⟩ := GY hg h hk
theorem W8 (hk : AG W0 M0 dr calm E ops K r ⟨putD d (.cond true c) fr, H, n⟩) (hg : AP ops fr (some gd) = some (some true) := by exact Bl) (h : BZ E fr H n o = .v q c := by exact VQ) (hn : Co fr o := by exact Ge) (hq : q := by exact Ay) : AG W0 M0 dr calm E ops K (⟨d, o, t, p, af, some gd⟩ :: r) ⟨fr, H, n⟩ := ET hg h (fun _ => ⟨hn, hq⟩) hk
theorem WW {a b : RS} (h : a = b := by simp only [AY, AD, AB, AC, Ba, eq_self, Nat.reduceEqDiff, reduceIte, bw, KH, hx]; rfl) : a = b := h
theorem Bn (hk : AG W0 M0 dr calm E ops K r ⟨putD d c fr, H, n⟩) (h : BZ E fr H n o = .v q c := by exact WW) (hq : q := by exact Ay) (hn : Co fr o := by exact Ge) : AG W0 M0 dr calm E ops K (⟨d, o, t, p, af, none⟩ :: r) ⟨fr, H, n⟩ := G8 h hn hq hk
theorem Vf (hk : AG W0 M0 dr calm E ops K r ⟨putD d (.cond true c) fr, H, n⟩) (hg : AP ops fr (some gd) = some (some true) := by exact Bl) (h : BZ E fr H n o = .v q c := by exact WW) (hn : Co fr o := by exact Ge) (hq : q := by exact Ay) : AG W0 M0 dr calm E ops K (⟨d, o, t, p, af, some gd⟩ :: r) ⟨fr, H, n⟩ := ET hg h (fun _ => ⟨hn, hq⟩) hk
theorem XN {a b : RS} (h : a = b := by simp only [AY, AD, AB, AC, Ba, eq_self, Nat.reduceEqDiff, reduceIte, bw, Bv, K3, hT, Cw, GN, GP, Ai, Bu, A6, B4, AZ, Bg, AH, B3, B5, BN, Int.toNat_natCast, Int.reduceToNat, Nat.reduceAdd, Nat.reduceMul, Nat.reduceSub, Nat.reduceLeDiff, Nat.zero_add, Nat.add_zero, true_and, and_true, and_assoc, BB, BO, B7, BQ, BP, Bz, Bw, BM, Br, AK, Bc, Bd, Bq, or_false, false_or, not_true_eq_false, not_false_eq_true, hx]; rfl) : a = b := h
theorem TC (hk : AG W0 M0 dr calm E ops K r ⟨putD d c fr, H, n⟩) (h : BZ E fr H n o = .v q c := by exact XN) (hq : q := by exact Ay) (hn : Co fr o := by exact Ge) : AG W0 M0 dr calm E ops K (⟨d, o, t, p, af, none⟩ :: r) ⟨fr, H, n⟩ := G8 h hn hq hk
theorem Up {a b : RS} (h : a = b := by simp only [AY, AD, AB, AC, Ba, eq_self, Nat.reduceEqDiff, reduceIte, bw, CG, EN, E6, Bv, K3, hT, Cw, Ai, Bu, A6, B4, AZ, Bg, AH, B3, B5, BN, Int.toNat_natCast, Int.reduceToNat, Nat.reduceAdd, Nat.reduceMul, Nat.reduceSub, Nat.reduceLeDiff, Nat.zero_add, Nat.add_zero, true_and, and_true, and_assoc, BB, BO, B7, BQ, BP, Bz, Bw, BM, Br, AK, Bc, Bd, Bq, or_false, false_or, not_true_eq_false, not_false_eq_true, hx]; rfl) : a = b := h
theorem Ar (hk : AG W0 M0 dr calm E ops K r ⟨putD d c fr, H, n⟩) (h : BZ E fr H n o = .v q c := by exact Up) (hq : q := by exact Ay) (hn : Co fr o := by exact Ge) : AG W0 M0 dr calm E ops K (⟨d, o, t, p, af, none⟩ :: r) ⟨fr, H, n⟩ := G8 h hn hq hk
theorem Cm (hk : AG W0 M0 dr calm E ops K r ⟨putD d (.cond b c) fr, H, n⟩) (hg : AP ops fr (some gd) = some (some b) := by exact Rb) (h : (b = false ∧ c = .any ∧ q = True) ∨ (BZ E fr H n o = .v q c ∧ (b = true → Co fr o ∧ q)) := by first | (with_reducible exact Or.inl ⟨rfl, rfl, rfl⟩) | (refine Or.inr ⟨?_, ?_⟩; (focus exact Up); exact Rc)) : AG W0 M0 dr calm E ops K (⟨d, o, t, p, af, some gd⟩ :: r) ⟨fr, H, n⟩ := GY hg h hk
theorem HF (hk : AG W0 M0 dr calm E ops K r ⟨putD d (.cond b c) fr, H, n⟩) (hg : AP ops fr (some gd) = some (some b) := by exact Rb) (h : BZ E fr H n o = .v q c := by exact Up) (hq : b = true → q) (hn : b = true → Co fr o := by (refine fun hb => And.left (b := True) ?_; revert hb; exact Rc)) : AG W0 M0 dr calm E ops K (⟨d, o, t, p, af, some gd⟩ :: r) ⟨fr, H, n⟩ := ET hg h (fun hb => ⟨hn hb, hq hb⟩) hk
theorem DJ (hk : AG W0 M0 dr calm E ops K r ⟨putD d (.cond true c) fr, H, n⟩) (hg : AP ops fr (some gd) = some (some true) := by exact Bl) (h : BZ E fr H n o = .v q c := by exact Up) (hn : Co fr o := by exact Ge) (hq : q := by exact Ay) : AG W0 M0 dr calm E ops K (⟨d, o, t, p, af, some gd⟩ :: r) ⟨fr, H, n⟩ := ET hg h (fun _ => ⟨hn, hq⟩) hk
theorem Uq {a b : RS} (h : a = b := by simp only [AY, AD, AB, AC, Ba, eq_self, Nat.reduceEqDiff, reduceIte, bw, CG, C9, Hs, CA, Ht, JN, Bv, K3, hT, Cw, Ai, Bu, A6, B4, AZ, Bg, AH, B3, B5, BN, Int.toNat_natCast, Int.reduceToNat, Nat.reduceAdd, Nat.reduceMul, Nat.reduceSub, Nat.reduceLeDiff, Nat.zero_add, Nat.add_zero, true_and, and_true, and_assoc, BB, BO, B7, BQ, BP, Bz, Bw, BM, Br, AK, Bc, Bd, Bq, or_false, false_or, not_true_eq_false, not_false_eq_true, hx]; rfl) : a = b := h
theorem Au (hk : AG W0 M0 dr calm E ops K r ⟨putD d c fr, H, n⟩) (h : BZ E fr H n o = .v q c := by exact Uq) (hq : q := by exact Ay) (hn : Co fr o := by exact Ge) : AG W0 M0 dr calm E ops K (⟨d, o, t, p, af, none⟩ :: r) ⟨fr, H, n⟩ := G8 h hn hq hk
theorem Cn (hk : AG W0 M0 dr calm E ops K r ⟨putD d (.cond b c) fr, H, n⟩) (hg : AP ops fr (some gd) = some (some b) := by exact Rb) (h : (b = false ∧ c = .any ∧ q = True) ∨ (BZ E fr H n o = .v q c ∧ (b = true → Co fr o ∧ q)) := by first | (with_reducible exact Or.inl ⟨rfl, rfl, rfl⟩) | (refine Or.inr ⟨?_, ?_⟩; (focus exact Uq); exact Rc)) : AG W0 M0 dr calm E ops K (⟨d, o, t, p, af, some gd⟩ :: r) ⟨fr, H, n⟩ := GY hg h hk
theorem HG (hk : AG W0 M0 dr calm E ops K r ⟨putD d (.cond b c) fr, H, n⟩) (hg : AP ops fr (some gd) = some (some b) := by exact Rb) (h : BZ E fr H n o = .v q c := by exact Uq) (hq : b = true → q) (hn : b = true → Co fr o := by (refine fun hb => And.left (b := True) ?_; revert hb; exact Rc)) : AG W0 M0 dr calm E ops K (⟨d, o, t, p, af, some gd⟩ :: r) ⟨fr, H, n⟩ := ET hg h (fun hb => ⟨hn hb, hq hb⟩) hk
theorem D7 (hk : AG W0 M0 dr calm E ops K r ⟨putD d (.cond true c) fr, H, n⟩) (hg : AP ops fr (some gd) = some (some true) := by exact Bl) (h : BZ E fr H n o = .v q c := by exact Uq) (hn : Co fr o := by exact Ge) (hq : q := by exact Ay) : AG W0 M0 dr calm E ops K (⟨d, o, t, p, af, some gd⟩ :: r) ⟨fr, H, n⟩ := ET hg h (fun _ => ⟨hn, hq⟩) hk
theorem XU {a b : RS} (h : a = b := by simp only [AY, AD, AB, AC, Ba, eq_self, Nat.reduceEqDiff, reduceIte, bw, CG, Ea, Bv, K3, hT, Cw, Ai, Bu, A6, B4, AZ, Bg, AH, B3, B5, BN, Int.toNat_natCast, Int.reduceToNat, Nat.reduceAdd, Nat.reduceMul, Nat.reduceSub, Nat.reduceLeDiff, Nat.zero_add, Nat.add_zero, true_and, and_true, and_assoc, BB, BO, B7, BQ, BP, Bz, Bw, BM, Br, AK, Bc, Bd, Bq, or_false, false_or, not_true_eq_false, not_false_eq_true, hx]; rfl) : a = b := h
theorem DI (hk : AG W0 M0 dr calm E ops K r ⟨putD d c fr, H, n⟩) (h : BZ E fr H n o = .v q c := by exact XU) (hq : q := by exact Ay) (hn : Co fr o := by exact Ge) : AG W0 M0 dr calm E ops K (⟨d, o, t, p, af, none⟩ :: r) ⟨fr, H, n⟩ := G8 h hn hq hk
theorem XO {a b : RS} (h : a = b := by simp only [AY, AD, AB, AC, Ba, eq_self, Nat.reduceEqDiff, reduceIte, bw, CG, EM, Ai, hx]; rfl) : a = b := h
theorem DH (hk : AG W0 M0 dr calm E ops K r ⟨putD d c fr, H, n⟩) (h : BZ E fr H n o = .v q c := by exact XO) (hq : q := by exact Ay) (hn : Co fr o := by exact Ge) : AG W0 M0 dr calm E ops K (⟨d, o, t, p, af, none⟩ :: r) ⟨fr, H, n⟩ := G8 h hn hq hk
theorem XL {a b : RS} (h : a = b := by simp only [AY, AD, AB, AC, Ba, eq_self, Nat.reduceEqDiff, reduceIte, bw, CG, Et, Bv, K3, hT, Cw, Ai, Bu, A6, B4, AZ, Bg, AH, B3, B5, BN, Int.toNat_natCast, Int.reduceToNat, Nat.reduceAdd, Nat.reduceMul, Nat.reduceSub, Nat.reduceLeDiff, Nat.zero_add, Nat.add_zero, true_and, and_true, and_assoc, BB, BO, B7, BQ, BP, Bz, Bw, BM, Br, AK, Bc, Bd, Bq, or_false, false_or, not_true_eq_false, not_false_eq_true, hx]; rfl) : a = b := h
theorem BC (hk : AG W0 M0 dr calm E ops K r ⟨putD d c fr, H, n⟩) (h : BZ E fr H n o = .v q c := by exact XL) (hq : q := by exact Ay) (hn : Co fr o := by exact Ge) : AG W0 M0 dr calm E ops K (⟨d, o, t, p, af, none⟩ :: r) ⟨fr, H, n⟩ := G8 h hn hq hk
theorem XS {a b : RS} (h : a = b := by simp only [AY, AD, AB, AC, Ba, eq_self, Nat.reduceEqDiff, reduceIte, bw, CG, A6, hx]; rfl) : a = b := h
theorem GF (hk : AG W0 M0 dr calm E ops K r ⟨putD d c fr, H, n⟩) (h : BZ E fr H n o = .v q c := by exact XS) (hq : q := by exact Ay) (hn : Co fr o := by exact Ge) : AG W0 M0 dr calm E ops K (⟨d, o, t, p, af, none⟩ :: r) ⟨fr, H, n⟩ := G8 h hn hq hk
theorem VN {a b : RS} (h : a = b := by simp only [AY, AD, AB, AC, Ba, eq_self, Nat.reduceEqDiff, reduceIte, bw, CG, KG, Bv, K3, hT, Cw, Ai, Bu, A6, B4, AZ, Bg, AH, B3, B5, BN, Int.toNat_natCast, Int.reduceToNat, Nat.reduceAdd, Nat.reduceMul, Nat.reduceSub, Nat.reduceLeDiff, Nat.zero_add, Nat.add_zero, true_and, and_true, and_assoc, BB, BO, B7, BQ, BP, Bz, Bw, BM, Br, AK, Bc, Bd, Bq, or_false, false_or, not_true_eq_false, not_false_eq_true, hx]; rfl) : a = b := h
theorem Bm (hk : AG W0 M0 dr calm E ops K r ⟨putD d c fr, H, n⟩) (h : BZ E fr H n o = .v q c := by exact VN) (hq : q := by exact Ay) (hn : Co fr o := by exact Ge) : AG W0 M0 dr calm E ops K (⟨d, o, t, p, af, none⟩ :: r) ⟨fr, H, n⟩ := G8 h hn hq hk
theorem NG (hk : AG W0 M0 dr calm E ops K r ⟨putD d (.cond b c) fr, H, n⟩) (hg : AP ops fr (some gd) = some (some b) := by exact Rb) (h : (b = false ∧ c = .any ∧ q = True) ∨ (BZ E fr H n o = .v q c ∧ (b = true → Co fr o ∧ q)) := by first | (with_reducible exact Or.inl ⟨rfl, rfl, rfl⟩) | (refine Or.inr ⟨?_, ?_⟩; (focus exact VN); exact Rc)) : AG W0 M0 dr calm E ops K (⟨d, o, t, p, af, some gd⟩ :: r) ⟨fr, H, n⟩ := GY hg h hk
theorem MV (hk : AG W0 M0 dr calm E ops K r ⟨putD d (.cond true c) fr, H, n⟩) (hg : AP ops fr (some gd) = some (some true) := by exact Bl) (h : BZ E fr H n o = .v q c := by exact VN) (hn : Co fr o := by exact Ge) (hq : q := by exact Ay) : AG W0 M0 dr calm E ops K (⟨d, o, t, p, af, some gd⟩ :: r) ⟨fr, H, n⟩ := ET hg h (fun _ => ⟨hn, hq⟩) hk
theorem VM {a b : RS} (h : a = b := by simp only [hc, AY, AD, AB, AC, Ba, eq_self, Nat.reduceEqDiff, reduceIte, bw, CM, Ch, Cg, AR, BA, hs, Ci, Ax, Ai, Bu, A6, B4, AZ, Bg, AH, B3, B5, BN, Int.toNat_natCast, Int.reduceToNat, Nat.reduceAdd, Nat.reduceMul, Nat.reduceSub, Nat.reduceLeDiff, Nat.zero_add, Nat.add_zero, true_and, and_true, and_assoc, BB, BO, B7, BQ, BP, Bz, Bw, BM, Br, AK, Bc, Bd, Bq, or_false, false_or, not_true_eq_false, not_false_eq_true, List.mem_cons, List.not_mem_nil, AJ, CB, CJ, hx]; rfl) : a = b := h
theorem BF (hk : AG W0 M0 dr calm E ops K r ⟨putD d c fr, H, n⟩) (h : BZ E fr H n o = .v q c := by exact VM) (hq : q := by exact Ay) (hn : Co fr o := by exact Ge) : AG W0 M0 dr calm E ops K (⟨d, o, t, p, af, none⟩ :: r) ⟨fr, H, n⟩ := G8 h hn hq hk
theorem H3 (hk : AG W0 M0 dr calm E ops K r ⟨putD d (.cond b c) fr, H, n⟩) (hg : AP ops fr (some gd) = some (some b) := by exact Rb) (h : (b = false ∧ c = .any ∧ q = True) ∨ (BZ E fr H n o = .v q c ∧ (b = true → Co fr o ∧ q)) := by first | (with_reducible exact Or.inl ⟨rfl, rfl, rfl⟩) | (refine Or.inr ⟨?_, ?_⟩; (focus exact VM); exact Rc)) : AG W0 M0 dr calm E ops K (⟨d, o, t, p, af, some gd⟩ :: r) ⟨fr, H, n⟩ := GY hg h hk
theorem TH (hk : AG W0 M0 dr calm E ops K r ⟨putD d (.cond true c) fr, H, n⟩) (hg : AP ops fr (some gd) = some (some true) := by exact Bl) (h : BZ E fr H n o = .v q c := by exact VM) (hn : Co fr o := by exact Ge) (hq : q := by exact Ay) : AG W0 M0 dr calm E ops K (⟨d, o, t, p, af, some gd⟩ :: r) ⟨fr, H, n⟩ := ET hg h (fun _ => ⟨hn, hq⟩) hk
theorem WV {a b : RS} (h : a = b := by simp only [LN, AY, AD, AB, AC, Ba, eq_self, Nat.reduceEqDiff, reduceIte, bw, CM, Ch, Cg, AR, BA, hs, Ci, Ax, hc, Ai, Bu, A6, B4, AZ, Bg, AH, B3, B5, BN, Int.toNat_natCast, Int.reduceToNat, Nat.reduceAdd, Nat.reduceMul, Nat.reduceSub, Nat.reduceLeDiff, Nat.zero_add, Nat.add_zero, true_and, and_true, and_assoc, BB, BO, B7, BQ, BP, Bz, Bw, BM, Br, AK, Bc, Bd, Bq, or_false, false_or, not_true_eq_false, not_false_eq_true, List.mem_cons, List.not_mem_nil, AJ, CB, CJ, hx]; rfl) : a = b := h
theorem Ve (hk : AG W0 M0 dr calm E ops K r ⟨putD d c fr, H, n⟩) (h : BZ E fr H n o = .v q c := by exact WV) (hq : q := by exact Ay) (hn : Co fr o := by exact Ge) : AG W0 M0 dr calm E ops K (⟨d, o, t, p, af, none⟩ :: r) ⟨fr, H, n⟩ := G8 h hn hq hk
theorem Xb (hk : AG W0 M0 dr calm E ops K r ⟨putD d (.cond b c) fr, H, n⟩) (hg : AP ops fr (some gd) = some (some b) := by exact Rb) (h : (b = false ∧ c = .any ∧ q = True) ∨ (BZ E fr H n o = .v q c ∧ (b = true → Co fr o ∧ q)) := by first | (with_reducible exact Or.inl ⟨rfl, rfl, rfl⟩) | (refine Or.inr ⟨?_, ?_⟩; (focus exact WV); exact Rc)) : AG W0 M0 dr calm E ops K (⟨d, o, t, p, af, some gd⟩ :: r) ⟨fr, H, n⟩ := GY hg h hk
theorem XJ {a b : RS} (h : a = b := by simp only [AY, AD, AB, AC, Ba, eq_self, Nat.reduceEqDiff, reduceIte, bw, Hr, Bv, K3, hT, Cw, Ai, Bu, A6, B4, AZ, Bg, AH, B3, B5, BN, Int.toNat_natCast, Int.reduceToNat, Nat.reduceAdd, Nat.reduceMul, Nat.reduceSub, Nat.reduceLeDiff, Nat.zero_add, Nat.add_zero, true_and, and_true, and_assoc, BB, BO, B7, BQ, BP, Bz, Bw, BM, Br, AK, Bc, Bd, Bq, or_false, false_or, not_true_eq_false, not_false_eq_true, hx]; rfl) : a = b := h
theorem B8 (hk : AG W0 M0 dr calm E ops K r ⟨putD d c fr, H', n'⟩) (h : BZ E fr H n o = .h q c H' n' := by exact XJ) (hq : q := by exact Ay) (hn : Co fr o := by exact Ge) (hl : (dr && Dd calm d o) = true → D8 H H' := by exact TT) : AG W0 M0 dr calm E ops K (⟨d, o, t, p, af, none⟩ :: r) ⟨fr, H, n⟩ := My h hn hq hl hk
theorem XM {a b : RS} (h : a = b := by simp only [AY, AD, AB, AC, Ba, eq_self, Nat.reduceEqDiff, reduceIte, bw, Pz, Ai, Bu, A6, B4, AZ, Bg, AH, B3, B5, BN, Int.toNat_natCast, Int.reduceToNat, Nat.reduceAdd, Nat.reduceMul, Nat.reduceSub, Nat.reduceLeDiff, Nat.zero_add, Nat.add_zero, true_and, and_true, and_assoc, BB, BO, B7, BQ, BP, Bz, Bw, BM, Br, AK, Bc, Bd, Bq, or_false, false_or, not_true_eq_false, not_false_eq_true, hx]; rfl) : a = b := h
theorem FU (hk : AG W0 M0 dr calm E ops K r ⟨putD d c fr, H', n'⟩) (h : BZ E fr H n o = .h q c H' n' := by exact XM) (hq : q := by exact Ay) (hn : Co fr o := by exact Ge) (hl : (dr && Dd calm d o) = true → D8 H H' := by exact TT) : AG W0 M0 dr calm E ops K (⟨d, o, t, p, af, none⟩ :: r) ⟨fr, H, n⟩ := My h hn hq hl hk
theorem WU {a b : RS} (h : a = b := by simp only [AY, AD, AB, AC, Ba, eq_self, Nat.reduceEqDiff, reduceIte, bw, Dk, Bv, K3, hT, Cw, Ai, Bu, A6, B4, AZ, Bg, AH, B3, B5, BN, Int.toNat_natCast, Int.reduceToNat, Nat.reduceAdd, Nat.reduceMul, Nat.reduceSub, Nat.reduceLeDiff, Nat.zero_add, Nat.add_zero, true_and, and_true, and_assoc, BB, BO, B7, BQ, BP, Bz, Bw, BM, Br, AK, Bc, Bd, Bq, or_false, false_or, not_true_eq_false, not_false_eq_true, hx]; rfl) : a = b := h
theorem GE (hk : AG W0 M0 dr calm E ops K r ⟨putD d c fr, H', n'⟩) (h : BZ E fr H n o = .h q c H' n' := by exact WU) (hq : q := by exact Ay) (hn : Co fr o := by exact Ge) (hl : (dr && Dd calm d o) = true → D8 H H' := by exact TT) : AG W0 M0 dr calm E ops K (⟨d, o, t, p, af, none⟩ :: r) ⟨fr, H, n⟩ := My h hn hq hl hk
theorem XT {a b : RS} (h : a = b := by simp only [AY, AD, AB, AC, Ba, eq_self, Nat.reduceEqDiff, reduceIte, bw, JL, Bv, K3, hT, Cw, Ai, Bu, A6, B4, AZ, Bg, AH, B3, B5, BN, Int.toNat_natCast, Int.reduceToNat, Nat.reduceAdd, Nat.reduceMul, Nat.reduceSub, Nat.reduceLeDiff, Nat.zero_add, Nat.add_zero, true_and, and_true, and_assoc, BB, BO, B7, BQ, BP, Bz, Bw, BM, Br, AK, Bc, Bd, Bq, or_false, false_or, not_true_eq_false, not_false_eq_true, hx]; rfl) : a = b := h
theorem X7 (hk : AG W0 M0 dr calm E ops K r ⟨putD d c fr, H', n'⟩) (h : BZ E fr H n o = .h q c H' n' := by exact XT) (hq : q := by exact Ay) (hn : Co fr o := by exact Ge) (hl : (dr && Dd calm d o) = true → D8 H H' := by exact TT) : AG W0 M0 dr calm E ops K (⟨d, o, t, p, af, none⟩ :: r) ⟨fr, H, n⟩ := My h hn hq hl hk
theorem XV {a b : RS} (h : a = b := by simp only [AY, AD, AB, AC, Ba, eq_self, Nat.reduceEqDiff, reduceIte, bw, F4, Bv, K3, hT, Cw, Ai, Bu, A6, B4, AZ, Bg, AH, B3, B5, BN, Int.toNat_natCast, Int.reduceToNat, Nat.reduceAdd, Nat.reduceMul, Nat.reduceSub, Nat.reduceLeDiff, Nat.zero_add, Nat.add_zero, true_and, and_true, and_assoc, BB, BO, B7, BQ, BP, Bz, Bw, BM, Br, AK, Bc, Bd, Bq, or_false, false_or, not_true_eq_false, not_false_eq_true, hx]; rfl) : a = b := h
theorem A8 (hk : AG W0 M0 dr calm E ops K r ⟨putD d c fr, H', n'⟩) (h : BZ E fr H n o = .h q c H' n' := by exact XV) (hq : q := by exact Ay) (hn : Co fr o := by exact Ge) (hl : (dr && Dd calm d o) = true → D8 H H' := by exact TT) : AG W0 M0 dr calm E ops K (⟨d, o, t, p, af, none⟩ :: r) ⟨fr, H, n⟩ := My h hn hq hl hk
theorem XK {a b : RS} (h : a = b := by simp only [AY, AD, AB, AC, Ba, eq_self, Nat.reduceEqDiff, reduceIte, bw, DK, BX, or_self, Bv, K3, hT, Cw, Ai, Bu, A6, B4, AZ, Bg, AH, B3, B5, BN, Int.toNat_natCast, Int.reduceToNat, Nat.reduceAdd, Nat.reduceMul, Nat.reduceSub, Nat.reduceLeDiff, Nat.zero_add, Nat.add_zero, true_and, and_true, and_assoc, BB, BO, B7, BQ, BP, Bz, Bw, BM, Br, AK, Bc, Bd, Bq, or_false, false_or, not_true_eq_false, not_false_eq_true, hx]; rfl) : a = b := h
theorem Ij (hk : AG W0 M0 dr calm E ops K r ⟨putD d c fr, H', n'⟩) (h : BZ E fr H n o = .h q c H' n' := by exact XK) (hq : q := by exact Ay) (hn : Co fr o := by exact Ge) (hl : (dr && Dd calm d o) = true → D8 H H' := by exact TT) : AG W0 M0 dr calm E ops K (⟨d, o, t, p, af, none⟩ :: r) ⟨fr, H, n⟩ := My h hn hq hl hk
theorem XQ {a b : RS} (h : a = b := by simp only [hc, AY, AD, AB, AC, Ba, eq_self, Nat.reduceEqDiff, reduceIte, bw, CM, Ch, Cg, AR, BA, hs, Ci, Ax, Ai, Bu, A6, B4, AZ, Bg, AH, B3, B5, BN, Int.toNat_natCast, Int.reduceToNat, Nat.reduceAdd, Nat.reduceMul, Nat.reduceSub, Nat.reduceLeDiff, Nat.zero_add, Nat.add_zero, true_and, and_true, and_assoc, BB, BO, B7, BQ, BP, Bz, Bw, BM, Br, AK, Bc, Bd, Bq, or_false, false_or, not_true_eq_false, not_false_eq_true, List.mem_cons, List.not_mem_nil, AJ, CB, CJ, hx]; rfl) : a = b := h
theorem Jw (hk : AG W0 M0 dr calm E ops K r ⟨putD d c fr, H', n'⟩) (h : BZ E fr H n o = .h q c H' n' := by exact XQ) (hq : q := by exact Ay) (hn : Co fr o := by exact Ge) (hl : (dr && Dd calm d o) = true → D8 H H' := by exact TT) : AG W0 M0 dr calm E ops K (⟨d, o, t, p, af, none⟩ :: r) ⟨fr, H, n⟩ := My h hn hq hl hk
theorem XP {a b : RS} (h : a = b := by simp only [hc, AY, AD, AB, AC, Ba, eq_self, Nat.reduceEqDiff, reduceIte, bw, CM, Ch, Cg, AR, BA, hs, Ci, Ax, Ai, Bu, A6, B4, AZ, Bg, AH, B3, B5, BN, Int.toNat_natCast, Int.reduceToNat, Nat.reduceAdd, Nat.reduceMul, Nat.reduceSub, Nat.reduceLeDiff, Nat.zero_add, Nat.add_zero, true_and, and_true, and_assoc, BB, BO, B7, BQ, BP, Bz, Bw, BM, Br, AK, Bc, Bd, Bq, or_false, false_or, not_true_eq_false, not_false_eq_true, List.mem_cons, List.not_mem_nil, AJ, CB, CJ, hx, FZ, gw, GU, H4, CT, Nat.reduceAdd, Nat.reduceSub, Nat.reduceLT, Nat.reduceLeDiff, if_true, if_false, ite_self, List.mem_append, true_implies, Option.bind_some]; rfl) : a = b := h
theorem BD (hk : AG W0 M0 dr calm E ops K r ⟨putD d c fr, H', n'⟩) (h : BZ E fr H n o = .h q c H' n' := by exact XP) (hq : q := by exact Ay) (hn : Co fr o := by exact Ge) (hl : (dr && Dd calm d o) = true → D8 H H' := by exact TT) : AG W0 M0 dr calm E ops K (⟨d, o, t, p, af, none⟩ :: r) ⟨fr, H, n⟩ := My h hn hq hl hk
theorem XR {a b : RS} (h : a = b := by simp only [LN, AY, AD, AB, AC, Ba, eq_self, Nat.reduceEqDiff, reduceIte, bw, CM, Ch, Cg, AR, BA, hs, Ci, Ax, hc, Ai, Bu, A6, B4, AZ, Bg, AH, B3, B5, BN, Int.toNat_natCast, Int.reduceToNat, Nat.reduceAdd, Nat.reduceMul, Nat.reduceSub, Nat.reduceLeDiff, Nat.zero_add, Nat.add_zero, true_and, and_true, and_assoc, BB, BO, B7, BQ, BP, Bz, Bw, BM, Br, AK, Bc, Bd, Bq, or_false, false_or, not_true_eq_false, not_false_eq_true, List.mem_cons, List.not_mem_nil, AJ, CB, CJ, hx, FZ, gw, GU, H4, CT, Nat.reduceAdd, Nat.reduceSub, Nat.reduceLT, Nat.reduceLeDiff, if_true, if_false, ite_self, List.mem_append, true_implies, Option.bind_some]; rfl) : a = b := h
theorem Yh (hk : AG W0 M0 dr calm E ops K r ⟨putD d c fr, H', n'⟩) (h : BZ E fr H n o = .h q c H' n' := by exact WU) (hg : AP ops fr (some gd) = some (some true) := by exact Bl) (hq : q := by exact Ay) (hn : Co fr o := by exact Ge) (hl : (dr && Dd calm d o) = true → D8 H H' := by exact TT) : AG W0 M0 dr calm E ops K (⟨d, o, t, p, af, some gd⟩ :: r) ⟨fr, H, n⟩ := V0 hg h (fun _ => ⟨hn, hq⟩) hl (fun _ => hk) (fun h => Bool.noConfusion h)
theorem MQ (hk : AG W0 M0 dr calm E ops K r ⟨putD d c fr, H', n'⟩) (h : BZ E fr H n o = .h q c H' n' := by exact XR) (hg : AP ops fr (some gd) = some (some true) := by exact Bl) (hq : q := by exact Ay) (hn : Co fr o := by exact Ge) (hl : (dr && Dd calm d o) = true → D8 H H' := by exact TT) : AG W0 M0 dr calm E ops K (⟨d, o, t, p, af, some gd⟩ :: r) ⟨fr, H, n⟩ := V0 hg h (fun _ => ⟨hn, hq⟩) hl (fun _ => hk) (fun h => Bool.noConfusion h)
theorem Ad {id : Nat} {l : List Oper} {draw : Bool} {st : St} {K : Exit → St → Prop} (h : AG W0 M0 draw [] E l.toArray (K .normal) l st) (hm : P.follows .mixedOrders = true := by exact Gm) (hok : NZ [] E.N draw l.toArray = true := by kernel_rfl) : VC E W0 M0 (.region id l.toArray draw) st K := Hk [] hm hok h
theorem Al {v : Operand} {x y : Code} {st : St} {K : Exit → St → Prop} {b : Bool} {p q : Prop} (h1 : p → VC E W0 M0 x st K) (h2 : q → VC E W0 M0 y st K) (hb : AL st.fr v = .d (.bool b) := by simp only [w1, w3, eq_self, Nat.reduceEqDiff, reduceIte]; rfl) (e1 : (b = true) = p := by first | (simp only [GQ, Ej, Fa]; rfl) | rfl) (e2 : (b = false) = q := by first | (simp only [GQ, Ej, Fa]; rfl) | rfl) : VC E W0 M0 (.cond v x y) st K := QW hb (fun h => h1 (e1 ▸ h)) (fun h => h2 (e2 ▸ h))
end
theorem Aj {p q : Prop} (h : q) (e : p = q := by first | (simp only [w1, w2, w3, w4, K3, Af, eq_self, Nat.reduceEqDiff, Nat.reduceLeDiff, Nat.reduceAdd, Nat.reduceSub, Nat.reduceMul, Int.toNat_natCast, Int.reduceToNat, Int.reduceNeg, List.mem_cons, List.not_mem_nil, or_false, false_or, not_true_eq_false, not_false_eq_true, Ej, Fa, reduceIte, true_and, and_true, and_assoc, true_implies, forall_const, implies_true, Bool.true_eq_false, Bool.false_eq_true, false_implies, AZ, B4, Bg, AH, B3, B5, Bz, BB, BO, B7, BQ, BP, reduceCtorEq, or_true, true_or, hx, hT]; rfl) | rfl) : p := e ▸ h
theorem A3 {p q : Prop} (h : q) (e : p = q := by first | (simp only [w1, w2, w3, w4, K3, Af, eq_self, Nat.reduceEqDiff, Nat.reduceLeDiff, Nat.reduceAdd, Nat.reduceSub, Nat.reduceMul, Int.toNat_natCast, Int.reduceToNat, Int.reduceNeg, List.mem_cons, List.not_mem_nil, or_false, false_or, not_true_eq_false, not_false_eq_true, Ej, Fa, reduceIte, true_and, and_true, and_assoc, true_implies, forall_const, implies_true, Bool.true_eq_false, Bool.false_eq_true, false_implies, AZ, B4, Bg, AH, B3, B5, Bz, BB, BO, B7, BQ, BP, reduceCtorEq, or_true, true_or, hx, hT]; (try simp only [w1, w2, w3, w4, K3, Af, eq_self, Nat.reduceEqDiff, Nat.reduceLeDiff, Nat.reduceAdd, Nat.reduceSub, Nat.reduceMul, Int.toNat_natCast, Int.reduceToNat, Int.reduceNeg, List.mem_cons, List.not_mem_nil, or_false, false_or, not_true_eq_false, not_false_eq_true, Ej, Fa, reduceIte, true_and, and_true, and_assoc, true_implies, forall_const, implies_true, Bool.true_eq_false, Bool.false_eq_true, false_implies, AZ, B4, Bg, AH, B3, B5, Bz, BB, BO, B7, BQ, BP, reduceCtorEq, or_true, true_or, hx, hT]); rfl) | rfl) : p := e ▸ h
end Go.Vc
/- The Vc layer: regions taken in several orders: where two operations may come first, both are shown. -/
set_option linter.all false
namespace Go.Vc
open Go Go.RowKit
inductive I8 where
 | nil
 | seq (is : List Nat) (t : I8)
 | alt (i : Nat) (a : I8) (r : I8)
def RX : I8 → List Nat
 | .alt i _ r => i :: RX r
 | _ => []
def M5 (calm : List FuncId) (ops : Array Oper) : List Nat → Array Bool → Option (Array Bool)
 | [], l => some l
 | i :: r, l => if decide (i < ops.size) && (G4 calm .any ops l i || Region.ready .any ops l == [i]) then M5 calm ops r (l.setIfInBounds i true) else none
def Gu (calm : List FuncId) (ops : Array Oper) : Bool → I8 → Nat → Array Bool → Bool
 | c, .nil, n, l => c || (n == 0 && (Region.ready .any ops l).isEmpty)
 | c, .seq is t, n, l => !c && match M5 calm ops is l with
  | some l' => decide (is.length ≤ n) && Gu calm ops false t (n - is.length) l'
  | none => false
 | c, .alt i a r, n, l => (c || Region.ready .any ops l == i :: RX r) && decide (i < ops.size) && decide (0 < n) && Gu calm ops false a (n - 1) (l.setIfInBounds i true) && Gu calm ops true r n l
def SN (calm : List FuncId) (N : Nat) (t : I8) (ops : Array Oper) : Bool :=
 ops.all (fun o => match o.dst with | some d => decide (d < N) | none => true) && Gu calm ops false t ops.size (Array.replicate ops.size false)
section
variable [AU] {P : Program} {E : Bo P} {W0 : World} {M0 : Nat → Prop}
def AT (W0 : World) (M0 : Nat → Prop) (calm : List FuncId) (E : Bo P) (ops : List Oper) (K : St → Prop) : Bool → I8 → St → Prop
 | c, .nil, st => c = true ∨ K st
 | _, .seq is t, st => AG W0 M0 true calm E ops.toArray (AT W0 M0 calm E ops K false t) (Dn ops is) st
 | _, .alt i a r, st => AG W0 M0 true calm E ops.toArray (AT W0 M0 calm E ops K false a) (Dn ops [i]) st ∧ AT W0 M0 calm E ops K true r st
theorem Pt {calm : List FuncId} {ops : List Oper} {K N : St → Prop} {i : Nat} {o : Oper} {l : Array Bool} {n : Nat} {st : St} (ho : ops[i]? = some o) (hf : G4 calm .any ops.toArray l i = true ∨ Region.ready .any ops.toArray l = [i])
  (h' : stepG W0 M0 true calm E ops.toArray o st N) (next : ∀ st, N st → Er W0 M0 calm E .any ops.toArray K n (l.setIfInBounds i true) st) : Er W0 M0 calm E .any ops.toArray K (n + 1) l st := by
 have ho' : ops.toArray[i]? = some o := by simpa using ho
 rcases hf with hf | hone
 ·simp only [G4, ho', Bool.and_eq_true] at hf
  obtain ⟨⟨ht, hrd⟩, ⟨⟨hiW, hWl⟩, hWa⟩, hfree⟩ := hf
  obtain ⟨c, hv, hK⟩ := GD ht h'
  generalize Hm .any ops.toArray l i = W at *
  refine F0 ho' ht W (by simpa using hiW) n l st (fun j hj => ?_) (fun j hj hne oj hoj => ?_) (fun j oj hoj hjW hun => ?_) (by simpa using hrd) hv (next _ hK)
  ·have := List.all_eq_true.1 hWl j hj
   simpa using this
  ·have := List.all_eq_true.1 hWa j hj
   simp only [hoj, Bool.or_eq_true, beq_iff_eq, hne, false_or] at this
   obtain ⟨e, he, hb⟩ := Array.any_eq_true'.1 this
   simp only [Bool.and_eq_true] at hb
   exact ⟨e, he, hb.1, by simpa using hb.2⟩
  ·have := List.all_eq_true.1 hfree j (List.mem_range.2 (Array.getElem?_eq_some_iff.1 hoj).1)
   simp only [hoj, Bool.or_eq_true, Bool.and_eq_true, hun, Bool.false_eq_true, or_false] at this
   rcases this with h1 | h1
   ·exact absurd (by simpa using h1) hjW
   ·exact ⟨h1.1, h1.2⟩
 ·refine ⟨fun h0 => absurd (hone.symm.trans h0) (by simp), fun j hj oj hoj => ?_⟩
  rw [hone] at hj
  simp only [List.mem_singleton] at hj
  subst hj
  rw [ho'] at hoj; cases hoj
  exact E1 next h'
theorem Kv {ops : List Oper} {i : Nat} {o : Oper} (h : ops[i]? = some o) (r : List Nat) : Dn ops (i :: r) = o :: Dn ops r := by rw [Dn, h]
theorem Pv {calm : List FuncId} {ops : List Oper} {K N : St → Prop} : ∀ (is : List Nat) (l l' : Array Bool) (n : Nat) (st : St), M5 calm ops.toArray is l = some l' → AG W0 M0 true calm E ops.toArray N (Dn ops is) st →
  (∀ st, N st → Er W0 M0 calm E .any ops.toArray K n l' st) → Er W0 M0 calm E .any ops.toArray K (n + is.length) l st := by
 intro is
 induction is with
 | nil => intro l l' n st hok h hn; simp only [M5, Option.some.injEq] at hok; subst hok; exact hn _ h
 | cons i is ih =>
  intro l l' n st hok h hn
  rw [M5] at hok
  split at hok
  ·rename_i hc
   simp only [Bool.and_eq_true, Bool.or_eq_true, decide_eq_true_eq, beq_iff_eq] at hc
   have ho : ops[i]? = some (ops[i]'(by simpa using hc.1)) := List.getElem?_eq_getElem _
   rw [Kv ho] at h
   exact Pt (n := n + is.length) ho hc.2 h fun st hs => ih _ _ _ _ hok hs hn
  ·cases hok
def XE (calm : List FuncId) (E : Bo P) (W0 : World) (M0 : Nat → Prop) (ops : List Oper) (K : St → Prop) (n : Nat) (l : Array Bool) (st : St) (is : List Nat) : Prop :=
 ∀ i ∈ is, ∀ o, ops.toArray[i]? = some o → stepG W0 M0 true calm E ops.toArray o st (Er W0 M0 calm E .any ops.toArray K n (l.setIfInBounds i true))
theorem MZ {calm : List FuncId} {ops : List Oper} {K : St → Prop} : ∀ (t : I8) (n : Nat) (l : Array Bool) (st : St),
  (Gu calm ops.toArray false t n l = true → AT W0 M0 calm E ops K false t st → Er W0 M0 calm E .any ops.toArray K n l st) ∧
  (Gu calm ops.toArray true t (n + 1) l = true → AT W0 M0 calm E ops K true t st → XE calm E W0 M0 ops K n l st (RX t)) := by
 intro t
 induction t with
 | nil =>
  intro n l st
  refine ⟨fun hok h => ?_, fun hok h i hi => by cases hi⟩
  simp only [Gu, Bool.false_or, Bool.and_eq_true, beq_iff_eq] at hok
  obtain ⟨rfl, hok⟩ := hok
  simp only [AT, Bool.false_eq_true, false_or] at h
  exact ⟨by simpa using hok, h⟩
 | seq is t ih =>
  intro n l st
  refine ⟨fun hok h => ?_, fun hok h i hi => by cases hi⟩
  rw [Gu] at hok
  simp only [Bool.not_false, Bool.true_and] at hok
  split at hok
  ·rename_i l' hs
   simp only [Bool.and_eq_true, decide_eq_true_eq] at hok
   have e : n = (n - is.length) + is.length := by omega
   rw [e]
   exact Pv is _ _ _ _ hs h fun st hs => (ih _ _ _).1 hok.2 hs
  ·cases hok
 | alt i a r iha ihr =>
  intro n l st
  have one : ∀ m, Gu calm ops.toArray false a m (l.setIfInBounds i true) = true → AG W0 M0 true calm E ops.toArray (AT W0 M0 calm E ops K false a) (Dn ops [i]) st → ∀ o, ops.toArray[i]? = some o →
    stepG W0 M0 true calm E ops.toArray o st (Er W0 M0 calm E .any ops.toArray K m (l.setIfInBounds i true)) := fun m hok h o ho => by
   have ho' : ops[i]? = some o := by simpa using ho
   rw [Kv ho'] at h
   exact E1 (fun st hs => (iha _ _ _).1 hok hs) h
  refine ⟨fun hok h => ?_, fun hok h => ?_⟩
  ·simp only [Gu, Bool.false_or, Bool.and_eq_true, decide_eq_true_eq, beq_iff_eq] at hok
   obtain ⟨⟨⟨⟨hr, hi⟩, hn⟩, ha⟩, hc⟩ := hok
   have e : n = (n - 1) + 1 := by omega
   rw [e] at hc ⊢
   refine ⟨fun h0 => absurd (hr.symm.trans h0) (by simp), fun k hk ok hok => ?_⟩
   rw [hr] at hk
   rcases List.mem_cons.1 hk with rfl | hk
   ·exact one _ ha h.1 ok hok
   ·exact (ihr (n - 1) l st).2 hc h.2 k hk ok hok
  ·simp only [Gu, Bool.true_or, Bool.true_and, Bool.and_eq_true, decide_eq_true_eq] at hok
   obtain ⟨⟨⟨hi, hn⟩, ha⟩, hc⟩ := hok
   intro k hk ok hok
   rcases List.mem_cons.1 hk with rfl | hk
   ·exact one _ ha h.1 ok hok
   ·exact (ihr n l st).2 hc h.2 k hk ok hok
theorem Fs (calm : List FuncId) (t : I8) (hm : P.follows .mixedOrders = true) {id : Nat} {l : List Oper} (hok : SN calm E.N t l.toArray = true) {st : St} {K : Exit → St → Prop} (h : AT W0 M0 calm E l (K .normal) false t st) : VC E W0 M0 (.region id l.toArray true) st K := by
 intro a w hs
 simp only [SN, Bool.and_eq_true] at hok
 have hd : ∀ o ∈ l, ∀ d, o.dst = some d → d < E.N := by
  intro o ho d hd
  have := Array.all_eq_true_iff_forall_mem.1 hok.1 o (by simpa using ho)
  rw [hd] at this
  simpa using this
 exact wpIn_region_any hm (I0 (calm := calm) (E := E) (W0 := W0) (M0 := M0) (K := K .normal) (fun i o d ho hdd => hd o (by
  have := List.mem_of_getElem? (l := l) (i := i) (by simpa using ho); exact this) d hdd) (fun st a w h1 h2 => ⟨st, h1, h2⟩) _ _ st a _ ((MZ t _ _ st).1 hok.2 h) hs.drawn)
theorem Bb {calm : List FuncId} {ops : List Oper} {K : St → Prop} {is : List Nat} {t : I8} {st : St} (h : AG W0 M0 true calm E ops.toArray (AT W0 M0 calm E ops K false t) (Dn ops is) st) : AT W0 M0 calm E ops K false (.seq is t) st := h
theorem AN {calm : List FuncId} {ops : List Oper} {K : St → Prop} {c : Bool} {i : Nat} {a r : I8} {st : St} (h : AG W0 M0 true calm E ops.toArray (AT W0 M0 calm E ops K false a) (Dn ops [i]) st) (h' : AT W0 M0 calm E ops K true r st) : AT W0 M0 calm E ops K c (.alt i a r) st := ⟨h, h'⟩
theorem Cl {calm : List FuncId} {ops : List Oper} {K : St → Prop} {st : St} : AT W0 M0 calm E ops K true .nil st := .inl rfl
theorem B9 {calm : List FuncId} {ops : List Oper} {K : St → Prop} {st : St} (h : K st) : AT W0 M0 calm E ops K false .nil st := .inr h
end
end Go.Vc
/- The Vc layer: a sequence cut in the middle: what comes behind is walked once, whatever ways lead there. -/
set_option linter.all false
namespace Go.Vc
open Go Go.RowKit
section
variable [AU] {P : Program} {E : Bo P} {W0 : World} {M0 : Nat → Prop}
theorem FV {σ : Type} (inv : σ → Prop) (fl : σ → List (Nat × AV)) (bl : σ → List (Option Bk)) {np : Nat} (hnp : AU.np = np) {x y : Code} {st : St} {K : Exit → St → Prop}
  (hy : ∀ s, inv s → VC E W0 M0 y (Gn (fl s) (bl s)) K) (hx : ∀ N : St → Prop, (∀ st', (∃ s, inv s ∧ ∃ ρ : Ren, Ju np ρ st' (fl s) (bl s)) → N st') → VC E W0 M0 x st (HX N K)) : VC E W0 M0 (.seq x y) st K :=
 TL (hx _ fun st' ⟨s, h1, ρ, h2⟩ => WA hnp (fl s) (bl s) ρ h2 (hy s h1))
end
end Go.Vc
