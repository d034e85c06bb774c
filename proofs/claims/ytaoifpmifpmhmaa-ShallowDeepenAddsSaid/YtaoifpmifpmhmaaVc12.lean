/- The Vc layer: one operation. -/
import Derived.Test.YtaoifpmifpmhmaaVc11
import Derived.OrdersIn
import Derived.LoopNIn
import Derived.RangeFuncCalls
import Derived.Scope
set_option linter.all false
namespace Go.Vc
open Go Go.RowKit
variable [Far]

/-- What an operation gives: a value that leaves memory alone, or a value and the boxes behind it. -/
inductive RS where
  | v (p : Prop) (c : AV)
  | h (p : Prop) (c : AV) (H : Heap) (n : Nat)
  | bad

def RS.ofV : RV → RS
  | some (p, c) => .v p c
  | none => .bad
def RS.ofH : RH → RS
  | some (p, c, H, n) => .h p c H n
  | none => .bad

def callS (sp : Spec) (H : Heap) (n : Nat) (args : List AV) : RS :=
  match readArgs H (sp.dom args H) args with
  | some (q, args', B) => match sp.run args' (restr (sp.dom args H) H) n with
    | some (p, r, none) => if scA r then .v (q ∧ p) r else .h (q ∧ p) r (killL B H) n
    | some (p, r, some (H', n')) => .h (q ∧ p) r (killL B (merge (sp.dom args H) n H H')) n'
    | none => .bad
  | none => .bad

/-- An operation of the sort that 'absV' knows. -/
def valOp : Op → Bool
  | .move _ | .assign _ | .nilCheck _ | .binOp .. | .unOp .. | .convert .. | .slice _ _ _ _ none | .fieldAddr .. | .field .. | .indexAddr .. | .index .. | .load .. | .extract .. | .build .. => true
  | .makeFunc .. => true
  | .call ⟨.builtin .len, _, _⟩ | .call ⟨.builtin .max, _, _⟩ | .call ⟨.builtin .min, _, _⟩ => true
  | _ => false

section
variable {P : Program}

def aOp (E : Env P) (fr : Nat → AV) (H : Heap) (n : Nat) (o : Op) : RS :=
  match o with
  | .alloc e => .ofH (aAlloc E.X.ty H n e)
  | .box e x => .ofH (aBox H n e (bare (evO fr x)))
  | .buildSlice t len parts => .ofH (aBuildSlice E.X.ty H n t len (parts.toList.map fun p => (p.1, bare (evO fr p.2))))
  | .makeSlice t l c => .ofH (aMake E.X.ty H n t (bare (evO fr l)) (bare (evO fr c)))
  | .store t a x => match aStore E.X.ty H t (bare (evO fr a)) (bare (evO fr x)) with
    | some (p, H') => .h p .any H' n
    | none => .bad
  | .pick c a b => .ofV (aPick (evO fr c) (evO fr a) (evO fr b))
  | .call ⟨.builtin .append, ⟨[s, x]⟩, ⟨[t, t']⟩⟩ => if t' = t then .ofH (aAppend E.X.ty H n t (bare (evO fr s)) (bare (evO fr x))) else .bad
  | .call ⟨.value f, args, _⟩ => match bare (evO fr f) with
    | .clo (.func f) cap => match E.Γ f with
      | some sp => callS sp H n ((args.toList.map fun x => bare (evO fr x)) ++ cap)
      | none => .bad
    | _ => .bad
  | o => .ofV (absV E.X.ty H fr o)

/-- What must be there of the operands: all of it, but for 'pick'. -/
def ndO (fr : Nat → AV) (o : Op) : Prop :=
  match o with
  | .pick .. => True
  | o => nd fr o.operands.toList

/-- Every function is let in; 'ρ': the record of the range over a function in whose round this stands. -/
def fen (ρ : Option Nat) : Fence := { Fence.wide with round := ρ }

theorem fen_calls {ρ : Option Nat} {f : FuncId} {args : Array Value} {w : World} {R : Ending → World → Prop} (h : Calls P f args w R) : CallsIn (fen ρ) 0 P f args w R := by
  cases ρ with
  | none => exact callsIn_wide.2 h
  | some l => exact CallsIn.inRound l (callsIn_wide.2 h)

theorem fen_op {ρ : Option Nat} {o : Oper} {a : Act} {w : World} {K : Act → World → Prop} {Q : Exit → Act → World → Prop} (hd : ∀ c, o.op ≠ .defer c) (h : o.uponIn (fen ρ) 0 P a K Q ((execOp a.eval o).run P w)) : o.wpIn (fen ρ) 0 P a w K Q := by
  refine ⟨fun _ _ => trivial, ?_⟩
  rw [Oper.semAt_eq _ _ _ hd]
  exact h

/-- A run that yields what the result says. -/
def Gives (P : Program) (ρ : Option Nat) (W0 : World) (M0 : Nat → Prop) (o : Oper) (a : Act) (w : World) (S : Lays) (n : Nat) (c : AV) (H' : Heap) (n' : Nat) : Prop :=
  ∀ (Q : Exit → Act → World → Prop) (K : Act → World → Prop),
    (∀ v w' S', HeapOk W0 M0 H' n' w' S' → Ext w S n w' S' n' → R w' S' n' c v → K (a.put o.dst v) w') → o.wpIn (fen ρ) 0 P a w K Q

variable {E : Env P} {w : World} {S : Lays} {n : Nat} {W0 : World} {M0 : Nat → Prop} {H : Heap} {fr : Nat → AV} {a : Act}

theorem merge_restr (hH : HeapOk W0 M0 H n w S) (D : List Nat) : merge D n H (restr D H) = H := by
  funext i
  unfold merge restr
  by_cases hD : i ∈ D
  · simp [hD]
  · simp only [hD, false_or, if_false]
    split
    · rename_i hn
      cases hi : H i with
      | none => rfl
      | some b =>
        obtain ⟨l, hl, _⟩ := hH.box i b hi
        rw [hH.bnd i hn] at hl; cases hl
    · rfl

/-- What 'callS' gives as boxes. -/
def RS.heap (r : RS) (H : Heap) (n : Nat) : Option (Prop × AV × Heap × Nat) :=
  match r with
  | .v p c => some (p, c, H, n)
  | .h p c H' n' => some (p, c, H', n')
  | .bad => none

theorem callS_ok (hH : HeapOk W0 M0 H n w S) {f : FuncId} {sp : Spec} (hf : E.Γ f = some sp) {args : List AV} {p : Prop} {c : AV} {H' : Heap} {n' : Nat} (h : (callS sp H n args).heap H n = some (p, c, H', n')) (hp : p)
    {vs : List Value} (hl : vs.length = args.length) (hr : ∀ (i : Nat) (c : AV) (u : Value), args[i]? = some c → vs[i]? = some u → R w S n c u) :
    Calls P f vs.toArray w fun e w' => ∃ v S', e = .returned v ∧ HeapOk W0 M0 H' n' w' S' ∧ Ext w S n w' S' n' ∧ R w' S' n' c v := by
  unfold callS at h
  split at h
  · rename_i q args' B hra
    have hfar := readArgs_far hra
    have hDB : ∀ i ∈ B, i ∉ sp.dom args H := fun i hi => (hfar i hi).1
    have hE0 := hH.enter (sp.dom args H) B hDB
    have go : ∀ {p' : Prop} {r : AV} {o : Option (Heap × Nat)}, sp.run args' (restr (sp.dom args H) H) n = some (p', r, o) → q → p' →
        Calls P f vs.toArray w fun e w' => ∃ v S', e = .returned v ∧ Left (restr (sp.dom args H) H) n w (killL B S) (o.getD (restr (sp.dom args H) H, n)).1 (o.getD (restr (sp.dom args H) H, n)).2 w' S' ∧
          (o = none → S' = killL B S ∧ ∀ b, b < w.heap.size → w'.heap[b]? = w.heap[b]?) ∧ R w' S' (o.getD (restr (sp.dom args H) H, n)).2 r v := by
      intro p' r o hrun hq hp'
      obtain ⟨hl', hr'⟩ := readArgs_ok (B0 := B) hH hra hq (fun i hi => hi)
      exact E.ok f sp hf args' (restr (sp.dom args H) H) n p' r o hrun hp' w (killL B S) vs hE0 (by omega) (hr' vs hl hr)
    split at h
    · rename_i p' r hrun
      split at h
      · rename_i hsc
        simp only [RS.heap, Option.some.injEq, Prod.mk.injEq] at h
        obtain ⟨rfl, rfl, rfl, rfl⟩ := h
        refine Calls.mono (go hrun hp.1 hp.2) ?_
        rintro e w' ⟨v, S', rfl, hL, hs, hR⟩
        obtain ⟨rfl, hq⟩ := hs rfl
        obtain ⟨h1, h2⟩ := hH.back_same hDB hL (fun i hi => (hfar i hi).2) hq
        exact ⟨v, S, rfl, h1, h2, scA_any hsc hR⟩
      · simp only [RS.heap, Option.some.injEq, Prod.mk.injEq] at h
        obtain ⟨rfl, rfl, rfl, rfl⟩ := h
        refine Calls.mono (go hrun hp.1 hp.2) ?_
        rintro e w' ⟨v, S', rfl, hL, hs, hR⟩
        obtain ⟨h1, h2⟩ := hH.back hDB hL
        rw [show (Option.getD (none : Option (Heap × Nat)) (restr (sp.dom args H) H, n)).1 = restr (sp.dom args H) H from rfl, merge_restr hH] at h1
        exact ⟨v, S', rfl, h1, h2, hR⟩
    · rename_i p' r H1 n1 hrun
      simp only [RS.heap, Option.some.injEq, Prod.mk.injEq] at h
      obtain ⟨rfl, rfl, rfl, rfl⟩ := h
      refine Calls.mono (go hrun hp.1 hp.2) ?_
      rintro e w' ⟨v, S', rfl, hL, hs, hR⟩
      obtain ⟨h1, h2⟩ := hH.back hDB hL
      exact ⟨v, S', rfl, h1, h2, hR⟩
    · cases h
  · cases h

theorem Gives.value {ρ : Option Nat} {o : Oper} (hd : ∀ c, o.op ≠ .defer c) {c : AV} {H' : Heap} {n' : Nat} (h : ∃ r w' S', (execOp a.eval o).run P w = .ok (.value r) w' ∧ HeapOk W0 M0 H' n' w' S' ∧ Ext w S n w' S' n' ∧ R w' S' n' c r) : Gives P ρ W0 M0 o a w S n c H' n' := by
  obtain ⟨r, w', S', h1, h2, h3, h4⟩ := h
  intro Q K hK
  refine fen_op hd ?_
  rw [h1]
  exact hK r w' S' h2 h3 h4

theorem aOp_ok (hH : HeapOk W0 M0 H n w S) (hF : ∀ i, R w S n (fr i) (a.tmps.getD i undef)) {o : Oper} {c : AV} {p : Prop} {H' : Heap} {n' : Nat} (h : (aOp E fr H n o.op).heap H n = some (p, c, H', n')) (hp : p) (hn : ndO fr o.op) :
    Gives P E.ρ W0 M0 o a w S n c H' n' := by
  have hnd : ∀ c, o.op ≠ .defer c := fun c e => by rw [e] at h; simp [aOp, absV, RS.ofV, RS.heap] at h
  have ev : nd fr o.op.operands.toList → ∀ x ∈ o.op.operands.toList, R w S n (bare (evO fr x)) (a.eval x) := fun hn x hx => (evO_ok hF x).bare_of (nd_mem hn x hx)
  have hval : (RS.ofV (absV E.X.ty H fr o.op)).heap H n = some (p, c, H', n') → nd fr o.op.operands.toList → Gives P E.ρ W0 M0 o a w S n c H' n' := by
    intro h hn
    cases hv : absV E.X.ty H fr o.op with
    | none => rw [hv] at h; cases h
    | some pc =>
      obtain ⟨p', c'⟩ := pc
      rw [hv] at h
      simp only [RS.ofV, RS.heap, Option.some.injEq, Prod.mk.injEq] at h
      obtain ⟨rfl, rfl, rfl, rfl⟩ := h
      obtain ⟨r, h1, h2⟩ := absV_ok hH hF hv hp hn
      exact .value hnd ⟨r, w, S, h1, hH, Ext.refl _ _ _, h2⟩
  have val : ∀ {s : Sem Value}, (execOp a.eval o = do pure (.value (← s))) → (∃ r w' S', s.run P w = .ok r w' ∧ HeapOk W0 M0 H' n' w' S' ∧ Ext w S n w' S' n' ∧ R w' S' n' c r) → Gives P E.ρ W0 M0 o a w S n c H' n' := by
    rintro s he ⟨r, w', S', hr, h1, h2, h3⟩
    exact .value hnd ⟨r, w', S', by rw [he]; simp only [Sem.run_bind, hr, Result.andThen_ok, Sem.run_pure], h1, h2, h3⟩
  have hof : ∀ {r : RH}, (RS.ofH r).heap H n = some (p, c, H', n') → r = some (p, c, H', n') := by
    intro r hr
    cases r with
    | none => cases hr
    | some x => obtain ⟨_, _, _, _⟩ := x; exact hr
  obtain ⟨dst, op, type, pos, after, guard⟩ := o
  simp only at h hn ev hval hnd
  unfold aOp at h
  split at h
  · rename_i e
    exact val rfl (aAlloc_ok hH (hof h) hp)
  · rename_i e x
    refine val rfl (aBox_ok hH (hof h) (ev hn x (by simp [Op.operands])))
  · rename_i t len parts
    refine val rfl (aBuildSlice_ok hH (hof h) hp (by simp) (fun i k c hi => ?_))
    rw [List.getElem?_map] at hi
    cases hq : parts.toList[i]? with
    | none => rw [hq] at hi; cases hi
    | some q =>
      rw [hq] at hi
      simp only [Option.map_some, Option.some.injEq, Prod.mk.injEq] at hi
      obtain ⟨rfl, rfl⟩ := hi
      refine ⟨a.eval q.2, ?_, ev hn q.2 ?_⟩
      · rw [Array.getElem?_toList] at hq
        simp [hq]
      · simp only [Op.operands, List.toList_toArray, List.mem_map]
        exact ⟨q, List.mem_of_getElem? hq, rfl⟩
  · rename_i t l c
    exact val rfl (aMake_ok hH (hof h) hp (ev hn l (by simp [Op.operands])) (ev hn c (by simp [Op.operands])))
  · rename_i t ad x
    split at h
    · rename_i p' H1 hst
      simp only [RS.heap, Option.some.injEq, Prod.mk.injEq] at h
      obtain ⟨rfl, rfl, rfl, rfl⟩ := h
      obtain ⟨w', S', hrun, h1, h2⟩ := aStore_ok hH hst hp (ev hn ad (by simp [Op.operands])) (ev hn x (by simp [Op.operands]))
      intro Q K hK
      refine fen_op hnd ?_
      have : (execOp a.eval ⟨dst, .store t ad x, type, pos, after, guard⟩).run P w = .ok .skip w' := by
        simp only [execOp, Sem.run_bind, hrun, Result.andThen_ok, Sem.run_pure]
      rw [this]
      exact hK undef w' S' h1 h2 (.any _)
    · cases h
  · rename_i x y z
    cases hv : aPick (evO fr x) (evO fr y) (evO fr z) with
    | none => rw [hv] at h; cases h
    | some pc =>
      obtain ⟨p', c'⟩ := pc
      rw [hv] at h
      simp only [RS.ofV, RS.heap, Option.some.injEq, Prod.mk.injEq] at h
      obtain ⟨rfl, rfl, rfl, rfl⟩ := h
      unfold aPick at hv
      split at hv
      · rename_i b b1 b2 e1 e2 e3
        simp only [Option.some.injEq, Prod.mk.injEq] at hv
        obtain ⟨rfl, rfl⟩ := hv
        have r1 := (evO_ok hF x).bare_of hp.1
        rw [e1, R.bool_iff] at r1
        cases b with
        | true =>
          have r2 := (evO_ok hF y).bare_of (hp.2.1 rfl)
          rw [e2] at r2
          exact .value hnd ⟨a.eval y, w, S, by simp [execOp, asBool, r1], hH, Ext.refl _ _ _, r2⟩
        | false =>
          have r2 := (evO_ok hF z).bare_of (hp.2.2 rfl)
          rw [e3] at r2
          exact .value hnd ⟨a.eval z, w, S, by simp [execOp, asBool, r1], hH, Ext.refl _ _ _, r2⟩
      · rename_i x' e1 e2 _
        simp only [Option.some.injEq, Prod.mk.injEq] at hv
        obtain ⟨rfl, rfl⟩ := hv
        have r1 := (evO_ok hF x).bare_of hp.1
        rw [e1, R.bool_iff] at r1
        have r2 := (evO_ok hF y).bare_of hp.2
        rw [e2] at r2
        exact .value hnd ⟨a.eval y, w, S, by simp [execOp, asBool, r1], hH, Ext.refl _ _ _, r2⟩
      · rename_i y' e1 e2 _
        simp only [Option.some.injEq, Prod.mk.injEq] at hv
        obtain ⟨rfl, rfl⟩ := hv
        have r1 := (evO_ok hF x).bare_of hp.1
        rw [e1, R.bool_iff] at r1
        have r2 := (evO_ok hF z).bare_of hp.2
        rw [e2] at r2
        exact .value hnd ⟨a.eval z, w, S, by simp [execOp, asBool, r1], hH, Ext.refl _ _ _, r2⟩
      · cases hv
  · rename_i s x t t'
    split at h
    · rename_i ht; subst ht
      obtain ⟨r, w', S', hrun, h1⟩ := aAppend_ok (ty' := type) hH (hof h) hp (ev hn s (by simp [Op.operands, Call.operands])) (ev hn x (by simp [Op.operands, Call.operands]))
      refine .value hnd ⟨r, w', S', ?_, h1⟩
      simp only [execOp, resolve, invoke, builtin, Sem.run_bind, Sem.run_pure, Result.andThen_ok, List.map_toArray, List.map_cons, List.map_nil]
      rw [hrun]
      rfl
    · cases h
  · rename_i f args ts
    split at h
    · rename_i g cap hcl
      split at h
      · rename_i sp hsp
        have rf := ev hn f (by simp [Op.operands, Call.operands])
        rw [hcl] at rf
        generalize hvf : a.eval f = vf at rf
        cases rf with | clo _ _ us hul hur =>
        have hrun : (execOp a.eval ⟨dst, .call ⟨.value f, args, ts⟩, type, pos, after, guard⟩).run P w = .ok (.enter g ((args.toList.map a.eval) ++ us).toArray) w := by
          simp only [execOp, resolve, Sem.run_bind, hvf]
          simp [Deferred.ofValue, invoke, enters_run (E.ent g sp hsp)]
        have hcall := callS_ok (E := E) hH hsp h hp (vs := (args.toList.map a.eval) ++ us) (by simp [hul]) (fun i c u hc hu => by
          by_cases hi : i < args.toList.length
          · rw [List.getElem?_append_left (by simpa using hi), List.getElem?_map] at hc hu
            cases hq : args.toList[i]? with
            | none => rw [hq] at hc; cases hc
            | some q =>
              rw [hq] at hc hu; cases hc; cases hu
              refine ev hn q ?_
              simp only [Op.operands, Call.operands, Array.toList_append, List.mem_append]
              exact .inr (List.mem_of_getElem? hq)
          · rw [List.getElem?_append_right (by simpa using hi)] at hc hu
            simp only [List.length_map] at hc hu
            exact hur _ c u hc hu)
        intro Q K hK
        refine fen_op hnd ?_
        rw [hrun, Oper.uponIn_enter]
        refine ⟨fun h => (by cases h), fen_calls (Calls.mono hcall ?_)⟩
        rintro e w' ⟨v, S', rfl, h1, h2, h3⟩
        exact hK v w' S' h1 h2 h3
      · cases h
    · cases h
  · refine hval h ?_
    unfold ndO at hn
    split at hn
    · exfalso; simp_all
    · exact hn
end
end Go.Vc
