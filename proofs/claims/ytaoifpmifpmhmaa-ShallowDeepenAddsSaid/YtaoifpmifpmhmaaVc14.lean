/- The Vc layer: an operation that only yields a value may be taken first. -/
import Derived.Test.YtaoifpmifpmhmaaVc13
set_option linter.all false
namespace Go.Vc
open Go Go.RowKit
variable [Far]

/-- More boxes. -/
def HLe (H H' : Heap) : Prop := ∀ id b, H id = some b → H' id = some b

/-- It does not look at the boxes. -/
def stillB : Op → Bool
  | .move _ | .assign _ | .binOp .. | .unOp .. | .field .. | .index .. | .extract .. | .pick .. => true
  | _ => false

/-- It yields a value and leaves memory alone. -/
def takeB : Op → Bool
  | .pick .. => true
  | o => valOp o

/-- It leaves the boxes alone. -/
def quietB (calm : List FuncId) : Op → Bool
  | .call ⟨.value (.func f), _, _⟩ => calm.contains f
  | o => takeB o

section
variable {P : Program} {E : Env P}

def Calm (E : Env P) (calm : List FuncId) : Prop :=
  ∀ f sp, f ∈ calm → E.Γ f = some sp → ∀ args H n p r o, sp.run args H n = some (p, r, o) → o = none ∧ scA r = true

theorem aOp_still {fr : Nat → AV} {H H' : Heap} {n n' : Nat} {op : Op} (h : stillB op = true) : aOp E fr H n op = aOp E fr H' n' op := by
  unfold stillB at h
  split at h <;> first | rfl | cases h

theorem hle_some {H H' : Heap} (h : HLe H H') {id : Nat} {b : Box} (hb : H id = some b) : H' id = some b := h id b hb

theorem aNil_mono {H H' : Heap} (h : HLe H H') {x : AV} {r : Prop × AV} (hr : aNil H x = some r) : aNil H' x = some r := by
  unfold aNil at *
  split at hr
  · split at hr
    · rename_i hb; simp only [h _ _ hb]; exact hr
    · cases hr
  all_goals exact hr

theorem aLen_mono {ty : TypeId → Option TI} {H H' : Heap} (h : HLe H H') {t : TypeId} {x : AV} {r : Prop × AV} (hr : aLen ty H t x = some r) : aLen ty H' t x = some r := by
  unfold aLen at *
  repeat' split at hr
  all_goals first
    | (cases hr; done)
    | (rename_i hb; simp only [h _ _ hb, *] at *; done)
    | (simp_all [HLe]; done)

theorem aSlice_mono {ty : TypeId → Option TI} {H H' : Heap} (h : HLe H H') {t : TypeId} {x : AV} {lo hi : Option AV} {r : Prop × AV} (hr : aSlice ty H t x lo hi = some r) : aSlice ty H' t x lo hi = some r := by
  unfold aSlice at *
  repeat' split at hr
  all_goals first
    | (cases hr; done)
    | (rename_i hb; simp only [h _ _ hb, *] at *; done)
    | (simp_all [HLe]; done)

theorem aFieldAddr_mono {ty : TypeId → Option TI} {H H' : Heap} (h : HLe H H') {s : TypeId} {x : AV} {f : Nat} {r : Prop × AV} (hr : aFieldAddr ty H s x f = some r) : aFieldAddr ty H' s x f = some r := by
  unfold aFieldAddr at *
  repeat' split at hr
  all_goals first
    | (cases hr; done)
    | (rename_i hb; simp only [h _ _ hb, *] at *; done)
    | (simp_all [HLe]; done)

theorem aIndexAddr_mono {ty : TypeId → Option TI} {H H' : Heap} (h : HLe H H') {t : TypeId} {x i : AV} {r : Prop × AV} (hr : aIndexAddr ty H t x i = some r) : aIndexAddr ty H' t x i = some r := by
  unfold aIndexAddr at *
  repeat' split at hr
  all_goals first
    | (cases hr; done)
    | (rename_i hb; simp only [h _ _ hb, *] at *; done)
    | (simp_all [HLe]; done)

theorem aLoad_mono {ty : TypeId → Option TI} {H H' : Heap} (h : HLe H H') {t : TypeId} {x : AV} {r : Prop × AV} (hr : aLoad ty H t x = some r) : aLoad ty H' t x = some r := by
  unfold aLoad at *
  repeat' split at hr
  all_goals first
    | (cases hr; done)
    | (rename_i hb; simp only [h _ _ hb, *] at *; done)
    | (simp_all [HLe]; done)

theorem cellsA_mono {H H' : Heap} (h : HLe H H') {x : AV} {r : List AV} (hr : cellsA H x = some r) : cellsA H' x = some r := by
  unfold cellsA at *
  repeat' split at hr
  all_goals first
    | (cases hr; done)
    | (rename_i hb; simp only [h _ _ hb, *] at *; done)
    | (simp_all [HLe]; done)

theorem aConv_mono {ty : TypeId → Option TI} {H H' : Heap} (h : HLe H H') {s t : TypeId} {x : AV} {r : Prop × AV} (hr : aConv ty H s t x = some r) : aConv ty H' s t x = some r := by
  unfold aConv at *
  repeat' split at hr
  all_goals first
    | (cases hr; done)
    | (rename_i hb; simp only [h _ _ hb, *] at *; done)
    | (simp_all [HLe]; done)

theorem fillA_mono {H H' : Heap} (h : HLe H H') {pl : Nat → Option (Nat × Nat)} : ∀ {parts : List (Nat × AV)} {cs out : List AV}, fillA H pl cs parts = some out → fillA H' pl cs parts = some out := by
  intro parts
  induction parts with
  | nil => intro cs out hr; exact hr
  | cons q parts ih =>
    intro cs out hr
    obtain ⟨i, x⟩ := q
    unfold fillA at hr ⊢
    split at hr
    · rename_i hpl hcs
      rw [cellsA_mono h hcs]
      simp only [hpl]
      split at hr
      · rename_i hc; rw [if_pos hc]; exact ih hr
      · cases hr
    · cases hr

theorem aBuild_mono {ty : TypeId → Option TI} {H H' : Heap} (h : HLe H H') {t : TypeId} {parts : List (Nat × AV)} {r : Prop × AV} (hr : aBuild ty H t parts = some r) : aBuild ty H' t parts = some r := by
  have go : ∀ {pl : Nat → Option (Nat × Nat)} {cs : List AV} {k : List AV → Prop × AV}, (fillA H pl cs parts).map k = some r → (fillA H' pl cs parts).map k = some r := by
    intro pl cs k hk
    rw [Option.map_eq_some_iff] at *
    obtain ⟨x, h1, h2⟩ := hk
    exact ⟨x, fillA_mono h h1, h2⟩
  unfold aBuild at *
  repeat' split at hr
  · exact go hr
  · exact go hr
  · cases hr
  · cases hr

theorem absV_mono {ty : TypeId → Option TI} {H H' : Heap} (h : HLe H H') {fr : Nat → AV} {op : Op} {r : Prop × AV} (hr : absV ty H fr op = some r) : absV ty H' fr op = some r := by
  unfold absV at hr ⊢
  split at hr
  all_goals first
    | (cases hr; done)
    | exact hr
    | exact aNil_mono h hr
    | exact aConv_mono h hr
    | exact aSlice_mono h hr
    | exact aFieldAddr_mono h hr
    | exact aIndexAddr_mono h hr
    | exact aLoad_mono h hr
    | exact aBuild_mono h hr
    | exact aLen_mono h hr

theorem aOp_val {fr : Nat → AV} {H : Heap} {n : Nat} {op : Op} (h : valOp op = true) : aOp E fr H n op = .ofV (absV E.X.ty H fr op) := by
  unfold valOp at h
  split at h <;> first | rfl | cases h

theorem aOp_mono {fr : Nat → AV} {H H' : Heap} {n n' : Nat} (h : HLe H H') {op : Op} (ht : takeB op = true) {p : Prop} {c : AV} (hr : aOp E fr H n op = .v p c) : aOp E fr H' n' op = .v p c := by
  unfold takeB at ht
  split at ht
  · exact hr
  · rw [aOp_val ht] at *
    cases hv : absV E.X.ty H fr op with
    | none => rw [hv] at hr; cases hr
    | some r => rw [hv] at hr; rw [absV_mono h hv]; exact hr

/-- A quiet operation gives no boxes. -/
theorem aOp_quiet {calm : List FuncId} (hc : Calm E calm) {fr : Nat → AV} {H H' : Heap} {n n' : Nat} {op : Op} (hq : quietB calm op = true) {p : Prop} {c : AV} (hr : aOp E fr H n op = .h p c H' n') : False := by
  unfold quietB at hq
  split at hq
  · rename_i f args ts
    have hr' : (match E.Γ f with | some sp => callS sp H n ((args.toList.map fun x => bare (evO fr x)) ++ []) | none => .bad) = RS.h p c H' n' := hr
    split at hr'
    · rename_i sp hsp
      unfold callS at hr'
      split at hr'
      · split at hr'
        · rename_i hrun
          obtain ⟨_, hsc⟩ := hc f sp (by simpa using hq) hsp _ _ _ _ _ _ hrun
          rw [if_pos hsc] at hr'; cases hr'
        · rename_i hrun
          obtain ⟨ho, _⟩ := hc f sp (by simpa using hq) hsp _ _ _ _ _ _ hrun
          cases ho
        · cases hr'
      · cases hr'
    · cases hr'
  · unfold takeB at hq
    split at hq
    · rename_i x y z _
      have hr' : RS.ofV (aPick (evO fr x) (evO fr y) (evO fr z)) = .h p c H' n' := hr
      cases hv : aPick (evO fr x) (evO fr y) (evO fr z) with
      | none => rw [hv] at hr'; cases hr'
      | some q => rw [hv] at hr'; cases hr'
    · rw [aOp_val hq] at hr
      cases hv : absV E.X.ty H fr op with
      | none => rw [hv] at hr; cases hr
      | some q => rw [hv] at hr; cases hr

/-! ### frames that agree on what an operation looks at -/
theorem absV_congr {ty : TypeId → Option TI} {H : Heap} {fr fr' : Nat → AV} {op : Op} (h : ∀ x ∈ op.operands.toList, evO fr x = evO fr' x) : absV ty H fr op = absV ty H fr' op := by
  unfold absV
  split <;> first
    | (simp only [Op.operands, Call.operands, List.mem_cons, List.mem_append, Array.toList_append, List.not_mem_nil, or_false, forall_eq_or_imp, forall_eq] at h; simp only [h]; done)
    | rfl
    | skip
  · rename_i t x lo hi
    rw [h x (by simp [Op.operands])]
    cases lo with
    | none => cases hi with
      | none => rfl
      | some y => simp only [Option.map_some, Option.map_none]; rw [h y (by simp [Op.operands])]
    | some z => cases hi with
      | none => simp only [Option.map_some, Option.map_none]; rw [h z (by simp [Op.operands])]
      | some y => simp only [Option.map_some]; rw [h y (by simp [Op.operands]), h z (by simp [Op.operands])]
  · rename_i t parts
    congr 1
    refine List.map_congr_left fun q hq => ?_
    rw [h q.2 (by simp only [Op.operands, List.toList_toArray, List.mem_map]; exact ⟨q, hq, rfl⟩)]
  · rename_i fn cap
    congr 3
    refine List.map_congr_left fun x hx => ?_
    rw [h x (by simp only [Op.operands, Array.toList_append, List.mem_append]; exact .inr hx)]
  · rename_i x t
    rw [h x (by simp [Op.operands, Call.operands])]
  · rename_i x y _
    rw [h x (by simp [Op.operands, Call.operands]), h y (by simp [Op.operands, Call.operands])]
  · rename_i x y _
    rw [h x (by simp [Op.operands, Call.operands]), h y (by simp [Op.operands, Call.operands])]

theorem aOp_congr {fr fr' : Nat → AV} {H : Heap} {n : Nat} {op : Op} (h : ∀ x ∈ op.operands.toList, evO fr x = evO fr' x) : aOp E fr H n op = aOp E fr' H n op := by
  unfold aOp
  split
  · rfl
  · rename_i e x
    rw [h x (by simp [Op.operands])]
  · rename_i t len parts
    congr 2
    refine List.map_congr_left fun q hq => ?_
    rw [h q.2 (by simp only [Op.operands, List.toList_toArray, List.mem_map]; exact ⟨q, hq, rfl⟩)]
  · rename_i t l c
    rw [h l (by simp [Op.operands]), h c (by simp [Op.operands])]
  · rename_i t ad x
    rw [h ad (by simp [Op.operands]), h x (by simp [Op.operands])]
  · rename_i x y z
    rw [h x (by simp [Op.operands]), h y (by simp [Op.operands]), h z (by simp [Op.operands])]
  · rename_i s x t t'
    rw [h s (by simp [Op.operands, Call.operands]), h x (by simp [Op.operands, Call.operands])]
  · rename_i f args ts
    rw [h f (by simp [Op.operands, Call.operands])]
    have : args.toList.map (fun x => bare (evO fr x)) = args.toList.map (fun x => bare (evO fr' x)) :=
      List.map_congr_left fun x hx => by rw [h x (by simp only [Op.operands, Call.operands, Array.toList_append, List.mem_append]; exact .inr hx)]
    rw [this]
  · rw [absV_congr h]

theorem nd_congr {fr fr' : Nat → AV} : ∀ {l : List Operand}, (∀ x ∈ l, evO fr x = evO fr' x) → nd fr l = nd fr' l := by
  intro l
  induction l with
  | nil => intro _; rfl
  | cons x l ih => intro h; unfold nd; rw [h x (by simp), ih (fun y hy => h y (by simp [hy]))]

theorem ndO_congr {fr fr' : Nat → AV} {op : Op} (h : ∀ x ∈ op.operands.toList, evO fr x = evO fr' x) : ndO fr op = ndO fr' op := by
  unfold ndO
  split
  · rfl
  · exact nd_congr h

theorem guardA_congr {ops : Array Oper} {fr fr' : Nat → AV} {o : Oper} (h : ∀ d, (∃ g want, o.guard = some (g, want) ∧ (ops[g]?).bind (·.dst) = some d) → fr d = fr' d) : guardA ops fr o.guard = guardA ops fr' o.guard := by
  unfold guardA
  split
  · rfl
  · rename_i g want hg
    split
    · rename_i d hd; rw [h d ⟨g, want, hg, hd⟩]
    · rfl

/-- Frames that differ only in a place that the operation does not look at. -/
theorem putD_agree {ops : Array Oper} {o : Oper} {dst : Option Tmp} {c : AV} {fr : Nat → AV} (h : ∀ d, dst = some d → d ∉ o.looksAt ops) :
    (∀ x ∈ o.op.operands.toList, evO (putD dst c fr) x = evO fr x) ∧ ∀ d, (∃ g want, o.guard = some (g, want) ∧ (ops[g]?).bind (·.dst) = some d) → putD dst c fr d = fr d := by
  cases dst with
  | none => exact ⟨fun _ _ => rfl, fun _ _ => rfl⟩
  | some e =>
    have he := h e rfl
    unfold Oper.looksAt at he
    rw [List.mem_append, not_or] at he
    refine ⟨fun x hx => ?_, ?_⟩
    · cases x with
      | tmp t =>
        have : t ≠ e := fun ht => he.1 (List.mem_filterMap.2 ⟨.tmp t, hx, by rw [ht]⟩)
        simp [evO, putD, upd_app, this]
      | _ => rfl
    · rintro d ⟨g, want, hg, hd⟩
      have : d ≠ e := fun ht => he.2 (by simp [hg, hd, ht])
      simp [putD, upd_app, this]

theorem putD_comm {x y : Option Tmp} (h : ∀ d, x = some d → y ≠ some d) (c e : AV) (fr : Nat → AV) : putD y e (putD x c fr) = putD x c (putD y e fr) := by
  cases x with
  | none => rfl
  | some d =>
    cases y with
    | none => rfl
    | some k =>
      have hne : d ≠ k := fun he => h d rfl (by rw [he])
      funext i
      simp only [putD, upd_app]
      split <;> split <;> first | rfl | (rename_i h1 h2; exact absurd (h2.symm.trans h1) hne) | (rename_i h1 h2; exact absurd (h1.symm.trans h2) hne)

/-- What an operation that may be taken first gives. -/
def vRes (E : Env P) (ops : Array Oper) (o : Oper) (st : St) : RV :=
  match guardA ops st.fr o.guard with
  | none => none
  | some none => match aOp E st.fr st.H st.n o.op with
    | .v p c => some (ndO st.fr o.op ∧ p, c)
    | _ => none
  | some (some b) => match aOp E st.fr st.H st.n o.op with
    | .v p c => some (b = true → ndO st.fr o.op ∧ p, .cond b c)
    | _ => none

theorem vRes_step {ops : Array Oper} {o : Oper} {st : St} {p : Prop} {c : AV} (h : vRes E ops o st = some (p, c)) (hp : p) {K : St → Prop} (hK : K ⟨putD o.dst c st.fr, st.H, st.n⟩) : stepO E ops o st K := by
  unfold vRes at h
  unfold stepO
  split at h
  · cases h
  · rename_i hg
    rw [hg]
    split at h
    · rename_i p' c' hr
      simp only [Option.some.injEq, Prod.mk.injEq] at h
      obtain ⟨rfl, rfl⟩ := h
      simp only [hr]
      exact ⟨hp.1, hp.2, hK⟩
    · cases h
  · rename_i b hg
    rw [hg]
    split at h
    · rename_i p' c' hr
      simp only [Option.some.injEq, Prod.mk.injEq] at h
      obtain ⟨rfl, rfl⟩ := h
      simp only [hr]
      exact ⟨hp, hK⟩
    · cases h

theorem vRes_keep {ops : Array Oper} {o : Oper} {st : St} {p : Prop} {c : AV} (h : vRes E ops o st = some (p, c)) {fr' : Nat → AV} {H' : Heap} {n' : Nat}
    (ha : ∀ x ∈ o.op.operands.toList, evO fr' x = evO st.fr x) (hg : ∀ d, (∃ g want, o.guard = some (g, want) ∧ (ops[g]?).bind (·.dst) = some d) → fr' d = st.fr d)
    (ht : takeB o.op = true) (hs : stillB o.op = true ∨ HLe st.H H') : vRes E ops o ⟨fr', H', n'⟩ = some (p, c) := by
  unfold vRes at *
  simp only
  rw [guardA_congr hg, aOp_congr ha, ndO_congr ha]
  have hv : ∀ {p : Prop} {c : AV}, aOp E st.fr st.H st.n o.op = .v p c → aOp E st.fr H' n' o.op = .v p c := by
    intro p c hr
    rcases hs with hs | hs
    · rw [← hr]; exact aOp_still hs
    · exact aOp_mono hs ht hr
  split at h
  · cases h
  · split at h
    · rename_i hr; rw [hv hr]; exact h
    · cases h
  · split at h
    · rename_i hr; rw [hv hr]; exact h
    · cases h

/-- What is asked of the operation that is taken first, and of one that could come before it. -/
theorem stepO_comm {calm : List FuncId} (hc : Calm E calm) {ops : Array Oper} {oi oj : Oper} (hap : oi.apart ops oj = true) (ht : takeB oi.op = true) (hq : stillB oi.op = true ∨ quietB calm oj.op = true) {st : St}
    {p : Prop} {c : AV} (hv : vRes E ops oi st = some (p, c)) {K : St → Prop} (h : stepO E ops oj ⟨putD oi.dst c st.fr, st.H, st.n⟩ K) :
    stepO E ops oj st fun st' => vRes E ops oi st' = some (p, c) ∧ K ⟨putD oi.dst c st'.fr, st'.H, st'.n⟩ := by
  obtain ⟨h1, h2, h3⟩ := Oper.apart_spec hap
  obtain ⟨g1, g2⟩ := putD_agree (o := oj) (c := c) (fr := st.fr) h1
  have back : ∀ e, (∀ x ∈ oi.op.operands.toList, evO (putD oj.dst e st.fr) x = evO st.fr x) ∧ ∀ d, (∃ g want, oi.guard = some (g, want) ∧ (ops[g]?).bind (·.dst) = some d) → putD oj.dst e st.fr d = st.fr d :=
    fun e => putD_agree (o := oi) (c := e) (fr := st.fr) h3
  have fin : ∀ {e : AV} {H' : Heap} {n' : Nat}, (stillB oi.op = true ∨ HLe st.H H') → K ⟨putD oj.dst e (putD oi.dst c st.fr), H', n'⟩ →
      (fun st' : St => vRes E ops oi st' = some (p, c) ∧ K ⟨putD oi.dst c st'.fr, st'.H, st'.n⟩) ⟨putD oj.dst e st.fr, H', n'⟩ := by
    intro e H' n' hh hK
    refine ⟨vRes_keep hv (back e).1 (back e).2 ht hh, ?_⟩
    rw [putD_comm h2] at hK
    exact hK
  have same : stillB oi.op = true ∨ HLe st.H st.H := .inr (fun _ _ h => h)
  have heap : ∀ {p : Prop} {e : AV} {H' : Heap} {n' : Nat}, aOp E st.fr st.H st.n oj.op = .h p e H' n' → stillB oi.op = true ∨ HLe st.H H' := by
    intro p e H' n' hr
    rcases hq with hs | hq
    · exact .inl hs
    · exact (aOp_quiet hc hq hr).elim
  unfold stepO at *
  simp only at h
  rw [guardA_congr g2, aOp_congr g1, ndO_congr g1] at h
  split at h
  · exact h
  · split at h
    · exact ⟨h.1, h.2.1, fin same h.2.2⟩
    · rename_i hr; exact ⟨h.1, h.2.1, fin (heap hr) h.2.2⟩
    · exact h
  · split at h
    · exact ⟨h.1, fin same h.2⟩
    · rename_i hr; exact ⟨fun hb => ⟨(h.1 hb).1, (h.1 hb).2.1, fin (heap hr) (h.1 hb).2.2⟩, fun hb => fin same (h.2 hb)⟩
    · exact h

/-- **An operation that may come up and only yields a value may be taken first**; W: those that wait for it. -/
theorem AAny_first {calm : List FuncId} (hc : Calm E calm) {md : Region.Mode} {ops : Array Oper} {K : St → Prop} {i : Nat} {oi : Oper} (hi : ops[i]? = some oi) (ht : takeB oi.op = true) {p : Prop} {c : AV} (hp : p) (W : List Nat) (hiW : i ∈ W) :
    ∀ (fuel : Nat) (l : Array Bool) (st : St),
      (∀ j ∈ W, l.getD j false = false) → (∀ j ∈ W, j ≠ i → ∀ oj, ops[j]? = some oj → ∃ e ∈ oj.after, Region.binds md e = true ∧ e.on ∈ W) →
      (∀ j oj, ops[j]? = some oj → j ∉ W → l.getD j true = false → oi.apart ops oj = true ∧ (stillB oi.op = true ∨ quietB calm oj.op = true)) →
      i ∈ Region.ready md ops l → vRes E ops oi st = some (p, c) →
      AAny E md ops K fuel (l.setIfInBounds i true) ⟨putD oi.dst c st.fr, st.H, st.n⟩ → AAny E md ops K (fuel + 1) l st := by
  intro fuel
  induction fuel with
  | zero =>
    intro l st hWl hWa hfree hr hv H
    refine ⟨fun h => (by rw [h] at hr; cases hr), fun j hj o ho => ?_⟩
    by_cases hji : j = i
    · subst hji
      rw [hi] at ho; cases ho
      exact vRes_step hv hp H
    · have := ready_mono hj hji
      rw [H.1] at this
      cases this
  | succ fuel ih =>
    intro l st hWl hWa hfree hr hv H
    refine ⟨fun h => (by rw [h] at hr; cases hr), fun j hj o ho => ?_⟩
    by_cases hji : j = i
    · subst hji
      rw [hi] at ho; cases ho
      exact vRes_step hv hp H
    · obtain ⟨hjun, oj, hoj, hall⟩ := mem_ready.1 hj
      rw [ho] at hoj; cases hoj
      have hjW : j ∉ W := fun hjW => by
        obtain ⟨e, he, hb, hon⟩ := hWa j hjW hji o ho
        have := hall e he hb
        rw [hWl _ hon] at this; cases this
      obtain ⟨hap, hq⟩ := hfree j o ho hjW hjun
      have h2 := stepO_comm hc hap ht hq hv (H.2 j (ready_mono hj hji) o ho)
      refine stepO_mono (fun st' ⟨h3, h5⟩ => ?_) h2
      refine ih (l.setIfInBounds j true) st' (fun k hk => ?_) hWa (fun k ok hk hkW hun => ?_) (ready_mono hr (Ne.symm hji)) h3 ?_
      · rw [getD_set_ne false (fun e : j = k => hjW (by rw [e]; exact hk))]; exact hWl k hk
      · refine hfree k ok hk hkW ?_
        by_cases hjk : j = k
        · subst hjk; exact hjun
        · rw [getD_set_ne true hjk] at hun; exact hun
      · rw [Array.setIfInBounds_comm _ _ hji]
        exact h5
end
end Go.Vc
