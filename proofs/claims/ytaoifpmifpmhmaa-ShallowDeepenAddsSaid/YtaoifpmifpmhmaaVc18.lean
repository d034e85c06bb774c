/- The Vc layer: tables, environments, the walk's rewriting rules. -/
import Derived.Test.YtaoifpmifpmhmaaVc17
set_option linter.all false
namespace Go.Vc
open Go Go.RowKit

def Ctx.ofTab {P : Program} (tab : List (Nat × TI)) (h : tab.all (fun p => tyB P p.1 p.2) = true) : Ctx P where
  ty := fun t => tab.lookup t
  ok := by
    intro t ti ht
    have : (t, ti) ∈ tab := by
      clear h
      induction tab with
      | nil => simp at ht
      | cons q r ih =>
        obtain ⟨u, x⟩ := q
        rw [List.lookup_cons] at ht
        split at ht
        · rename_i he
          simp only [Option.some.injEq] at ht
          subst ht
          have : t = u := by simpa using he
          subst this
          exact List.mem_cons_self
        · exact List.mem_cons_of_mem _ (ih ht)
    exact List.all_eq_true.1 h _ this

section
variable {P : Program}

def Env.empty (X : Ctx P) : Env P := ⟨X, 0, none, fun _ => none, fun f sp h => (by cases h), fun f sp h => (by cases h)⟩

def Env.add (E : Env P) (f : FuncId) (sp : Spec) (hm : Meets P f sp) (he : enters P f = true) : Env P where
  X := E.X
  N := E.N
  ρ := E.ρ
  Γ := fun g => if g = f then some sp else E.Γ g
  ok := by
    intro g sp' h
    split at h
    · rename_i hg; subst hg; cases h; exact hm
    · exact E.ok g sp' h
  ent := by
    intro g sp' h
    split at h
    · rename_i hg; subst hg; exact he
    · exact E.ent g sp' h

def Env.at_ (E : Env P) (N : Nat) : Env P := ⟨E.X, N, E.ρ, E.Γ, E.ok, E.ent⟩

theorem Env.at_X (E : Env P) (N : Nat) : (E.at_ N).X = E.X := rfl
theorem Env.at_N (E : Env P) (N : Nat) : (E.at_ N).N = N := rfl
theorem Env.at_Γ (E : Env P) (N : Nat) : (E.at_ N).Γ = E.Γ := rfl
theorem Env.add_X (E : Env P) (f : FuncId) (sp : Spec) (hm : Meets P f sp) (he : enters P f = true) : (E.add f sp hm he).X = E.X := rfl
theorem Env.add_Γ (E : Env P) (f g : FuncId) (sp : Spec) (hm : Meets P f sp) (he : enters P f = true) : (E.add f sp hm he).Γ g = if g = f then some sp else E.Γ g := rfl

/-- A function that reads data and hands back data. -/
def Spec.pure (g : List AV → Option (Prop × AV)) : Spec := ⟨fun _ _ => [], fun args _ _ => match g args with
  | some (p, r) => some (p, r, none)
  | none => none⟩

theorem meets_fun (E : Env P) {f : FuncId} {fn : Func} {c : Code} {g : List AV → Option (Prop × AV)} (hf : P.funcs[f]? = some fn) (hb : fn.body = some c) (hN : fn.ntmps = E.N) (hρ : E.ρ = none)
    (h : ∀ args p r, g args = some (p, r) → p → (args.all pure2 && pure3 r && decide (args.length ≤ E.N)) = true ∧
      ∀ [Far] (W0 : World), Far.np = 0 → Far.marks = true → VC E W0 (fun _ => False) c (mkSt (enumF 0 args) []) (retP E fn.results.toList r)) : Meets P f (Spec.pure g) := by
  refine meets_pure E hf hb hN hρ fun args H n p r o hrun hp => ?_
  simp only [Spec.pure] at hrun
  split at hrun
  · rename_i p' r' hg
    simp only [Option.some.injEq, Prod.mk.injEq] at hrun
    obtain ⟨rfl, rfl, rfl⟩ := hrun
    obtain ⟨h1, h2⟩ := h args p' r' hg hp
    simp only [Bool.and_eq_true, decide_eq_true_eq] at h1
    exact ⟨rfl, h1.1.1, h1.1.2, h1.2, h2⟩
  · cases hrun

theorem Calm.nil (E : Env P) : Calm E [] := fun f sp h => (by cases h)

theorem guardA_none (ops : Array Oper) (fr : Nat → AV) : guardA ops fr none = some none := rfl
theorem guardA_some (ops : Array Oper) (fr : Nat → AV) (g : Nat) (want : Bool) : guardA ops fr (some (g, want)) = match (ops[g]?).bind (·.dst) with
    | some d => match gWant (fr d) want with
      | some b => some (some b)
      | none => none
    | none => none := rfl
end
end Go.Vc
