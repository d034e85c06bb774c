/- The Vc layer: calls whose arguments are handed on as they are known (a nil that must be seen to be nil). -/
import Derived.Test.YtaoifpmifpmhmaaVc31
set_option linter.all false
namespace Go.Vc
open Go Go.RowKit
section
variable [Far] {P : Program} {E : Env P} {W0 : World} {M0 : Nat → Prop} {w : World} {S : Lays} {n : Nat} {H : Heap} {fr : Nat → AV} {K : St → Prop} {d : Option Tmp} {t' : TypeId} {p : String} {af : Array Edge}
theorem sem_call_raw {f : FuncId} {sp : Spec} (hf : E.Γ f = some sp) {ops : List Operand} {ts : Array TypeId} {args : List AV} (ha : (ops.map fun x => bare (evO fr x)) = args) (hn : nd fr ops) {q : Prop} {r : AV} {H' : Heap} {n' : Nat} (hrun : sp.run args (restr [] H) n = some (q, r, some (H', n'))) (hq : q)
    (k : K ⟨putD d r fr, merge [] n H H', n'⟩) : SemO W0 M0 E ⟨d, .call ⟨.value (.func f), ops.toArray, ts⟩, t', p, af, none⟩ ⟨fr, H, n⟩ K := by
  intro a w S hH hop Q
  have hE0 := hH.enter [] [] (fun i hi => by cases hi)
  have hkl : killL [] S = S := by funext i; simp [killL]
  rw [hkl] at hE0
  have hvs : ∀ (i : Nat) (c : AV) (u : Value), args[i]? = some c → (ops.map a.eval)[i]? = some u → R w S n c u := fun i c u hc hu => by
    rw [← ha, List.getElem?_map] at hc
    rw [List.getElem?_map] at hu
    cases hx : ops[i]? with
    | none => rw [hx] at hc; cases hc
    | some x =>
      rw [hx] at hc hu; cases hc; cases hu
      have hm : x ∈ ops := List.mem_of_getElem? hx
      exact (hop x (by simp only [Op.operands, Call.operands, Array.toList_append, List.mem_append]; exact .inr (by simpa using hm))).bare_of (nd_mem hn x hm)
  have hcall := E.ok f sp hf args (restr [] H) n q r _ hrun hq w S (ops.map a.eval) hE0 (by rw [← ha]; simp) hvs
  have hex : (execOp a.eval ⟨d, .call ⟨.value (.func f), ops.toArray, ts⟩, t', p, af, none⟩).run P w = .ok (.enter f (ops.map a.eval).toArray) w := by
    simp only [execOp, resolve, Sem.run_bind, show a.eval (.func f) = .func (.func f) #[] #[] from rfl]
    simp [Deferred.ofValue, invoke, enters_run (E.ent f sp hf)]
  refine fen_op (fun c h => by cases h) ?_
  rw [hex, Oper.uponIn_enter]
  refine ⟨fun h => (by cases h), fen_calls (Calls.mono hcall ?_)⟩
  rintro e w' ⟨v, S', rfl, hL, hs, hR⟩
  have hb := hH.back (D := []) (B := []) (fun i hi => by cases hi) (by rw [hkl]; exact hL)
  rw [show killL [] (merge [] n H (Option.getD (some (H', n')) (restr [] H, n)).1) = merge [] n H H' by funext i; simp [killL]] at hb
  exact ⟨r, _, _, v, S', rfl, hb.1, hb.2, hR, k⟩
end
end Go.Vc
