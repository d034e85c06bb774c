/- Walks, printed by wip/gen/walk.py. -/
import Derived.Test.YtiijkbidkdmilaaT44
import Derived.Test.YtiijkbidkdmilaaV5
import Derived.Test.YtiijkbidkdmilaaChecked
import Derived.RangeFuncBox
import Derived.RangeFuncLeaves
import Derived.Shelf.Abstract
import Derived.WalkKit
import Derived.OwnWalkIn
import Derived.TacticsInMore
import Derived.LoopNIn
import Derived.LoopIn
import Derived.RegionIn
set_option linter.all false
set_option maxRecDepth 100000
set_option maxHeartbeats 4000000
namespace Go.Proofs.Ytiijkbidkdmilaa
open Go Go.Vc Go.RowKit
/-- The parts of sixteen. -/
def parts (xs : List (List D)) : List (List AV) := (List.range ((xs.length + 15) / 16)).map fun i => [.d (.sl ((xs.drop (16 * i)).take 16))]
section
open Go.Shelf
attribute [local go_sem] Oper.semAt_some
theorem chunk_run (l : Nat) (b1 o1 b2 o2 len cap N : Nat) (a : Option Addr) (hN : 16 * N < len + 16) (hN' : len ≤ 16 * N) (hcap : len ≤ cap) (hlen : len ≤ 1000000) (J : Nat → World → Prop) (Jx : World → Prop) (W : World)
   (hb : ∀ k W, J k W → W.cell? ⟨b1, o1, none⟩ = some (.slice a len cap) ∧ W.cell? ⟨b2, o2, none⟩ = some (.int .i64 16)) (hd : ∀ (k : Nat) (W : World) (d : Nat), J k W → J k { W with drawn := d })
   (hY : ∀ k W1, J k W1 → k < N → YieldAt Fence.wide 0 Try.prog l #[.slice (a.map (·.add (16 * k))) (min 16 (len - 16 * k)) (min 16 (len - 16 * k))] W1 fun e W' => (e = .returned (.bool true) ∧ J (k + 1) W') ∨ (e = .returned (.bool false) ∧ Jx W')) (h0 : J 0 W) :
   CallsIn Fence.wide 0 Try.prog 40 #[.func (.yield l) #[] #[], .pointer (some ⟨b1, o1, none⟩), .pointer (some ⟨b2, o2, none⟩)] W fun e W' => (∃ v, e = .returned v) ∧ (J N W' ∨ Jx W') := by
  refine callsIn_of_wp Try.func40 rfl trivial ?_ rfl
  simp only [Try.ntmps40, List.size_toArray, List.length_cons, List.length_nil, Nat.reduceAdd, Nat.reduceSub, Array.replicate_succ, Array.replicate_zero, List.push_toArray, List.append_toArray, List.nil_append, List.cons_append]
  gi_wp2
  gi_loopw [4] (fun i wr => ∃ k : Nat, k ≤ N ∧ i = .int .i64 (16 * k : Nat) ∧ J k wr) (fun i _ => 16 * N - (intOf i).toNat)
  case atStart => exact ⟨0, Nat.zero_le _, rfl, h0⟩
  case round =>
    obtain ⟨k, hk, rfl, hJs⟩ := hrel
    obtain ⟨c1, c2⟩ := hb k wr hJs
    by_cases hlt : k < N
    · have hc1 : (16 * k : Nat) < len := by omega
      obtain ⟨fn, tmps, assign, body, hy, hR⟩ := hY k wr.drew (hd k wr (wr.drawn + 1) hJs) hlt
      have hm : (if ((len - 16 * k : Nat) : Int) < 16 then ((len - 16 * k : Nat) : Int) else 16) = ((min 16 (len - 16 * k) : Nat) : Int) := by split <;> omega
      have m1 : 0 < min 16 (len - 16 * k) := by omega
      gi_wp2
      gi_region
      clear hm
      gi_wp2
      refine ⟨rfl, hR.mono ?_⟩
      rintro e W3 (⟨rfl, hJ3⟩ | ⟨rfl, hJx3⟩)
      · obtain ⟨c3, c4⟩ := hb _ W3 hJ3
        gi_wp2
        go_roundw
        case rel => exact ⟨k + 1, by omega, by simp; omega, hJ3⟩
        case measure => simp [intOf]; omega
      · gi_wp2
        refine bodyPost_ret (results_none rfl _ _ _) rfl ?_
        exact ⟨⟨_, rfl⟩, .inr hJx3⟩
    · obtain rfl : k = N := by omega
      gi_wp2
      go_end0
      exact ⟨⟨_, rfl⟩, .inl hJs⟩

end
theorem chunk_it (xs : List (List D)) (hr : Rect 1 xs) (hlen : xs.length ≤ 1000000) : IterOk Try.prog 40 [.d (.ptr [.sl xs]), .d (.ptr [.int .i64 16])] 1 (parts xs) where
  ent := by kernel_rfl
  len := by
    intro x hx
    obtain ⟨i, _, rfl⟩ := List.mem_map.1 hx
    rfl
  run := by
    intro F w S n lb hl hR
    match lb, hl with
    | [v1, v2], _ =>
      have h1 := hR 0 _ v1 rfl rfl
      have h2 := hR 1 _ v2 rfl rfl
      cases h1 with | d h1 =>
      cases h2 with | d h2 =>
      cases h1 with | ptr _ b1 o1 u1 hb1 hO1 hc1 hr1 =>
      cases h2 with | ptr _ b2 o2 u2 hb2 hO2 hc2 hr2 =>
      have c1 := hc1 0 _ rfl
      have c2 := hc2 0 _ rfl
      have r1 := hr1 0 _ rfl
      have r2 := hr2 0 _ rfl
      generalize u1 0 = x1 at c1 r1
      generalize u2 0 = x2 at c2 r2
      cases r2
      obtain ⟨a, cap, rfl, hcap⟩ := r1.slice_form
      simp only [Nat.add_zero] at c1 c2
      have hpl : (parts xs).length = (xs.length + 15) / 16 := by simp [parts]
      refine ⟨fun i => [.slice (a.map (·.add (16 * i))) (min 16 (xs.length - 16 * i)) (min 16 (xs.length - 16 * i))], fun _ => rfl, ?_, ?_⟩
      · intro k x hx i c u hc hu
        have hk : k < (parts xs).length := (List.getElem?_eq_some_iff.1 hx).1
        rw [hpl] at hk
        simp only [parts, List.getElem?_map, List.getElem?_range hk, Option.map_some, Option.some.injEq] at hx
        subst hx
        cases i with
        | succ i => simp at hc
        | zero =>
          simp only [List.getElem?_cons_zero, Option.some.injEq] at hc hu
          subst hc hu
          have := r1.cut3 hr (l := 16 * k) (h := 16 * k + min 16 (xs.length - 16 * k)) (m := 16 * k + min 16 (xs.length - 16 * k)) (by omega) (by omega) (by omega) hcap
          rw [Nat.mul_one, show 16 * k + min 16 (xs.length - 16 * k) - 16 * k = min 16 (xs.length - 16 * k) by omega] at this
          have e : (xs.drop (16 * k)).take 16 = (xs.drop (16 * k)).take (min 16 (xs.length - 16 * k)) := by
            rw [← List.length_drop, List.take_eq_take_iff]
            omega
          rw [e]
          exact .d this
      · intro l J Jx W hJk hJd hY h0
        rw [hpl] at hY ⊢
        have cell : ∀ {b o : Nat} {v : Value} {W1 : World}, b < w.heap.size → ¬ own S b → KeepN w S w W1 → w.cell? ⟨b, o, none⟩ = some v → W1.cell? ⟨b, o, none⟩ = some v := fun hb hO hk hc => (cell_same (hk.2 _ hb hO)).trans hc
        exact chunk_run l b1 o1 b2 o2 xs.length cap ((xs.length + 15) / 16) a (by omega) (by omega) hcap hlen J Jx W (fun k W1 hj => ⟨cell hb1 hO1 (hJk k W1 hj) c1, cell hb2 hO2 (hJk k W1 hj) c2⟩) hJd hY h0
end Go.Proofs.Ytiijkbidkdmilaa
