/- Walks, printed by wip/gen/walk.py. -/
import Derived.Test.YtcjipciiljjfhaaDoorT18
import Derived.Test.YtcjipciiljjfhaaDoorV5
set_option linter.all false
set_option maxRecDepth 100000
set_option maxHeartbeats 4000000
namespace Go.Proofs.YtcjipciiljjfhaaDoor
open Go Go.Vc Go.RowKit
theorem mkV_len (S : List SO) (R : List Int) : (mkV S R).length = S.length := List.length_map ..
def cntF (b : List Bool) : Nat := (b.filter fun x => !x).length
theorem cntF_set {b : List Bool} {i : Nat} (h : b[i]? = some false) : cntF (b.set i true) + 1 = cntF b := by
  have hl := (List.getElem?_eq_some_iff.1 h).1
  have hd := List.take_append_drop i b
  rw [List.drop_eq_getElem_cons hl, (List.getElem?_eq_some_iff.1 h).2] at hd
  rw [List.set_eq_take_append_cons_drop, if_pos hl]
  unfold cntF
  conv => rhs; rw [← hd]
  rw [List.filter_append, List.filter_append, List.filter_cons_of_neg (by simp), List.filter_cons_of_pos (by simp)]
  simp only [List.length_append, List.length_cons]; omega
/-- What a pass finds at a place. -/
def lnk (S : List SO) (b : List Bool) (d : Int) (k : Nat) : Bool := (List.range k).any fun j => b.getD j false && decide (d ∈ (S.getD j default).ob.ln)
theorem lnk_succ (S : List SO) (b : List Bool) (d : Int) (k : Nat) : lnk S b d (k + 1) = (lnk S b d k || (b.getD k false && decide (d ∈ (S.getD k default).ob.ln))) := by
  unfold lnk; rw [List.range_succ, List.any_append]; simp
theorem lnk_iff {S : List SO} {b : List Bool} {d : Int} {k : Nat} : lnk S b d k = true ↔ ∃ j, j < k ∧ b.getD j false = true ∧ d ∈ (S.getD j default).ob.ln := by
  unfold lnk; rw [List.any_eq_true]
  constructor
  · rintro ⟨j, hj, h⟩
    rw [Bool.and_eq_true, decide_eq_true_eq] at h
    exact ⟨j, List.mem_range.1 hj, h⟩
  · rintro ⟨j, hj, h⟩; exact ⟨j, List.mem_range.2 hj, by rw [Bool.and_eq_true, decide_eq_true_eq]; exact h⟩
def hit (S : List SO) (R : List Int) (b : List Bool) (d : Int) : Bool := decide (d ∈ R) || lnk S b d S.length
structure SndM (S : List SO) (R : List Int) (b : List Bool) : Prop where
  len : b.length = S.length
  ok : ∀ (i : Nat) (x : SO), S[i]? = some x → b.getD i false = true → Rch S R x.dg
theorem SndM.zero (S : List SO) (R : List Int) : SndM S R (List.replicate S.length false) := ⟨by simp, fun i x _ h => by
  rw [List.getD_eq_getElem?_getD, List.getElem?_replicate] at h
  split at h <;> cases h⟩
theorem SndM.set {S : List SO} {R : List Int} {b : List Bool} {i : Nat} {x : SO} (h : SndM S R b) (hx : S[i]? = some x) (hh : hit S R b x.dg = true) : SndM S R (b.set i true) := by
  have hds : x.dg ∈ dgs S := List.mem_map.2 ⟨x, mem_at hx, rfl⟩
  refine ⟨by rw [List.length_set]; exact h.len, fun j y hy hb => ?_⟩
  rw [List.getD_eq_getElem?_getD, List.getElem?_set] at hb
  split at hb
  · rename_i hij; subst hij
    rw [hx] at hy; cases hy
    unfold hit at hh
    rw [Bool.or_eq_true, decide_eq_true_eq] at hh
    rcases hh with h1 | h1
    · exact .root h1 hds
    · obtain ⟨k, hk, h2, h3⟩ := lnk_iff.1 h1
      obtain ⟨z, hz⟩ : ∃ z, S[k]? = some z := ⟨_, List.getElem?_eq_getElem hk⟩
      rw [getD_at hz] at h3
      exact .step (mem_at hz) (h.ok k z hz h2) h3 hds
  · exact h.ok j y hy (by rw [List.getD_eq_getElem?_getD]; exact hb)
/-- A pass that changes nothing. -/
theorem mark_fin {S : List SO} {R : List Int} {b : List Bool} (hv : ValS S) (h : SndM S R b) (hc : ∀ (i : Nat) (x : SO), S[i]? = some x → hit S R b x.dg = true → b.getD i false = true) : b = mkV S R := by
  have hr : ∀ d, Rch S R d → ∀ (i : Nat) (x : SO), S[i]? = some x → x.dg = d → b.getD i false = true := fun d hd => by
    induction hd with
    | root h1 h2 => intro i x hx he; exact hc i x hx (by unfold hit; rw [he, decide_eq_true h1]; rfl)
    | step h1 _ h3 h4 ih =>
      intro i x hx he
      obtain ⟨k, hk⟩ := List.getElem?_of_mem h1
      have := ih k _ hk rfl
      refine hc i x hx ?_
      unfold hit
      rw [Bool.or_eq_true]; right
      exact lnk_iff.2 ⟨k, (List.getElem?_eq_some_iff.1 hk).1, this, by rw [getD_at hk, he]; exact h3⟩
  apply List.ext_getElem?
  intro i
  by_cases hi : i < S.length
  · obtain ⟨x, hx⟩ : ∃ x, S[i]? = some x := ⟨_, List.getElem?_eq_getElem hi⟩
    obtain ⟨c, hcc⟩ : ∃ c, b[i]? = some c := ⟨_, List.getElem?_eq_getElem (by rw [h.len]; exact hi)⟩
    unfold mkV
    rw [List.getElem?_map, hx, hcc]
    simp only [Option.map_some, Option.some.injEq]
    cases c with
    | true => exact (decide_eq_true (((reach_set R hv).2 _).2 (h.ok i x hx (getD_at hcc)))).symm
    | false =>
      refine (decide_eq_false fun hm => ?_).symm
      have := hr _ (((reach_set R hv).2 _).1 hm) i x hx rfl
      rw [getD_at hcc] at this; cases this
  · rw [List.getElem?_eq_none (by rw [h.len]; omega), List.getElem?_eq_none (by rw [mkV_len]; omega)]
/-- Within a pass that began with b0. -/
structure PasM (S : List SO) (R : List Int) (b0 b : List Bool) (c : Bool) (i : Nat) : Prop where
  snd : SndM S R b
  cnt : cntF b + (if c = true then 1 else 0) ≤ cntF b0
  eq : c = false → b = b0
  cl : c = false → ∀ (j : Nat) (x : SO), j < i → S[j]? = some x → hit S R b x.dg = true → b.getD j false = true
theorem PasM.stay {S : List SO} {R : List Int} {b0 b : List Bool} {c : Bool} {i : Nat} {x : SO} (h : PasM S R b0 b c i) (hx : S[i]? = some x) (hn : hit S R b x.dg = false ∨ b.getD i false = true) : PasM S R b0 b c (i + 1) :=
  ⟨h.snd, h.cnt, h.eq, fun hc j y hj hy hh => by
    rcases Nat.lt_or_ge j i with h1 | h1
    · exact h.cl hc j y h1 hy hh
    · obtain rfl : j = i := by omega
      rw [hx] at hy; cases hy
      rcases hn with h2 | h2
      · rw [h2] at hh; cases hh
      · exact h2⟩
theorem PasM.turn {S : List SO} {R : List Int} {b0 b : List Bool} {c : Bool} {i : Nat} {x : SO} (h : PasM S R b0 b c i) (hx : S[i]? = some x) (hh : hit S R b x.dg = true) (hb : b[i]? = some false) : PasM S R b0 (b.set i true) true (i + 1) :=
  ⟨h.snd.set hx hh, by have h1 := cntF_set hb; have h2 := h.cnt; rw [if_pos rfl]; split at h2 <;> omega, fun h => (by cases h), fun h => (by cases h)⟩
end Go.Proofs.YtcjipciiljjfhaaDoor
