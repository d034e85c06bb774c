/- Walks, printed by wip/gen/walk.py. -/
import Derived.Test.YtaoifpmifpmhmaaT19
import Derived.Test.YtaoifpmifpmhmaaV4
set_option linter.all false
set_option maxRecDepth 100000
set_option maxHeartbeats 4000000
namespace Go.Proofs.Ytaoifpmifpmhmaa
open Go Go.Vc Go.RowKit
/-- Ancestors: a commit, its parents, and theirs. -/
inductive Anc (l : List Cm) : Nat → Nat → Prop
  | refl (i : Nat) : Anc l i i
  | step {i j k : Nat} (hp : (j : Int) ∈ (l.getD i default).par) (h' : Anc l j k) : Anc l i k
def ancF (l : List Cm) : Nat → Nat → Nat → Bool
  | 0, i, k => decide (i = k)
  | n + 1, i, k => decide (i = k) || (l.getD i default).par.any fun p => ancF l n p.toNat k
def ancB (l : List Cm) (i k : Nat) : Bool := ancF l i i k
theorem Anc.trans {l : List Cm} {i j k : Nat} (h : Anc l i j) (h' : Anc l j k) : Anc l i k := by
  induction h with
  | refl i => exact h'
  | step hp _ ih => exact .step hp (ih h')
theorem Anc.snoc {l : List Cm} {i j k : Nat} (h : Anc l i j) (hp : (k : Int) ∈ (l.getD j default).par) : Anc l i k := h.trans (.step hp (.refl k))
theorem getD_ge {l : List Cm} {i : Nat} (h : l.length ≤ i) : l.getD i default = default := by simp [List.getD, List.getElem?_eq_none h]
theorem Valid.parD {l : List Cm} (hv : Valid l) {i : Nat} {p : Int} (hp : p ∈ (l.getD i default).par) : 0 ≤ p ∧ p < i ∧ i < l.length := by
  rcases Nat.lt_or_ge i l.length with h | h
  · obtain ⟨c, hc⟩ := getE h
    rw [getD_of hc] at hp
    obtain ⟨k, hk⟩ := List.getElem?_of_mem hp
    have := hv.par hc hk
    omega
  · rw [getD_ge h, show (default : Cm).par = [] from rfl] at hp; exact absurd hp (by simp)
theorem ancF_anc {l : List Cm} (hv : Valid l) : ∀ {n i k : Nat}, ancF l n i k = true → Anc l i k := by
  intro n
  induction n with
  | zero => intro i k h; simp only [ancF, decide_eq_true_eq] at h; subst h; exact .refl i
  | succ n ih =>
    intro i k h
    simp only [ancF, Bool.or_eq_true, decide_eq_true_eq, List.any_eq_true] at h
    rcases h with h | ⟨p, hp, h⟩
    · subst h; exact .refl i
    · have := hv.parD hp
      exact .step (j := p.toNat) (by rw [show ((p.toNat : Nat) : Int) = p by omega]; exact hp) (ih h)
theorem anc_ancF {l : List Cm} (hv : Valid l) {i k : Nat} (h : Anc l i k) : ∀ n, i ≤ n → ancF l n i k = true := by
  induction h with
  | refl i => intro n _; cases n <;> simp [ancF]
  | @step i j k hp _ ih =>
    intro n hn
    have := hv.parD hp
    cases n with
    | zero => omega
    | succ n =>
      simp only [ancF, Bool.or_eq_true, List.any_eq_true]
      exact .inr ⟨_, hp, by simpa using ih n (by omega)⟩
theorem anc_iff {l : List Cm} (hv : Valid l) {i k : Nat} : ancB l i k = true ↔ Anc l i k := ⟨ancF_anc hv, fun h => anc_ancF hv h i (Nat.le_refl i)⟩
theorem Anc.le {l : List Cm} (hv : Valid l) {i k : Nat} (h : Anc l i k) : k ≤ i := by
  induction h with
  | refl i => exact Nat.le_refl i
  | step hp _ ih => have := hv.parD hp; omega
theorem Anc.cases' {l : List Cm} {i k : Nat} (h : Anc l i k) : i = k ∨ ∃ j : Nat, (j : Int) ∈ (l.getD i default).par ∧ Anc l j k := by
  cases h with
  | refl => exact .inl rfl
  | step hp h' => exact .inr ⟨_, hp, h'⟩
theorem Anc.last {l : List Cm} {i k : Nat} (h : Anc l i k) : i = k ∨ ∃ j : Nat, Anc l i j ∧ (k : Int) ∈ (l.getD j default).par := by
  induction h with
  | refl i => exact .inl rfl
  | @step i j k hp h' ih =>
    rcases ih with rfl | ⟨m, h1, h2⟩
    · exact .inr ⟨i, .refl i, hp⟩
    · exact .inr ⟨m, .step hp h1, h2⟩
/-- A commit's row: what is done at place k of it, with j parents. -/
theorem ancB_step {l : List Cm} (hv : Valid l) {i k : Nat} (h : k < i) : ancB l i k = (l.getD i default).par.any fun p => ancB l p.toNat k := by
  rw [Bool.eq_iff_iff, anc_iff hv, List.any_eq_true]
  constructor
  · intro ha
    rcases ha.cases' with rfl | ⟨j, hj, ha⟩
    · omega
    · exact ⟨_, hj, by rw [anc_iff hv]; simpa using ha⟩
  · rintro ⟨p, hp, ha⟩
    have := hv.parD hp
    rw [anc_iff hv] at ha
    exact .step (j := p.toNat) (by rw [show ((p.toNat : Nat) : Int) = p by omega]; exact hp) ha
theorem ancB_self {l : List Cm} (hv : Valid l) (i : Nat) : ancB l i i = true := (anc_iff hv).2 (.refl i)
theorem ancB_gt {l : List Cm} (hv : Valid l) {i k : Nat} (h : i < k) : ancB l i k = false := by
  rw [Bool.eq_false_iff]; intro ha
  have := ((anc_iff hv).1 ha).le hv; omega
def rowK (l : List Cm) (i k : Nat) : Nat → Bool := fun x => if x < k then ancB l i x else decide (x = i)
def rowJ (l : List Cm) (i k j : Nat) : Nat → Bool := fun x => if x = k then ((l.getD i default).par.take j).any fun p => ancB l p.toNat x else rowK l i k x
theorem row_zero {l : List Cm} (i : Nat) {n : Nat} : (vec n (mark [])).set i true = vec n (rowK l i 0) := by
  rw [vec_set]; refine vec_ext fun x _ => ?_
  simp only [setB, mark, rowK, Nat.not_lt_zero, if_false]
  split <;> simp_all
theorem rowJ_zero {l : List Cm} {i k : Nat} (h : k < i) : rowJ l i k 0 = rowK l i k := by
  funext x; unfold rowJ; split
  · rename_i hx; subst hx; unfold rowK; rw [if_neg (by omega)]; simp; omega
  · rfl
theorem rowJ_set {l : List Cm} {i k j : Nat} {c : Cm} {p : Int} (hc : l[i]? = some c) (hp : c.par[j]? = some p) {n : Nat} :
    (vec n (rowJ l i k j)).set k (rowJ l i k j k || ancB l p.toNat k) = vec n (rowJ l i k (j + 1)) := by
  rw [vec_set]; refine vec_ext fun x _ => ?_
  simp only [setB, rowJ]
  split
  · rename_i hx; subst hx; rw [if_pos trivial, getD_of hc, any_snoc hp]
  · rfl
theorem rowJ_all {l : List Cm} (hv : Valid l) {i k : Nat} {c : Cm} (hc : l[i]? = some c) (h : k < i) : rowJ l i k c.par.length = rowK l i (k + 1) := by
  funext x; unfold rowJ; split
  · rename_i hx; subst hx; unfold rowK; rw [if_pos (by omega), ancB_step hv h, getD_of hc, List.take_length]
  · rename_i hx; unfold rowK
    by_cases h1 : x < k
    · rw [if_pos h1, if_pos (by omega)]
    · rw [if_neg h1, if_neg (by omega)]
theorem rowK_all {l : List Cm} (hv : Valid l) {i n : Nat} : vec n (rowK l i i) = vec n (ancB l i) := by
  refine vec_ext fun x _ => ?_
  unfold rowK; split
  · rfl
  · by_cases h : x = i
    · subst h; rw [ancB_self hv]; simp
    · rw [ancB_gt hv (by omega)]; simp [h]
/-- All rows. -/
def ancR (l : List Cm) (m : Nat) : List (List Bool) := (List.range m).map fun i => vec l.length (ancB l i)
theorem ancR_len (l : List Cm) (m : Nat) : (ancR l m).length = m := by simp [ancR]
theorem ancR_get {l : List Cm} {m i : Nat} (h : i < m) : (ancR l m)[i]? = some (vec l.length (ancB l i)) := by simp [ancR, List.getElem?_range h]
theorem ancR_snoc (l : List Cm) (m : Nat) : ancR l (m + 1) = ancR l m ++ [vec l.length (ancB l m)] := by simp [ancR, List.range_succ]
def reachRG : List AV → Option (Prop × AV)
  | [.d (.sl xs)] => some (xs = rows eC (dC xs) ∧ Valid (dC xs), .d (.sl (rows (eL eB) (ancR (dC xs) (dC xs).length))))
  | _ => none
/-- The commits that some commits lead to. -/
def ofB (l : List Cm) (ns : List Int) (k : Nat) : Bool := ns.any fun n => ancB l n.toNat k
def OfA (l : List Cm) (ns : List Int) (k : Nat) : Prop := ∃ n ∈ ns, Anc l n.toNat k
theorem of_iff {l : List Cm} (hv : Valid l) {ns : List Int} {k : Nat} : ofB l ns k = true ↔ OfA l ns k := by
  simp only [ofB, List.any_eq_true, OfA, anc_iff hv]
/-- What is marked when the commits from i on have been looked at. -/
def ofS (l : List Cm) (ns : List Int) (i : Nat) : Nat → Bool := fun x => mark ns x || (List.range l.length).any fun j => decide (i ≤ j) && ofB l ns j && decide ((x : Int) ∈ (l.getD j default).par)
theorem ofS_iff {l : List Cm} (hv : Valid l) {ns : List Int} {i x : Nat} : ofS l ns i x = true ↔ ((x : Int) ∈ ns ∨ ∃ j, j < l.length ∧ i ≤ j ∧ OfA l ns j ∧ (x : Int) ∈ (l.getD j default).par) := by
  simp only [ofS, mark, Bool.or_eq_true, decide_eq_true_eq, List.any_eq_true, List.mem_range, Bool.and_eq_true, of_iff hv]
  constructor
  · rintro (h | ⟨j, h1, ⟨h2, h3⟩, h4⟩)
    · exact .inl h
    · exact .inr ⟨j, h1, h2, h3, h4⟩
  · rintro (h | ⟨j, h1, h2, h3, h4⟩)
    · exact .inl h
    · exact .inr ⟨j, h1, ⟨h2, h3⟩, h4⟩
theorem ofS_top {l : List Cm} {ns : List Int} {x : Nat} : ofS l ns l.length x = mark ns x := by
  have : ((List.range l.length).any fun j => decide (l.length ≤ j) && ofB l ns j && decide ((x : Int) ∈ (l.getD j default).par)) = false := by
    rw [List.any_eq_false]; intro j hj
    have := List.mem_range.1 hj
    simp [show ¬l.length ≤ j by omega]
  rw [ofS, this, Bool.or_false]
/-- Behind a commit's children, the commit is settled. -/
theorem ofS_at {l : List Cm} (hv : Valid l) {ns : List Int} (hin : InR l.length ns) {i x : Nat} (h : x ≤ i) : ofS l ns (i + 1) x = true → ofB l ns x = true := by
  rw [ofS_iff hv, of_iff hv]
  rintro (h | ⟨j, h1, h2, ⟨n, hn, ha⟩, h4⟩)
  · exact ⟨x, h, by simpa using Anc.refl x⟩
  · exact ⟨n, hn, ha.snoc h4⟩
theorem of_self {l : List Cm} (hv : Valid l) {ns : List Int} (hin : InR l.length ns) {i : Nat} : ofB l ns i = ofS l ns (i + 1) i := by
  rw [Bool.eq_iff_iff]
  refine ⟨fun h => ?_, ofS_at hv hin (Nat.le_refl i)⟩
  rw [of_iff hv] at h
  rw [ofS_iff hv]
  obtain ⟨n, hn, ha⟩ := h
  have hr := hin n hn
  rcases ha.last with he | ⟨j, h1, h2⟩
  · left; rw [← he, show ((n.toNat : Nat) : Int) = n by omega]; exact hn
  · right; have := hv.parD h2; exact ⟨j, this.2.2, by omega, ⟨n, hn, h1⟩, h2⟩
theorem ofS_zero {l : List Cm} (hv : Valid l) {ns : List Int} (hin : InR l.length ns) {x : Nat} : ofS l ns 0 x = ofB l ns x := by
  rw [Bool.eq_iff_iff, ofS_iff hv, of_iff hv]
  constructor
  · rintro (h | ⟨j, h1, h2, ⟨n, hn, ha⟩, h4⟩)
    · exact ⟨x, h, by simpa using Anc.refl x⟩
    · exact ⟨n, hn, ha.snoc h4⟩
  · rintro ⟨n, hn, ha⟩
    have hr := hin n hn
    rcases ha.last with he | ⟨j, h1, h2⟩
    · left; rw [← he, show ((n.toNat : Nat) : Int) = n by omega]; exact hn
    · right; have := hv.parD h2; exact ⟨j, this.2.2, by omega, ⟨n, hn, h1⟩, h2⟩
/-- One commit's parents. -/
theorem ofS_succ {l : List Cm} {ns : List Int} {i : Nat} {c : Cm} (hc : l[i]? = some c) : ofS l ns i = part2 (ofS l ns (i + 1)) (ofB l ns i) c.par := by
  have hi := (List.getElem?_eq_some_iff.1 hc).1
  funext x
  rw [Bool.eq_iff_iff]
  simp only [ofS, part2, Bool.or_eq_true, List.any_eq_true, List.mem_range, Bool.and_eq_true, decide_eq_true_eq]
  constructor
  · rintro (h | ⟨j, h1, ⟨h2, h3⟩, h4⟩)
    · exact .inl (.inl h)
    · rcases Nat.lt_or_ge i j with hj | hj
      · exact .inl (.inr ⟨j, h1, ⟨by omega, h3⟩, h4⟩)
      · have : j = i := by omega
        subst this
        rw [getD_of hc] at h4
        exact .inr ⟨h3, h4⟩
  · rintro ((h | ⟨j, h1, ⟨h2, h3⟩, h4⟩) | ⟨h1, h2⟩)
    · exact .inl h
    · exact .inr ⟨j, h1, ⟨by omega, h3⟩, h4⟩
    · exact .inr ⟨i, hi, ⟨Nat.le_refl i, h1⟩, by rw [getD_of hc]; exact h2⟩
theorem part2_at {g : Nat → Bool} {b : Bool} {ps : List Int} {i : Nat} (h : ∀ p ∈ ps, p < i) : part2 g b ps i = g i := by
  unfold part2
  have : decide ((i : Int) ∈ ps) = false := decide_eq_false fun hm => by have := h _ hm; omega
  rw [this, Bool.and_false, Bool.or_false]
end Go.Proofs.Ytaoifpmifpmhmaa
