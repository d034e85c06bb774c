/- Walks, printed by wip/gen/walk.py. -/
import Derived.Test.YtlbjffdaooadoaaDoorT10
import Derived.Test.YtlbjffdaooadoaaDoorV5
set_option linter.all false
set_option maxRecDepth 100000
set_option maxHeartbeats 4000000
namespace Go.Proofs.YtlbjffdaooadoaaDoor
open Go Go.Vc Go.RowKit
def vec (n : Nat) (f : Nat → Bool) : List Bool := (List.range n).map f
def setB (f : Nat → Bool) (k : Nat) (b : Bool) : Nat → Bool := fun j => if j = k then b else f j
theorem vec_len (n : Nat) (f : Nat → Bool) : (vec n f).length = n := by simp [vec]
theorem vec_get {n : Nat} {f : Nat → Bool} {k : Nat} (h : k < n) : (vec n f)[k]? = some (f k) := by simp [vec, List.getElem?_range h]
theorem vec_ext {n : Nat} {f g : Nat → Bool} (h : ∀ k, k < n → f k = g k) : vec n f = vec n g := List.map_congr_left fun k hk => h k (List.mem_range.1 hk)
theorem vec_set {n : Nat} {f : Nat → Bool} {k : Nat} {b : Bool} : (vec n f).set k b = vec n (setB f k b) := by
  apply List.ext_getElem?
  intro i
  rw [List.getElem?_set, vec_len]
  by_cases hi : i < n
  · rw [vec_get hi, vec_get hi]
    by_cases hk : k = i
    · subst hk; rw [if_pos rfl, if_pos hi]; simp [setB]
    · rw [if_neg hk]; simp only [setB]; rw [if_neg (fun h => hk h.symm)]
  · rw [List.getElem?_eq_none (l := vec n f) (by rw [vec_len]; omega), List.getElem?_eq_none (l := vec n (setB f k b)) (by rw [vec_len]; omega)]
    split
    · rw [if_neg (by omega)]
    · rfl
theorem vec_false (n : Nat) : vec n (fun _ => false) = List.replicate n false := by
  apply List.ext_getElem?
  intro i
  by_cases hi : i < n
  · rw [vec_get hi, List.getElem?_replicate, if_pos hi]
  · rw [List.getElem?_eq_none (by rw [vec_len]; omega), List.getElem?_eq_none (by simp; omega)]
def mark (ns : List Int) : Nat → Bool := fun k => decide ((k : Int) ∈ ns)
theorem mark_set {n : Nat} {ns : List Int} {j : Nat} {x : Int} (h : ns[j]? = some x) (h0 : 0 ≤ x) : (vec n (mark (ns.take j))).set x.toNat true = vec n (mark (ns.take (j + 1))) := by
  rw [vec_set]
  refine vec_ext fun k _ => ?_
  simp only [setB, mark, List.take_add_one, h, Option.toList_some, List.mem_append, List.mem_singleton]
  split
  · rename_i hk; rw [hk]; symm; rw [decide_eq_true_eq]; right; omega
  · rename_i hk; apply decide_eq_decide.2; constructor
    · exact .inl
    · rintro (h | h); exact h; omega

def part (l : List Cm) (f : Nat → Bool) (i : Nat) : Nat → Bool := fun x => f x || (List.range i).any fun j => f j && decide ((x : Int) ∈ (l.getD j default).par)
def part2 (g : Nat → Bool) (b : Bool) (ps : List Int) : Nat → Bool := fun x => g x || (b && decide ((x : Int) ∈ ps))
theorem part2_zero (g : Nat → Bool) (b : Bool) : part2 g b [] = g := by funext x; simp [part2]
theorem part2_set {g : Nat → Bool} {b : Bool} {ps : List Int} {n k : Nat} {p : Int} (h : ps[k]? = some p) (h0 : 0 ≤ p) :
    (vec n (part2 g b (ps.take k))).set p.toNat (part2 g b (ps.take k) p.toNat || b) = vec n (part2 g b (ps.take (k + 1))) := by
  rw [vec_set]
  refine vec_ext fun x _ => ?_
  have e : ((p.toNat : Nat) : Int) = p := by omega
  have hm : ∀ y : Int, decide (y ∈ ps.take (k + 1)) = (decide (y ∈ ps.take k) || decide (y = p)) := fun y => by
    rw [List.take_add_one, h]
    by_cases h1 : y ∈ ps.take k <;> by_cases h2 : y = p <;> simp [h1, h2]
  simp only [setB, part2]
  split
  · rename_i hx; subst hx; rw [hm, e]; cases b <;> simp
  · rename_i hx
    have : decide ((x : Int) = p) = false := decide_eq_false (by omega)
    rw [hm, this, Bool.or_false]
theorem vec_take (n : Nat) (f : Nat → Bool) : (vec n f).take n = vec n f := List.take_of_length_le (by rw [vec_len]; exact Nat.le_refl _)
def InR (n : Nat) (ns : List Int) : Prop := ∀ x ∈ ns, 0 ≤ x ∧ x < n
theorem InR.at {n : Nat} {ns : List Int} (h : InR n ns) {k : Nat} {x : Int} (hx : ns[k]? = some x) : 0 ≤ x ∧ x < n := h x (mem_at hx)
theorem vec_rep (n : Nat) : List.replicate n [D.bool false] = rows eB (vec n (mark [])) := by
  have : mark [] = fun _ => false := by funext k; simp [mark]
  rw [this, vec_false, rows, List.map_replicate]; rfl

theorem any_snoc {α : Type} {l : List α} {i : Nat} {x : α} (h : l[i]? = some x) (P : α → Bool) : (l.take (i + 1)).any P = ((l.take i).any P || P x) := by
  rw [List.take_add_one, h, List.any_append]; simp

inductive Anc (l : List Cm) : Nat → Nat → Prop
  | refl (i : Nat) : Anc l i i
  | step {i j k : Nat} (hp : (j : Int) ∈ (l.getD i default).par) (h' : Anc l j k) : Anc l i k
def ancF (l : List Cm) : Nat → Nat → Nat → Bool
  | 0, i, k => decide (i = k)
  | n + 1, i, k => decide (i = k) || (l.getD i default).par.any fun p => ancF l n p.toNat k
def ancB (l : List Cm) (i k : Nat) : Bool := ancF l i i k
theorem Anc.trans {l : List Cm} {i j k : Nat} (h : Anc l i j) (h' : Anc l j k) : Anc l i k := by
  induction h with
  | refl i => exact h'
  | step hp _ ih => exact .step hp (ih h')
theorem Anc.snoc {l : List Cm} {i j k : Nat} (h : Anc l i j) (hp : (k : Int) ∈ (l.getD j default).par) : Anc l i k := h.trans (.step hp (.refl k))
theorem getD_ge {l : List Cm} {i : Nat} (h : l.length ≤ i) : l.getD i default = default := by simp [List.getD, List.getElem?_eq_none h]
theorem Valid.parD {l : List Cm} (hv : Valid l) {i : Nat} {p : Int} (hp : p ∈ (l.getD i default).par) : 0 ≤ p ∧ p < i ∧ i < l.length := by
  rcases Nat.lt_or_ge i l.length with h | h
  · obtain ⟨c, hc⟩ := getE h
    rw [getD_of hc] at hp
    obtain ⟨k, hk⟩ := List.getElem?_of_mem hp
    have := hv.par hc hk
    omega
  · rw [getD_ge h, show (default : Cm).par = [] from rfl] at hp; exact absurd hp (by simp)
theorem ancF_anc {l : List Cm} (hv : Valid l) : ∀ {n i k : Nat}, ancF l n i k = true → Anc l i k := by
  intro n
  induction n with
  | zero => intro i k h; simp only [ancF, decide_eq_true_eq] at h; subst h; exact .refl i
  | succ n ih =>
    intro i k h
    simp only [ancF, Bool.or_eq_true, decide_eq_true_eq, List.any_eq_true] at h
    rcases h with h | ⟨p, hp, h⟩
    · subst h; exact .refl i
    · have := hv.parD hp
      exact .step (j := p.toNat) (by rw [show ((p.toNat : Nat) : Int) = p by omega]; exact hp) (ih h)
theorem anc_ancF {l : List Cm} (hv : Valid l) {i k : Nat} (h : Anc l i k) : ∀ n, i ≤ n → ancF l n i k = true := by
  induction h with
  | refl i => intro n _; cases n <;> simp [ancF]
  | @step i j k hp _ ih =>
    intro n hn
    have := hv.parD hp
    cases n with
    | zero => omega
    | succ n =>
      simp only [ancF, Bool.or_eq_true, List.any_eq_true]
      exact .inr ⟨_, hp, by simpa using ih n (by omega)⟩
theorem anc_iff {l : List Cm} (hv : Valid l) {i k : Nat} : ancB l i k = true ↔ Anc l i k := ⟨ancF_anc hv, fun h => anc_ancF hv h i (Nat.le_refl i)⟩
theorem Anc.le {l : List Cm} (hv : Valid l) {i k : Nat} (h : Anc l i k) : k ≤ i := by
  induction h with
  | refl i => exact Nat.le_refl i
  | step hp _ ih => have := hv.parD hp; omega
theorem Anc.last {l : List Cm} {i k : Nat} (h : Anc l i k) : i = k ∨ ∃ j : Nat, Anc l i j ∧ (k : Int) ∈ (l.getD j default).par := by
  induction h with
  | refl i => exact .inl rfl
  | @step i j k hp h' ih =>
    rcases ih with rfl | ⟨m, h1, h2⟩
    · exact .inr ⟨i, .refl i, hp⟩
    · exact .inr ⟨m, .step hp h1, h2⟩
def ofB (l : List Cm) (ns : List Int) (k : Nat) : Bool := ns.any fun n => ancB l n.toNat k
def OfA (l : List Cm) (ns : List Int) (k : Nat) : Prop := ∃ n ∈ ns, Anc l n.toNat k
theorem of_iff {l : List Cm} (hv : Valid l) {ns : List Int} {k : Nat} : ofB l ns k = true ↔ OfA l ns k := by
  simp only [ofB, List.any_eq_true, OfA, anc_iff hv]
def ofS (l : List Cm) (ns : List Int) (i : Nat) : Nat → Bool := fun x => mark ns x || (List.range l.length).any fun j => decide (i ≤ j) && ofB l ns j && decide ((x : Int) ∈ (l.getD j default).par)
theorem ofS_iff {l : List Cm} (hv : Valid l) {ns : List Int} {i x : Nat} : ofS l ns i x = true ↔ ((x : Int) ∈ ns ∨ ∃ j, j < l.length ∧ i ≤ j ∧ OfA l ns j ∧ (x : Int) ∈ (l.getD j default).par) := by
  simp only [ofS, mark, Bool.or_eq_true, decide_eq_true_eq, List.any_eq_true, List.mem_range, Bool.and_eq_true, of_iff hv]
  constructor
  · rintro (h | ⟨j, h1, ⟨h2, h3⟩, h4⟩)
    · exact .inl h
    · exact .inr ⟨j, h1, h2, h3, h4⟩
  · rintro (h | ⟨j, h1, h2, h3, h4⟩)
    · exact .inl h
    · exact .inr ⟨j, h1, ⟨h2, h3⟩, h4⟩
theorem ofS_top {l : List Cm} {ns : List Int} {x : Nat} : ofS l ns l.length x = mark ns x := by
  have : ((List.range l.length).any fun j => decide (l.length ≤ j) && ofB l ns j && decide ((x : Int) ∈ (l.getD j default).par)) = false := by
    rw [List.any_eq_false]; intro j hj
    have := List.mem_range.1 hj
    simp [show ¬l.length ≤ j by omega]
  rw [ofS, this, Bool.or_false]
theorem ofS_at {l : List Cm} (hv : Valid l) {ns : List Int} (hin : InR l.length ns) {i x : Nat} (h : x ≤ i) : ofS l ns (i + 1) x = true → ofB l ns x = true := by
  rw [ofS_iff hv, of_iff hv]
  rintro (h | ⟨j, h1, h2, ⟨n, hn, ha⟩, h4⟩)
  · exact ⟨x, h, by simpa using Anc.refl x⟩
  · exact ⟨n, hn, ha.snoc h4⟩
theorem of_self {l : List Cm} (hv : Valid l) {ns : List Int} (hin : InR l.length ns) {i : Nat} : ofB l ns i = ofS l ns (i + 1) i := by
  rw [Bool.eq_iff_iff]
  refine ⟨fun h => ?_, ofS_at hv hin (Nat.le_refl i)⟩
  rw [of_iff hv] at h
  rw [ofS_iff hv]
  obtain ⟨n, hn, ha⟩ := h
  have hr := hin n hn
  rcases ha.last with he | ⟨j, h1, h2⟩
  · left; rw [← he, show ((n.toNat : Nat) : Int) = n by omega]; exact hn
  · right; have := hv.parD h2; exact ⟨j, this.2.2, by omega, ⟨n, hn, h1⟩, h2⟩
theorem ofS_zero {l : List Cm} (hv : Valid l) {ns : List Int} (hin : InR l.length ns) {x : Nat} : ofS l ns 0 x = ofB l ns x := by
  rw [Bool.eq_iff_iff, ofS_iff hv, of_iff hv]
  constructor
  · rintro (h | ⟨j, h1, h2, ⟨n, hn, ha⟩, h4⟩)
    · exact ⟨x, h, by simpa using Anc.refl x⟩
    · exact ⟨n, hn, ha.snoc h4⟩
  · rintro ⟨n, hn, ha⟩
    have hr := hin n hn
    rcases ha.last with he | ⟨j, h1, h2⟩
    · left; rw [← he, show ((n.toNat : Nat) : Int) = n by omega]; exact hn
    · right; have := hv.parD h2; exact ⟨j, this.2.2, by omega, ⟨n, hn, h1⟩, h2⟩
theorem ofS_succ {l : List Cm} {ns : List Int} {i : Nat} {c : Cm} (hc : l[i]? = some c) : ofS l ns i = part2 (ofS l ns (i + 1)) (ofB l ns i) c.par := by
  have hi := (List.getElem?_eq_some_iff.1 hc).1
  funext x
  rw [Bool.eq_iff_iff]
  simp only [ofS, part2, Bool.or_eq_true, List.any_eq_true, List.mem_range, Bool.and_eq_true, decide_eq_true_eq]
  constructor
  · rintro (h | ⟨j, h1, ⟨h2, h3⟩, h4⟩)
    · exact .inl (.inl h)
    · rcases Nat.lt_or_ge i j with hj | hj
      · exact .inl (.inr ⟨j, h1, ⟨by omega, h3⟩, h4⟩)
      · have : j = i := by omega
        subst this
        rw [getD_of hc] at h4
        exact .inr ⟨h3, h4⟩
  · rintro ((h | ⟨j, h1, ⟨h2, h3⟩, h4⟩) | ⟨h1, h2⟩)
    · exact .inl h
    · exact .inr ⟨j, h1, ⟨by omega, h3⟩, h4⟩
    · exact .inr ⟨i, hi, ⟨Nat.le_refl i, h1⟩, by rw [getD_of hc]; exact h2⟩
theorem part2_at {g : Nat → Bool} {b : Bool} {ps : List Int} {i : Nat} (h : ∀ p ∈ ps, p < i) : part2 g b ps i = g i := by
  unfold part2
  have : decide ((i : Int) ∈ ps) = false := decide_eq_false fun hm => by have := h _ hm; omega
  rw [this, Bool.and_false, Bool.or_false]
end Go.Proofs.YtlbjffdaooadoaaDoor
