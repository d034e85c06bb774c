/- Walks, printed by wip/gen/walk.py. -/
import Derived.Test.YtlbjffdaooadoaaDoorT12
import Derived.Test.YtlbjffdaooadoaaDoorV5
set_option linter.all false
set_option maxRecDepth 100000
set_option maxHeartbeats 4000000
namespace Go.Proofs.YtlbjffdaooadoaaDoor
open Go Go.Vc Go.RowKit
def cnt (l : List Cm) (out : List Int) : Nat → Nat → Int
  | 0, _ => 0
  | m + 1, i => cnt l out m i + if (m : Int) ∉ out ∧ (i : Int) ∈ (l.getD m default).par then 1 else 0
def ready (l : List Cm) (out : List Int) (i : Nat) : Bool := !decide ((i : Int) ∈ out) && (List.range l.length).all fun k => !(decide ((i : Int) ∈ (l.getD k default).par) && !decide ((k : Int) ∈ out))
theorem ready_iff {l : List Cm} {out : List Int} {i : Nat} : ready l out i = true ↔ (i : Int) ∉ out ∧ ∀ k, k < l.length → (i : Int) ∈ (l.getD k default).par → (k : Int) ∈ out := by
  unfold ready
  simp only [Bool.and_eq_true, Bool.not_eq_true', decide_eq_false_iff_not, List.all_eq_true, List.mem_range, Bool.and_eq_false_iff, Bool.not_eq_false', decide_eq_true_eq]
  constructor
  · rintro ⟨h1, h2⟩
    exact ⟨h1, fun k hk hp => (h2 k hk).resolve_left fun h => h hp⟩
  · rintro ⟨h1, h2⟩
    exact ⟨h1, fun k hk => Classical.byCases (fun h => .inr (h2 k hk h)) .inl⟩
def bestI (rd : Nat → Bool) (l : List Cm) : Nat → Int
  | 0 => -1
  | i + 1 => if (rd i && (decide (bestI rd l i < 0) || decide ((l.getD (bestI rd l i).toNat default).ti ≤ (l.getD i default).ti))) = true then (i : Int) else bestI rd l i
theorem bestI_lt (rd : Nat → Bool) (l : List Cm) (i : Nat) : -1 ≤ bestI rd l i ∧ bestI rd l i < i := by
  induction i with
  | zero => simp [bestI]
  | succ i ih => unfold bestI; split <;> omega
theorem bestI_rd {rd : Nat → Bool} {l : List Cm} {i : Nat} (h : 0 ≤ bestI rd l i) : rd (bestI rd l i).toNat = true := by
  induction i with
  | zero => simp [bestI] at h
  | succ i ih =>
    unfold bestI at h ⊢
    split
    · rename_i h1; simp only [Bool.and_eq_true] at h1; simpa using h1.1
    · rename_i h1; rw [if_neg h1] at h; exact ih h
theorem bestI_pos {rd : Nat → Bool} {l : List Cm} {i j : Nat} (hj : j < i) (h : rd j = true) : 0 ≤ bestI rd l i := by
  induction i with
  | zero => omega
  | succ i ih =>
    unfold bestI
    split
    · omega
    · rename_i h1
      by_cases hji : j = i
      · subst hji
        simp only [h, Bool.true_and, Bool.or_eq_true, decide_eq_true_eq, not_or] at h1
        omega
      · exact ih (by omega)
def orderN (l : List Cm) : Nat → List Int
  | 0 => []
  | m + 1 => orderN l m ++ [bestI (ready l (orderN l m)) l l.length]
theorem all_len : ∀ (n : Nat) (out : List Int), (∀ i : Nat, i < n → (i : Int) ∈ out) → n ≤ out.length := by
  intro n
  induction n with
  | zero => intro out _; exact Nat.zero_le _
  | succ n ih =>
    intro out h
    have hn := h n (by omega)
    have := ih (out.erase (n : Int)) fun i hi => (List.mem_erase_of_ne (by omega)).2 (h i (by omega))
    rw [List.length_erase_of_mem hn] at this
    have := List.length_pos_of_mem hn
    omega
theorem last_out (out : List Int) : ∀ n : Nat, (∃ i : Nat, i < n ∧ (i : Int) ∉ out) → ∃ i : Nat, i < n ∧ (i : Int) ∉ out ∧ ∀ k : Nat, i < k → k < n → (k : Int) ∈ out := by
  intro n
  induction n with
  | zero => rintro ⟨i, h, _⟩; omega
  | succ n ih =>
    rintro ⟨i, h1, h2⟩
    by_cases hn : (n : Int) ∈ out
    · obtain ⟨j, h3, h4, h5⟩ := ih ⟨i, by
        rcases Nat.lt_or_ge i n with h | h
        · exact h
        · have : i = n := by omega
          subst this; exact absurd hn h2, h2⟩
      refine ⟨j, by omega, h4, fun k hk hkn => ?_⟩
      rcases Nat.lt_or_ge k n with h | h
      · exact h5 k hk h
      · have : k = n := by omega
        subst this; exact hn
    · exact ⟨n, by omega, hn, fun k hk hkn => by omega⟩
structure OrdOk (l : List Cm) (m : Nat) : Prop where
  len : (orderN l m).length = m
  inr : InR l.length (orderN l m)
  nodup : (orderN l m).Nodup
  up : ∀ p : Nat, (p : Int) ∈ orderN l m → ∀ k, k < l.length → (p : Int) ∈ (l.getD k default).par → (k : Int) ∈ orderN l m
theorem OrdOk.best {l : List Cm} (hv : Valid l) {m : Nat} (h : OrdOk l m) (hm : m < l.length) : ∃ b : Nat, b < l.length ∧ bestI (ready l (orderN l m)) l l.length = (b : Int) ∧ ready l (orderN l m) b = true := by
  have hex : ∃ i : Nat, i < l.length ∧ (i : Int) ∉ orderN l m := Classical.byContradiction fun hn => by
    have := all_len l.length (orderN l m) fun i hi => Classical.byContradiction fun h2 => hn ⟨i, hi, h2⟩
    rw [h.len] at this; omega
  obtain ⟨i, h1, h2, h3⟩ := last_out _ _ hex
  have hr : ready l (orderN l m) i = true := ready_iff.2 ⟨h2, fun k hk hp => h3 k (by have := hv.parD hp; omega) hk⟩
  have hp := bestI_pos (l := l) h1 hr
  have hl := bestI_lt (ready l (orderN l m)) l l.length
  exact ⟨(bestI (ready l (orderN l m)) l l.length).toNat, by omega, by omega, bestI_rd hp⟩
def ofG : List AV → Option (Prop × AV)
  | [.d (.sl xs), .d (.sl ns)] => some (xs = rows eC (dC xs) ∧ ns = rows eI (dI ns) ∧ Valid (dC xs) ∧ InR (dC xs).length (dI ns) ∧ (dI ns).length ≤ 1000, .d (.sl (rows eB (vec (dC xs).length (ofB (dC xs) (dI ns))))))
  | _ => none
end Go.Proofs.YtlbjffdaooadoaaDoor
