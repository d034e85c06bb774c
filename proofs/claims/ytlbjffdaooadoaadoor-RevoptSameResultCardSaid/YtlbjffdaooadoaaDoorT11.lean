/- Walks, printed by wip/gen/walk.py. -/
import Derived.Test.YtlbjffdaooadoaaDoorT10
import Derived.Test.YtlbjffdaooadoaaDoorV5
set_option linter.all false
set_option maxRecDepth 100000
set_option maxHeartbeats 4000000
namespace Go.Proofs.YtlbjffdaooadoaaDoor
open Go Go.Vc Go.RowKit
/-- A set of numbers below n, as a row of bits. -/
def vec (n : Nat) (f : Nat → Bool) : List Bool := (List.range n).map f
def setB (f : Nat → Bool) (k : Nat) (b : Bool) : Nat → Bool := fun j => if j = k then b else f j
theorem vec_len (n : Nat) (f : Nat → Bool) : (vec n f).length = n := by simp [vec]
theorem vec_get {n : Nat} {f : Nat → Bool} {k : Nat} (h : k < n) : (vec n f)[k]? = some (f k) := by simp [vec, List.getElem?_range h]
theorem vec_ext {n : Nat} {f g : Nat → Bool} (h : ∀ k, k < n → f k = g k) : vec n f = vec n g := List.map_congr_left fun k hk => h k (List.mem_range.1 hk)
theorem vec_set {n : Nat} {f : Nat → Bool} {k : Nat} {b : Bool} : (vec n f).set k b = vec n (setB f k b) := by
  apply List.ext_getElem?
  intro i
  rw [List.getElem?_set, vec_len]
  by_cases hi : i < n
  · rw [vec_get hi, vec_get hi]
    by_cases hk : k = i
    · subst hk; rw [if_pos rfl, if_pos hi]; simp [setB]
    · rw [if_neg hk]; simp only [setB]; rw [if_neg (fun h => hk h.symm)]
  · rw [List.getElem?_eq_none (l := vec n f) (by rw [vec_len]; omega), List.getElem?_eq_none (l := vec n (setB f k b)) (by rw [vec_len]; omega)]
    split
    · rw [if_neg (by omega)]
    · rfl
theorem vec_false (n : Nat) : vec n (fun _ => false) = List.replicate n false := by
  apply List.ext_getElem?
  intro i
  by_cases hi : i < n
  · rw [vec_get hi, List.getElem?_replicate, if_pos hi]
  · rw [List.getElem?_eq_none (by rw [vec_len]; omega), List.getElem?_eq_none (by simp; omega)]
/-- Its members, in order. -/
def lst (n : Nat) (f : Nat → Bool) : List Int := ((List.range n).filter f).map fun (k : Nat) => (k : Int)
theorem lst_mem {n : Nat} {f : Nat → Bool} {x : Int} : x ∈ lst n f ↔ ∃ k : Nat, k < n ∧ f k = true ∧ x = k := by
  simp only [lst, List.mem_map, List.mem_filter, List.mem_range]
  exact ⟨fun ⟨k, ⟨h1, h2⟩, h3⟩ => ⟨k, h1, h2, h3.symm⟩, fun ⟨k, h1, h2, h3⟩ => ⟨k, ⟨h1, h2⟩, h3.symm⟩⟩
theorem lst_succ (n : Nat) (f : Nat → Bool) : lst (n + 1) f = lst n f ++ if f n = true then [(n : Int)] else [] := by
  simp only [lst, List.range_succ, List.filter_append, List.map_append]
  by_cases h : f n = true
  · simp [h]
  · simp [h]
theorem lst_zero (f : Nat → Bool) : lst 0 f = [] := rfl
theorem lst_ext {n : Nat} {f g : Nat → Bool} (h : ∀ k, k < n → f k = g k) : lst n f = lst n g := by
  induction n with
  | zero => rfl
  | succ n ih => rw [lst_succ, lst_succ, ih fun k hk => h k (by omega), h n (by omega)]
theorem lst_len (n : Nat) (f : Nat → Bool) : (lst n f).length ≤ n := by
  simp only [lst, List.length_map]
  exact Nat.le_trans (List.length_filter_le ..) (by simp)
theorem lst_sorted (n : Nat) (f : Nat → Bool) : (lst n f).Pairwise (· < ·) := by
  induction n with
  | zero => exact List.Pairwise.nil
  | succ n ih =>
    rw [lst_succ]
    split
    · refine List.pairwise_append.2 ⟨ih, List.pairwise_singleton _ _, fun a ha b hb => ?_⟩
      obtain ⟨k, h1, _, rfl⟩ := lst_mem.1 ha
      rw [List.mem_singleton.1 hb]; omega
    · rwa [List.append_nil]
/-- Sorted lists with the same members are the same. -/
theorem sorted_ext : ∀ {l m : List Int}, l.Pairwise (· < ·) → m.Pairwise (· < ·) → (∀ x, x ∈ l ↔ x ∈ m) → l = m := by
  intro l
  induction l with
  | nil =>
    intro m _ _ h
    cases m with
    | nil => rfl
    | cons b m => exact absurd ((h b).2 (by simp)) (by simp)
  | cons a l ih =>
    intro m hl hm h
    cases m with
    | nil => exact absurd ((h a).1 (by simp)) (by simp)
    | cons b m =>
      have hl' := List.pairwise_cons.1 hl
      have hm' := List.pairwise_cons.1 hm
      have hab : a = b := by
        have h1 := (h a).1 (by simp)
        have h2 := (h b).2 (by simp)
        rcases List.mem_cons.1 h1 with h1 | h1
        · exact h1
        · rcases List.mem_cons.1 h2 with h2 | h2
          · exact h2.symm
          · have := hm'.1 a h1; have := hl'.1 b h2; omega
      subst hab
      refine congrArg _ (ih hl'.2 hm'.2 fun x => ⟨fun hx => ?_, fun hx => ?_⟩)
      · rcases List.mem_cons.1 ((h x).1 (by simp [hx])) with h' | h'
        · have := hl'.1 x hx; omega
        · exact h'
      · rcases List.mem_cons.1 ((h x).2 (by simp [hx])) with h' | h'
        · have := hm'.1 x hx; omega
        · exact h'
/-- A sorted list with one more number. -/
def ins (l : List Int) (n : Int) : List Int := if n ∈ l then l else l.takeWhile (fun x => decide (x < n)) ++ n :: l.dropWhile (fun x => decide (x < n))
theorem ins_at {l : List Int} {n : Int} {k : Nat} (hn : n ∉ l) (h : ∀ x ∈ l.take k, x < n) (hk : k = l.length ∨ ∃ x, l[k]? = some x ∧ ¬x < n) : ins l n = l.take k ++ n :: l.drop k := by
  have key : l.takeWhile (fun x => decide (x < n)) = l.take k ∧ l.dropWhile (fun x => decide (x < n)) = l.drop k := by
    clear hn
    induction l generalizing k with
    | nil => simp
    | cons a l ih =>
      cases k with
      | zero =>
        rcases hk with hk | ⟨x, hx, hxn⟩
        · simp at hk
        · simp only [List.getElem?_cons_zero, Option.some.injEq] at hx
          subst hx
          simp [List.takeWhile_cons, List.dropWhile_cons, hxn]
      | succ k =>
        have ha : a < n := h a (by simp)
        have := ih (k := k) (fun x hx => h x (by simp [hx])) (by simpa using hk)
        simp [List.takeWhile_cons, List.dropWhile_cons, ha, this.1, this.2]
  unfold ins; rw [if_neg hn, key.1, key.2]
theorem ins_mem {l : List Int} {n x : Int} : x ∈ ins l n ↔ x = n ∨ x ∈ l := by
  unfold ins
  split
  · rename_i h
    exact ⟨.inr, fun h' => by rcases h' with rfl | h'; exact h; exact h'⟩
  · rw [List.mem_append, List.mem_cons]
    have := List.takeWhile_append_dropWhile (p := fun x => decide (x < n)) (l := l)
    conv => rhs; rw [← this, List.mem_append]
    constructor
    · rintro (h | h | h)
      · exact .inr (.inl h)
      · exact .inl h
      · exact .inr (.inr h)
    · rintro (h | h | h)
      · exact .inr (.inl h)
      · exact .inl h
      · exact .inr (.inr h)
theorem ins_sorted {l : List Int} {n : Int} (h : l.Pairwise (· < ·)) : (ins l n).Pairwise (· < ·) := by
  unfold ins
  split
  · exact h
  · rename_i hn
    induction l with
    | nil => simp
    | cons a l ih =>
      have ha := List.pairwise_cons.1 h
      simp only [List.mem_cons, not_or] at hn
      by_cases hlt : a < n
      · simp only [List.takeWhile_cons, List.dropWhile_cons, hlt, decide_true, if_true, List.cons_append]
        refine List.pairwise_cons.2 ⟨fun x hx => ?_, ih ha.2 hn.2⟩
        rcases List.mem_append.1 hx with hx | hx
        · exact ha.1 x ((List.takeWhile_sublist _).subset hx)
        · rcases List.mem_cons.1 hx with rfl | hx
          · exact hlt
          · exact ha.1 x ((List.dropWhile_sublist _).subset hx)
      · simp only [List.takeWhile_cons, List.dropWhile_cons, hlt, decide_false, List.nil_append, Bool.false_eq_true, if_false]
        refine List.pairwise_cons.2 ⟨fun x hx => ?_, h⟩
        rcases List.mem_cons.1 hx with rfl | hx
        · omega
        · have := ha.1 x hx; omega
theorem ins_len {l : List Int} {n : Int} : (ins l n).length ≤ l.length + 1 := by
  unfold ins
  split
  · omega
  · rw [List.length_append, List.length_cons]
    have := congrArg List.length (List.takeWhile_append_dropWhile (p := fun x => decide (x < n)) (l := l))
    rw [List.length_append] at this; omega
theorem ins_lst {n : Nat} {f : Nat → Bool} {p : Int} (h0 : 0 ≤ p) (h : p < n) : ins (lst n f) p = lst n (setB f p.toNat true) := by
  refine sorted_ext (ins_sorted (lst_sorted _ _)) (lst_sorted _ _) fun x => ?_
  rw [ins_mem, lst_mem, lst_mem]
  constructor
  · rintro (rfl | ⟨k, h1, h2, rfl⟩)
    · exact ⟨x.toNat, by omega, by simp [setB], by omega⟩
    · refine ⟨k, h1, ?_, rfl⟩; unfold setB; split; rfl; exact h2
  · rintro ⟨k, h1, h2, rfl⟩
    unfold setB at h2
    split at h2
    · left; omega
    · right; exact ⟨k, h1, h2, rfl⟩
/-- The set of a list's numbers. -/
def mark (ns : List Int) : Nat → Bool := fun k => decide ((k : Int) ∈ ns)
theorem mark_set {n : Nat} {ns : List Int} {j : Nat} {x : Int} (h : ns[j]? = some x) (h0 : 0 ≤ x) : (vec n (mark (ns.take j))).set x.toNat true = vec n (mark (ns.take (j + 1))) := by
  rw [vec_set]
  refine vec_ext fun k _ => ?_
  simp only [setB, mark, List.take_add_one, h, Option.toList_some, List.mem_append, List.mem_singleton]
  split
  · rename_i hk; rw [hk]; symm; rw [decide_eq_true_eq]; right; omega
  · rename_i hk; apply decide_eq_decide.2; constructor
    · exact .inl
    · rintro (h | h); exact h; omega

def part (l : List Cm) (f : Nat → Bool) (i : Nat) : Nat → Bool := fun x => f x || (List.range i).any fun j => f j && decide ((x : Int) ∈ (l.getD j default).par)
def part2 (g : Nat → Bool) (b : Bool) (ps : List Int) : Nat → Bool := fun x => g x || (b && decide ((x : Int) ∈ ps))
/-- A step to the parents. -/
def step1 (l : List Cm) (f : Nat → Bool) : Nat → Bool := part l f l.length
def stepN (l : List Cm) : Nat → (Nat → Bool) → Nat → Bool
  | 0, f => f
  | m + 1, f => step1 l (stepN l m f)
theorem part_zero (l : List Cm) (f : Nat → Bool) : part l f 0 = f := by funext x; simp [part]
theorem part_succ {l : List Cm} {f : Nat → Bool} {i : Nat} {c : Cm} (h : l[i]? = some c) : part l f (i + 1) = part2 (part l f i) (f i) c.par := by
  funext x
  simp only [part, part2, List.range_succ, List.any_append, List.any_cons, List.any_nil, Bool.or_false, getD_of h, Bool.or_assoc]
theorem part2_zero (g : Nat → Bool) (b : Bool) : part2 g b [] = g := by funext x; simp [part2]
theorem part2_set {g : Nat → Bool} {b : Bool} {ps : List Int} {n k : Nat} {p : Int} (h : ps[k]? = some p) (h0 : 0 ≤ p) :
    (vec n (part2 g b (ps.take k))).set p.toNat (part2 g b (ps.take k) p.toNat || b) = vec n (part2 g b (ps.take (k + 1))) := by
  rw [vec_set]
  refine vec_ext fun x _ => ?_
  have e : ((p.toNat : Nat) : Int) = p := by omega
  have hm : ∀ y : Int, decide (y ∈ ps.take (k + 1)) = (decide (y ∈ ps.take k) || decide (y = p)) := fun y => by
    rw [List.take_add_one, h]
    by_cases h1 : y ∈ ps.take k <;> by_cases h2 : y = p <;> simp [h1, h2]
  simp only [setB, part2]
  split
  · rename_i hx; subst hx; rw [hm, e]; cases b <;> simp
  · rename_i hx
    have : decide ((x : Int) = p) = false := decide_eq_false (by omega)
    rw [hm, this, Bool.or_false]
theorem vec_take (n : Nat) (f : Nat → Bool) : (vec n f).take n = vec n f := List.take_of_length_le (by rw [vec_len]; exact Nat.le_refl _)
theorem step1_ext {l : List Cm} {f g : Nat → Bool} (h : ∀ k, k < l.length → f k = g k) : ∀ k, k < l.length → step1 l f k = step1 l g k := by
  intro k hk
  simp only [step1, part, h k hk]
  congr 1
  rw [Bool.eq_iff_iff, List.any_eq_true, List.any_eq_true]
  constructor
  · rintro ⟨j, hj, h'⟩; exact ⟨j, hj, by rwa [← h j (List.mem_range.1 hj)]⟩
  · rintro ⟨j, hj, h'⟩; exact ⟨j, hj, by rwa [h j (List.mem_range.1 hj)]⟩
theorem stepN_ext {l : List Cm} {f g : Nat → Bool} (h : ∀ k, k < l.length → f k = g k) : ∀ (m k : Nat), k < l.length → stepN l m f k = stepN l m g k := by
  intro m
  induction m with
  | zero => exact h
  | succ m ih => exact step1_ext ih
theorem stepN_fix {l : List Cm} {f : Nat → Bool} {t : Nat} (h : ∀ k, k < l.length → stepN l (t + 1) f k = stepN l t f k) (d : Nat) : ∀ k, k < l.length → stepN l (t + d) f k = stepN l t f k := by
  induction d with
  | zero => intro k _; rfl
  | succ d ih =>
    intro k hk
    show step1 l (stepN l (t + d) f) k = _
    rw [step1_ext ih k hk]; exact h k hk
theorem stepN_add (l : List Cm) (f : Nat → Bool) (a b : Nat) : stepN l a (stepN l b f) = stepN l (a + b) f := by
  induction a with
  | zero => rw [Nat.zero_add]; rfl
  | succ a ih => rw [Nat.succ_add]; show step1 l _ = step1 l _; rw [ih]
theorem step1_le {l : List Cm} {f : Nat → Bool} {k : Nat} (h : f k = true) : step1 l f k = true := by simp [step1, part, h]
theorem filter_len {n : Nat} {f g : Nat → Bool} (h : ∀ k, k < n → f k = true → g k = true) : (lst n f).length ≤ (lst n g).length := by
  induction n with
  | zero => exact Nat.le_refl _
  | succ n ih =>
    have := ih fun k hk => h k (by omega)
    rw [lst_succ, lst_succ, List.length_append, List.length_append]
    by_cases h1 : f n = true
    · rw [if_pos h1, if_pos (h n (by omega) h1)]; exact Nat.add_le_add this (Nat.le_refl _)
    · rw [if_neg h1, List.length_nil]; omega
theorem lst_len_eq {n : Nat} {f g : Nat → Bool} (h : ∀ k, k < n → f k = true → g k = true) (he : (lst n g).length = (lst n f).length) : ∀ k, k < n → g k = f k := by
  induction n with
  | zero => intro k hk; omega
  | succ n ih =>
    have h1 := filter_len (n := n) (f := f) (g := g) fun k hk => h k (by omega)
    rw [lst_succ, lst_succ, List.length_append, List.length_append] at he
    by_cases hf : f n = true
    · have hg := h n (by omega) hf
      rw [if_pos hf, if_pos hg] at he
      have := ih (fun k hk => h k (by omega)) (by omega)
      intro k hk
      by_cases hkn : k = n
      · subst hkn; rw [hf, hg]
      · exact this k (by omega)
    · rw [if_neg hf] at he
      by_cases hg : g n = true
      · rw [if_pos hg] at he; simp only [List.length_singleton, List.length_nil] at he; omega
      · rw [if_neg hg] at he
        have := ih (fun k hk => h k (by omega)) (by simpa using he)
        intro k hk
        by_cases hkn : k = n
        · subst hkn; cases h2 : f k <;> cases h3 : g k <;> simp_all
        · exact this k (by omega)
/-- The numbers of a history. -/
def InR (n : Nat) (ns : List Int) : Prop := ∀ x ∈ ns, 0 ≤ x ∧ x < n
theorem InR.at {n : Nat} {ns : List Int} (h : InR n ns) {k : Nat} {x : Int} (hx : ns[k]? = some x) : 0 ≤ x ∧ x < n := h x (mem_at hx)
theorem Valid.parR {l : List Cm} (hv : Valid l) {i k : Nat} {c : Cm} {p : Int} (hc : l[i]? = some c) (hp : c.par[k]? = some p) : 0 ≤ p ∧ p < i ∧ p < l.length := by
  have := hv.par hc hp
  have := (List.getElem?_eq_some_iff.1 hc).1
  omega
theorem vec_rep (n : Nat) : List.replicate n [D.bool false] = rows eB (vec n (mark [])) := by
  have : mark [] = fun _ => false := by funext k; simp [mark]
  rw [this, vec_false, rows, List.map_replicate]; rfl

theorem any_snoc {α : Type} {l : List α} {i : Nat} {x : α} (h : l[i]? = some x) (P : α → Bool) : (l.take (i + 1)).any P = ((l.take i).any P || P x) := by
  rw [List.take_add_one, h, List.any_append]; simp

/-- Ancestors: a commit, its parents, and theirs. -/
inductive Anc (l : List Cm) : Nat → Nat → Prop
  | refl (i : Nat) : Anc l i i
  | step {i j k : Nat} (hp : (j : Int) ∈ (l.getD i default).par) (h' : Anc l j k) : Anc l i k
def ancF (l : List Cm) : Nat → Nat → Nat → Bool
  | 0, i, k => decide (i = k)
  | n + 1, i, k => decide (i = k) || (l.getD i default).par.any fun p => ancF l n p.toNat k
def ancB (l : List Cm) (i k : Nat) : Bool := ancF l i i k
theorem Anc.trans {l : List Cm} {i j k : Nat} (h : Anc l i j) (h' : Anc l j k) : Anc l i k := by
  induction h with
  | refl i => exact h'
  | step hp _ ih => exact .step hp (ih h')
theorem Anc.snoc {l : List Cm} {i j k : Nat} (h : Anc l i j) (hp : (k : Int) ∈ (l.getD j default).par) : Anc l i k := h.trans (.step hp (.refl k))
theorem getD_ge {l : List Cm} {i : Nat} (h : l.length ≤ i) : l.getD i default = default := by simp [List.getD, List.getElem?_eq_none h]
theorem Valid.parD {l : List Cm} (hv : Valid l) {i : Nat} {p : Int} (hp : p ∈ (l.getD i default).par) : 0 ≤ p ∧ p < i ∧ i < l.length := by
  rcases Nat.lt_or_ge i l.length with h | h
  · obtain ⟨c, hc⟩ := getE h
    rw [getD_of hc] at hp
    obtain ⟨k, hk⟩ := List.getElem?_of_mem hp
    have := hv.par hc hk
    omega
  · rw [getD_ge h, show (default : Cm).par = [] from rfl] at hp; exact absurd hp (by simp)
theorem ancF_anc {l : List Cm} (hv : Valid l) : ∀ {n i k : Nat}, ancF l n i k = true → Anc l i k := by
  intro n
  induction n with
  | zero => intro i k h; simp only [ancF, decide_eq_true_eq] at h; subst h; exact .refl i
  | succ n ih =>
    intro i k h
    simp only [ancF, Bool.or_eq_true, decide_eq_true_eq, List.any_eq_true] at h
    rcases h with h | ⟨p, hp, h⟩
    · subst h; exact .refl i
    · have := hv.parD hp
      exact .step (j := p.toNat) (by rw [show ((p.toNat : Nat) : Int) = p by omega]; exact hp) (ih h)
theorem anc_ancF {l : List Cm} (hv : Valid l) {i k : Nat} (h : Anc l i k) : ∀ n, i ≤ n → ancF l n i k = true := by
  induction h with
  | refl i => intro n _; cases n <;> simp [ancF]
  | @step i j k hp _ ih =>
    intro n hn
    have := hv.parD hp
    cases n with
    | zero => omega
    | succ n =>
      simp only [ancF, Bool.or_eq_true, List.any_eq_true]
      exact .inr ⟨_, hp, by simpa using ih n (by omega)⟩
theorem anc_iff {l : List Cm} (hv : Valid l) {i k : Nat} : ancB l i k = true ↔ Anc l i k := ⟨ancF_anc hv, fun h => anc_ancF hv h i (Nat.le_refl i)⟩
theorem Anc.le {l : List Cm} (hv : Valid l) {i k : Nat} (h : Anc l i k) : k ≤ i := by
  induction h with
  | refl i => exact Nat.le_refl i
  | step hp _ ih => have := hv.parD hp; omega
theorem Anc.cases' {l : List Cm} {i k : Nat} (h : Anc l i k) : i = k ∨ ∃ j : Nat, (j : Int) ∈ (l.getD i default).par ∧ Anc l j k := by
  cases h with
  | refl => exact .inl rfl
  | step hp h' => exact .inr ⟨_, hp, h'⟩
theorem Anc.last {l : List Cm} {i k : Nat} (h : Anc l i k) : i = k ∨ ∃ j : Nat, Anc l i j ∧ (k : Int) ∈ (l.getD j default).par := by
  induction h with
  | refl i => exact .inl rfl
  | @step i j k hp h' ih =>
    rcases ih with rfl | ⟨m, h1, h2⟩
    · exact .inr ⟨i, .refl i, hp⟩
    · exact .inr ⟨m, .step hp h1, h2⟩
/-- A commit's row: what is done at place k of it, with j parents. -/
theorem ancB_step {l : List Cm} (hv : Valid l) {i k : Nat} (h : k < i) : ancB l i k = (l.getD i default).par.any fun p => ancB l p.toNat k := by
 rw [Bool.eq_iff_iff, anc_iff hv, List.any_eq_true]
 constructor
 ·intro ha
  rcases ha.cases' with rfl | ⟨j, hj, ha⟩
  ·omega
  ·exact ⟨_, hj, by rw [anc_iff hv]; simpa using ha⟩
 ·rintro ⟨p, hp, ha⟩
  have := hv.parD hp
  rw [anc_iff hv] at ha
  exact .step (j := p.toNat) (by rw [show ((p.toNat : Nat) : Int) = p by omega]; exact hp) ha
theorem ancB_self {l : List Cm} (hv : Valid l) (i : Nat) : ancB l i i = true := (anc_iff hv).2 (.refl i)
theorem ancB_gt {l : List Cm} (hv : Valid l) {i k : Nat} (h : i < k) : ancB l i k = false := by
  rw [Bool.eq_false_iff]; intro ha
  have := ((anc_iff hv).1 ha).le hv; omega
def rowK (l : List Cm) (i k : Nat) : Nat → Bool := fun x => if x < k then ancB l i x else decide (x = i)
def rowJ (l : List Cm) (i k j : Nat) : Nat → Bool := fun x => if x = k then ((l.getD i default).par.take j).any fun p => ancB l p.toNat x else rowK l i k x
theorem row_zero {l : List Cm} (i : Nat) {n : Nat} : (vec n (mark [])).set i true = vec n (rowK l i 0) := by
  rw [vec_set]; refine vec_ext fun x _ => ?_
  simp only [setB, mark, rowK, Nat.not_lt_zero, if_false]
  split <;> simp_all
theorem rowJ_zero {l : List Cm} {i k : Nat} (h : k < i) : rowJ l i k 0 = rowK l i k := by
  funext x; unfold rowJ; split
  · rename_i hx; subst hx; unfold rowK; rw [if_neg (by omega)]; simp; omega
  · rfl
theorem rowJ_set {l : List Cm} {i k j : Nat} {c : Cm} {p : Int} (hc : l[i]? = some c) (hp : c.par[j]? = some p) {n : Nat} :
    (vec n (rowJ l i k j)).set k (rowJ l i k j k || ancB l p.toNat k) = vec n (rowJ l i k (j + 1)) := by
  rw [vec_set]; refine vec_ext fun x _ => ?_
  simp only [setB, rowJ]
  split
  · rename_i hx; subst hx; rw [if_pos trivial, getD_of hc, any_snoc hp]
  · rfl
theorem rowJ_all {l : List Cm} (hv : Valid l) {i k : Nat} {c : Cm} (hc : l[i]? = some c) (h : k < i) : rowJ l i k c.par.length = rowK l i (k + 1) := by
  funext x; unfold rowJ; split
  · rename_i hx; subst hx; unfold rowK; rw [if_pos (by omega), ancB_step hv h, getD_of hc, List.take_length]
  · rename_i hx; unfold rowK
    by_cases h1 : x < k
    · rw [if_pos h1, if_pos (by omega)]
    · rw [if_neg h1, if_neg (by omega)]
theorem rowK_all {l : List Cm} (hv : Valid l) {i n : Nat} : vec n (rowK l i i) = vec n (ancB l i) := by
  refine vec_ext fun x _ => ?_
  unfold rowK; split
  · rfl
  · by_cases h : x = i
    · subst h; rw [ancB_self hv]; simp
    · rw [ancB_gt hv (by omega)]; simp [h]
/-- All rows. -/
def ancR (l : List Cm) (m : Nat) : List (List Bool) := (List.range m).map fun i => vec l.length (ancB l i)
theorem ancR_len (l : List Cm) (m : Nat) : (ancR l m).length = m := by simp [ancR]
theorem ancR_get {l : List Cm} {m i : Nat} (h : i < m) : (ancR l m)[i]? = some (vec l.length (ancB l i)) := by simp [ancR, List.getElem?_range h]
theorem ancR_snoc (l : List Cm) (m : Nat) : ancR l (m + 1) = ancR l m ++ [vec l.length (ancB l m)] := by simp [ancR, List.range_succ]
def reachRG : List AV → Option (Prop × AV)
  | [.d (.sl xs)] => some (xs = rows eC (dC xs) ∧ Valid (dC xs), .d (.sl (rows (eL eB) (ancR (dC xs) (dC xs).length))))
  | _ => none
/-- The commits that some commits lead to. -/
def ofB (l : List Cm) (ns : List Int) (k : Nat) : Bool := ns.any fun n => ancB l n.toNat k
def OfA (l : List Cm) (ns : List Int) (k : Nat) : Prop := ∃ n ∈ ns, Anc l n.toNat k
theorem of_iff {l : List Cm} (hv : Valid l) {ns : List Int} {k : Nat} : ofB l ns k = true ↔ OfA l ns k := by
  simp only [ofB, List.any_eq_true, OfA, anc_iff hv]
/-- What is marked when the commits from i on have been looked at. -/
def ofS (l : List Cm) (ns : List Int) (i : Nat) : Nat → Bool := fun x => mark ns x || (List.range l.length).any fun j => decide (i ≤ j) && ofB l ns j && decide ((x : Int) ∈ (l.getD j default).par)
theorem ofS_iff {l : List Cm} (hv : Valid l) {ns : List Int} {i x : Nat} : ofS l ns i x = true ↔ ((x : Int) ∈ ns ∨ ∃ j, j < l.length ∧ i ≤ j ∧ OfA l ns j ∧ (x : Int) ∈ (l.getD j default).par) := by
  simp only [ofS, mark, Bool.or_eq_true, decide_eq_true_eq, List.any_eq_true, List.mem_range, Bool.and_eq_true, of_iff hv]
  constructor
  · rintro (h | ⟨j, h1, ⟨h2, h3⟩, h4⟩)
    · exact .inl h
    · exact .inr ⟨j, h1, h2, h3, h4⟩
  · rintro (h | ⟨j, h1, h2, h3, h4⟩)
    · exact .inl h
    · exact .inr ⟨j, h1, ⟨h2, h3⟩, h4⟩
theorem ofS_top {l : List Cm} {ns : List Int} {x : Nat} : ofS l ns l.length x = mark ns x := by
  have : ((List.range l.length).any fun j => decide (l.length ≤ j) && ofB l ns j && decide ((x : Int) ∈ (l.getD j default).par)) = false := by
    rw [List.any_eq_false]; intro j hj
    have := List.mem_range.1 hj
    simp [show ¬l.length ≤ j by omega]
  rw [ofS, this, Bool.or_false]
/-- Behind a commit's children, the commit is settled. -/
theorem ofS_at {l : List Cm} (hv : Valid l) {ns : List Int} (hin : InR l.length ns) {i x : Nat} (h : x ≤ i) : ofS l ns (i + 1) x = true → ofB l ns x = true := by
  rw [ofS_iff hv, of_iff hv]
  rintro (h | ⟨j, h1, h2, ⟨n, hn, ha⟩, h4⟩)
  · exact ⟨x, h, by simpa using Anc.refl x⟩
  · exact ⟨n, hn, ha.snoc h4⟩
theorem of_self {l : List Cm} (hv : Valid l) {ns : List Int} (hin : InR l.length ns) {i : Nat} : ofB l ns i = ofS l ns (i + 1) i := by
  rw [Bool.eq_iff_iff]
  refine ⟨fun h => ?_, ofS_at hv hin (Nat.le_refl i)⟩
  rw [of_iff hv] at h
  rw [ofS_iff hv]
  obtain ⟨n, hn, ha⟩ := h
  have hr := hin n hn
  rcases ha.last with he | ⟨j, h1, h2⟩
  · left; rw [← he, show ((n.toNat : Nat) : Int) = n by omega]; exact hn
  · right; have := hv.parD h2; exact ⟨j, this.2.2, by omega, ⟨n, hn, h1⟩, h2⟩
theorem ofS_zero {l : List Cm} (hv : Valid l) {ns : List Int} (hin : InR l.length ns) {x : Nat} : ofS l ns 0 x = ofB l ns x := by
  rw [Bool.eq_iff_iff, ofS_iff hv, of_iff hv]
  constructor
  · rintro (h | ⟨j, h1, h2, ⟨n, hn, ha⟩, h4⟩)
    · exact ⟨x, h, by simpa using Anc.refl x⟩
    · exact ⟨n, hn, ha.snoc h4⟩
  · rintro ⟨n, hn, ha⟩
    have hr := hin n hn
    rcases ha.last with he | ⟨j, h1, h2⟩
    · left; rw [← he, show ((n.toNat : Nat) : Int) = n by omega]; exact hn
    · right; have := hv.parD h2; exact ⟨j, this.2.2, by omega, ⟨n, hn, h1⟩, h2⟩
/-- One commit's parents. -/
theorem ofS_succ {l : List Cm} {ns : List Int} {i : Nat} {c : Cm} (hc : l[i]? = some c) : ofS l ns i = part2 (ofS l ns (i + 1)) (ofB l ns i) c.par := by
  have hi := (List.getElem?_eq_some_iff.1 hc).1
  funext x
  rw [Bool.eq_iff_iff]
  simp only [ofS, part2, Bool.or_eq_true, List.any_eq_true, List.mem_range, Bool.and_eq_true, decide_eq_true_eq]
  constructor
  · rintro (h | ⟨j, h1, ⟨h2, h3⟩, h4⟩)
    · exact .inl (.inl h)
    · rcases Nat.lt_or_ge i j with hj | hj
      · exact .inl (.inr ⟨j, h1, ⟨by omega, h3⟩, h4⟩)
      · have : j = i := by omega
        subst this
        rw [getD_of hc] at h4
        exact .inr ⟨h3, h4⟩
  · rintro ((h | ⟨j, h1, ⟨h2, h3⟩, h4⟩) | ⟨h1, h2⟩)
    · exact .inl h
    · exact .inr ⟨j, h1, ⟨by omega, h3⟩, h4⟩
    · exact .inr ⟨i, hi, ⟨Nat.le_refl i, h1⟩, by rw [getD_of hc]; exact h2⟩
theorem part2_at {g : Nat → Bool} {b : Bool} {ps : List Int} {i : Nat} (h : ∀ p ∈ ps, p < i) : part2 g b ps i = g i := by
  unfold part2
  have : decide ((i : Int) ∈ ps) = false := decide_eq_false fun hm => by have := h _ hm; omega
  rw [this, Bool.and_false, Bool.or_false]
end Go.Proofs.YtlbjffdaooadoaaDoor
