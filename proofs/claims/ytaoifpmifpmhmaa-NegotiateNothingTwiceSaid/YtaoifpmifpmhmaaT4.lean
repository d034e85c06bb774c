/- Walks, printed by wip/gen/walk.py. -/
import Derived.Test.YtaoifpmifpmhmaaT3
import Derived.Test.YtaoifpmifpmhmaaV4
set_option linter.all false
set_option maxRecDepth 100000
set_option maxHeartbeats 4000000
namespace Go.Proofs.Ytaoifpmifpmhmaa
open Go Go.Vc Go.RowKit
/-- A set of numbers below n, as a row of bits. -/
def vec (n : Nat) (f : Nat → Bool) : List Bool := (List.range n).map f
def setB (f : Nat → Bool) (k : Nat) (b : Bool) : Nat → Bool := fun j => if j = k then b else f j
theorem vec_len (n : Nat) (f : Nat → Bool) : (vec n f).length = n := by simp [vec]
theorem vec_get {n : Nat} {f : Nat → Bool} {k : Nat} (h : k < n) : (vec n f)[k]? = some (f k) := by simp [vec, List.getElem?_range h]
theorem vec_ext {n : Nat} {f g : Nat → Bool} (h : ∀ k, k < n → f k = g k) : vec n f = vec n g := List.map_congr_left fun k hk => h k (List.mem_range.1 hk)
theorem vec_set {n : Nat} {f : Nat → Bool} {k : Nat} {b : Bool} : (vec n f).set k b = vec n (setB f k b) := by
  apply List.ext_getElem?
  intro i
  rw [List.getElem?_set, vec_len]
  by_cases hi : i < n
  · rw [vec_get hi, vec_get hi]
    by_cases hk : k = i
    · subst hk; rw [if_pos rfl, if_pos hi]; simp [setB]
    · rw [if_neg hk]; simp only [setB]; rw [if_neg (fun h => hk h.symm)]
  · rw [List.getElem?_eq_none (l := vec n f) (by rw [vec_len]; omega), List.getElem?_eq_none (l := vec n (setB f k b)) (by rw [vec_len]; omega)]
    split
    · rw [if_neg (by omega)]
    · rfl
theorem vec_false (n : Nat) : vec n (fun _ => false) = List.replicate n false := by
  apply List.ext_getElem?
  intro i
  by_cases hi : i < n
  · rw [vec_get hi, List.getElem?_replicate, if_pos hi]
  · rw [List.getElem?_eq_none (by rw [vec_len]; omega), List.getElem?_eq_none (by simp; omega)]
/-- Its members, in order. -/
def lst (n : Nat) (f : Nat → Bool) : List Int := ((List.range n).filter f).map fun (k : Nat) => (k : Int)
theorem lst_mem {n : Nat} {f : Nat → Bool} {x : Int} : x ∈ lst n f ↔ ∃ k : Nat, k < n ∧ f k = true ∧ x = k := by
  simp only [lst, List.mem_map, List.mem_filter, List.mem_range]
  exact ⟨fun ⟨k, ⟨h1, h2⟩, h3⟩ => ⟨k, h1, h2, h3.symm⟩, fun ⟨k, h1, h2, h3⟩ => ⟨k, ⟨h1, h2⟩, h3.symm⟩⟩
theorem lst_succ (n : Nat) (f : Nat → Bool) : lst (n + 1) f = lst n f ++ if f n = true then [(n : Int)] else [] := by
  simp only [lst, List.range_succ, List.filter_append, List.map_append]
  by_cases h : f n = true
  · simp [h]
  · simp [h]
theorem lst_zero (f : Nat → Bool) : lst 0 f = [] := rfl
theorem lst_ext {n : Nat} {f g : Nat → Bool} (h : ∀ k, k < n → f k = g k) : lst n f = lst n g := by
  induction n with
  | zero => rfl
  | succ n ih => rw [lst_succ, lst_succ, ih fun k hk => h k (by omega), h n (by omega)]
theorem lst_len (n : Nat) (f : Nat → Bool) : (lst n f).length ≤ n := by
  simp only [lst, List.length_map]
  exact Nat.le_trans (List.length_filter_le ..) (by simp)
theorem lst_sorted (n : Nat) (f : Nat → Bool) : (lst n f).Pairwise (· < ·) := by
  induction n with
  | zero => exact List.Pairwise.nil
  | succ n ih =>
    rw [lst_succ]
    split
    · refine List.pairwise_append.2 ⟨ih, List.pairwise_singleton _ _, fun a ha b hb => ?_⟩
      obtain ⟨k, h1, _, rfl⟩ := lst_mem.1 ha
      rw [List.mem_singleton.1 hb]; omega
    · rwa [List.append_nil]
/-- Sorted lists with the same members are the same. -/
theorem sorted_ext : ∀ {l m : List Int}, l.Pairwise (· < ·) → m.Pairwise (· < ·) → (∀ x, x ∈ l ↔ x ∈ m) → l = m := by
  intro l
  induction l with
  | nil =>
    intro m _ _ h
    cases m with
    | nil => rfl
    | cons b m => exact absurd ((h b).2 (by simp)) (by simp)
  | cons a l ih =>
    intro m hl hm h
    cases m with
    | nil => exact absurd ((h a).1 (by simp)) (by simp)
    | cons b m =>
      have hl' := List.pairwise_cons.1 hl
      have hm' := List.pairwise_cons.1 hm
      have hab : a = b := by
        have h1 := (h a).1 (by simp)
        have h2 := (h b).2 (by simp)
        rcases List.mem_cons.1 h1 with h1 | h1
        · exact h1
        · rcases List.mem_cons.1 h2 with h2 | h2
          · exact h2.symm
          · have := hm'.1 a h1; have := hl'.1 b h2; omega
      subst hab
      refine congrArg _ (ih hl'.2 hm'.2 fun x => ⟨fun hx => ?_, fun hx => ?_⟩)
      · rcases List.mem_cons.1 ((h x).1 (by simp [hx])) with h' | h'
        · have := hl'.1 x hx; omega
        · exact h'
      · rcases List.mem_cons.1 ((h x).2 (by simp [hx])) with h' | h'
        · have := hm'.1 x hx; omega
        · exact h'
/-- A sorted list with one more number. -/
def ins (l : List Int) (n : Int) : List Int := if n ∈ l then l else l.takeWhile (fun x => decide (x < n)) ++ n :: l.dropWhile (fun x => decide (x < n))
theorem ins_at {l : List Int} {n : Int} {k : Nat} (hn : n ∉ l) (h : ∀ x ∈ l.take k, x < n) (hk : k = l.length ∨ ∃ x, l[k]? = some x ∧ ¬x < n) : ins l n = l.take k ++ n :: l.drop k := by
  have key : l.takeWhile (fun x => decide (x < n)) = l.take k ∧ l.dropWhile (fun x => decide (x < n)) = l.drop k := by
    clear hn
    induction l generalizing k with
    | nil => simp
    | cons a l ih =>
      cases k with
      | zero =>
        rcases hk with hk | ⟨x, hx, hxn⟩
        · simp at hk
        · simp only [List.getElem?_cons_zero, Option.some.injEq] at hx
          subst hx
          simp [List.takeWhile_cons, List.dropWhile_cons, hxn]
      | succ k =>
        have ha : a < n := h a (by simp)
        have := ih (k := k) (fun x hx => h x (by simp [hx])) (by simpa using hk)
        simp [List.takeWhile_cons, List.dropWhile_cons, ha, this.1, this.2]
  unfold ins; rw [if_neg hn, key.1, key.2]
theorem ins_mem {l : List Int} {n x : Int} : x ∈ ins l n ↔ x = n ∨ x ∈ l := by
  unfold ins
  split
  · rename_i h
    exact ⟨.inr, fun h' => by rcases h' with rfl | h'; exact h; exact h'⟩
  · rw [List.mem_append, List.mem_cons]
    have := List.takeWhile_append_dropWhile (p := fun x => decide (x < n)) (l := l)
    conv => rhs; rw [← this, List.mem_append]
    constructor
    · rintro (h | h | h)
      · exact .inr (.inl h)
      · exact .inl h
      · exact .inr (.inr h)
    · rintro (h | h | h)
      · exact .inr (.inl h)
      · exact .inl h
      · exact .inr (.inr h)
theorem ins_sorted {l : List Int} {n : Int} (h : l.Pairwise (· < ·)) : (ins l n).Pairwise (· < ·) := by
  unfold ins
  split
  · exact h
  · rename_i hn
    induction l with
    | nil => simp
    | cons a l ih =>
      have ha := List.pairwise_cons.1 h
      simp only [List.mem_cons, not_or] at hn
      by_cases hlt : a < n
      · simp only [List.takeWhile_cons, List.dropWhile_cons, hlt, decide_true, if_true, List.cons_append]
        refine List.pairwise_cons.2 ⟨fun x hx => ?_, ih ha.2 hn.2⟩
        rcases List.mem_append.1 hx with hx | hx
        · exact ha.1 x ((List.takeWhile_sublist _).subset hx)
        · rcases List.mem_cons.1 hx with rfl | hx
          · exact hlt
          · exact ha.1 x ((List.dropWhile_sublist _).subset hx)
      · simp only [List.takeWhile_cons, List.dropWhile_cons, hlt, decide_false, List.nil_append, Bool.false_eq_true, if_false]
        refine List.pairwise_cons.2 ⟨fun x hx => ?_, h⟩
        rcases List.mem_cons.1 hx with rfl | hx
        · omega
        · have := ha.1 x hx; omega
theorem ins_len {l : List Int} {n : Int} : (ins l n).length ≤ l.length + 1 := by
  unfold ins
  split
  · omega
  · rw [List.length_append, List.length_cons]
    have := congrArg List.length (List.takeWhile_append_dropWhile (p := fun x => decide (x < n)) (l := l))
    rw [List.length_append] at this; omega
theorem ins_lst {n : Nat} {f : Nat → Bool} {p : Int} (h0 : 0 ≤ p) (h : p < n) : ins (lst n f) p = lst n (setB f p.toNat true) := by
  refine sorted_ext (ins_sorted (lst_sorted _ _)) (lst_sorted _ _) fun x => ?_
  rw [ins_mem, lst_mem, lst_mem]
  constructor
  · rintro (rfl | ⟨k, h1, h2, rfl⟩)
    · exact ⟨x.toNat, by omega, by simp [setB], by omega⟩
    · refine ⟨k, h1, ?_, rfl⟩; unfold setB; split; rfl; exact h2
  · rintro ⟨k, h1, h2, rfl⟩
    unfold setB at h2
    split at h2
    · left; omega
    · right; exact ⟨k, h1, h2, rfl⟩
/-- The set of a list's numbers. -/
def mark (ns : List Int) : Nat → Bool := fun k => decide ((k : Int) ∈ ns)
theorem mark_set {n : Nat} {ns : List Int} {j : Nat} {x : Int} (h : ns[j]? = some x) (h0 : 0 ≤ x) : (vec n (mark (ns.take j))).set x.toNat true = vec n (mark (ns.take (j + 1))) := by
  rw [vec_set]
  refine vec_ext fun k _ => ?_
  simp only [setB, mark, List.take_add_one, h, Option.toList_some, List.mem_append, List.mem_singleton]
  split
  · rename_i hk; rw [hk]; symm; rw [decide_eq_true_eq]; right; omega
  · rename_i hk; apply decide_eq_decide.2; constructor
    · exact .inl
    · rintro (h | h); exact h; omega

def part (l : List Cm) (f : Nat → Bool) (i : Nat) : Nat → Bool := fun x => f x || (List.range i).any fun j => f j && decide ((x : Int) ∈ (l.getD j default).par)
def part2 (g : Nat → Bool) (b : Bool) (ps : List Int) : Nat → Bool := fun x => g x || (b && decide ((x : Int) ∈ ps))
/-- A step to the parents. -/
def step1 (l : List Cm) (f : Nat → Bool) : Nat → Bool := part l f l.length
def stepN (l : List Cm) : Nat → (Nat → Bool) → Nat → Bool
  | 0, f => f
  | m + 1, f => step1 l (stepN l m f)
theorem part_zero (l : List Cm) (f : Nat → Bool) : part l f 0 = f := by funext x; simp [part]
theorem part_succ {l : List Cm} {f : Nat → Bool} {i : Nat} {c : Cm} (h : l[i]? = some c) : part l f (i + 1) = part2 (part l f i) (f i) c.par := by
  funext x
  simp only [part, part2, List.range_succ, List.any_append, List.any_cons, List.any_nil, Bool.or_false, getD_of h, Bool.or_assoc]
theorem part2_zero (g : Nat → Bool) (b : Bool) : part2 g b [] = g := by funext x; simp [part2]
theorem part2_set {g : Nat → Bool} {b : Bool} {ps : List Int} {n k : Nat} {p : Int} (h : ps[k]? = some p) (h0 : 0 ≤ p) :
    (vec n (part2 g b (ps.take k))).set p.toNat (part2 g b (ps.take k) p.toNat || b) = vec n (part2 g b (ps.take (k + 1))) := by
  rw [vec_set]
  refine vec_ext fun x _ => ?_
  have e : ((p.toNat : Nat) : Int) = p := by omega
  have hm : ∀ y : Int, decide (y ∈ ps.take (k + 1)) = (decide (y ∈ ps.take k) || decide (y = p)) := fun y => by
    rw [List.take_add_one, h]
    by_cases h1 : y ∈ ps.take k <;> by_cases h2 : y = p <;> simp [h1, h2]
  simp only [setB, part2]
  split
  · rename_i hx; subst hx; rw [hm, e]; cases b <;> simp
  · rename_i hx
    have : decide ((x : Int) = p) = false := decide_eq_false (by omega)
    rw [hm, this, Bool.or_false]
theorem vec_take (n : Nat) (f : Nat → Bool) : (vec n f).take n = vec n f := List.take_of_length_le (by rw [vec_len]; exact Nat.le_refl _)
theorem step1_ext {l : List Cm} {f g : Nat → Bool} (h : ∀ k, k < l.length → f k = g k) : ∀ k, k < l.length → step1 l f k = step1 l g k := by
  intro k hk
  simp only [step1, part, h k hk]
  congr 1
  rw [Bool.eq_iff_iff, List.any_eq_true, List.any_eq_true]
  constructor
  · rintro ⟨j, hj, h'⟩; exact ⟨j, hj, by rwa [← h j (List.mem_range.1 hj)]⟩
  · rintro ⟨j, hj, h'⟩; exact ⟨j, hj, by rwa [h j (List.mem_range.1 hj)]⟩
theorem stepN_ext {l : List Cm} {f g : Nat → Bool} (h : ∀ k, k < l.length → f k = g k) : ∀ (m k : Nat), k < l.length → stepN l m f k = stepN l m g k := by
  intro m
  induction m with
  | zero => exact h
  | succ m ih => exact step1_ext ih
theorem stepN_fix {l : List Cm} {f : Nat → Bool} {t : Nat} (h : ∀ k, k < l.length → stepN l (t + 1) f k = stepN l t f k) (d : Nat) : ∀ k, k < l.length → stepN l (t + d) f k = stepN l t f k := by
  induction d with
  | zero => intro k _; rfl
  | succ d ih =>
    intro k hk
    show step1 l (stepN l (t + d) f) k = _
    rw [step1_ext ih k hk]; exact h k hk
theorem stepN_add (l : List Cm) (f : Nat → Bool) (a b : Nat) : stepN l a (stepN l b f) = stepN l (a + b) f := by
  induction a with
  | zero => rw [Nat.zero_add]; rfl
  | succ a ih => rw [Nat.succ_add]; show step1 l _ = step1 l _; rw [ih]
theorem step1_le {l : List Cm} {f : Nat → Bool} {k : Nat} (h : f k = true) : step1 l f k = true := by simp [step1, part, h]
theorem filter_len {n : Nat} {f g : Nat → Bool} (h : ∀ k, k < n → f k = true → g k = true) : (lst n f).length ≤ (lst n g).length := by
  induction n with
  | zero => exact Nat.le_refl _
  | succ n ih =>
    have := ih fun k hk => h k (by omega)
    rw [lst_succ, lst_succ, List.length_append, List.length_append]
    by_cases h1 : f n = true
    · rw [if_pos h1, if_pos (h n (by omega) h1)]; exact Nat.add_le_add this (Nat.le_refl _)
    · rw [if_neg h1, List.length_nil]; omega
theorem lst_len_eq {n : Nat} {f g : Nat → Bool} (h : ∀ k, k < n → f k = true → g k = true) (he : (lst n g).length = (lst n f).length) : ∀ k, k < n → g k = f k := by
  induction n with
  | zero => intro k hk; omega
  | succ n ih =>
    have h1 := filter_len (n := n) (f := f) (g := g) fun k hk => h k (by omega)
    rw [lst_succ, lst_succ, List.length_append, List.length_append] at he
    by_cases hf : f n = true
    · have hg := h n (by omega) hf
      rw [if_pos hf, if_pos hg] at he
      have := ih (fun k hk => h k (by omega)) (by omega)
      intro k hk
      by_cases hkn : k = n
      · subst hkn; rw [hf, hg]
      · exact this k (by omega)
    · rw [if_neg hf] at he
      by_cases hg : g n = true
      · rw [if_pos hg] at he; simp only [List.length_singleton, List.length_nil] at he; omega
      · rw [if_neg hg] at he
        have := ih (fun k hk => h k (by omega)) (by simpa using he)
        intro k hk
        by_cases hkn : k = n
        · subst hkn; cases h2 : f k <;> cases h3 : g k <;> simp_all
        · exact this k (by omega)
/-- The numbers of a history. -/
def InR (n : Nat) (ns : List Int) : Prop := ∀ x ∈ ns, 0 ≤ x ∧ x < n
theorem InR.at {n : Nat} {ns : List Int} (h : InR n ns) {k : Nat} {x : Int} (hx : ns[k]? = some x) : 0 ≤ x ∧ x < n := h x (mem_at hx)
theorem Valid.parR {l : List Cm} (hv : Valid l) {i k : Nat} {c : Cm} {p : Int} (hc : l[i]? = some c) (hp : c.par[k]? = some p) : 0 ≤ p ∧ p < i ∧ p < l.length := by
  have := hv.par hc hp
  have := (List.getElem?_eq_some_iff.1 hc).1
  omega
theorem vec_rep (n : Nat) : List.replicate n [D.bool false] = rows eB (vec n (mark [])) := by
  have : mark [] = fun _ => false := by funext k; simp [mark]
  rw [this, vec_false, rows, List.map_replicate]; rfl

def cloneF (ty : TypeId) : GFun
  | [.d (.sl xs)], [] => some (Rect 1 xs ∧ xs.length ≤ 140737488355328, .sl 0 0 xs.length, [some (.vec ty 1 xs)])
  | _, _ => none
def reachG : List AV → Option (Prop × AV)
  | [.d (.sl xs), .d (.sl ns), .d (.int .i64 m)] => some (xs = rows eC (dC xs) ∧ ns = rows eI (dI ns) ∧ Valid (dC xs) ∧ InR (dC xs).length (dI ns) ∧ (dI ns).length ≤ 9223372036854775807 ∧ 0 ≤ m ∧ m ≤ 1000,
      .d (.sl (rows eI (lst (dC xs).length (stepN (dC xs) m.toNat (mark (dI ns)))))))
  | _ => none

theorem cloneB_meets : Meets Try.prog 54 (Spec.fresh (cloneF 4)) := by
 refine meets_fresh (E_histFault.at_ 8) Try.func54 rfl rfl rfl ?_
 intro args bl p r bf hg hp
 unfold cloneF at hg
 split at hg
 ·rename_i xs
  simp only [Option.some.injEq, Prod.mk.injEq] at hg
  obtain ⟨rfl, rfl, rfl⟩ := hg
  obtain ⟨hr, hb⟩ := hp
  have hT : (E_histFault).X = T := rfl
  have hx0 := @Try.results54
  have hx := hx0
  refine ⟨Nat.le_of_ble_eq_true rfl, ?_⟩
  intro F W0 M0 hnp hmk
  have hnp : Far.np = 0 := hnp
  refine vc_seq_k fun N1 h1 => ?_
  refine u_reg ?_
  try refine lg_mk ?_
  refine u_mv ?_
  refine lg_nil ?_
  refine h1 _ ?_; clear h1; try clear N1
  refine vc_seq_k fun N2 h2 => ?_
  refine vc_seq_k fun N3 h3 => ?_
  refine u_reg ?_
  try refine lg_mk ?_
  refine u_mv ?_
  refine lg_sem (by rfl) (sem_eqnil (by first | (simp only [op_rules, ev_rules, fr_rules, av_rules, rs_rules, eq_self, Nat.reduceEqDiff, reduceIte, bw]; done) | (simp only [op_rules, ev_rules, fr_rules, av_rules, rs_rules, eq_self, Nat.reduceEqDiff, reduceIte, bw]; rfl)) (by first | trivial | simp only [op_rules, ev_rules, fr_rules, av_rules, rs_rules, eq_self, Nat.reduceEqDiff, reduceIte, bw]) (by first | (simp only [op_rules, ev_rules, fr_rules, av_rules, rs_rules, eq_self, Nat.reduceEqDiff, reduceIte, bw, env_rules, tys, hT, tiAgg]; done) | (simp only [op_rules, ev_rules, fr_rules, av_rules, rs_rules, eq_self, Nat.reduceEqDiff, reduceIte, bw, env_rules, tys, hT, tiAgg]; rfl)) (by first | (simp only [slA, op_rules, ev_rules, fr_rules, av_rules, rs_rules, eq_self, Nat.reduceEqDiff, reduceIte, bw]; done) | (simp only [slA, op_rules, ev_rules, fr_rules, av_rules, rs_rules, eq_self, Nat.reduceEqDiff, reduceIte, bw]; rfl)) fun z_r1_1 hz_r1_1 hz_r1_1' => ?_)
  refine lg_nil ?_
  refine h3 _ ?_; clear h3; try clear N3
  refine u_cond (fun hb4 => ?_) (fun hb4 => ?_)
  ·have hz := hz_r1_1 hb4
   unfold emptyA at hz
   subst hz
   refine vc_seq_k fun N5 h5 => ?_
   refine u_reg ?_
   try refine lg_mk ?_
   refine u_mv ?_
   refine lg_nil ?_
   refine h5 _ ?_; clear h5; try clear N5
   refine vc_ret ?_
   try simp only [k_rules]
   refine fin_ ?_
   refine ⟨[none], by rfl, ?_, ?_⟩
   ·refine fin_ ?_
    exact cl_
   ·refine fin_ ?_
    exact cl_
  ·refine vc_skip ?_
   try simp only [k_rules]
   refine h2 _ ?_; clear h2; try clear N2
   refine vc_seq_k fun N6 h6 => ?_
   refine u_reg ?_
   try refine lg_mk ?_
   refine u_bs ?_
   refine u_mv ?_
   refine u_ap (hq := by (first | (exact ⟨hr, by omega⟩) | (first | trivial | omega | assumption | (unfold inI64; omega) | ((repeat' apply And.intro) <;> first | rfl | trivial | omega | assumption | (unfold inI64; omega)) | (simp; done) | (simp; omega)))) ?_
   refine u_mv ?_
   refine lg_nil ?_
   refine h6 _ ?_; clear h6; try clear N6
   refine vc_ret ?_
   try simp only [k_rules]
   refine fin_ ?_
   refine ⟨[some 1], by rfl, ?_, ?_⟩
   ·refine fin_ ?_
    exact cl_
   ·refine fin_ ?_
    exact cl_
 ·cases hg

def E_cloneB : Env Try.prog := E_histFault.add 54 (Spec.fresh (cloneF 4)) cloneB_meets (by kernel_rfl)

theorem reach_meets : Meets Try.prog 42 (Spec.pure reachG) := by
 refine meets_fun (E_cloneB.at_ 81) Try.func42 rfl rfl rfl ?_
 intro args p r hg hp
 unfold reachG at hg
 split at hg
 ·rename_i xs ys m
  simp only [Option.some.injEq, Prod.mk.injEq] at hg
  obtain ⟨rfl, rfl⟩ := hg
  obtain ⟨he, hf, hv, hin, hn, hm0, hm⟩ := hp
  generalize dC xs = l at *
  generalize dI ys = ns at *
  subst he hf
  obtain ⟨m, rfl⟩ := Int.eq_ofNat_of_zero_le hm0
  have hl60 := hv.len
  have hT : (E_cloneB).X = T := rfl
  have hx0 := And.intro @rect_eC (And.intro @vec_take (And.intro @vec_len @Try.results42))
  have hx := hx0
  refine ⟨by rfl, ?_⟩
  intro F W0 hnp hmk
  refine vc_seq_k fun N1 h1 => ?_
  refine u_reg ?_
  try refine lg_mk ?_
  refine u_mv ?_
  refine lg_nil ?_
  refine h1 _ ?_; clear h1; try clear N1
  refine vc_seq_k fun N2 h2 => ?_
  refine u_reg ?_
  try refine lg_mk ?_
  refine u_mv ?_
  refine u_ln ?_
  refine u_ms ?_
  refine u_mv ?_
  refine lg_nil ?_
  refine h2 _ ?_; clear h2; try clear N2
  refine vc_seq_k fun N3 h3 => ?_
  refine vc_seq_k fun N4 h4 => ?_
  refine u_reg ?_
  try refine lg_mk ?_
  refine u_mv ?_
  refine u_ln ?_
  refine u_mv ?_
  refine lg_nil ?_
  refine h4 _ ?_; clear h4; try clear N4
  refine vc_block ?_
  refine vc_loop_mk (σ := Nat) (fun s => (fun j => j ≤ ns.length) s)
   (fun s => (fun j => [(0, .d (.sl (rows eC l))), (2, .d (.int .i64 (m : Nat))), (7, .sl 0 0 l.length), (21, .d (.sl (rows eI ns))), (22, .d (.int .i64 (ns.length : Nat))), (23, .d (.int .i64 (j : Nat)))]) s)
   (fun s => (fun j => [some (.vec 4 1 (rows eB (vec l.length (mark (ns.take j)))))]) s) (fun s => (fun j => ns.length - j) s) hnp 0 ?_ [some 0] ?_ ?_
  ·dsimp only
   omega
  ·dsimp only
   refine ⟨by rfl, ?_, ?_⟩
   ·refine fin_ ?_
    (repeat' apply And.intro) <;> (first | (first | rfl | trivial | exact vec_rep _) | (first | rfl | exact Or.inr rfl | exact Or.inl rfl | trivial | omega | assumption | (simp; done) | (simp; omega)))
   ·refine fin_ ?_
    (repeat' apply And.intro) <;> (first | (first | rfl | trivial | exact vec_rep _) | (first | rfl | exact Or.inr rfl | exact Or.inl rfl | trivial | omega | assumption | (simp; done) | (simp; omega)))
  ·rintro j hinv N5 h5
   dsimp only at hinv ⊢
   have hj1 := hinv
   refine vc_seq_k fun N6 h6 => ?_
   refine u_reg ?_
   try refine lg_mk ?_
   refine u_bn ?_
   refine lg_nil ?_
   refine h6 _ ?_; clear h6; try clear N6
   refine vc_seq_k fun N7 h7 => ?_
   refine u_cond (fun hb8 => ?_) (fun hb8 => ?_)
   ·obtain ⟨x, hxe⟩ := getE (l := ns) (i := j) (by omega)
    have hxr := hin.at hxe
    have hgm := vec_get (n := l.length) (f := mark (ns.take j)) (k := x.toNat) (by omega)
    refine vc_skip ?_
    try simp only [k_rules]
    refine h7 _ ?_; clear h7; try clear N7
    refine vc_seq_k fun N9 h9 => ?_
    refine vc_block ?_
    refine vc_seq_k fun N10 h10 => ?_
    have hx := And.intro @hxe (And.intro @eI.eq_1 hx0)
    refine u_reg ?_
    try refine lg_mk ?_
    refine u_pt ?_
    refine u_ld ?_
    refine u_mv ?_
    refine lg_nil ?_
    have hx := hx0
    refine h10 _ ?_; clear h10; try clear N10
    have hx := And.intro @hgm (And.intro @eB.eq_1 hx0)
    refine u_reg ?_
    try refine lg_mk ?_
    refine u_mv ?_
    refine u_mv ?_
    refine u_pt ?_
    refine u_st ?_
    refine lg_nil ?_
    have hx := hx0
    refine h9 _ ?_; clear h9; try clear N9
    refine u_reg ?_
    try refine lg_mk ?_
    refine u_bn ?_
    refine u_mv ?_
    refine lg_nil ?_
    refine h5 _ ⟨j + 1, ?_, ?_, [some 0], ?_⟩
    ·dsimp only
     omega
    ·dsimp only
     omega
    ·dsimp only
     refine ⟨by rfl, ?_, ?_⟩
     ·refine fin_ ?_
      (repeat' apply And.intro) <;> (first | (first | rfl | trivial | (rw [← mark_set hxe hxr.1]; simp [rows, eB]; done)) | (first | rfl | exact Or.inr rfl | exact Or.inl rfl | trivial | omega | assumption | (simp; done) | (simp; omega)))
     ·refine fin_ ?_
      (repeat' apply And.intro) <;> (first | (first | rfl | trivial | (rw [← mark_set hxe hxr.1]; simp [rows, eB]; done)) | (first | rfl | exact Or.inr rfl | exact Or.inl rfl | trivial | omega | assumption | (simp; done) | (simp; omega)))
   ·have hj : j = ns.length := by omega
    subst hj
    refine vc_exit ?_
    simp only [k_rules, Nat.reduceEqDiff, reduceIte, eq_self]
    refine h3 _ ?_; clear h3; try clear N3
    refine vc_seq_k fun N11 h11 => ?_
    refine vc_seq_k fun N12 h12 => ?_
    refine u_reg ?_
    try refine lg_mk ?_
    refine u_mv ?_
    refine u_mv ?_
    refine lg_nil ?_
    refine h12 _ ?_; clear h12; try clear N12
    refine vc_block ?_
    refine vc_loop_mk (σ := Nat) (fun s => (fun t => t ≤ m) s)
     (fun s => (fun t => [(0, .d (.sl (rows eC l))), (2, .d (.int .i64 (m : Nat))), (7, .d (.sl (rows eB (vec l.length (stepN l t (mark ns)))))), (31, .d (.int .i64 (m : Nat))), (32, .d (.int .i64 (t : Nat)))]) s)
     (fun s => (fun t => []) s) (fun s => (fun t => m - t) s) hnp 0 ?_ [] ?_ ?_
    ·dsimp only
     omega
    ·dsimp only
     refine ⟨by rfl, ?_, ?_⟩
     ·refine fin_ ?_
      (repeat' apply And.intro) <;> (first | (first | rfl | trivial | (simp [stepN]; done)) | (first | rfl | exact Or.inr rfl | exact Or.inl rfl | trivial | omega | assumption | (simp; done) | (simp; omega)))
     ·refine fin_ ?_
      (repeat' apply And.intro) <;> (first | (first | rfl | trivial | (simp [stepN]; done)) | (first | rfl | exact Or.inr rfl | exact Or.inl rfl | trivial | omega | assumption | (simp; done) | (simp; omega)))
    ·rintro t hinv N13 h13
     dsimp only at hinv ⊢
     have ht1 := hinv
     refine vc_seq_k fun N14 h14 => ?_
     refine u_reg ?_
     try refine lg_mk ?_
     refine u_bn ?_
     refine lg_nil ?_
     refine h14 _ ?_; clear h14; try clear N14
     refine vc_seq_k fun N15 h15 => ?_
     refine u_cond (fun hb16 => ?_) (fun hb16 => ?_)
     ·refine vc_skip ?_
      try simp only [k_rules]
      refine h15 _ ?_; clear h15; try clear N15
      refine vc_seq_k fun N17 h17 => ?_
      refine vc_block ?_
      refine vc_seq_k fun N18 h18 => ?_
      refine u_reg ?_
      try refine lg_mk ?_
      refine u_mv ?_
      have hc := call_rule (E := (E_cloneB.at_ 81)) (f := 54) (sp := Spec.fresh (cloneF 4)) rfl
      have hs := @cloneF.eq_1
      refine u_hg ?_
      refine u_mv ?_
      refine lg_nil ?_
      refine h18 _ ?_; clear h18; try clear N18
      refine vc_seq_k fun N19 h19 => ?_
      refine vc_seq_k fun N20 h20 => ?_
      refine u_reg ?_
      try refine lg_mk ?_
      refine u_mv ?_
      refine u_ln ?_
      refine u_mv ?_
      refine lg_nil ?_
      refine h20 _ ?_; clear h20; try clear N20
      refine vc_block ?_
      refine vc_loop_mk (σ := Nat) (fun s => (fun i => i ≤ l.length) s)
       (fun s => (fun i => [(0, .d (.sl (rows eC l))), (2, .d (.int .i64 (m : Nat))), (7, .d (.sl (rows eB (vec l.length (stepN l t (mark ns)))))), (10, .sl 0 0 l.length), (31, .d (.int .i64 (m : Nat))), (32, .d (.int .i64 (t : Nat))), (36, .d (.sl (rows eC l))), (37, .d (.int .i64 (l.length : Nat))), (38, .d (.int .i64 (i : Nat)))]) s)
       (fun s => (fun i => [some (.vec 4 1 (rows eB (vec l.length (part l (stepN l t (mark ns)) i))))]) s) (fun s => (fun i => l.length - i) s) hnp 0 ?_ [some 0] ?_ ?_
      ·dsimp only
       omega
      ·dsimp only
       refine ⟨by rfl, ?_, ?_⟩
       ·refine fin_ ?_
        (repeat' apply And.intro) <;> (first | (first | rfl | trivial | (rw [part_zero]; done)) | (first | rfl | exact Or.inr rfl | exact Or.inl rfl | trivial | omega | assumption | (simp; done) | (simp; omega)))
       ·refine fin_ ?_
        (repeat' apply And.intro) <;> (first | (first | rfl | trivial | (rw [part_zero]; done)) | (first | rfl | exact Or.inr rfl | exact Or.inl rfl | trivial | omega | assumption | (simp; done) | (simp; omega)))
      ·rintro i hinv N21 h21
       dsimp only at hinv ⊢
       have hi1 := hinv
       refine vc_seq_k fun N22 h22 => ?_
       refine u_reg ?_
       try refine lg_mk ?_
       refine u_bn ?_
       refine lg_nil ?_
       refine h22 _ ?_; clear h22; try clear N22
       refine vc_seq_k fun N23 h23 => ?_
       refine u_cond (fun hb24 => ?_) (fun hb24 => ?_)
       ·obtain ⟨c, hce⟩ := getE (l := l) (i := i) (by omega)
        have hc3 := hv.few hce
        refine vc_skip ?_
        try simp only [k_rules]
        refine h23 _ ?_; clear h23; try clear N23
        refine vc_seq_k fun N25 h25 => ?_
        refine vc_block ?_
        refine vc_seq_k fun N26 h26 => ?_
        have hx := And.intro @hce (And.intro @eC.eq_1 hx0)
        refine u_reg ?_
        try refine lg_mk ?_
        refine u_mv ?_
        refine u_pt ?_
        refine u_ld ?_
        refine u_al ?_
        refine u_mv ?_
        refine u_st ?_
        refine lg_nil ?_
        have hx := hx0
        refine h26 _ ?_; clear h26; try clear N26
        refine vc_seq_k fun N27 h27 => ?_
        refine u_reg ?_
        try refine lg_mk ?_
        refine u_pt ?_
        refine u_ld ?_
        refine u_ln ?_
        refine u_mv ?_
        refine lg_nil ?_
        refine h27 _ ?_; clear h27; try clear N27
        refine vc_block ?_
        refine vc_loop_mk (σ := Nat) (fun s => (fun k => k ≤ c.par.length) s)
         (fun s => (fun k => [(0, .d (.sl (rows eC l))), (2, .d (.int .i64 (m : Nat))), (7, .d (.sl (rows eB (vec l.length (stepN l t (mark ns)))))), (10, .sl 0 0 l.length), (11, .d (.int .i64 (i : Nat))), (31, .d (.int .i64 (m : Nat))), (32, .d (.int .i64 (t : Nat))), (36, .d (.sl (rows eC l))), (37, .d (.int .i64 (l.length : Nat))), (38, .d (.int .i64 (i : Nat))), (44, .d (.sl (rows eI c.par))), (45, .d (.int .i64 (c.par.length : Nat))), (46, .d (.int .i64 (k : Nat)))]) s)
         (fun s => (fun k => [some (.vec 4 1 (rows eB (vec l.length (part2 (part l (stepN l t (mark ns)) i) ((stepN l t (mark ns)) i) (c.par.take k)))))]) s) (fun s => (fun k => c.par.length - k) s) hnp 0 ?_ [some 0] ?_ ?_
        ·dsimp only
         omega
        ·dsimp only
         refine ⟨by rfl, ?_, ?_⟩
         ·refine fin_ ?_
          (repeat' apply And.intro) <;> (first | (first | rfl | trivial | (rw [part2_zero]; done)) | (first | rfl | exact Or.inr rfl | exact Or.inl rfl | trivial | omega | assumption | (simp; done) | (simp; omega)))
         ·refine fin_ ?_
          (repeat' apply And.intro) <;> (first | (first | rfl | trivial | (rw [part2_zero]; done)) | (first | rfl | exact Or.inr rfl | exact Or.inl rfl | trivial | omega | assumption | (simp; done) | (simp; omega)))
        ·rintro k hinv N28 h28
         dsimp only at hinv ⊢
         have hk1 := hinv
         refine vc_seq_k fun N29 h29 => ?_
         refine u_reg ?_
         try refine lg_mk ?_
         refine u_bn ?_
         refine lg_nil ?_
         refine h29 _ ?_; clear h29; try clear N29
         refine vc_seq_k fun N30 h30 => ?_
         refine u_cond (fun hb31 => ?_) (fun hb31 => ?_)
         ·obtain ⟨p, hpe⟩ := getE (l := c.par) (i := k) (by omega)
          have hpr := hv.parR hce hpe
          have hg := vec_get (n := l.length) (f := part2 (part l (stepN l t (mark ns)) i) ((stepN l t (mark ns)) i) (c.par.take k)) (k := p.toNat) (by omega)
          have hfi := vec_get (n := l.length) (f := (stepN l t (mark ns))) (k := i) (by omega)
          refine vc_skip ?_
          try simp only [k_rules]
          refine h30 _ ?_; clear h30; try clear N30
          refine vc_seq_k fun N32 h32 => ?_
          refine vc_block ?_
          refine vc_seq_k fun N33 h33 => ?_
          have hx := And.intro @hpe (And.intro @eI.eq_1 hx0)
          refine u_reg ?_
          try refine lg_mk ?_
          refine u_pt ?_
          refine u_ld ?_
          refine u_mv ?_
          refine lg_nil ?_
          have hx := hx0
          refine h33 _ ?_; clear h33; try clear N33
          have hx := And.intro @hg (And.intro @hfi (And.intro @eB.eq_1 hx0))
          refine u_reg ?_
          try refine lg_mk ?_
          refine u_mv ?_
          refine u_mv ?_
          refine u_mv ?_
          refine u_mv ?_
          refine u_pt ?_
          refine u_ld ?_
          refine u_mv ?_
          refine g_mv ?_
          refine g_mv ?_
          refine g_pt ?_
          refine g_ld ?_
          refine u_pk ?_
          refine u_pt ?_
          refine u_st ?_
          refine lg_nil ?_
          have hx := hx0
          refine h32 _ ?_; clear h32; try clear N32
          refine u_reg ?_
          try refine lg_mk ?_
          refine u_bn ?_
          refine u_mv ?_
          refine lg_nil ?_
          refine h28 _ ⟨k + 1, ?_, ?_, [some 0], ?_⟩
          ·dsimp only
           omega
          ·dsimp only
           omega
          ·dsimp only
           refine ⟨by rfl, ?_, ?_⟩
           ·refine fin_ ?_
            (repeat' apply And.intro) <;> (first | (first | rfl | trivial | (rw [← part2_set hpe hpr.1]; simp [rows, eB]; done)) | (first | rfl | exact Or.inr rfl | exact Or.inl rfl | trivial | omega | assumption | (simp; done) | (simp; omega)))
           ·refine fin_ ?_
            (repeat' apply And.intro) <;> (first | (first | rfl | trivial | (rw [← part2_set hpe hpr.1]; simp [rows, eB]; done)) | (first | rfl | exact Or.inr rfl | exact Or.inl rfl | trivial | omega | assumption | (simp; done) | (simp; omega)))
         ·have hk : k = c.par.length := by omega
          subst hk
          refine vc_exit ?_
          simp only [k_rules, Nat.reduceEqDiff, reduceIte, eq_self]
          refine h25 _ ?_; clear h25; try clear N25
          refine u_reg ?_
          try refine lg_mk ?_
          refine u_bn ?_
          refine u_mv ?_
          refine lg_nil ?_
          refine h21 _ ⟨i + 1, ?_, ?_, [some 0], ?_⟩
          ·dsimp only
           omega
          ·dsimp only
           omega
          ·dsimp only
           refine ⟨by rfl, ?_, ?_⟩
           ·refine fin_ ?_
            (repeat' apply And.intro) <;> (first | (first | rfl | trivial | (rw [part_succ hce, List.take_length]; done)) | (first | rfl | exact Or.inr rfl | exact Or.inl rfl | trivial | omega | assumption | (simp; done) | (simp; omega)))
           ·refine fin_ ?_
            (repeat' apply And.intro) <;> (first | (first | rfl | trivial | (rw [part_succ hce, List.take_length]; done)) | (first | rfl | exact Or.inr rfl | exact Or.inl rfl | trivial | omega | assumption | (simp; done) | (simp; omega)))
       ·have hi : i = l.length := by omega
        subst hi
        refine vc_exit ?_
        simp only [k_rules, Nat.reduceEqDiff, reduceIte, eq_self]
        refine h19 _ ?_; clear h19; try clear N19
        refine u_reg ?_
        try refine lg_mk ?_
        refine u_mv ?_
        refine u_mv ?_
        refine lg_nil ?_
        refine h17 _ ?_; clear h17; try clear N17
        refine u_reg ?_
        try refine lg_mk ?_
        refine u_bn ?_
        refine u_mv ?_
        refine lg_nil ?_
        refine h13 _ ⟨t + 1, ?_, ?_, [], ?_⟩
        ·dsimp only
         omega
        ·dsimp only
         omega
        ·dsimp only
         refine ⟨by rfl, ?_, ?_⟩
         ·refine fin_ ?_
          (repeat' apply And.intro) <;> (first | (first | rfl | trivial | (simp [stepN, step1]; done)) | (first | rfl | exact Or.inr rfl | exact Or.inl rfl | trivial | omega | assumption | (simp; done) | (simp; omega)))
         ·refine fin_ ?_
          (repeat' apply And.intro) <;> (first | (first | rfl | trivial | (simp [stepN, step1]; done)) | (first | rfl | exact Or.inr rfl | exact Or.inl rfl | trivial | omega | assumption | (simp; done) | (simp; omega)))
     ·have ht : m = t := by omega
      subst ht
      refine vc_exit ?_
      simp only [k_rules, Nat.reduceEqDiff, reduceIte, eq_self]
      refine h11 _ ?_; clear h11; try clear N11
      refine vc_seq_k fun N34 h34 => ?_
      refine u_reg ?_
      try refine lg_mk ?_
      refine u_mv ?_
      refine lg_nil ?_
      refine h34 _ ?_; clear h34; try clear N34
      refine vc_seq_k fun N35 h35 => ?_
      refine vc_seq_k fun N36 h36 => ?_
      refine u_reg ?_
      try refine lg_mk ?_
      refine u_mv ?_
      refine u_ln ?_
      refine u_mv ?_
      refine lg_nil ?_
      refine h36 _ ?_; clear h36; try clear N36
      refine vc_block ?_
      refine vc_loop_mk (σ := Nat) (fun s => (fun o => o ≤ l.length) s)
       (fun s => (fun o => [(0, .d (.sl (rows eC l))), (2, .d (.int .i64 (m : Nat))), (15, .sl 0 0 (lst o (stepN l m (mark ns))).length), (67, .d (.sl (rows eB (vec l.length (stepN l m (mark ns)))))), (68, .d (.int .i64 ((vec l.length (stepN l m (mark ns))).length : Nat))), (69, .d (.int .i64 (o : Nat)))]) s)
       (fun s => (fun o => [some (.vec 3 1 (rows eI (lst o (stepN l m (mark ns)))))]) s) (fun s => (fun o => l.length - o) s) hnp 0 ?_ [none] ?_ ?_
      ·dsimp only
       omega
      ·dsimp only
       refine ⟨by rfl, ?_, ?_⟩
       ·refine fin_ ?_
        exact cl_
       ·refine fin_ ?_
        exact cl_
      ·rintro o hinv N37 h37
       dsimp only at hinv ⊢
       have ho1 := hinv
       refine vc_seq_k fun N38 h38 => ?_
       refine u_reg ?_
       try refine lg_mk ?_
       refine u_bn ?_
       refine lg_nil ?_
       refine h38 _ ?_; clear h38; try clear N38
       refine vc_seq_k fun N39 h39 => ?_
       refine u_cond (fun hb40 => ?_) (fun hb40 => ?_)
       ·have hfo := vec_get (n := l.length) (f := stepN l m (mark ns)) (k := o) (by omega)
        have hlo := lst_len o (stepN l m (mark ns))
        refine vc_skip ?_
        try simp only [k_rules]
        refine h39 _ ?_; clear h39; try clear N39
        refine vc_seq_k fun N41 h41 => ?_
        refine vc_block ?_
        refine vc_seq_k fun N42 h42 => ?_
        have hx := And.intro @hfo (And.intro @eB.eq_1 hx0)
        refine u_reg ?_
        try refine lg_mk ?_
        refine u_mv ?_
        refine u_pt ?_
        refine u_ld ?_
        refine u_mv ?_
        refine u_mv ?_
        refine lg_nil ?_
        have hx := hx0
        refine h42 _ ?_; clear h42; try clear N42
        refine vc_seq_k fun N43 h43 => ?_
        refine u_reg ?_
        try refine lg_mk ?_
        refine u_mv ?_
        refine lg_nil ?_
        refine h43 _ ?_; clear h43; try clear N43
        refine u_cond (fun hb44 => ?_) (fun hb44 => ?_)
        ·refine u_reg ?_
         try refine lg_mk ?_
         refine u_mv ?_
         refine u_mv ?_
         refine u_bs ?_
         refine u_ap ?_
         refine u_mv ?_
         refine lg_nil ?_
         refine h41 _ ?_; clear h41; try clear N41
         refine u_reg ?_
         try refine lg_mk ?_
         refine u_bn ?_
         refine u_mv ?_
         refine lg_nil ?_
         refine h37 _ ⟨o + 1, ?_, ?_, [some 2], ?_⟩
         ·dsimp only
          omega
         ·dsimp only
          omega
         ·dsimp only
          refine ⟨by rfl, ?_, ?_⟩
          ·refine fin_ ?_
           (repeat' apply And.intro) <;> (first | (first | rfl | trivial | (rw [lst_succ, if_pos hb44]; simp [rows, eI]; done) | (rw [lst_succ, if_pos hb44]; simp; done)) | (first | rfl | exact Or.inr rfl | exact Or.inl rfl | trivial | omega | assumption | (simp; done) | (simp; omega)))
          ·refine fin_ ?_
           (repeat' apply And.intro) <;> (first | (first | rfl | trivial | (rw [lst_succ, if_pos hb44]; simp [rows, eI]; done) | (rw [lst_succ, if_pos hb44]; simp; done)) | (first | rfl | exact Or.inr rfl | exact Or.inl rfl | trivial | omega | assumption | (simp; done) | (simp; omega)))
        ·refine vc_skip ?_
         try simp only [k_rules]
         refine h41 _ ?_; clear h41; try clear N41
         refine u_reg ?_
         try refine lg_mk ?_
         refine u_bn ?_
         refine u_mv ?_
         refine lg_nil ?_
         refine h37 _ ⟨o + 1, ?_, ?_, [some 0], ?_⟩
         ·dsimp only
          omega
         ·dsimp only
          omega
         ·dsimp only
          refine ⟨by rfl, ?_, ?_⟩
          ·refine fin_ ?_
           (repeat' apply And.intro) <;> (first | (first | rfl | trivial | (rw [lst_succ, if_neg (by rw [hb44]; simp), List.append_nil]; done)) | (first | rfl | exact Or.inr rfl | exact Or.inl rfl | trivial | omega | assumption | (simp; done) | (simp; omega)))
          ·refine fin_ ?_
           (repeat' apply And.intro) <;> (first | (first | rfl | trivial | (rw [lst_succ, if_neg (by rw [hb44]; simp), List.append_nil]; done)) | (first | rfl | exact Or.inr rfl | exact Or.inl rfl | trivial | omega | assumption | (simp; done) | (simp; omega)))
       ·have ho : o = l.length := by omega
        subst ho
        refine vc_exit ?_
        simp only [k_rules, Nat.reduceEqDiff, reduceIte, eq_self]
        refine h35 _ ?_; clear h35; try clear N35
        refine vc_seq_k fun N45 h45 => ?_
        refine u_reg ?_
        try refine lg_mk ?_
        refine u_mv ?_
        refine u_mv ?_
        refine lg_nil ?_
        refine h45 _ ?_; clear h45; try clear N45
        refine vc_ret ?_
        try simp only [k_rules]
        refine fin2_ ?_
        (repeat' apply And.intro) <;> (first | (first | rfl | exact Or.inl rfl | trivial | exact Nat.le_refl _ | (simp [rows_len]; done) | (rw [List.drop_zero, rows_take, List.take_length]; done)) | (first | rfl | exact Or.inr rfl | exact Or.inl rfl | trivial | omega | assumption | (simp; done) | (simp; omega)))
 ·cases hg

def E_reach : Env Try.prog := E_cloneB.add 42 (Spec.pure reachG) reach_meets (by kernel_rfl)
end Go.Proofs.Ytaoifpmifpmhmaa
