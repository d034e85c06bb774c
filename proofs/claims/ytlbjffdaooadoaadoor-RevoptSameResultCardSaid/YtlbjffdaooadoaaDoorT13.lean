/- Walks, printed by wip/gen/walk.py. -/
import Derived.Test.YtlbjffdaooadoaaDoorT12
import Derived.Test.YtlbjffdaooadoaaDoorV5
set_option linter.all false
set_option maxRecDepth 100000
set_option maxHeartbeats 4000000
namespace Go.Proofs.YtlbjffdaooadoaaDoor
open Go Go.Vc Go.RowKit
theorem inc_pairwise : ∀ {l : List Int}, (∀ k p q, l[k]? = some p → l[k + 1]? = some q → p < q) → l.Pairwise (· < ·)
  | [], _ => List.Pairwise.nil
  | [a], _ => List.pairwise_singleton _ _
  | a :: b :: r, h => by
    have ih := inc_pairwise (l := b :: r) fun k p q hp hq => h (k + 1) p q (by simpa using hp) (by simpa using hq)
    have hab := h 0 a b rfl rfl
    refine List.pairwise_cons.2 ⟨fun x hx => ?_, ih⟩
    rcases List.mem_cons.1 hx with rfl | hx
    · exact hab
    · have := (List.pairwise_cons.1 ih).1 x hx; omega

theorem sorted_lt {ns : List Int} (hs : ns.Pairwise (· < ·)) {i j : Nat} {x y : Int} (hx : ns[i]? = some x) (hy : ns[j]? = some y) (h : i < j) : x < y := by
  obtain ⟨h1, rfl⟩ := List.getElem?_eq_some_iff.1 hx
  obtain ⟨h2, rfl⟩ := List.getElem?_eq_some_iff.1 hy
  exact List.pairwise_iff_getElem.1 hs i j h1 h2 h
theorem Valid.parS {l : List Cm} (hv : Valid l) {i : Nat} {c : Cm} (hc : l[i]? = some c) : c.par.Pairwise (· < ·) := inc_pairwise fun k p q hp hq => hv.inc hc hp hq

/-- A row of numbers. -/
def ivec (n : Nat) (f : Nat → Int) : List Int := (List.range n).map f
theorem ivec_len (n : Nat) (f : Nat → Int) : (ivec n f).length = n := by simp [ivec]
theorem ivec_get {n : Nat} {f : Nat → Int} {k : Nat} (h : k < n) : (ivec n f)[k]? = some (f k) := by simp [ivec, List.getElem?_range h]
theorem ivec_ext {n : Nat} {f g : Nat → Int} (h : ∀ k, k < n → f k = g k) : ivec n f = ivec n g := List.map_congr_left fun k hk => h k (List.mem_range.1 hk)
theorem ivec_set {n : Nat} {f g : Nat → Int} {k : Nat} {b : Int} (h1 : k < n → g k = b) (h2 : ∀ x, x < n → x ≠ k → g x = f x) : (ivec n f).set k b = ivec n g := by
  apply List.ext_getElem?
  intro i
  rw [List.getElem?_set, ivec_len]
  by_cases hi : i < n
  · rw [ivec_get hi, ivec_get hi]
    by_cases hk : k = i
    · subst hk; rw [if_pos rfl, if_pos hi, h1 hi]
    · rw [if_neg hk, h2 i hi fun h => hk h.symm]
  · rw [List.getElem?_eq_none (l := ivec n f) (by rw [ivec_len]; omega), List.getElem?_eq_none (l := ivec n g) (by rw [ivec_len]; omega)]
    split
    · rw [if_neg (by omega)]
    · rfl
theorem ivec_rep (n : Nat) : List.replicate n [D.int .i64 0] = rows eI (ivec n fun _ => 0) := by
  have : ivec n (fun _ => 0) = List.replicate n 0 := by
    apply List.ext_getElem?
    intro i
    by_cases hi : i < n
    · rw [ivec_get hi, List.getElem?_replicate, if_pos hi]
    · rw [List.getElem?_eq_none (by rw [ivec_len]; omega), List.getElem?_eq_none (by simp; omega)]
  rw [this, rows, List.map_replicate]; rfl
/-- How many of the first m commits that are not in a list have a parent. -/
def cnt (l : List Cm) (out : List Int) : Nat → Nat → Int
  | 0, _ => 0
  | m + 1, i => cnt l out m i + if (m : Int) ∉ out ∧ (i : Int) ∈ (l.getD m default).par then 1 else 0
theorem cnt_bnd (l : List Cm) (out : List Int) (m i : Nat) : 0 ≤ cnt l out m i ∧ cnt l out m i ≤ m := by
  induction m with
  | zero => simp [cnt]
  | succ m ih => unfold cnt; split <;> omega
theorem cnt_zero {l : List Cm} {out : List Int} {m i : Nat} : cnt l out m i = 0 ↔ ∀ k, k < m → (i : Int) ∈ (l.getD k default).par → (k : Int) ∈ out := by
  induction m with
  | zero => exact ⟨fun _ k hk => absurd hk (by omega), fun _ => rfl⟩
  | succ m ih =>
    have hb := cnt_bnd l out m i
    constructor
    · intro h k hk hp
      unfold cnt at h
      split at h
      · omega
      · rename_i hn
        rcases Nat.lt_or_ge k m with h' | h'
        · exact ih.1 (by omega) k h' hp
        · have : k = m := by omega
          subst this
          exact Classical.byContradiction fun h2 => hn ⟨h2, hp⟩
    · intro h
      unfold cnt
      rw [ih.2 fun k hk => h k (by omega), if_neg fun h2 => h2.1 (h m (by omega) h2.2)]; rfl
theorem cnt_snoc {l : List Cm} {out : List Int} {b : Nat} (hb : (b : Int) ∉ out) (m i : Nat) : cnt l (out ++ [(b : Int)]) m i = cnt l out m i - if b < m ∧ (i : Int) ∈ (l.getD b default).par then 1 else 0 := by
  induction m with
  | zero => simp [cnt]
  | succ m ih =>
    unfold cnt
    rw [ih]
    by_cases hm : m = b
    · subst hm
      have h1 : ¬((m : Int) ∉ out ++ [(m : Int)] ∧ (i : Int) ∈ (l.getD m default).par) := fun h => h.1 (by simp)
      rw [if_neg h1, if_neg (show ¬(m < m ∧ _) by omega)]
      by_cases hp : (i : Int) ∈ (l.getD m default).par
      · rw [if_pos ⟨hb, hp⟩, if_pos ⟨by omega, hp⟩]; omega
      · rw [if_neg fun h => hp h.2, if_neg fun h => hp h.2]; omega
    · have h1 : ((m : Int) ∉ out ++ [(b : Int)]) ↔ (m : Int) ∉ out := by
        rw [List.mem_append, List.mem_singleton]
        exact ⟨fun h h2 => h (.inl h2), fun h h2 => h2.elim h fun h3 => hm (by omega)⟩
      have h2 : (b < m + 1 ∧ (i : Int) ∈ (l.getD b default).par) ↔ (b < m ∧ (i : Int) ∈ (l.getD b default).par) := ⟨fun h => ⟨by omega, h.2⟩, fun h => ⟨by omega, h.2⟩⟩
      simp only [h1, h2]
      omega
def cntJ (l : List Cm) (m : Nat) (ps : List Int) : Nat → Int := fun x => cnt l [] m x + if (x : Int) ∈ ps then 1 else 0
theorem cntJ_nil (l : List Cm) (m : Nat) : cntJ l m [] = cnt l [] m := by funext x; simp [cntJ]
theorem cntJ_all {l : List Cm} {m : Nat} {c : Cm} (hc : l[m]? = some c) : cntJ l m c.par = cnt l [] (m + 1) := by
  funext x; simp only [cntJ, cnt, getD_of hc, List.not_mem_nil, not_false_eq_true, true_and]
theorem sorted_not {ps : List Int} (hs : ps.Pairwise (· < ·)) {j : Nat} {p : Int} (h : ps[j]? = some p) : p ∉ ps.take j := by
  intro hp
  obtain ⟨k, hk⟩ := List.getElem?_of_mem hp
  have hkj : k < j := by
    have := (List.getElem?_eq_some_iff.1 hk).1
    rw [List.length_take] at this; omega
  rw [List.getElem?_take, if_pos hkj] at hk
  have := sorted_lt hs hk h hkj; omega
theorem mem_snoc {ps : List Int} {j : Nat} {p x : Int} (h : ps[j]? = some p) : x ∈ ps.take (j + 1) ↔ x ∈ ps.take j ∨ x = p := by
  rw [List.take_add_one, h]; simp
theorem cntJ_set {l : List Cm} {m n : Nat} {ps : List Int} (hs : ps.Pairwise (· < ·)) {j : Nat} {p : Int} (h : ps[j]? = some p) (h0 : 0 ≤ p) :
    (ivec n (cntJ l m (ps.take j))).set p.toNat (cntJ l m (ps.take j) p.toNat + 1) = ivec n (cntJ l m (ps.take (j + 1))) := by
  have hn := sorted_not hs h
  have e : ((p.toNat : Nat) : Int) = p := by omega
  refine ivec_set (fun _ => ?_) fun x _ hx => ?_
  · simp only [cntJ, e, if_neg hn, (mem_snoc h), or_true, if_true]; omega
  · have : ¬(x : Int) = p := by omega
    simp only [cntJ, (mem_snoc h), this, or_false]
theorem cntJ_bnd (l : List Cm) (m : Nat) (ps : List Int) (x : Nat) : 0 ≤ cntJ l m ps x ∧ cntJ l m ps x ≤ m + 1 := by
  have := cnt_bnd l [] m x
  unfold cntJ; split <;> omega
/-- What is left of a commit's children. -/
def leftv (l : List Cm) (out : List Int) (i : Nat) : Int := if (i : Int) ∈ out then -1 else cnt l out l.length i
def leftJ (l : List Cm) (out : List Int) (b : Nat) (ps : List Int) (x : Nat) : Int := if (x : Int) ∈ out ∨ x = b then -1 else cnt l out l.length x - if (x : Int) ∈ ps then 1 else 0
def ready (l : List Cm) (out : List Int) (i : Nat) : Bool := !decide ((i : Int) ∈ out) && (List.range l.length).all fun k => !(decide ((i : Int) ∈ (l.getD k default).par) && !decide ((k : Int) ∈ out))
def readyK (l : List Cm) (out : List Int) (i k : Nat) : Bool := !decide ((i : Int) ∈ out) && (List.range k).all fun k => !(decide ((i : Int) ∈ (l.getD k default).par) && !decide ((k : Int) ∈ out))
theorem readyK_zero (l : List Cm) (out : List Int) (i : Nat) : readyK l out i 0 = !decide ((i : Int) ∈ out) := by simp [readyK]
theorem readyK_succ {l : List Cm} {out : List Int} {i k : Nat} {c : Cm} (hc : l[k]? = some c) : readyK l out i (k + 1) = if (decide ((i : Int) ∈ c.par) && !decide ((k : Int) ∈ out)) = true then false else readyK l out i k := by
  unfold readyK
  rw [List.range_succ, List.all_append]
  simp only [List.all_cons, List.all_nil, Bool.and_true, getD_of hc]
  split
  · rename_i h; rw [h]; simp
  · rename_i h; rw [Bool.not_eq_true] at h; rw [h]; simp
theorem ready_iff {l : List Cm} {out : List Int} {i : Nat} : ready l out i = true ↔ (i : Int) ∉ out ∧ ∀ k, k < l.length → (i : Int) ∈ (l.getD k default).par → (k : Int) ∈ out := by
  unfold ready
  simp only [Bool.and_eq_true, Bool.not_eq_true', decide_eq_false_iff_not, List.all_eq_true, List.mem_range, Bool.and_eq_false_iff, Bool.not_eq_false', decide_eq_true_eq]
  constructor
  · rintro ⟨h1, h2⟩
    exact ⟨h1, fun k hk hp => (h2 k hk).resolve_left fun h => h hp⟩
  · rintro ⟨h1, h2⟩
    exact ⟨h1, fun k hk => Classical.byCases (fun h => .inr (h2 k hk h)) .inl⟩
theorem ready_left (l : List Cm) (out : List Int) (i : Nat) : decide (leftv l out i = 0) = ready l out i := by
  rw [Bool.eq_iff_iff, decide_eq_true_eq, ready_iff]
  unfold leftv
  split
  · rename_i h; exact ⟨fun h2 => absurd h2 (by omega), fun h2 => absurd h h2.1⟩
  · rename_i h; rw [cnt_zero]; exact ⟨fun h2 => ⟨h, h2⟩, fun h2 => h2.2⟩
/-- The best of the first commits. -/
def bestI (rd : Nat → Bool) (l : List Cm) : Nat → Int
  | 0 => -1
  | i + 1 => if (rd i && (decide (bestI rd l i < 0) || decide ((l.getD (bestI rd l i).toNat default).ti ≤ (l.getD i default).ti))) = true then (i : Int) else bestI rd l i
theorem bestI_lt (rd : Nat → Bool) (l : List Cm) (i : Nat) : -1 ≤ bestI rd l i ∧ bestI rd l i < i := by
  induction i with
  | zero => simp [bestI]
  | succ i ih => unfold bestI; split <;> omega
theorem bestI_rd {rd : Nat → Bool} {l : List Cm} {i : Nat} (h : 0 ≤ bestI rd l i) : rd (bestI rd l i).toNat = true := by
  induction i with
  | zero => simp [bestI] at h
  | succ i ih =>
    unfold bestI at h ⊢
    split
    · rename_i h1; simp only [Bool.and_eq_true] at h1; simpa using h1.1
    · rename_i h1; rw [if_neg h1] at h; exact ih h
theorem bestI_pos {rd : Nat → Bool} {l : List Cm} {i j : Nat} (hj : j < i) (h : rd j = true) : 0 ≤ bestI rd l i := by
  induction i with
  | zero => omega
  | succ i ih =>
    unfold bestI
    split
    · omega
    · rename_i h1
      by_cases hji : j = i
      · subst hji
        simp only [h, Bool.true_and, Bool.or_eq_true, decide_eq_true_eq, not_or] at h1
        omega
      · exact ih (by omega)
def orderN (l : List Cm) : Nat → List Int
  | 0 => []
  | m + 1 => orderN l m ++ [bestI (ready l (orderN l m)) l l.length]
theorem all_len : ∀ (n : Nat) (out : List Int), (∀ i : Nat, i < n → (i : Int) ∈ out) → n ≤ out.length := by
  intro n
  induction n with
  | zero => intro out _; exact Nat.zero_le _
  | succ n ih =>
    intro out h
    have hn := h n (by omega)
    have := ih (out.erase (n : Int)) fun i hi => (List.mem_erase_of_ne (by omega)).2 (h i (by omega))
    rw [List.length_erase_of_mem hn] at this
    have := List.length_pos_of_mem hn
    omega
theorem last_out (out : List Int) : ∀ n : Nat, (∃ i : Nat, i < n ∧ (i : Int) ∉ out) → ∃ i : Nat, i < n ∧ (i : Int) ∉ out ∧ ∀ k : Nat, i < k → k < n → (k : Int) ∈ out := by
  intro n
  induction n with
  | zero => rintro ⟨i, h, _⟩; omega
  | succ n ih =>
    rintro ⟨i, h1, h2⟩
    by_cases hn : (n : Int) ∈ out
    · obtain ⟨j, h3, h4, h5⟩ := ih ⟨i, by
        rcases Nat.lt_or_ge i n with h | h
        · exact h
        · have : i = n := by omega
          subst this; exact absurd hn h2, h2⟩
      refine ⟨j, by omega, h4, fun k hk hkn => ?_⟩
      rcases Nat.lt_or_ge k n with h | h
      · exact h5 k hk h
      · have : k = n := by omega
        subst this; exact hn
    · exact ⟨n, by omega, hn, fun k hk hkn => by omega⟩
/-- What an order's beginning is like. -/
structure OrdOk (l : List Cm) (m : Nat) : Prop where
  len : (orderN l m).length = m
  inr : InR l.length (orderN l m)
  nodup : (orderN l m).Nodup
  up : ∀ p : Nat, (p : Int) ∈ orderN l m → ∀ k, k < l.length → (p : Int) ∈ (l.getD k default).par → (k : Int) ∈ orderN l m
theorem OrdOk.best {l : List Cm} (hv : Valid l) {m : Nat} (h : OrdOk l m) (hm : m < l.length) : ∃ b : Nat, b < l.length ∧ bestI (ready l (orderN l m)) l l.length = (b : Int) ∧ ready l (orderN l m) b = true := by
  have hex : ∃ i : Nat, i < l.length ∧ (i : Int) ∉ orderN l m := Classical.byContradiction fun hn => by
    have := all_len l.length (orderN l m) fun i hi => Classical.byContradiction fun h2 => hn ⟨i, hi, h2⟩
    rw [h.len] at this; omega
  obtain ⟨i, h1, h2, h3⟩ := last_out _ _ hex
  have hr : ready l (orderN l m) i = true := ready_iff.2 ⟨h2, fun k hk hp => h3 k (by have := hv.parD hp; omega) hk⟩
  have hp := bestI_pos (l := l) h1 hr
  have hl := bestI_lt (ready l (orderN l m)) l l.length
  exact ⟨(bestI (ready l (orderN l m)) l l.length).toNat, by omega, by omega, bestI_rd hp⟩
theorem ord_all {l : List Cm} (hv : Valid l) : ∀ m, m ≤ l.length → OrdOk l m := by
  intro m
  induction m with
  | zero => intro _; exact ⟨rfl, fun x hx => absurd hx (by simp [orderN]), List.nodup_nil, fun p hp => absurd hp (by simp [orderN])⟩
  | succ m ih =>
    intro hm
    have ih := ih (by omega)
    obtain ⟨b, h1, h2, h3⟩ := ih.best hv (by omega)
    rw [ready_iff] at h3
    have e : orderN l (m + 1) = orderN l m ++ [(b : Int)] := by rw [orderN, h2]
    refine ⟨by rw [e, List.length_append, ih.len]; rfl, fun x hx => ?_, ?_, fun p hp k hk hpk => ?_⟩
    · rw [e, List.mem_append, List.mem_singleton] at hx
      rcases hx with hx | rfl
      · exact ih.inr x hx
      · omega
    · rw [e, List.nodup_append]
      exact ⟨ih.nodup, by simp, fun a ha b' hb' => by rw [List.mem_singleton.1 hb']; rintro rfl; exact h3.1 ha⟩
    · rw [e, List.mem_append, List.mem_singleton] at hp ⊢
      rcases hp with hp | hp
      · exact .inl (ih.up p hp k hk hpk)
      · have : p = b := by omega
        subst this
        exact .inl (h3.2 k hk hpk)
theorem left_start {l : List Cm} {out : List Int} {b n : Nat} (hn : n = l.length) : (ivec n (leftv l out)).set b (-1) = ivec n (leftJ l out b []) := by
  subst hn
  refine ivec_set (fun _ => by simp [leftJ]) fun x _ hx => ?_
  simp [leftJ, leftv, hx]
theorem left_set {l : List Cm} {out : List Int} {b n : Nat} {ps : List Int} (hs : ps.Pairwise (· < ·)) {j : Nat} {p : Int} (h : ps[j]? = some p) (h0 : 0 ≤ p) (ho : p ∉ out) (hb : p ≠ b) :
    (ivec n (leftJ l out b (ps.take j))).set p.toNat (leftJ l out b (ps.take j) p.toNat - 1) = ivec n (leftJ l out b (ps.take (j + 1))) := by
  have hn := sorted_not hs h
  have e : ((p.toNat : Nat) : Int) = p := by omega
  have hb' : ¬p.toNat = b := by omega
  refine ivec_set (fun _ => ?_) fun x _ hx => ?_
  · simp only [leftJ, e, if_neg hn, (mem_snoc h), or_true, if_true, ho, hb', or_self, if_false]; omega
  · have : ¬(x : Int) = p := by omega
    simp only [leftJ, (mem_snoc h), this, or_false]
theorem left_all {l : List Cm} {out : List Int} {b n : Nat} (hb : (b : Int) ∉ out) (hbl : b < l.length) {c : Cm} (hc : l[b]? = some c) : ivec n (leftJ l out b c.par) = ivec n (leftv l (out ++ [(b : Int)])) := by
  refine ivec_ext fun x _ => ?_
  unfold leftJ leftv
  have hm : (x : Int) ∈ out ++ [(b : Int)] ↔ ((x : Int) ∈ out ∨ x = b) := by
    rw [List.mem_append, List.mem_singleton]
    have : ((x : Int) = (b : Int)) ↔ x = b := by omega
    rw [this]
  simp only [hm, cnt_snoc hb, getD_of hc, hbl, true_and]
theorem leftJ_bnd (l : List Cm) (out : List Int) (b : Nat) (ps : List Int) (x : Nat) : -1 ≤ leftJ l out b ps x ∧ leftJ l out b ps x ≤ l.length := by
  have := cnt_bnd l out l.length x
  unfold leftJ; split
  · omega
  · split <;> omega
theorem leftv_nil {l : List Cm} {n : Nat} : ivec n (cnt l [] l.length) = ivec n (leftv l (orderN l 0)) := ivec_ext fun x _ => by simp [leftv, orderN]
def ofG : List AV → Option (Prop × AV)
  | [.d (.sl xs), .d (.sl ns)] => some (xs = rows eC (dC xs) ∧ ns = rows eI (dI ns) ∧ Valid (dC xs) ∧ InR (dC xs).length (dI ns) ∧ (dI ns).length ≤ 1000, .d (.sl (rows eB (vec (dC xs).length (ofB (dC xs) (dI ns))))))
  | _ => none
def childG : List AV → Option (Prop × AV)
  | [.d (.sl xs)] => some (xs = rows eC (dC xs) ∧ Valid (dC xs), .d (.sl (rows eI (ivec (dC xs).length (cnt (dC xs) [] (dC xs).length)))))
  | _ => none
def orderG : List AV → Option (Prop × AV)
  | [.d (.sl xs)] => some (xs = rows eC (dC xs) ∧ (histF (dC xs)).1 = 0 ∧ smallC (dC xs), .tup [.d (.sl (rows eI (orderN (dC xs) (dC xs).length))), .agg [.d (.int .i64 0), .d (.int .i64 0)]])
  | _ => none
def orderOfG : List AV → Option (Prop × AV)
  | [.d (.sl xs)] => some (xs = rows eC (dC xs) ∧ Valid (dC xs), .d (.sl (rows eI (orderN (dC xs) (dC xs).length))))
  | _ => none
end Go.Proofs.YtlbjffdaooadoaaDoor
