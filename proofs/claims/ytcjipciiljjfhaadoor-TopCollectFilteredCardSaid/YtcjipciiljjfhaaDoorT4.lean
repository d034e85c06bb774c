/- Walks, printed by wip/gen/walk.py. -/
import Derived.Test.YtcjipciiljjfhaaDoorT3
import Derived.Test.YtcjipciiljjfhaaDoorV5
set_option linter.all false
set_option maxRecDepth 100000
set_option maxHeartbeats 4000000
namespace Go.Proofs.YtcjipciiljjfhaaDoor
open Go Go.Vc Go.RowKit
/-- The first fault among the first n places. -/
def firstF (f g : Nat → Int) : Nat → Int × Int
  | 0 => (0, 0)
  | n + 1 => if (firstF f g n).1 ≠ 0 then firstF f g n else if f n ≠ 0 then (f n, g n) else (0, 0)
theorem firstF_none {f g : Nat → Int} : ∀ {n : Nat}, (∀ j, j < n → f j = 0) → firstF f g n = (0, 0)
  | 0, _ => rfl
  | n + 1, h => by
    have ih := firstF_none (g := g) (n := n) fun j hj => h j (by omega)
    unfold firstF; rw [ih, h n (by omega)]; rfl
theorem firstF_at {f g : Nat → Int} {i : Nat} (hi : f i ≠ 0) (h : ∀ j, j < i → f j = 0) : ∀ {n : Nat}, i < n → firstF f g n = (f i, g i) := by
  intro n
  induction n with
  | zero => intro h; omega
  | succ n ih =>
    intro hn
    unfold firstF
    rcases Nat.lt_or_ge i n with hlt | hge
    · rw [ih hlt, if_pos hi]
    · obtain rfl : i = n := by omega
      rw [firstF_none h]
      simp [hi]
theorem lt_succF {f : Nat → Int} {i : Nat} (h : ∀ j, j < i → f j = 0) (hi : f i = 0) : ∀ j, j < i + 1 → f j = 0 := fun j hj => by
  rcases Nat.lt_or_ge j i with h' | h'
  · exact h j h'
  · obtain rfl : j = i := by omega
    exact hi
theorem lt_succ2 {Q : Nat → Prop} {i : Nat} (h : ∀ j, j < i → 0 < j → Q j) (hi : 0 < i → Q i) : ∀ j, j < i + 1 → 0 < j → Q j := fun j hj h0 => by
  rcases Nat.lt_or_ge j i with h' | h'
  · exact h j h' h0
  · obtain rfl : j = i := by omega
    exact hi h0

theorem getD_at {α : Type} {l : List α} {i : Nat} {x d : α} (h : l[i]? = some x) : l.getD i d = x := by rw [List.getD_eq_getElem?_getD, h]; rfl

theorem firstF_zero {f : Nat → Int} {g : Nat → Int} : ∀ {n}, (firstF f g n).1 = 0 → ∀ j, j < n → f j = 0
  | 0, _, j, hj => by omega
  | n + 1, h, j, hj => by
    unfold firstF at h
    split at h
    · rename_i h1; exact absurd h h1
    · rename_i h1
      split at h
      · rename_i h2; exact absurd h h2
      · rename_i h2
        by_cases e : j = n
        · subst e; simpa using h2
        · exact firstF_zero (n := n) (by simpa using h1) j (by omega)
theorem sortD {l : List Int} (h : ∀ j, j < l.length → 0 < j → l.getD (j - 1) 0 < l.getD j 0) : l.Pairwise (· < ·) := by
  induction l with
  | nil => simp
  | cons a l ih =>
    have ih := ih (fun j hj h0 => by
      have := h (j + 1) (by simp; omega) (by omega)
      obtain ⟨j, rfl⟩ : ∃ i, j = i + 1 := ⟨j - 1, by omega⟩
      simpa using this)
    refine List.pairwise_cons.2 ⟨fun b hb => ?_, ih⟩
    cases l with
    | nil => cases hb
    | cons c l =>
      have h1 := h 1 (by simp) (by omega)
      simp at h1
      rcases List.mem_cons.1 hb with rfl | hb
      · exact h1
      · have := (List.pairwise_cons.1 ih).1 b hb; omega

/-- An object; one that is stored. -/
structure Obj where
  kd : Int
  ln : List Int
  da : List UInt8
  deriving DecidableEq, Inhabited
structure SO where
  dg : Int
  ob : Obj
  deriving DecidableEq, Inhabited
def lnB (l : List Int) : List UInt8 := l.flatMap wide
def objB (o : Obj) : List UInt8 := UInt8.ofNat (o.kd % 256).toNat :: UInt8.ofNat (o.ln.length % 256) :: (lnB o.ln ++ o.da)
def objD (o : Obj) : Int := dig (objB o)
theorem objD_rng (o : Obj) : 0 ≤ objD o ∧ objD o < 2305843009213693951 := dig_rng _
theorem lnB_len (l : List Int) : (lnB l).length = 8 * l.length := by
  induction l with
  | nil => rfl
  | cons a l ih => unfold lnB at *; rw [List.flatMap_cons, List.length_append, ih]; simp [wide]; omega
theorem lnB_snoc {l : List Int} {i : Nat} {x : Int} (h : l[i]? = some x) : lnB (l.take (i + 1)) = lnB (l.take i) ++ wide x := by
  unfold lnB; rw [List.take_add_one, h, List.flatMap_append]; simp
/-- A link's fault. -/
def lkF (l : List Int) (i : Nat) : Int := if l.getD i 0 < 0 ∨ 2305843009213693951 ≤ l.getD i 0 then 3 else 0
def nI (i : Nat) : Int := i
def objF (o : Obj) : Int × Int :=
  if o.kd < 1 ∨ 3 < o.kd then (4, 0) else if 30 < o.ln.length then (2, 0) else if 1000 < o.da.length then (10, 0) else if o.kd = 1 ∧ 0 < o.ln.length then (5, 0) else firstF (lkF o.ln) nI o.ln.length
structure OkO (o : Obj) : Prop where
  kd : 1 ≤ o.kd ∧ o.kd ≤ 3
  ln : o.ln.length ≤ 30
  da : o.da.length ≤ 1000
  blob : o.kd = 1 → o.ln = []
  rng : ∀ x ∈ o.ln, 0 ≤ x ∧ x < 2305843009213693951
theorem objF_ok {o : Obj} (h : (objF o).1 = 0) : OkO o := by
  unfold objF at h
  split at h
  · cases h
  · rename_i h1
    split at h
    · cases h
    · rename_i h2
      split at h
      · cases h
      · rename_i h3
        split at h
        · cases h
        · rename_i h4
          refine ⟨by omega, by omega, by omega, fun hk => ?_, fun x hx => ?_⟩
          · exact List.eq_nil_of_length_eq_zero (by simp only [hk, true_and] at h4; omega)
          · obtain ⟨i, hi⟩ := List.getElem?_of_mem hx
            have := firstF_zero h i (List.getElem?_eq_some_iff.1 hi).1
            unfold lkF at this
            rw [getD_at hi] at this
            split at this
            · cases this
            · omega
/-- The fault of a stored object. -/
def soF (S : List SO) (i : Nat) : Int :=
  if (objF (S.getD i default).ob).1 ≠ 0 then (objF (S.getD i default).ob).1 else if objD (S.getD i default).ob ≠ (S.getD i default).dg then 18
  else if 0 < i ∧ (S.getD i default).dg ≤ (S.getD (i - 1) default).dg then 5 else 0
def stF (S : List SO) : Int × Int := if 40 < S.length then (2, 0) else firstF (soF S) nI S.length
def dgs (S : List SO) : List Int := S.map (·.dg)
structure ValS (S : List SO) : Prop where
  len : S.length ≤ 40
  ok : ∀ x ∈ S, OkO x.ob
  dg : ∀ x ∈ S, objD x.ob = x.dg
  sort : (dgs S).Pairwise (· < ·)
theorem ValS.rng {S : List SO} (h : ValS S) {x : SO} (hx : x ∈ S) : 0 ≤ x.dg ∧ x.dg < 2305843009213693951 := by rw [← h.dg x hx]; exact objD_rng _
theorem dgs_len (S : List SO) : (dgs S).length = S.length := List.length_map ..
theorem dgs_getD (S : List SO) (j : Nat) : (dgs S).getD j 0 = (S.getD j default).dg := by
  unfold dgs; rw [List.getD_eq_getElem?_getD, List.getD_eq_getElem?_getD, List.getElem?_map]
  cases S[j]? <;> rfl
theorem stF_ok {S : List SO} (h : (stF S).1 = 0) : ValS S := by
  unfold stF at h
  split at h
  · cases h
  · rename_i h1
    have hz := firstF_zero h
    have key : ∀ x ∈ S, (objF x.ob).1 = 0 ∧ objD x.ob = x.dg := fun x hx => by
      obtain ⟨i, hi⟩ := List.getElem?_of_mem hx
      have := hz i (List.getElem?_eq_some_iff.1 hi).1
      unfold soF at this
      rw [getD_at hi] at this
      split at this
      · rename_i h2; exact absurd this h2
      · rename_i h2
        split at this
        · cases this
        · rename_i h3; exact ⟨by simpa using h2, by simpa using h3⟩
    refine ⟨by omega, fun x hx => objF_ok (key x hx).1, fun x hx => (key x hx).2, sortD fun j hj h0 => ?_⟩
    rw [dgs_len] at hj
    have := hz j hj
    unfold soF at this
    split at this
    · rename_i h2; exact absurd this h2
    · split at this
      · cases this
      · split at this
        · cases this
        · rename_i h4
          rw [dgs_getD, dgs_getD]; omega
theorem firstF_ok {f g : Nat → Int} {n : Nat} (h : ∀ j, j < n → f j = 0) : firstF f g n = (0, 0) := by
  induction n with
  | zero => rfl
  | succ n ih => unfold firstF; rw [ih fun j hj => h j (by omega), h n (by omega)]; rfl
theorem objF_of {o : Obj} (h : OkO o) : objF o = (0, 0) := by
  unfold objF
  have h1 := h.kd; have h2 := h.ln; have h3 := h.da
  rw [if_neg (by omega), if_neg (by omega), if_neg (by omega), if_neg (fun hh => by have := h.blob hh.1; rw [this] at hh; simp at hh)]
  refine firstF_ok fun j hj => ?_
  obtain ⟨x, hx⟩ : ∃ x, o.ln[j]? = some x := ⟨_, List.getElem?_eq_getElem hj⟩
  unfold lkF; rw [getD_at hx, if_neg]; have := h.rng x (List.mem_of_getElem? hx); omega
theorem sort_at {l : List Int} (h : l.Pairwise (· < ·)) {i j : Nat} {a b : Int} (hi : l[i]? = some a) (hj : l[j]? = some b) (hij : i < j) : a < b := by
  obtain ⟨h1, e1⟩ := List.getElem?_eq_some_iff.1 hi
  obtain ⟨h2, e2⟩ := List.getElem?_eq_some_iff.1 hj
  rw [← e1, ← e2]; exact List.pairwise_iff_getElem.1 h i j h1 h2 hij
theorem stF_of {S : List SO} (h : ValS S) : stF S = (0, 0) := by
  unfold stF
  rw [if_neg (by have := h.len; omega)]
  refine firstF_ok fun j hj => ?_
  obtain ⟨x, hx⟩ : ∃ x, S[j]? = some x := ⟨_, List.getElem?_eq_getElem hj⟩
  have hm := List.mem_of_getElem? hx
  unfold soF; rw [getD_at hx, objF_of (h.ok x hm), if_neg (by simp), if_neg (by rw [h.dg x hm]; simp), if_neg]
  rintro ⟨h0, h1⟩
  obtain ⟨y, hy⟩ : ∃ y, S[j - 1]? = some y := ⟨_, List.getElem?_eq_getElem (by omega)⟩
  rw [getD_at hy] at h1
  have := sort_at h.sort (i := j - 1) (j := j) (a := y.dg) (b := x.dg) (by unfold dgs; rw [List.getElem?_map, hy]; rfl) (by unfold dgs; rw [List.getElem?_map, hx]; rfl) (by omega)
  omega
theorem stF_or (S : List SO) : (stF S = (0, 0) ∧ ValS S) ∨ (stF S).1 ≠ 0 := by
  by_cases h : (stF S).1 = 0
  · exact .inl ⟨stF_of (stF_ok h), stF_ok h⟩
  · exact .inr h
theorem objF_or2 (o : Obj) : (objF o = (0, 0) ∧ OkO o) ∨ (objF o).1 ≠ 0 := by
  by_cases h : (objF o).1 = 0
  · exact .inl ⟨objF_of (objF_ok h), objF_ok h⟩
  · exact .inr h
/-- How many digests are smaller; is it there. -/
def lbS (S : List SO) (d : Int) : Nat := ((dgs S).filter fun x => decide (x < d)).length
def inS (S : List SO) (d : Int) : Bool := decide (d ∈ dgs S)
theorem lbS_le (S : List SO) (d : Int) : lbS S d ≤ S.length := by unfold lbS; exact Nat.le_trans (List.length_filter_le _ _) (by rw [dgs_len]; exact Nat.le_refl _)
theorem lbS_at {S : List SO} {d : Int} {k : Nat} (h1 : ∀ p ∈ S.take k, p.dg < d) (h2 : ∀ p ∈ S.drop k, ¬ p.dg < d) (hk : k ≤ S.length) : lbS S d = k := by
  unfold lbS dgs
  conv => lhs; rw [← List.take_append_drop k S]
  rw [List.map_append, List.filter_append, List.filter_eq_self.2 (fun x hx => ?_), List.filter_eq_nil_iff.2 (fun x hx => ?_), List.append_nil, List.length_map, List.length_take]
  · omega
  · obtain ⟨p, hp, rfl⟩ := List.mem_map.1 hx; have := h2 p hp; simpa using this
  · obtain ⟨p, hp, rfl⟩ := List.mem_map.1 hx; have := h1 p hp; simpa using this
theorem lbS_split {S : List SO} (hs : (dgs S).Pairwise (· < ·)) (d : Int) : (∀ p ∈ S.take (lbS S d), p.dg < d) ∧ ∀ p ∈ S.drop (lbS S d), ¬ p.dg < d := by
  induction S with
  | nil => simp
  | cons a S ih =>
    obtain ⟨h1, h2⟩ := List.pairwise_cons.1 hs
    have ih := ih h2
    unfold lbS dgs at *
    by_cases ha : a.dg < d
    · rw [List.map_cons, List.filter_cons_of_pos (by simpa using ha)]
      simp only [List.length_cons, List.take_succ_cons, List.drop_succ_cons]
      refine ⟨fun x hx => ?_, ih.2⟩
      rcases List.mem_cons.1 hx with rfl | hx
      · exact ha
      · exact ih.1 x hx
    · have hall : ∀ x ∈ (a :: S).map (·.dg), ¬ x < d := fun x hx => by
        rw [List.map_cons] at hx
        rcases List.mem_cons.1 hx with rfl | hx
        · exact ha
        · have : a.dg < x := h1 x hx
          omega
      rw [List.filter_eq_nil_iff.2 (fun x hx => by simpa using hall x hx)]
      refine ⟨by simp, fun p hp => hall _ (List.mem_map.2 ⟨p, by simpa using hp, rfl⟩)⟩
theorem takeS_lt {S : List SO} {d : Int} {x : SO} {m : Nat} (hs : (dgs S).Pairwise (· < ·)) (hx : S[m]? = some x) (hxd : x.dg < d) : ∀ y ∈ S.take (m + 1), y.dg < d := by
  intro y hy
  obtain ⟨i, hi⟩ := List.getElem?_of_mem hy
  rw [List.getElem?_take] at hi
  split at hi
  · rename_i him
    rcases Nat.lt_or_ge i m with h | h
    · have := sort_at hs (i := i) (j := m) (a := y.dg) (b := x.dg) (by unfold dgs; rw [List.getElem?_map, hi]; rfl) (by unfold dgs; rw [List.getElem?_map, hx]; rfl) h
      omega
    · obtain rfl : i = m := by omega
      rw [hx] at hi; cases hi; exact hxd
  · cases hi
theorem dropS_ge {S : List SO} {d : Int} {x : SO} {m : Nat} (hs : (dgs S).Pairwise (· < ·)) (hx : S[m]? = some x) (hxd : ¬ x.dg < d) : ∀ y ∈ S.drop m, ¬ y.dg < d := by
  intro y hy
  obtain ⟨i, hi⟩ := List.getElem?_of_mem hy
  rw [List.getElem?_drop] at hi
  rcases Nat.eq_zero_or_pos i with rfl | h
  · rw [Nat.add_zero, hx] at hi; cases hi; exact hxd
  · have := sort_at hs (i := m) (j := m + i) (a := x.dg) (b := y.dg) (by unfold dgs; rw [List.getElem?_map, hx]; rfl) (by unfold dgs; rw [List.getElem?_map, hi]; rfl) (by omega)
    omega
theorem inS_at {S : List SO} {d : Int} {x : SO} {k : Nat} (hs : (dgs S).Pairwise (· < ·)) (h1 : ∀ p ∈ S.take k, p.dg < d) (hx : S[k]? = some x) (h2 : ∀ p ∈ S.drop k, ¬ p.dg < d) : inS S d = decide (x.dg = d) := by
  apply decide_eq_decide.2
  constructor
  · intro h
    obtain ⟨p, hp, rfl⟩ := List.mem_map.1 h
    obtain ⟨i, hi⟩ := List.getElem?_of_mem hp
    rcases Nat.lt_or_ge i k with h | h
    · have := h1 p (List.mem_of_getElem? (i := i) (by rw [List.getElem?_take, if_pos h]; exact hi)); omega
    · rcases Nat.eq_or_lt_of_le h with e | h
      · subst e; rw [hx] at hi; cases hi; rfl
      · have := sort_at hs (i := k) (j := i) (a := x.dg) (b := p.dg) (by unfold dgs; rw [List.getElem?_map, hx]; rfl) (by unfold dgs; rw [List.getElem?_map, hi]; rfl) h
        have := h2 x (List.mem_of_getElem? (i := 0) (by rw [List.getElem?_drop, Nat.add_zero]; exact hx)); omega
  · rintro rfl; exact List.mem_map.2 ⟨x, List.mem_of_getElem? hx, rfl⟩
theorem inS_out {S : List SO} {d : Int} {k : Nat} (h1 : ∀ p ∈ S.take k, p.dg < d) (hk : S.length ≤ k) : inS S d = false := by
  apply decide_eq_false
  intro h
  obtain ⟨p, hp, rfl⟩ := List.mem_map.1 h
  have := h1 p (by rw [List.take_of_length_le hk]; exact hp); omega
theorem inS_get {S : List SO} {d : Int} (hs : (dgs S).Pairwise (· < ·)) (h : inS S d = true) : ∃ x, S[lbS S d]? = some x ∧ x.dg = d := by
  obtain ⟨p, hp, rfl⟩ := List.mem_map.1 (of_decide_eq_true h)
  obtain ⟨i, hi⟩ := List.getElem?_of_mem hp
  have hil := (List.getElem?_eq_some_iff.1 hi).1
  refine ⟨p, ?_, rfl⟩
  rw [lbS_at (k := i) (fun q hq => ?_) (dropS_ge hs hi (by omega)) (by omega)]
  · exact hi
  · obtain ⟨j, hj⟩ := List.getElem?_of_mem hq
    rw [List.getElem?_take] at hj
    split at hj
    · exact sort_at hs (i := j) (j := i) (by unfold dgs; rw [List.getElem?_map, hj]; rfl) (by unfold dgs; rw [List.getElem?_map, hi]; rfl) (by omega)
    · cases hj
theorem dg_uni {S : List SO} (hs : (dgs S).Pairwise (· < ·)) {x y : SO} (hx : x ∈ S) (hy : y ∈ S) (h : x.dg = y.dg) : x = y := by
  obtain ⟨i, hi⟩ := List.getElem?_of_mem hx
  obtain ⟨j, hj⟩ := List.getElem?_of_mem hy
  have gi : (dgs S)[i]? = some x.dg := by unfold dgs; rw [List.getElem?_map, hi]; rfl
  have gj : (dgs S)[j]? = some y.dg := by unfold dgs; rw [List.getElem?_map, hj]; rfl
  rcases Nat.lt_trichotomy i j with h' | rfl | h'
  · have := sort_at hs gi gj h'; omega
  · rw [hi] at hj; cases hj; rfl
  · have := sort_at hs gj gi h'; omega
/-- The place of a digest, or -1. -/
def atS (S : List SO) (d : Int) : Int := if inS S d = true then (lbS S d : Nat) else -1
/-- A stored object more. -/
def addS (S : List SO) (x : SO) : List SO := S.take (lbS S x.dg) ++ x :: S.drop (lbS S x.dg)
theorem addS_mem {S : List SO} {x y : SO} : y ∈ addS S x ↔ y = x ∨ y ∈ S := by
  unfold addS
  conv => rhs; rw [← List.take_append_drop (lbS S x.dg) S]
  rw [List.mem_append, List.mem_cons, List.mem_append]
  constructor
  · rintro (h | h | h)
    · exact .inr (.inl h)
    · exact .inl h
    · exact .inr (.inr h)
  · rintro (h | h | h)
    · exact .inr (.inl h)
    · exact .inl h
    · exact .inr (.inr h)
theorem addS_len (S : List SO) (x : SO) : (addS S x).length = S.length + 1 := by
  have := lbS_le S x.dg
  unfold addS; rw [List.length_append, List.length_cons, List.length_take, List.length_drop]; omega
theorem addS_sort {S : List SO} {x : SO} (hs : (dgs S).Pairwise (· < ·)) (hn : inS S x.dg = false) : (dgs (addS S x)).Pairwise (· < ·) := by
  obtain ⟨h1, h2⟩ := lbS_split hs x.dg
  unfold addS dgs
  have hs' := hs
  unfold dgs at hs'
  rw [← List.take_append_drop (lbS S x.dg) S, List.map_append, List.pairwise_append] at hs'
  rw [List.map_append, List.map_cons]
  refine List.pairwise_append.2 ⟨hs'.1, List.pairwise_cons.2 ⟨fun a ha => ?_, hs'.2.1⟩, fun a ha b hb => ?_⟩
  · obtain ⟨q, hq, rfl⟩ := List.mem_map.1 ha
    have g1 := h2 q hq
    have g2 : q.dg ≠ x.dg := fun e => of_decide_eq_false hn (by rw [← e]; exact List.mem_map.2 ⟨q, List.mem_of_mem_drop hq, rfl⟩)
    show x.dg < q.dg
    omega
  · rcases List.mem_cons.1 hb with rfl | hb
    · obtain ⟨q, hq, rfl⟩ := List.mem_map.1 ha; exact h1 q hq
    · exact hs'.2.2 a ha b hb
/-- Sorted stores with the same members are the same. -/
theorem store_ext : ∀ {S T : List SO}, (dgs S).Pairwise (· < ·) → (dgs T).Pairwise (· < ·) → (∀ x, x ∈ S ↔ x ∈ T) → S = T
  | [], [], _, _, _ => rfl
  | [], t :: T, _, _, h => by have := (h t).2 (by simp); cases this
  | s :: S, [], _, _, h => by have := (h s).1 (by simp); cases this
  | s :: S, t :: T, h1, h2, h => by
    obtain ⟨a1, a2⟩ := List.pairwise_cons.1 h1
    obtain ⟨b1, b2⟩ := List.pairwise_cons.1 h2
    have e : s = t := by
      rcases List.mem_cons.1 ((h s).1 (by simp)) with e | e
      · exact e
      · rcases List.mem_cons.1 ((h t).2 (by simp)) with e2 | e2
        · exact e2.symm
        · have g1 : t.dg < s.dg := b1 s.dg (List.mem_map.2 ⟨s, e, rfl⟩)
          have g2 : s.dg < t.dg := a1 t.dg (List.mem_map.2 ⟨t, e2, rfl⟩)
          omega
    subst e
    refine congrArg (s :: ·) (store_ext a2 b2 fun x => ⟨fun hx => ?_, fun hx => ?_⟩)
    · rcases List.mem_cons.1 ((h x).1 (List.mem_cons_of_mem _ hx)) with e | e
      · subst e; have : x.dg < x.dg := a1 x.dg (List.mem_map.2 ⟨x, hx, rfl⟩); omega
      · exact e
    · rcases List.mem_cons.1 ((h x).2 (List.mem_cons_of_mem _ hx)) with e | e
      · subst e; have : x.dg < x.dg := b1 x.dg (List.mem_map.2 ⟨x, hx, rfl⟩); omega
      · exact e
/-- An object put into a valid store. -/
def putF (S : List SO) (o : Obj) : Int × Int :=
  if (stF S).1 ≠ 0 then stF S else if (objF o).1 ≠ 0 then ((objF o).1, -1) else if inS S (objD o) = true then (if ⟨objD o, o⟩ ∈ S then (0, 0) else (19, -1)) else if 40 ≤ S.length then (14, -1) else (0, 0)
def putS (S : List SO) (o : Obj) : List SO := if (putF S o).1 ≠ 0 then [] else if inS S (objD o) = true then S else addS S ⟨objD o, o⟩
def putD (S : List SO) (o : Obj) : Int := if (putF S o).1 ≠ 0 then 0 else objD o
theorem val_add {S : List SO} {o : Obj} (h : ValS S) (ho : OkO o) (hn : inS S (objD o) = false) (hl : S.length < 40) : ValS (addS S ⟨objD o, o⟩) where
  len := by rw [addS_len]; omega
  ok x hx := by
    rcases addS_mem.1 hx with e | hx
    · rw [e]; exact ho
    · exact h.ok x hx
  dg x hx := by
    rcases addS_mem.1 hx with e | hx
    · rw [e]
    · exact h.dg x hx
  sort := addS_sort h.sort (by dsimp only; exact hn)

theorem wrap8e (m : Int) : IntKind.u8.wrap m = m % 256 := by unfold IntKind.wrap; simp [IntKind.signed, IntKind.bits]
theorem wrap8 {n : Int} : IntKind.u8.wrap n = ((UInt8.ofNat (n % 256).toNat).toNat : Int) := by
  rw [wrap8e, UInt8.toNat_ofNat']; omega
theorem big_byte {n : Int} {k : Nat} (hk : k < 8) : IntKind.u8.wrap (n.fdiv (2 ^ min (56 - 8 * (k : Int)).toNat IntKind.i64.bits)) = ((UInt8.ofNat (n / 256 ^ (7 - k) % 256).toNat).toNat : Int) := by
  have e1 : min (56 - 8 * (k : Int)).toNat IntKind.i64.bits = 8 * (7 - k) := by show min _ 64 = _; omega
  have e2 : (2 : Int) ^ (8 * (7 - k)) = 256 ^ (7 - k) := by rw [Int.pow_mul]; rfl
  rw [e1, e2, Int.fdiv_eq_ediv_of_nonneg _ (Int.pow_nonneg (by decide)), wrap8]
theorem wrap8N {n : Nat} : IntKind.u8.wrap (n : Int) = ((UInt8.ofNat (n % 256)).toNat : Int) := by
  rw [wrap8]; congr 2
theorem wide_snoc {n : Int} {k : Nat} (hk : k < 8) : (wide n).take (k + 1) = (wide n).take k ++ [UInt8.ofNat (n / 256 ^ (7 - k) % 256).toNat] := by
  have : (wide n)[k]? = some (UInt8.ofNat (n / 256 ^ (7 - k) % 256).toNat) := by unfold wide; rw [List.getElem?_map, List.getElem?_range hk]; rfl
  rw [List.take_add_one, this]; rfl
/-- What Wide has written. -/
def widK (n : Int) (k : Nat) : List UInt8 := List.replicate (8 - k) 0 ++ (wide n).drop (8 - k)
theorem widK_len {n : Int} {k : Nat} (hk : k ≤ 8) : (widK n k).length = 8 := by unfold widK; rw [List.length_append, List.length_replicate, List.length_drop, wide_len]; omega
theorem widK_set {n : Int} {k : Nat} (hk : k < 8) : (widK n k).set (7 - k) (UInt8.ofNat (n / 256 ^ k % 256).toNat) = widK n (k + 1) := by
  have e : 8 - k = (7 - k) + 1 := by omega
  unfold widK
  rw [e, show 8 - (k + 1) = 7 - k by omega, List.replicate_succ', List.append_assoc, List.set_append_right _ _ (by simp)]
  congr 1
  have h : 7 - k < (wide n).length := by rw [wide_len]; omega
  rw [List.drop_eq_getElem_cons h]
  have : (wide n)[7 - k] = UInt8.ofNat (n / 256 ^ k % 256).toNat := by
    have h2 : (wide n)[7 - k]? = some (UInt8.ofNat (n / 256 ^ (7 - (7 - k)) % 256).toNat) := by unfold wide; rw [List.getElem?_map, List.getElem?_range (by omega)]; rfl
    rw [List.getElem?_eq_getElem h, show 7 - (7 - k) = k by omega] at h2
    exact Option.some.inj h2
  rw [this]; simp
theorem widK_0 (n : Int) : widK n 0 = List.replicate 8 0 := by unfold widK; rw [List.drop_of_length_le (by rw [wide_len]; exact Nat.le_refl _)]; simp
theorem widK_8 (n : Int) : widK n 8 = wide n := by simp [widK]
theorem div_pow {n : Int} (h : 0 ≤ n) (k : Nat) : n / 256 ^ k / 256 = n / 256 ^ (k + 1) := by rw [Int.ediv_ediv_of_nonneg (Int.pow_nonneg (by decide)), Int.pow_succ]
theorem div_rng {n : Int} (h : 0 ≤ n) (h2 : n ≤ 9223372036854775807) (k : Nat) : 0 ≤ n / 256 ^ k ∧ n / 256 ^ k ≤ 9223372036854775807 := by
  have hp : (0 : Int) < 256 ^ k := Int.pow_pos (by decide)
  refine ⟨Int.ediv_nonneg h (Int.le_of_lt hp), Int.le_trans (Int.ediv_le_self _ h) h2⟩
def bigG : List AV → Option (Prop × AV)
  | [.d (.int .i64 n)] => some (0 ≤ n ∧ n ≤ 9223372036854775807, .d (.sl (rows eU (wide n))))
  | _ => none
def obOk (o : Obj) : Prop := o.ln.length ≤ 9223372036854775807 ∧ o.da.length ≤ 9223372036854775807
def objFG : List AV → Option (Prop × AV)
  | [.agg [.d (.int .i64 k), .d (.sl ls), .d (.sl ds)]] => some (ls = rows eI (dI ls) ∧ ds = rows eU (dU ds) ∧ obOk ⟨k, dI ls, dU ds⟩, .agg [.d (.int .i64 (objF ⟨k, dI ls, dU ds⟩).1), .d (.int .i64 (objF ⟨k, dI ls, dU ds⟩).2)])
  | _ => none
def bytesG : List AV → Option (Prop × AV)
  | [.agg [.d (.int .i64 k), .d (.sl ls), .d (.sl ds)]] => some (ls = rows eI (dI ls) ∧ ds = rows eU (dU ds) ∧ OkO ⟨k, dI ls, dU ds⟩, .d (.sl (rows eU (objB ⟨k, dI ls, dU ds⟩))))
  | _ => none
def objDG : List AV → Option (Prop × AV)
  | [.agg [.d (.int .i64 k), .d (.sl ls), .d (.sl ds)]] => some (ls = rows eI (dI ls) ∧ ds = rows eU (dU ds) ∧ OkO ⟨k, dI ls, dU ds⟩, .d (.int .i64 (objD ⟨k, dI ls, dU ds⟩)))
  | _ => none
def objD0 (o : Obj) : Int := if (objF o).1 ≠ 0 then 0 else objD o
def digestG : List AV → Option (Prop × AV)
  | [.agg [.d (.int .i64 k), .d (.sl ls), .d (.sl ds)]] => some (ls = rows eI (dI ls) ∧ ds = rows eU (dU ds) ∧ obOk ⟨k, dI ls, dU ds⟩, .tup [.d (.int .i64 (objD0 ⟨k, dI ls, dU ds⟩)), .agg [.d (.int .i64 (objF ⟨k, dI ls, dU ds⟩).1), .d (.int .i64 (objF ⟨k, dI ls, dU ds⟩).2)]])
  | _ => none
theorem eU_snoc (l : List UInt8) (v : Int) (b : UInt8) (h : v = (b.toNat : Int)) : rows eU l ++ [[.int .u8 v]] = rows eU (l ++ [b]) := by rw [h]; simp [rows, eU]
theorem objB_len (o : Obj) : (objB o).length = 2 + 8 * o.ln.length + o.da.length := by
  unfold objB; rw [List.length_cons, List.length_cons, List.length_append, lnB_len]; omega
/-- The head of an object's bytes. -/
def hdB (o : Obj) (i : Nat) : List UInt8 := UInt8.ofNat (o.kd % 256).toNat :: UInt8.ofNat (o.ln.length % 256) :: lnB (o.ln.take i)
theorem hdB_len {o : Obj} {i : Nat} (h : i ≤ o.ln.length) : (hdB o i).length = 2 + 8 * i := by unfold hdB; rw [List.length_cons, List.length_cons, lnB_len, List.length_take]; omega
theorem hdB_snoc {o : Obj} {i : Nat} {x : Int} (h : o.ln[i]? = some x) : hdB o (i + 1) = hdB o i ++ wide x := by unfold hdB; rw [lnB_snoc h]; rfl
theorem hdB_all (o : Obj) : hdB o o.ln.length ++ o.da = objB o := by unfold hdB objB; rw [List.take_length]; rfl
theorem hdB_0 (o : Obj) : rows eU (hdB o 0) = [[.int .u8 ((UInt8.ofNat (o.kd % 256).toNat).toNat : Int)], [.int .u8 ((UInt8.ofNat (o.ln.length % 256)).toNat : Int)]] := rfl

theorem big_meets : Meets Tryd.prog 33 (Spec.pure bigG) := by
 refine meets_fun (E_digOf.at_ 17) Tryd.func33 rfl rfl rfl ?_
 intro args p r hg hp
 unfold bigG at hg
 split at hg
 ·rename_i n
  simp only [Option.some.injEq, Prod.mk.injEq] at hg
  obtain ⟨rfl, rfl⟩ := hg
  obtain ⟨p0, p1⟩ := hp
  have hT : (E_digOf).X = T := rfl
  have hx0 := @Tryd.results33
  have hx := hx0
  refine ⟨by rfl, ?_⟩
  intro F W0 hnp hmk
  refine vc_seq_k fun N1 h1 => ?_
  refine u_reg ?_
  try refine lg_mk ?_
  refine u_mv (hq := by (first | (omega) | exact sd_)) ?_
  refine lg_nil ?_
  refine h1 _ ?_; clear h1; try clear N1
  refine vc_seq_k fun N2 h2 => ?_
  refine u_reg ?_
  try refine lg_mk ?_
  refine u_mv (hq := by (first | (omega) | exact sd_)) ?_
  refine lg_nil ?_
  refine h2 _ ?_; clear h2; try clear N2
  refine vc_seq_k fun N3 h3 => ?_
  refine vc_seq_k fun N4 h4 => ?_
  refine u_reg ?_
  try refine lg_mk ?_
  refine u_mv (hq := by (first | (omega) | exact sd_)) ?_
  refine lg_nil ?_
  refine h4 _ ?_; clear h4; try clear N4
  refine vc_block ?_
  refine vc_loop_mk (σ := Nat) (fun s => (fun k => k ≤ 8) s)
   (fun s => (fun k => [(0, .d (.int .i64 n)), (3, .sl 0 0 k), (4, .d (.int .i64 (56 - 8 * (k : Int))))]) s)
   (fun s => (fun k => [some (.vec 5 1 (rows eU ((wide n).take k)))]) s) (fun s => (fun k => 8 - k) s) hnp 0 ?_ [none] ?_ ?_
  ·dsimp only
   omega
  ·dsimp only
   refine ⟨by rfl, ?_, ?_⟩
   ·refine fin_ ?_
    exact cl_
   ·refine fin_ ?_
    exact cl_
  ·rintro k hinv N5 h5
   dsimp only at hinv ⊢
   have i1 := hinv
   have hwl : ((wide n).take k).length = k := by rw [List.length_take, wide_len]; omega
   refine vc_seq_k fun N6 h6 => ?_
   refine vc_seq_k fun N7 h7 => ?_
   refine u_reg ?_
   try refine lg_mk ?_
   refine u_mv (hq := by (first | (omega) | exact sd_)) ?_
   refine u_bn (hq := by (first | (omega) | exact sd_)) ?_
   refine lg_nil ?_
   refine h7 _ ?_; clear h7; try clear N7
   refine u_cond (fun hb8 => ?_) (fun hb8 => ?_)
   ·have hk : k < 8 := by have := hb8; omega
    have hsn := wide_snoc (n := n) hk
    have hby := big_byte (n := n) hk
    refine vc_skip ?_
    try simp only [k_rules]
    refine h6 _ ?_; clear h6; try clear N6
    refine vc_seq_k fun N9 h9 => ?_
    refine vc_block ?_
    refine u_reg ?_
    try refine lg_mk ?_
    refine u_mv (hq := by (first | (omega) | exact sd_)) ?_
    refine u_mv (hq := by (first | (omega) | exact sd_)) ?_
    refine u_mv (hq := by (first | (omega) | exact sd_)) ?_
    refine u_bn (hq := by (first | (omega) | exact sd_)) ?_
    refine u_cv (hq := by (first | (omega) | exact sd_)) ?_
    refine u_bs (hq := by (first | (omega) | exact sd_)) ?_
    refine u_ap (hq := by (first | (omega) | exact sd_)) ?_
    refine u_mv (hq := by (first | (omega) | exact sd_)) ?_
    refine lg_nil ?_
    refine h9 _ ?_; clear h9; try clear N9
    refine u_reg ?_
    try refine lg_mk ?_
    refine u_mv (hq := by (first | (omega) | exact sd_)) ?_
    refine u_bn (hq := by (first | (omega) | exact sd_)) ?_
    refine u_mv (hq := by (first | (omega) | exact sd_)) ?_
    refine lg_nil ?_
    refine h5 _ ⟨k + 1, ?_, ?_, [some 2], ?_⟩
    ·dsimp only
     omega
    ·dsimp only
     omega
    ·dsimp only
     refine ⟨by rfl, ?_, ?_⟩
     ·refine fin_ ?_
      (repeat' apply And.intro) <;> (first | (first | rfl | trivial | omega | (rw [hsn, ← eU_snoc _ _ _ hby, List.take_of_length_le (by simp [rows, hwl])]; done) | (rw [hwl]; done)) | exact cl_)
     ·refine fin_ ?_
      (repeat' apply And.intro) <;> (first | (first | rfl | trivial | omega | (rw [hsn, ← eU_snoc _ _ _ hby, List.take_of_length_le (by simp [rows, hwl])]; done) | (rw [hwl]; done)) | exact cl_)
   ·refine vc_exit ?_
    simp only [k_rules, Nat.reduceEqDiff, reduceIte, eq_self]
    refine h3 _ ?_; clear h3; try clear N3
    refine vc_seq_k fun N10 h10 => ?_
    refine u_reg ?_
    try refine lg_mk ?_
    refine u_mv (hq := by (first | (omega) | exact sd_)) ?_
    refine u_mv (hq := by (first | (omega) | exact sd_)) ?_
    refine lg_nil ?_
    refine h10 _ ?_; clear h10; try clear N10
    refine vc_ret ?_
    try simp only [k_rules]
    obtain rfl : k = 8 := by omega
    have hw8 : (wide n).take 8 = wide n := List.take_of_length_le (by rw [wide_len]; exact Nat.le_refl _)
    refine fin2_ ?_
    (repeat' apply And.intro) <;> (first | (first | rfl | trivial | omega | (left; rw [hw8]; done) | (rw [hw8]; done) | (simp [hw8]; done)) | exact cl_)
 ·cases hg

def E_big : Env Tryd.prog := E_digOf.add 33 (Spec.pure bigG) big_meets (by kernel_rfl)
end Go.Proofs.YtcjipciiljjfhaaDoor
