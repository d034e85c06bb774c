/- Walks, printed by wip/gen/walk.py. -/
import Derived.Test.YtlbjffdaooadoaaDoorT31
import Derived.Test.YtlbjffdaooadoaaDoorV5
set_option linter.all false
set_option maxRecDepth 100000
set_option maxHeartbeats 4000000
namespace Go.Proofs.YtlbjffdaooadoaaDoor
open Go Go.Vc Go.RowKit
def rtV (l : List Cm) (q : List Nd) : List Bool := (setsQ l q q.length).getD (q.length - 1) []
theorem rtV_len {l : List Cm} {q : List Nd} (h : valQ q = (0, 0)) : (rtV l q).length = l.length := by
  obtain ⟨hok, _⟩ := ok_of_val h
  have h1 := hok.1
  unfold rtV
  refine setsQ_all hok (Nat.le_refl _) _ (mem_at (i := q.length - 1) ?_)
  rw [List.getD_eq_getElem?_getD, List.getElem?_eq_getElem (by rw [setsQ_len]; omega)]; rfl
theorem ev_val {l : List Cm} {q : List Nd} (hl : histF l = (0, 0)) (h : valQ q = (0, 0)) : evV l q = (0, 0, rtV l q) := by
  unfold evV rtV; rw [if_neg (by rw [hl]; simp), if_neg (by rw [h]; simp)]
theorem not_at {l : List Cm} {b : List Bool} {i : Nat} (h : i < l.length) : (oneV l 7 b).getD i false = !b.getD i false := by
  unfold oneV
  rw [if_pos rfl]
  unfold minK
  rw [vec_len, List.getD_eq_getElem?_getD, List.getElem?_map, List.getElem?_range h]
  simp [h, List.getD_eq_getElem?_getD, vec_get h]
theorem bools_ext {x y : List Bool} {n : Nat} (hx : x.length = n) (hy : y.length = n) (h : ∀ i, i < n → x.getD i false = y.getD i false) : x = y := by
  apply List.ext_getElem?
  intro i
  by_cases hi : i < n
  · have := h i hi
    rw [List.getD_eq_getElem?_getD, List.getD_eq_getElem?_getD, List.getElem?_eq_getElem (by omega), List.getElem?_eq_getElem (by omega)] at this
    rw [List.getElem?_eq_getElem (by omega), List.getElem?_eq_getElem (by omega)]
    exact congrArg some this
  · rw [List.getElem?_eq_none (by omega), List.getElem?_eq_none (by omega)]

def Bt (b : List Bool) (k : Nat) : Prop := b.getD k false = true
theorem Bt.lt {b : List Bool} {k : Nat} (h : Bt b k) : k < b.length := by
  unfold Bt at h
  rcases Nat.lt_or_ge k b.length with hk | hk
  · exact hk
  · rw [List.getD_eq_getElem?_getD, List.getElem?_eq_none hk] at h; cases h
theorem bt_vec {n i : Nat} {f : Nat → Bool} (h : i < n) : Bt (vec n f) i ↔ f i = true := by
  unfold Bt; rw [List.getD_eq_getElem?_getD, vec_get h]; rfl
theorem mem_selK {s : List Bool} {x : Int} : x ∈ selK s s.length ↔ ∃ j : Nat, Bt s j ∧ x = (j : Int) := by
  unfold selK
  constructor
  · intro h
    obtain ⟨j, hj, rfl⟩ := List.mem_map.1 h
    exact ⟨j, (List.mem_filter.1 hj).2, rfl⟩
  · rintro ⟨j, hj, rfl⟩
    exact List.mem_map.2 ⟨j, List.mem_filter.2 ⟨List.mem_range.2 hj.lt, hj⟩, rfl⟩
theorem ofV_iff {l : List Cm} (hv : Valid l) {b : List Bool} {i : Nat} (hi : i < l.length) : Bt (ofV l b) i ↔ ∃ k, Bt b k ∧ Anc l k i := by
  unfold ofV
  rw [bt_vec hi, of_iff hv]
  constructor
  · rintro ⟨n, hn, ha⟩
    obtain ⟨j, hj, rfl⟩ := mem_selK.1 hn
    exact ⟨j, hj, by simpa using ha⟩
  · rintro ⟨k, hk, ha⟩
    exact ⟨(k : Int), mem_selK.2 ⟨k, hk, rfl⟩, by simpa using ha⟩
theorem desK_new (l : List Cm) (f : Nat → Bool) : ∀ {j k : Nat}, j ≤ k → desK l f j k = f k
  | 0, _, _ => rfl
  | j + 1, k, h => by
    show setB _ j _ k = f k
    rw [setB_of _ _ (by omega), desK_new l f (by omega)]
theorem desK_old (l : List Cm) (f : Nat → Bool) {k : Nat} : ∀ {j : Nat}, k < j → desK l f j k = desK l f (k + 1) k
  | j + 1, h => by
    by_cases hj : k = j
    · subst hj; rfl
    · show setB _ j _ k = _
      rw [setB_of _ _ hj, desK_old l f (by omega)]
theorem desK_at (l : List Cm) (f : Nat → Bool) (i : Nat) : desK l f (i + 1) i = (f i || (l.getD i default).par.any fun p => desK l f i p.toNat) := by
  show setB _ i _ i = _
  rw [setB_at]
  unfold desJ
  rw [List.take_length, desK_new l f (Nat.le_refl _)]
theorem desK_iff {l : List Cm} (hv : Valid l) (f : Nat → Bool) : ∀ (i : Nat), desK l f (i + 1) i = true ↔ ∃ k, f k = true ∧ Anc l i k := by
  intro i
  induction i using Nat.strongRecOn with
  | ind i ih =>
    rw [desK_at, Bool.or_eq_true, List.any_eq_true]
    constructor
    · rintro (h | ⟨p, hp, h⟩)
      · exact ⟨i, h, .refl i⟩
      · have := hv.parD hp
        rw [desK_old l f (by omega)] at h
        obtain ⟨k, hk, ha⟩ := (ih p.toNat (by omega)).1 h
        exact ⟨k, hk, .step (j := p.toNat) (by rw [show ((p.toNat : Nat) : Int) = p by omega]; exact hp) ha⟩
    · rintro ⟨k, hk, ha⟩
      rcases ha.cases' with rfl | ⟨j, hj, ha⟩
      · exact .inl hk
      · have := hv.parD hj
        refine .inr ⟨(j : Int), hj, ?_⟩
        rw [Int.toNat_natCast, desK_old l f (by omega)]
        exact (ih j (by omega)).2 ⟨k, hk, ha⟩
theorem fnB_iff {b : List Bool} {k : Nat} : fnB b k = true ↔ Bt b k := Iff.rfl
theorem desV_iff {l : List Cm} (hv : Valid l) {b : List Bool} {i : Nat} (hi : i < l.length) : Bt (desV l b) i ↔ ∃ k, Bt b k ∧ Anc l i k := by
  unfold desV
  rw [bt_vec hi, desK_old l _ hi, desK_iff hv]
  rfl
theorem relJ_t (f : Nat → Bool) (i : Nat) (ps : List Int) (g : Nat → Bool) : ∀ {j : Nat}, j ≤ ps.length → relJ f true i ps g j = setB g i (g i || (ps.take j).any fun p => f p.toNat)
  | 0, _ => by
    funext x
    show g x = setB g i _ x
    unfold setB
    split
    · rename_i e; subst e; simp
    · rfl
  | j + 1, h => by
    obtain ⟨p, hp⟩ := getE (l := ps) (i := j) (by omega)
    show relS f true i (relJ f true i ps g j) (ps.getD j 0) = _
    rw [relJ_t f i ps g (by omega), getD_at hp]
    unfold relS
    rw [if_pos rfl, setB_set, setB_at, any_snoc hp, Bool.or_assoc]
theorem relJ_f (f : Nat → Bool) (i : Nat) (ps : List Int) (g : Nat → Bool) (x : Nat) : ∀ {j : Nat}, j ≤ ps.length → relJ f false i ps g j x = (g x || (f i && (ps.take j).any fun p => decide (p.toNat = x)))
  | 0, _ => by show g x = _; simp
  | j + 1, h => by
    obtain ⟨p, hp⟩ := getE (l := ps) (i := j) (by omega)
    have ih := relJ_f f i ps g x (j := j) (by omega)
    show relS f false i (relJ f false i ps g j) (ps.getD j 0) x = _
    rw [getD_at hp, any_snoc hp]
    unfold relS
    rw [if_neg (by simp)]
    unfold setB
    by_cases hx : x = p.toNat
    · subst hx
      rw [if_pos rfl, ih]
      simp
      cases g p.toNat <;> cases f i <;> simp
    · rw [if_neg hx, ih]
      have : decide (p.toNat = x) = false := decide_eq_false (fun h => hx h.symm)
      rw [this, Bool.or_false]
theorem relK_t (l : List Cm) (f : Nat → Bool) : ∀ {n x : Nat}, relK l f true n x = (decide (x < n) && (l.getD x default).par.any fun p => f p.toNat)
  | 0, x => by simp [relK]
  | n + 1, x => by
    have ih := fun x => relK_t l f (n := n) (x := x)
    show relJ f true n (l.getD n default).par (relK l f true n) (l.getD n default).par.length x = _
    rw [relJ_t _ _ _ _ (Nat.le_refl _), List.take_length]
    by_cases hx : x = n
    · subst hx; rw [setB_at, ih]; simp
    · rw [setB_of _ _ hx, ih]
      have : decide (x < n) = decide (x < n + 1) := by rw [decide_eq_decide]; omega
      rw [this]
theorem relK_f (l : List Cm) (f : Nat → Bool) {x : Nat} : ∀ {n : Nat}, relK l f false n x = true ↔ ∃ i, i < n ∧ f i = true ∧ ∃ p ∈ (l.getD i default).par, p.toNat = x
  | 0 => by simp [relK]
  | n + 1 => by
    have ih := relK_f l f (x := x) (n := n)
    show relJ f false n (l.getD n default).par (relK l f false n) (l.getD n default).par.length x = true ↔ _
    rw [relJ_f _ _ _ _ _ (Nat.le_refl _), List.take_length, Bool.or_eq_true, ih, Bool.and_eq_true, List.any_eq_true]
    constructor
    · rintro (⟨i, h1, h2, h3⟩ | ⟨h1, p, hp, h2⟩)
      · exact ⟨i, by omega, h2, h3⟩
      · exact ⟨n, by omega, h1, p, hp, by simpa using h2⟩
    · rintro ⟨i, h1, h2, p, hp, h3⟩
      by_cases hi : i = n
      · subst hi; exact .inr ⟨h2, p, hp, by simpa using h3⟩
      · exact .inl ⟨i, by omega, h2, p, hp, h3⟩
theorem par_cast {l : List Cm} (hv : Valid l) {i x : Nat} : (∃ p ∈ (l.getD i default).par, p.toNat = x) ↔ (x : Int) ∈ (l.getD i default).par := by
  constructor
  · rintro ⟨p, hp, rfl⟩
    have := hv.parD hp
    rw [show ((p.toNat : Nat) : Int) = p by omega]; exact hp
  · intro h; exact ⟨_, h, Int.toNat_natCast x⟩
theorem relV_f {l : List Cm} (hv : Valid l) {b : List Bool} {i : Nat} (hi : i < l.length) : Bt (relV l b false) i ↔ ∃ k, Bt b k ∧ (i : Int) ∈ (l.getD k default).par := by
  unfold relV
  rw [bt_vec hi, relK_f]
  constructor
  · rintro ⟨k, h1, h2, h3⟩; exact ⟨k, h2, (par_cast hv).1 h3⟩
  · rintro ⟨k, h1, h2⟩
    have := hv.parD h2
    exact ⟨k, by omega, h1, (par_cast hv).2 h2⟩
theorem relV_t {l : List Cm} (hv : Valid l) {b : List Bool} {i : Nat} (hi : i < l.length) : Bt (relV l b true) i ↔ ∃ k : Nat, Bt b k ∧ (k : Int) ∈ (l.getD i default).par := by
  unfold relV
  rw [bt_vec hi, relK_t, decide_eq_true hi, Bool.true_and, List.any_eq_true]
  constructor
  · rintro ⟨p, hp, h⟩
    have := hv.parD hp
    exact ⟨p.toNat, h, by rw [show ((p.toNat : Nat) : Int) = p by omega]; exact hp⟩
  · rintro ⟨k, h1, h2⟩; exact ⟨_, h2, by rw [Int.toNat_natCast]; exact h1⟩
theorem min_iff {a b : List Bool} {i n : Nat} (ha : a.length = n) (hi : i < n) : Bt (minK a b n) i ↔ Bt a i ∧ ¬Bt b i := by
  subst ha
  unfold minK Bt
  rw [List.getD_eq_getElem?_getD, List.getElem?_map, List.getElem?_range hi]
  simp [hi]
theorem heads_iff {l : List Cm} (hv : Valid l) {b : List Bool} (hb : b.length = l.length) {i : Nat} (hi : i < l.length) : Bt (oneV l 12 b) i ↔ Bt b i ∧ ¬∃ k m : Nat, Bt b k ∧ (m : Int) ∈ (l.getD k default).par ∧ Anc l m i := by
  have e : oneV l 12 b = minK b (ofV l (relV l b false)) l.length := by unfold oneV; simp
  rw [e, min_iff hb hi, ofV_iff hv hi]
  refine and_congr Iff.rfl (not_congr ⟨?_, ?_⟩)
  · rintro ⟨m, h1, h2⟩
    have hm : m < l.length := by have := h1.lt; rwa [relV_len] at this
    obtain ⟨k, g1, g2⟩ := (relV_f hv hm).1 h1
    exact ⟨k, m, g1, g2, h2⟩
  · rintro ⟨k, m, g1, g2, h2⟩
    have := hv.parD g2
    exact ⟨m, (relV_f hv (by omega)).2 ⟨k, g1, g2⟩, h2⟩
theorem roots_iff {l : List Cm} (hv : Valid l) {b : List Bool} (hb : b.length = l.length) {i : Nat} (hi : i < l.length) : Bt (oneV l 13 b) i ↔ Bt b i ∧ ¬∃ k m : Nat, Bt b k ∧ (k : Int) ∈ (l.getD m default).par ∧ Anc l i m := by
  have e : oneV l 13 b = minK b (desV l (relV l b true)) l.length := by unfold oneV; simp
  rw [e, min_iff hb hi, desV_iff hv hi]
  refine and_congr Iff.rfl (not_congr ⟨?_, ?_⟩)
  · rintro ⟨m, h1, h2⟩
    have hm : m < l.length := by have := h1.lt; rwa [relV_len] at this
    obtain ⟨k, g1, g2⟩ := (relV_t hv hm).1 h1
    exact ⟨k, m, g1, g2, h2⟩
  · rintro ⟨k, m, g1, g2, h2⟩
    have := hv.parD g2
    exact ⟨m, (relV_t hv (by omega)).2 ⟨k, g1, g2⟩, h2⟩
theorem bt_ext {x y : List Bool} {n : Nat} (hx : x.length = n) (hy : y.length = n) (h : ∀ i, i < n → (Bt x i ↔ Bt y i)) : x = y :=
  bools_ext hx hy fun i hi => by
    have := h i hi
    unfold Bt at this
    exact Bool.eq_iff_iff.2 this
theorem one8 (l : List Cm) (b : List Bool) : oneV l 8 b = ofV l b := by unfold oneV; simp
theorem one9 (l : List Cm) (b : List Bool) : oneV l 9 b = desV l b := by unfold oneV; simp

def selG2 : List AV → Option (Prop × AV)
  | [.d (.sl xs), .d _, .agg [.d (.sl ys)], .d (.int .i64 i), .d (.int .i64 n)] => some (xs = rows eC (dC xs) ∧ smallC (dC xs) ∧ ys = rows eN (dN ys) ∧ 0 ≤ i ∧ i.toNat < (dN ys).length ∧ 0 ≤ n ∧ n.toNat < (dC xs).length, .d (.bool (leafV ((dN ys).getD i.toNat default) ((dC xs).getD n.toNat default) n)))
  | _ => none
def rbase (kd : Int) (a b : Bool) : Bool := if kd = 7 then !a else if kd = 14 then a || b else if kd = 15 then a && b else if kd = 16 then a && !b else if kd = 12 ∨ kd = 13 then a else false
def rstep (l : List Cm) (kd : Int) (k n : Nat) (r : Bool) : Bool :=
  if kd = 8 then r || ancB l k n else if kd = 9 then r || ancB l n k else if kd = 10 then r || decide ((n : Int) ∈ (l.getD k default).par) else if kd = 11 then r || decide ((k : Int) ∈ (l.getD n default).par)
  else if kd = 12 then r && (decide (k = n) || !ancB l k n) else if kd = 13 then r && (decide (k = n) || !ancB l n k) else r
def rfold (l : List Cm) (kd : Int) (a : List Bool) (n : Nat) (r : Bool) : Nat → Bool
  | 0 => r
  | j + 1 => if a.getD j false then rstep l kd j n (rfold l kd a n r j) else rfold l kd a n r j
def refN (l : List Cm) (S : List (List Bool)) (x : Nd) (n : Nat) : Bool :=
  if ar x.kd = 0 then leafV x (l.getD n default) n
  else rfold l x.kd (S.getD x.lf.toNat []) n (rbase x.kd ((S.getD x.lf.toNat []).getD n false) ((S.getD x.rt.toNat []).getD n false)) l.length
def refF (l : List Cm) (S : List (List Bool)) (x : Nd) (n m : Nat) : Bool := decide (m < n) && refN l S x m
theorem refF_zero (l : List Cm) (S : List (List Bool)) (x : Nd) : vec l.length (refF l S x 0) = List.replicate l.length false := by
  rw [← vec_no]; exact vec_ext fun k _ => by simp [refF]
theorem refF_next (l : List Cm) (S : List (List Bool)) (x : Nd) (n : Nat) : vec l.length (setB (refF l S x n) n (refN l S x n)) = vec l.length (refF l S x (n + 1)) := by
  refine vec_ext fun k _ => ?_
  unfold setB refF
  split
  · rename_i e; subst e; simp
  · have : decide (k < n) = decide (k < n + 1) := by rw [decide_eq_decide]; omega
    rw [this]
theorem refF_self (l : List Cm) (S : List (List Bool)) (x : Nd) (n : Nat) : vec l.length (setB (refF l S x n) n false) = vec l.length (refF l S x n) := by
  refine vec_ext fun k _ => ?_
  unfold setB refF
  split
  · rename_i e; subst e; simp
  · rfl
theorem rfold_or {l : List Cm} {kd : Int} {a : List Bool} {n : Nat} {r : Bool} {P : Nat → Bool} (h : ∀ j r, rstep l kd j n r = (r || P j)) : ∀ j, rfold l kd a n r j = true ↔ r = true ∨ ∃ k, k < j ∧ a.getD k false = true ∧ P k = true
  | 0 => by simp [rfold]
  | j + 1 => by
    have ih := rfold_or h j (a := a) (r := r)
    show (if a.getD j false = true then rstep l kd j n (rfold l kd a n r j) else rfold l kd a n r j) = true ↔ _
    split
    · rename_i ha
      rw [h, Bool.or_eq_true, ih]
      constructor
      · rintro ((h1 | ⟨k, h1, h2⟩) | h1)
        · exact .inl h1
        · exact .inr ⟨k, by omega, h2⟩
        · exact .inr ⟨j, by omega, ha, h1⟩
      · rintro (h1 | ⟨k, h1, h2, h3⟩)
        · exact .inl (.inl h1)
        · by_cases e : k = j
          · subst e; exact .inr h3
          · exact .inl (.inr ⟨k, by omega, h2, h3⟩)
    · rename_i ha
      rw [ih]
      constructor
      · rintro (h1 | ⟨k, h1, h2⟩)
        · exact .inl h1
        · exact .inr ⟨k, by omega, h2⟩
      · rintro (h1 | ⟨k, h1, h2, h3⟩)
        · exact .inl h1
        · by_cases e : k = j
          · subst e; exact absurd h2 ha
          · exact .inr ⟨k, by omega, h2, h3⟩
theorem rfold_and {l : List Cm} {kd : Int} {a : List Bool} {n : Nat} {r : Bool} {P : Nat → Bool} (h : ∀ j r, rstep l kd j n r = (r && P j)) : ∀ j, rfold l kd a n r j = true ↔ r = true ∧ ∀ k, k < j → a.getD k false = true → P k = true
  | 0 => by simp [rfold]
  | j + 1 => by
    have ih := rfold_and h j (a := a) (r := r)
    show (if a.getD j false = true then rstep l kd j n (rfold l kd a n r j) else rfold l kd a n r j) = true ↔ _
    split
    · rename_i ha
      rw [h, Bool.and_eq_true, ih]
      constructor
      · rintro ⟨⟨h1, h2⟩, h3⟩
        refine ⟨h1, fun k hk hak => ?_⟩
        by_cases e : k = j
        · subst e; exact h3
        · exact h2 k (by omega) hak
      · rintro ⟨h1, h2⟩
        exact ⟨⟨h1, fun k hk => h2 k (by omega)⟩, h2 j (by omega) ha⟩
    · rename_i ha
      rw [ih]
      constructor
      · rintro ⟨h1, h2⟩
        refine ⟨h1, fun k hk hak => ?_⟩
        by_cases e : k = j
        · subst e; exact absurd hak ha
        · exact h2 k (by omega) hak
      · rintro ⟨h1, h2⟩
        exact ⟨h1, fun k hk => h2 k (by omega)⟩
theorem rfold_id {l : List Cm} {kd : Int} {a : List Bool} {n : Nat} {r : Bool} (h : ∀ j r, rstep l kd j n r = r) : ∀ j, rfold l kd a n r j = r
  | 0 => rfl
  | j + 1 => by
    show (if a.getD j false = true then rstep l kd j n (rfold l kd a n r j) else rfold l kd a n r j) = r
    rw [h, rfold_id h j, ite_self]
/-- The reference's row of a node is the program's. -/
theorem refN_is {l : List Cm} (hv : Valid l) {S : List (List Bool)} {x : Nd} (hk : 1 ≤ x.kd ∧ x.kd ≤ 16) (hS : ar x.kd = 1 → (S.getD x.lf.toNat []).length = l.length) : vec l.length (refF l S x l.length) = nodeV l S x := by
  have e0 : vec l.length (refF l S x l.length) = vec l.length (refN l S x) := vec_ext fun k h => by simp [refF, h]
  rw [e0]
  rcases ar_or x.kd with ⟨h, ha⟩ | ⟨h, h', ha⟩ | ⟨h, ha⟩
  · rw [nodeV_0 l S ha]
    unfold leafK
    exact vec_ext fun k hk => by simp only [refN, if_pos ha, leafF, decide_eq_true hk, Bool.true_and]
  · have hS := hS ha
    unfold nodeV
    rw [if_neg (by omega), if_pos ha]
    generalize hs : S.getD x.lf.toNat [] = s at *
    have hone := oneV_len l x.kd hS
    refine bt_ext (vec_len ..) hone fun i hi => ?_
    have e : refN l S x i = rfold l x.kd s i (rbase x.kd (s.getD i false) ((S.getD x.rt.toNat []).getD i false)) l.length := by unfold refN; rw [if_neg (by omega), hs]
    rw [bt_vec hi, e]
    clear e e0 hone
    have hlt : ∀ {k}, Bt s k → k < l.length := fun h => by rw [← hS]; exact h.lt
    rcases (by omega : x.kd = 7 ∨ x.kd = 8 ∨ x.kd = 9 ∨ x.kd = 10 ∨ x.kd = 11 ∨ x.kd = 12 ∨ x.kd = 13) with g | g | g | g | g | g | g <;> rw [g]
    · rw [rfold_id (fun j r => by simp [rstep])]
      unfold Bt
      rw [not_at hi]; simp [rbase]
    · rw [one8, ofV_iff hv hi, rfold_or (P := fun k => ancB l k i) (fun j r => by simp [rstep])]
      simp only [rbase]
      constructor
      · rintro (h1 | ⟨k, h1, h2, h3⟩)
        · simp at h1
        · exact ⟨k, h2, (anc_iff hv).1 h3⟩
      · rintro ⟨k, h2, h3⟩; exact .inr ⟨k, hlt h2, h2, (anc_iff hv).2 h3⟩
    · rw [one9, desV_iff hv hi, rfold_or (P := fun k => ancB l i k) (fun j r => by simp [rstep])]
      simp only [rbase]
      constructor
      · rintro (h1 | ⟨k, h1, h2, h3⟩)
        · simp at h1
        · exact ⟨k, h2, (anc_iff hv).1 h3⟩
      · rintro ⟨k, h2, h3⟩; exact .inr ⟨k, hlt h2, h2, (anc_iff hv).2 h3⟩
    · have e : oneV l 10 s = relV l s false := by unfold oneV; simp
      rw [e, relV_f hv hi, rfold_or (P := fun k => decide ((i : Int) ∈ (l.getD k default).par)) (fun j r => by simp [rstep])]
      simp only [rbase]
      constructor
      · rintro (h1 | ⟨k, h1, h2, h3⟩)
        · simp at h1
        · exact ⟨k, h2, of_decide_eq_true h3⟩
      · rintro ⟨k, h2, h3⟩; exact .inr ⟨k, hlt h2, h2, decide_eq_true h3⟩
    · have e : oneV l 11 s = relV l s true := by unfold oneV; simp
      rw [e, relV_t hv hi, rfold_or (P := fun k => decide ((k : Int) ∈ (l.getD i default).par)) (fun j r => by simp [rstep])]
      simp only [rbase]
      constructor
      · rintro (h1 | ⟨k, h1, h2, h3⟩)
        · simp at h1
        · exact ⟨k, h2, of_decide_eq_true h3⟩
      · rintro ⟨k, h2, h3⟩; exact .inr ⟨k, hlt h2, h2, decide_eq_true h3⟩
    · rw [heads_iff hv hS hi, rfold_and (P := fun k => decide (k = i) || !ancB l k i) (fun j r => by simp [rstep])]
      refine and_congr (by simp [rbase, Bt]) ⟨fun h => ?_, fun h => ?_⟩
      · rintro ⟨k, m, h1, h2, h3⟩
        have := h k (hlt h1) h1
        have hm := hv.parD h2
        have hle := h3.le hv
        have ha : ancB l k i = true := (anc_iff hv).2 (.step h2 h3)
        rw [ha] at this
        simp at this
        omega
      · intro k hk hak
        by_cases hki : k = i
        · simp [hki]
        · cases hh : ancB l k i with
          | false => simp
          | true =>
            rcases ((anc_iff hv).1 hh).cases' with rfl | ⟨m, h2, h3⟩
            · exact absurd rfl hki
            · exact absurd ⟨k, m, hak, h2, h3⟩ h
    · rw [roots_iff hv hS hi, rfold_and (P := fun k => decide (k = i) || !ancB l i k) (fun j r => by simp [rstep])]
      refine and_congr (by simp [rbase, Bt]) ⟨fun h => ?_, fun h => ?_⟩
      · rintro ⟨k, m, h1, h2, h3⟩
        have := h k (hlt h1) h1
        have hm := hv.parD h2
        have hle := h3.le hv
        have ha : ancB l i k = true := (anc_iff hv).2 (h3.snoc h2)
        rw [ha] at this
        simp at this
        omega
      · intro k hk hak
        by_cases hki : k = i
        · simp [hki]
        · cases hh : ancB l i k with
          | false => simp
          | true =>
            rcases ((anc_iff hv).1 hh).last with rfl | ⟨m, h2, h3⟩
            · exact absurd rfl hki
            · exact absurd ⟨k, m, hak, h3, h2⟩ h
  · unfold nodeV
    rw [if_neg (by omega), if_neg (by omega)]
    unfold twoK
    refine vec_ext fun k hkl => ?_
    rw [if_pos hkl]
    unfold refN
    rw [if_neg (by omega), rfold_id (fun j r => by unfold rstep; repeat' rw [if_neg (by omega)])]
    unfold rbase opV
    rw [if_neg (by omega)]
    split
    · rfl
    · split
      · rfl
      · rw [if_pos (by omega)]
def refS (l : List Cm) (q : List Nd) (i : Nat) : List (List Bool) := setsQ l q i
def evRG : List AV → Option (Prop × AV)
  | [.d (.sl xs), .agg [.d (.sl ys)]] => some (xs = rows eC (dC xs) ∧ Valid (dC xs) ∧ smallC (dC xs) ∧ ys = rows eN (dN ys) ∧ okQ (dN ys), .d (.sl (rows eB (rtV (dC xs) (dN ys)))))
  | _ => none

theorem sel2_meets : Meets Tryd.prog 54 (Spec.pure selG2) := by
 refine meets_fun (E_exq.at_ 58) Tryd.func54 rfl rfl rfl ?_
 intro args p r hg hp
 unfold selG2 at hg
 split at hg
 ·rename_i xs t ys i n
  simp only [Option.some.injEq, Prod.mk.injEq] at hg
  obtain ⟨rfl, rfl⟩ := hg
  obtain ⟨he, hsm, he2, hi0, hi, hn0, hn⟩ := hp
  generalize dC xs = l at *
  generalize dN ys = q at *
  subst he he2
  obtain ⟨i, rfl⟩ := Int.eq_ofNat_of_zero_le hi0
  obtain ⟨n, rfl⟩ := Int.eq_ofNat_of_zero_le hn0
  simp only [Int.toNat_natCast] at hi hn ⊢
  obtain ⟨x, hxe⟩ := getE (l := q) (i := i) hi
  obtain ⟨cm, hce⟩ := getE (l := l) (i := n) hn
  have hc3 := hsm cm (mem_at hce)
  rw [getD_of hce, getD_nd hxe]
  obtain ⟨a, b, c, d⟩ := x
  obtain ⟨p, au, ti, tr, ms⟩ := cm
  dsimp only at hc3
  have hT : (E_exq).X = T := rfl
  have hx0 := And.intro @rect_eC (And.intro @rect_eN (And.intro @dC_rows (And.intro @dN_rows (And.intro @Int.toNat_natCast (And.intro @dec_t (And.intro @dec_f @Tryd.results54))))))
  have hx := hx0
  refine ⟨by rfl, ?_⟩
  intro F W0 hnp hmk
  refine vc_seq_k fun N1 h1 => ?_
  refine u_reg ?_
  try refine lg_mk ?_
  refine u_bx ?_
  refine u_mv ?_
  refine lg_nil ?_
  refine h1 _ ?_; clear h1; try clear N1
  refine vc_seq_k fun N2 h2 => ?_
  have hx := And.intro @hxe (And.intro @eN.eq_1 hx0)
  refine u_reg ?_
  try refine lg_mk ?_
  refine u_pt ?_
  refine u_ld ?_
  refine u_mv ?_
  refine u_pt ?_
  refine u_ld ?_
  refine u_al ?_
  refine u_st ?_
  refine lg_nil ?_
  have hx := hx0
  refine h2 _ ?_; clear h2; try clear N2
  refine vc_seq_k fun N3 h3 => ?_
  refine vc_seq_k fun N4 h4 => ?_
  refine u_reg ?_
  try refine lg_mk ?_
  refine u_pt ?_
  refine u_ld ?_
  refine lg_nil ?_
  refine h4 _ ?_; clear h4; try clear N4
  refine vc_block ?_
  refine vc_seq_k fun N5 h5 => ?_
  refine u_reg ?_
  try refine lg_mk ?_
  refine u_bn ?_
  refine u_mv ?_
  refine lg_nil ?_
  refine h5 _ ?_; clear h5; try clear N5
  refine u_cond (fun hb6 => ?_) (fun hb6 => ?_)
  ·refine vc_seq_k fun N7 h7 => ?_
   refine u_reg ?_
   try refine lg_mk ?_
   refine u_mv ?_
   refine lg_nil ?_
   refine h7 _ ?_; clear h7; try clear N7
   refine vc_ret ?_
   try simp only [k_rules]
   have hr : leafV ⟨a, b, c, d⟩ ⟨p, au, ti, tr, ms⟩ (n : Nat) = true := by
    unfold leafV; dsimp only; rw [if_pos (by have := hb6; (try simp at this); omega)]
   rw [hr]
   refine fin2_ ?_
   exact cl_
  ·refine vc_seq_k fun N8 h8 => ?_
   refine u_reg ?_
   try refine lg_mk ?_
   refine u_bn ?_
   refine u_mv ?_
   refine lg_nil ?_
   refine h8 _ ?_; clear h8; try clear N8
   refine u_cond (fun hb9 => ?_) (fun hb9 => ?_)
   ·refine vc_seq_k fun N10 h10 => ?_
    refine u_reg ?_
    try refine lg_mk ?_
    refine u_mv ?_
    refine lg_nil ?_
    refine h10 _ ?_; clear h10; try clear N10
    refine vc_ret ?_
    try simp only [k_rules]
    have hk2 : a = 2 := (by have := hb9; (try simp at this); omega)
    subst hk2
    have hr : leafV ⟨2, b, c, d⟩ ⟨p, au, ti, tr, ms⟩ (n : Nat) = false := rfl
    rw [hr]
    refine fin2_ ?_
    exact cl_
   ·refine vc_seq_k fun N11 h11 => ?_
    refine u_reg ?_
    try refine lg_mk ?_
    refine u_bn ?_
    refine u_mv ?_
    refine lg_nil ?_
    refine h11 _ ?_; clear h11; try clear N11
    refine u_cond (fun hb12 => ?_) (fun hb12 => ?_)
    ·refine vc_seq_k fun N13 h13 => ?_
     refine u_reg ?_
     try refine lg_mk ?_
     refine u_mv ?_
     refine u_pt ?_
     refine u_ld ?_
     refine u_bn ?_
     refine u_mv ?_
     refine lg_nil ?_
     refine h13 _ ?_; clear h13; try clear N13
     refine vc_ret ?_
     try simp only [k_rules]
     have hr : leafV ⟨a, b, c, d⟩ ⟨p, au, ti, tr, ms⟩ (n : Nat) = decide (((n : Nat) : Int) = b) := by
      unfold leafV; dsimp only; rw [if_neg (by have := hb6; (try simp at this); omega), if_pos (by have := hb12; (try simp at this); omega)]
     rw [hr]
     refine fin2_ ?_
     exact cl_
    ·refine vc_seq_k fun N14 h14 => ?_
     refine u_reg ?_
     try refine lg_mk ?_
     refine u_bn ?_
     refine u_mv ?_
     refine lg_nil ?_
     refine h14 _ ?_; clear h14; try clear N14
     refine u_cond (fun hb15 => ?_) (fun hb15 => ?_)
     ·refine vc_seq_k fun N16 h16 => ?_
      have hx := And.intro @hce (And.intro @eC.eq_1 hx0)
      refine u_reg ?_
      try refine lg_mk ?_
      refine u_mv ?_
      refine u_mv ?_
      refine u_pt ?_
      refine u_pt ?_
      refine u_ld ?_
      refine u_pt ?_
      refine u_ld ?_
      refine u_bn ?_
      refine u_mv ?_
      refine lg_nil ?_
      have hx := hx0
      refine h16 _ ?_; clear h16; try clear N16
      refine vc_ret ?_
      try simp only [k_rules]
      have hr : leafV ⟨a, b, c, d⟩ ⟨p, au, ti, tr, ms⟩ (n : Nat) = decide (au = b) := by
       unfold leafV; dsimp only; rw [if_neg (by have := hb6; (try simp at this); omega), if_neg (by have := hb12; (try simp at this); omega), if_pos (by have := hb15; (try simp at this); omega)]
      rw [hr]
      refine fin2_ ?_
      exact cl_
     ·refine vc_seq_k fun N17 h17 => ?_
      refine u_reg ?_
      try refine lg_mk ?_
      refine u_bn ?_
      refine u_mv ?_
      refine lg_nil ?_
      refine h17 _ ?_; clear h17; try clear N17
      refine u_cond (fun hb18 => ?_) (fun hb18 => ?_)
      ·refine vc_seq_k fun N19 h19 => ?_
       have hx := And.intro @hce (And.intro @eC.eq_1 hx0)
       refine u_reg ?_
       try refine lg_mk ?_
       refine u_mv ?_
       refine u_mv ?_
       refine u_pt ?_
       refine u_pt ?_
       refine u_ld ?_
       refine u_pt ?_
       refine u_ld ?_
       refine u_bn ?_
       refine u_mv ?_
       refine lg_nil ?_
       have hx := hx0
       refine h19 _ ?_; clear h19; try clear N19
       refine vc_ret ?_
       try simp only [k_rules]
       have hr : leafV ⟨a, b, c, d⟩ ⟨p, au, ti, tr, ms⟩ (n : Nat) = decide (ti < b) := by
        unfold leafV; dsimp only; rw [if_neg (by have := hb6; (try simp at this); omega), if_neg (by have := hb12; (try simp at this); omega), if_neg (by have := hb15; (try simp at this); omega), if_pos (by have := hb18; (try simp at this); omega)]
       rw [hr]
       refine fin2_ ?_
       exact cl_
      ·refine vc_seq_k fun N20 h20 => ?_
       refine u_reg ?_
       try refine lg_mk ?_
       refine u_bn ?_
       refine u_mv ?_
       refine lg_nil ?_
       refine h20 _ ?_; clear h20; try clear N20
       refine u_cond (fun hb21 => ?_) (fun hb21 => ?_)
       ·refine vc_seq_k fun N22 h22 => ?_
        have hx := And.intro @hce (And.intro @eC.eq_1 hx0)
        refine u_reg ?_
        try refine lg_mk ?_
        refine u_mv ?_
        refine u_mv ?_
        refine u_pt ?_
        refine u_pt ?_
        refine u_ld ?_
        refine u_ln ?_
        refine u_bn ?_
        refine u_mv ?_
        refine lg_nil ?_
        have hx := hx0
        refine h22 _ ?_; clear h22; try clear N22
        refine vc_ret ?_
        try simp only [k_rules]
        have hr : leafV ⟨a, b, c, d⟩ ⟨p, au, ti, tr, ms⟩ (n : Nat) = decide (2 ≤ p.length) := by
         unfold leafV; dsimp only; rw [if_neg (by have := hb6; (try simp at this); omega), if_neg (by have := hb12; (try simp at this); omega), if_neg (by have := hb15; (try simp at this); omega), if_neg (by have := hb18; (try simp at this); omega), if_pos (by have := hb21; (try simp at this); omega)]
        rw [hr]
        refine fin2_ ?_
        (repeat' apply And.intro) <;> (first | (first | rfl | trivial | (congr 1; congr 1; rw [decide_eq_decide]; omega) | (simp; omega)) | exact cl_)
       ·refine vc_skip ?_
        try simp only [k_rules]
        refine h3 _ ?_; clear h3; try clear N3
        refine vc_seq_k fun N23 h23 => ?_
        refine u_reg ?_
        try refine lg_mk ?_
        refine u_mv ?_
        refine lg_nil ?_
        refine h23 _ ?_; clear h23; try clear N23
        refine vc_ret ?_
        try simp only [k_rules]
        have hr : leafV ⟨a, b, c, d⟩ ⟨p, au, ti, tr, ms⟩ (n : Nat) = false := by
         unfold leafV; dsimp only; rw [if_neg (by have := hb6; (try simp at this); omega), if_neg (by have := hb12; (try simp at this); omega), if_neg (by have := hb15; (try simp at this); omega), if_neg (by have := hb18; (try simp at this); omega), if_neg (by have := hb21; (try simp at this); omega)]
        rw [hr]
        refine fin2_ ?_
        exact cl_
 ·cases hg

def E_sel2 : Env Tryd.prog := E_exq.add 54 (Spec.pure selG2) sel2_meets (by kernel_rfl)
end Go.Proofs.YtlbjffdaooadoaaDoor
