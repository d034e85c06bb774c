/- Walks, printed by wip/gen/walk.py. -/
import Derived.Test.YtlbjffdaooadoaaDoorT38
import Derived.Test.YtlbjffdaooadoaaDoorV5
set_option linter.all false
set_option maxRecDepth 100000
set_option maxHeartbeats 4000000
namespace Go.Proofs.YtlbjffdaooadoaaDoor
open Go Go.Vc Go.RowKit
def Bt (b : List Bool) (k : Nat) : Prop := b.getD k false = true
theorem Bt.lt {b : List Bool} {k : Nat} (h : Bt b k) : k < b.length := by
  unfold Bt at h
  rcases Nat.lt_or_ge k b.length with hk | hk
  · exact hk
  · rw [List.getD_eq_getElem?_getD, List.getElem?_eq_none hk] at h; cases h
theorem bt_vec {n i : Nat} {f : Nat → Bool} (h : i < n) : Bt (vec n f) i ↔ f i = true := by
  unfold Bt; rw [List.getD_eq_getElem?_getD, vec_get h]; rfl
theorem mem_selK {s : List Bool} {x : Int} : x ∈ selK s s.length ↔ ∃ j : Nat, Bt s j ∧ x = (j : Int) := by
  unfold selK
  constructor
  · intro h
    obtain ⟨j, hj, rfl⟩ := List.mem_map.1 h
    exact ⟨j, (List.mem_filter.1 hj).2, rfl⟩
  · rintro ⟨j, hj, rfl⟩
    exact List.mem_map.2 ⟨j, List.mem_filter.2 ⟨List.mem_range.2 hj.lt, hj⟩, rfl⟩
theorem ofV_iff {l : List Cm} (hv : Valid l) {b : List Bool} {i : Nat} (hi : i < l.length) : Bt (ofV l b) i ↔ ∃ k, Bt b k ∧ Anc l k i := by
  unfold ofV
  rw [bt_vec hi, of_iff hv]
  constructor
  · rintro ⟨n, hn, ha⟩
    obtain ⟨j, hj, rfl⟩ := mem_selK.1 hn
    exact ⟨j, hj, by simpa using ha⟩
  · rintro ⟨k, hk, ha⟩
    exact ⟨(k : Int), mem_selK.2 ⟨k, hk, rfl⟩, by simpa using ha⟩
theorem desK_new (l : List Cm) (f : Nat → Bool) : ∀ {j k : Nat}, j ≤ k → desK l f j k = f k
  | 0, _, _ => rfl
  | j + 1, k, h => by
    show setB _ j _ k = f k
    rw [setB_of _ _ (by omega), desK_new l f (by omega)]
theorem desK_old (l : List Cm) (f : Nat → Bool) {k : Nat} : ∀ {j : Nat}, k < j → desK l f j k = desK l f (k + 1) k
  | j + 1, h => by
    by_cases hj : k = j
    · subst hj; rfl
    · show setB _ j _ k = _
      rw [setB_of _ _ hj, desK_old l f (by omega)]
theorem desK_at (l : List Cm) (f : Nat → Bool) (i : Nat) : desK l f (i + 1) i = (f i || (l.getD i default).par.any fun p => desK l f i p.toNat) := by
  show setB _ i _ i = _
  rw [setB_at]
  unfold desJ
  rw [List.take_length, desK_new l f (Nat.le_refl _)]
theorem desK_iff {l : List Cm} (hv : Valid l) (f : Nat → Bool) : ∀ (i : Nat), desK l f (i + 1) i = true ↔ ∃ k, f k = true ∧ Anc l i k := by
  intro i
  induction i using Nat.strongRecOn with
  | ind i ih =>
    rw [desK_at, Bool.or_eq_true, List.any_eq_true]
    constructor
    · rintro (h | ⟨p, hp, h⟩)
      · exact ⟨i, h, .refl i⟩
      · have := hv.parD hp
        rw [desK_old l f (by omega)] at h
        obtain ⟨k, hk, ha⟩ := (ih p.toNat (by omega)).1 h
        exact ⟨k, hk, .step (j := p.toNat) (by rw [show ((p.toNat : Nat) : Int) = p by omega]; exact hp) ha⟩
    · rintro ⟨k, hk, ha⟩
      rcases ha.cases' with rfl | ⟨j, hj, ha⟩
      · exact .inl hk
      · have := hv.parD hj
        refine .inr ⟨(j : Int), hj, ?_⟩
        rw [Int.toNat_natCast, desK_old l f (by omega)]
        exact (ih j (by omega)).2 ⟨k, hk, ha⟩
theorem fnB_iff {b : List Bool} {k : Nat} : fnB b k = true ↔ Bt b k := Iff.rfl
theorem desV_iff {l : List Cm} (hv : Valid l) {b : List Bool} {i : Nat} (hi : i < l.length) : Bt (desV l b) i ↔ ∃ k, Bt b k ∧ Anc l i k := by
  unfold desV
  rw [bt_vec hi, desK_old l _ hi, desK_iff hv]
  rfl
theorem relJ_t (f : Nat → Bool) (i : Nat) (ps : List Int) (g : Nat → Bool) : ∀ {j : Nat}, j ≤ ps.length → relJ f true i ps g j = setB g i (g i || (ps.take j).any fun p => f p.toNat)
  | 0, _ => by
    funext x
    show g x = setB g i _ x
    unfold setB
    split
    · rename_i e; subst e; simp
    · rfl
  | j + 1, h => by
    obtain ⟨p, hp⟩ := getE (l := ps) (i := j) (by omega)
    show relS f true i (relJ f true i ps g j) (ps.getD j 0) = _
    rw [relJ_t f i ps g (by omega), getD_at hp]
    unfold relS
    rw [if_pos rfl, setB_set, setB_at, any_snoc hp, Bool.or_assoc]
theorem relJ_f (f : Nat → Bool) (i : Nat) (ps : List Int) (g : Nat → Bool) (x : Nat) : ∀ {j : Nat}, j ≤ ps.length → relJ f false i ps g j x = (g x || (f i && (ps.take j).any fun p => decide (p.toNat = x)))
  | 0, _ => by show g x = _; simp
  | j + 1, h => by
    obtain ⟨p, hp⟩ := getE (l := ps) (i := j) (by omega)
    have ih := relJ_f f i ps g x (j := j) (by omega)
    show relS f false i (relJ f false i ps g j) (ps.getD j 0) x = _
    rw [getD_at hp, any_snoc hp]
    unfold relS
    rw [if_neg (by simp)]
    unfold setB
    by_cases hx : x = p.toNat
    · subst hx
      rw [if_pos rfl, ih]
      simp
      cases g p.toNat <;> cases f i <;> simp
    · rw [if_neg hx, ih]
      have : decide (p.toNat = x) = false := decide_eq_false (fun h => hx h.symm)
      rw [this, Bool.or_false]
theorem relK_t (l : List Cm) (f : Nat → Bool) : ∀ {n x : Nat}, relK l f true n x = (decide (x < n) && (l.getD x default).par.any fun p => f p.toNat)
  | 0, x => by simp [relK]
  | n + 1, x => by
    have ih := fun x => relK_t l f (n := n) (x := x)
    show relJ f true n (l.getD n default).par (relK l f true n) (l.getD n default).par.length x = _
    rw [relJ_t _ _ _ _ (Nat.le_refl _), List.take_length]
    by_cases hx : x = n
    · subst hx; rw [setB_at, ih]; simp
    · rw [setB_of _ _ hx, ih]
      have : decide (x < n) = decide (x < n + 1) := by rw [decide_eq_decide]; omega
      rw [this]
theorem relK_f (l : List Cm) (f : Nat → Bool) {x : Nat} : ∀ {n : Nat}, relK l f false n x = true ↔ ∃ i, i < n ∧ f i = true ∧ ∃ p ∈ (l.getD i default).par, p.toNat = x
  | 0 => by simp [relK]
  | n + 1 => by
    have ih := relK_f l f (x := x) (n := n)
    show relJ f false n (l.getD n default).par (relK l f false n) (l.getD n default).par.length x = true ↔ _
    rw [relJ_f _ _ _ _ _ (Nat.le_refl _), List.take_length, Bool.or_eq_true, ih, Bool.and_eq_true, List.any_eq_true]
    constructor
    · rintro (⟨i, h1, h2, h3⟩ | ⟨h1, p, hp, h2⟩)
      · exact ⟨i, by omega, h2, h3⟩
      · exact ⟨n, by omega, h1, p, hp, by simpa using h2⟩
    · rintro ⟨i, h1, h2, p, hp, h3⟩
      by_cases hi : i = n
      · subst hi; exact .inr ⟨h2, p, hp, by simpa using h3⟩
      · exact .inl ⟨i, by omega, h2, p, hp, h3⟩
theorem par_cast {l : List Cm} (hv : Valid l) {i x : Nat} : (∃ p ∈ (l.getD i default).par, p.toNat = x) ↔ (x : Int) ∈ (l.getD i default).par := by
  constructor
  · rintro ⟨p, hp, rfl⟩
    have := hv.parD hp
    rw [show ((p.toNat : Nat) : Int) = p by omega]; exact hp
  · intro h; exact ⟨_, h, Int.toNat_natCast x⟩
theorem relV_f {l : List Cm} (hv : Valid l) {b : List Bool} {i : Nat} (hi : i < l.length) : Bt (relV l b false) i ↔ ∃ k, Bt b k ∧ (i : Int) ∈ (l.getD k default).par := by
  unfold relV
  rw [bt_vec hi, relK_f]
  constructor
  · rintro ⟨k, h1, h2, h3⟩; exact ⟨k, h2, (par_cast hv).1 h3⟩
  · rintro ⟨k, h1, h2⟩
    have := hv.parD h2
    exact ⟨k, by omega, h1, (par_cast hv).2 h2⟩
theorem relV_t {l : List Cm} (hv : Valid l) {b : List Bool} {i : Nat} (hi : i < l.length) : Bt (relV l b true) i ↔ ∃ k : Nat, Bt b k ∧ (k : Int) ∈ (l.getD i default).par := by
  unfold relV
  rw [bt_vec hi, relK_t, decide_eq_true hi, Bool.true_and, List.any_eq_true]
  constructor
  · rintro ⟨p, hp, h⟩
    have := hv.parD hp
    exact ⟨p.toNat, h, by rw [show ((p.toNat : Nat) : Int) = p by omega]; exact hp⟩
  · rintro ⟨k, h1, h2⟩; exact ⟨_, h2, by rw [Int.toNat_natCast]; exact h1⟩
theorem min_iff {a b : List Bool} {i n : Nat} (ha : a.length = n) (hi : i < n) : Bt (minK a b n) i ↔ Bt a i ∧ ¬Bt b i := by
  subst ha
  unfold minK Bt
  rw [List.getD_eq_getElem?_getD, List.getElem?_map, List.getElem?_range hi]
  simp [hi]
theorem heads_iff {l : List Cm} (hv : Valid l) {b : List Bool} (hb : b.length = l.length) {i : Nat} (hi : i < l.length) : Bt (oneV l 12 b) i ↔ Bt b i ∧ ¬∃ k m : Nat, Bt b k ∧ (m : Int) ∈ (l.getD k default).par ∧ Anc l m i := by
  have e : oneV l 12 b = minK b (ofV l (relV l b false)) l.length := by unfold oneV; simp
  rw [e, min_iff hb hi, ofV_iff hv hi]
  refine and_congr Iff.rfl (not_congr ⟨?_, ?_⟩)
  · rintro ⟨m, h1, h2⟩
    have hm : m < l.length := by have := h1.lt; rwa [relV_len] at this
    obtain ⟨k, g1, g2⟩ := (relV_f hv hm).1 h1
    exact ⟨k, m, g1, g2, h2⟩
  · rintro ⟨k, m, g1, g2, h2⟩
    have := hv.parD g2
    exact ⟨m, (relV_f hv (by omega)).2 ⟨k, g1, g2⟩, h2⟩
theorem roots_iff {l : List Cm} (hv : Valid l) {b : List Bool} (hb : b.length = l.length) {i : Nat} (hi : i < l.length) : Bt (oneV l 13 b) i ↔ Bt b i ∧ ¬∃ k m : Nat, Bt b k ∧ (k : Int) ∈ (l.getD m default).par ∧ Anc l i m := by
  have e : oneV l 13 b = minK b (desV l (relV l b true)) l.length := by unfold oneV; simp
  rw [e, min_iff hb hi, desV_iff hv hi]
  refine and_congr Iff.rfl (not_congr ⟨?_, ?_⟩)
  · rintro ⟨m, h1, h2⟩
    have hm : m < l.length := by have := h1.lt; rwa [relV_len] at this
    obtain ⟨k, g1, g2⟩ := (relV_t hv hm).1 h1
    exact ⟨k, m, g1, g2, h2⟩
  · rintro ⟨k, m, g1, g2, h2⟩
    have := hv.parD g2
    exact ⟨m, (relV_t hv (by omega)).2 ⟨k, g1, g2⟩, h2⟩
/-- A set and its heads have the same ancestors. -/
theorem heads_gen {l : List Cm} (hv : Valid l) {b : List Bool} (hb : b.length = l.length) (i : Nat) : ∀ (n k : Nat), l.length - k = n → Bt b k → Anc l k i → ∃ k', Bt (oneV l 12 b) k' ∧ Anc l k' i := by
  intro n
  induction n using Nat.strongRecOn with
  | ind n ih =>
    intro k hn hk ha
    have hkl : k < l.length := by rw [← hb]; exact hk.lt
    by_cases h : ∃ k2 m : Nat, Bt b k2 ∧ (m : Int) ∈ (l.getD k2 default).par ∧ Anc l m k
    · obtain ⟨k2, m, h1, h2, h3⟩ := h
      have g1 := hv.parD h2
      have g2 := h3.le hv
      exact ih (l.length - k2) (by omega) k2 rfl h1 (.step h2 (h3.trans ha))
    · exact ⟨k, (heads_iff hv hb hkl).2 ⟨hk, h⟩, ha⟩
/-- A set and its roots have the same descendants. -/
theorem roots_gen {l : List Cm} (hv : Valid l) {b : List Bool} (hb : b.length = l.length) (i : Nat) : ∀ (k : Nat), Bt b k → Anc l i k → ∃ k', Bt (oneV l 13 b) k' ∧ Anc l i k' := by
  intro k
  induction k using Nat.strongRecOn with
  | ind k ih =>
    intro hk ha
    have hkl : k < l.length := by rw [← hb]; exact hk.lt
    by_cases h : ∃ k2 m : Nat, Bt b k2 ∧ (k2 : Int) ∈ (l.getD m default).par ∧ Anc l k m
    · obtain ⟨k2, m, h1, h2, h3⟩ := h
      have g1 := hv.parD h2
      have g2 := h3.le hv
      exact ih k2 (by omega) h1 ((ha.trans h3).snoc h2)
    · exact ⟨k, (roots_iff hv hb hkl).2 ⟨hk, h⟩, ha⟩
theorem bt_ext {x y : List Bool} {n : Nat} (hx : x.length = n) (hy : y.length = n) (h : ∀ i, i < n → (Bt x i ↔ Bt y i)) : x = y :=
  bools_ext hx hy fun i hi => by
    have := h i hi
    unfold Bt at this
    exact Bool.eq_iff_iff.2 this
theorem one8 (l : List Cm) (b : List Bool) : oneV l 8 b = ofV l b := by unfold oneV; simp
theorem one9 (l : List Cm) (b : List Bool) : oneV l 9 b = desV l b := by unfold oneV; simp
theorem gen_anc {l : List Cm} (hv : Valid l) {b : List Bool} (hb : b.length = l.length) : oneV l 8 (oneV l 12 b) = oneV l 8 b := by
  rw [one8, one8]
  refine bt_ext (ofV_len ..) (ofV_len ..) fun i hi => ?_
  rw [ofV_iff hv hi, ofV_iff hv hi]
  constructor
  · rintro ⟨k, h1, h2⟩
    have hk : k < l.length := by have := h1.lt; rwa [oneV_len _ _ hb] at this
    exact ⟨k, ((heads_iff hv hb hk).1 h1).1, h2⟩
  · rintro ⟨k, h1, h2⟩; exact heads_gen hv hb i _ k rfl h1 h2
theorem gen_des {l : List Cm} (hv : Valid l) {b : List Bool} (hb : b.length = l.length) : oneV l 9 (oneV l 13 b) = oneV l 9 b := by
  rw [one9, one9]
  refine bt_ext (desV_len ..) (desV_len ..) fun i hi => ?_
  rw [desV_iff hv hi, desV_iff hv hi]
  constructor
  · rintro ⟨k, h1, h2⟩
    have hk : k < l.length := by have := h1.lt; rwa [oneV_len _ _ hb] at this
    exact ⟨k, ((roots_iff hv hb hk).1 h1).1, h2⟩
  · rintro ⟨k, h1, h2⟩; exact roots_gen hv hb i k h1 h2

def lawHG : List AV → Option (Prop × AV)
  | [.d (.sl xs), .agg [.d (.sl ys)]] => some (xs = rows eC (dC xs) ∧ (dC xs).length ≤ 9223372036854775807 ∧ smallC (dC xs) ∧ ys = rows eN (dN ys) ∧ (dN ys).length ≤ 9223372036854775807, .d (.bool true))
  | _ => none
theorem hg_cases (l : List Cm) (a : List Nd) : (histF l).1 ≠ 0 ∨ ((histF l).1 = 0 ∧ (refQ a).1 ≠ 0) ∨ ((histF l).1 = 0 ∧ (refQ a).1 = 0) := by
  by_cases h1 : (histF l).1 = 0 <;> by_cases h2 : (refQ a).1 = 0 <;> simp [h1, h2]
theorem hg_all {l : List Cm} {a : List Nd} (hl : (histF l).1 = 0) (ha : valQ a = (0, 0)) (h : a.length + 2 ≤ 40) : ∃ X U, X.length = l.length ∧ U.length = l.length ∧ evV l (wrQ 8 a) = (0, 0, X) ∧ evV l (wrQ 8 (wrQ 12 a)) = (0, 0, X) ∧ evV l (wrQ 9 a) = (0, 0, U) ∧ evV l (wrQ 9 (wrQ 13 a)) = (0, 0, U) := by
  have hv := valid_of hl
  have h1 := (ok_of_val ha).1.1
  have hA := rtV_len (l := l) ha
  have w : ∀ k, 7 ≤ k ∧ k < 14 → valQ (wrQ k a) = (0, 0) ∧ rtV l (wrQ k a) = oneV l k (rtV l a) := fun k hk => ⟨val_wr ha hk (by omega), rtV_wr hk h1⟩
  have w2 : ∀ k k', 7 ≤ k ∧ k < 14 → 7 ≤ k' ∧ k' < 14 → evV l (wrQ k (wrQ k' a)) = (0, 0, oneV l k (oneV l k' (rtV l a))) := fun k k' hk hk' => by
    rw [ev_val (hist_of hl) (val_wr (w k' hk').1 hk (by rw [wr_len]; omega)), rtV_wr hk (by rw [wr_len]; omega), (w k' hk').2]
  refine ⟨oneV l 8 (rtV l a), oneV l 9 (rtV l a), oneV_len _ _ hA, oneV_len _ _ hA, ?_, ?_, ?_, ?_⟩
  · rw [ev_val (hist_of hl) (w 8 (by omega)).1, (w 8 (by omega)).2]
  · rw [w2 8 12 (by omega) (by omega), gen_anc hv hA]
  · rw [ev_val (hist_of hl) (w 9 (by omega)).1, (w 9 (by omega)).2]
  · rw [w2 9 13 (by omega) (by omega), gen_des hv hA]

theorem lawH_meets : Meets Tryd.prog 12 (Spec.pure lawHG) := by
 refine meets_fun (E_seld.at_ 82) Tryd.func12 rfl rfl rfl ?_
 intro args p r hg hp
 unfold lawHG at hg
 split at hg
 ·rename_i xs ys
  simp only [Option.some.injEq, Prod.mk.injEq] at hg
  obtain ⟨rfl, rfl⟩ := hg
  obtain ⟨he, hl, hsm, he2, hl2⟩ := hp
  generalize dC xs = l at *
  generalize dN ys = a at *
  subst he he2
  have hT : (E_seld).X = T := rfl
  have hx0 := And.intro @rect_eC (And.intro @rect_eN (And.intro @dC_rows (And.intro @dN_rows (And.intro @dB_rows (And.intro @wr_len (And.intro @dec_t (And.intro @dec_f @Tryd.results12)))))))
  have hx := hx0
  refine ⟨by rfl, ?_⟩
  intro F W0 hnp hmk
  refine vc_seq_k fun N1 h1 => ?_
  refine u_reg ?_
  try refine lg_mk ?_
  refine u_bx ?_
  refine u_mv ?_
  refine lg_nil ?_
  refine h1 _ ?_; clear h1; try clear N1
  refine vc_seq_k fun N2 h2 => ?_
  refine vc_seq_k fun N3 h3 => ?_
  refine u_reg ?_
  try refine lg_mk ?_
  have hc := call_rule (E := (E_seld.at_ 82)) (f := 22) (sp := Spec.pure exG) rfl
  have hs := @exG.eq_1
  refine u_cp ?_
  refine u_un ?_
  refine lg_nil ?_
  refine h3 _ ?_; clear h3; try clear N3
  refine u_cond (fun hb4 => ?_) (fun hb4 => ?_)
  ·first | omega | exact absurd trivial hb4 | contradiction | (simp_all; done)
  ·refine vc_skip ?_
   try simp only [k_rules]
   refine h2 _ ?_; clear h2; try clear N2
   refine vc_seq_k fun N5 h5 => ?_
   refine vc_seq_k fun N6 h6 => ?_
   rcases hg_cases l a with g1 | ⟨g1, g2⟩ | ⟨g1, g2⟩
   ·have c1 : ((histF l).1 = 0) = False := eq_false (by first | assumption | (simpa using g1))
    have c2 := True.intro
    have hx := And.intro @c1 (And.intro @c2 hx0)
    refine u_reg ?_
    try refine lg_mk ?_
    refine u_mv ?_
    have hc := call_rule (E := (E_seld.at_ 82)) (f := 25) (sp := Spec.pure histG) rfl
    have hs := @histG.eq_1
    refine u_cp ?_
    refine u_pt ?_
    refine u_bn ?_
    refine u_mv ?_
    refine g_ld ?_
    have hc := call_rule (E := (E_seld.at_ 82)) (f := 17) (sp := Spec.pure refQG) rfl
    have hs := @refQG.eq_1
    refine g_cp ?_
    refine g_pt ?_
    refine g_bn ?_
    refine u_pk ?_
    refine u_mv ?_
    refine g_pt ?_
    refine g_ld ?_
    refine g_ln ?_
    refine g_bn ?_
    refine g_bn ?_
    refine u_pk ?_
    refine lg_nil ?_
    have hx := hx0
    refine h6 _ ?_; clear h6; try clear N6
    refine u_cond (fun hb7 => ?_) (fun hb7 => ?_)
    ·refine vc_seq_k fun N8 h8 => ?_
     refine u_reg ?_
     try refine lg_mk ?_
     refine u_mv ?_
     refine lg_nil ?_
     refine h8 _ ?_; clear h8; try clear N8
     refine vc_ret ?_
     try simp only [k_rules]
     refine fin2_ ?_
     (repeat' apply And.intro) <;> (first | (first | rfl | trivial | (simp; done)) | exact cl_)
    ·first | omega | exact absurd trivial hb7 | contradiction | (simp_all; done)
   ·have c1 : ((histF l).1 = 0) = True := eq_true (by first | assumption | (simpa using g1))
    have c2 : ((refQ a).1 = 0) = False := eq_false (by first | assumption | (simpa using g2))
    have hx := And.intro @c1 (And.intro @c2 hx0)
    refine u_reg ?_
    try refine lg_mk ?_
    refine u_mv ?_
    have hc := call_rule (E := (E_seld.at_ 82)) (f := 25) (sp := Spec.pure histG) rfl
    have hs := @histG.eq_1
    refine u_cp ?_
    refine u_pt ?_
    refine u_bn ?_
    refine u_mv ?_
    refine g_ld ?_
    have hc := call_rule (E := (E_seld.at_ 82)) (f := 17) (sp := Spec.pure refQG) rfl
    have hs := @refQG.eq_1
    refine g_cp ?_
    refine g_pt ?_
    refine g_bn ?_
    refine u_pk ?_
    refine u_mv ?_
    refine g_pt ?_
    refine g_ld ?_
    refine g_ln ?_
    refine g_bn ?_
    refine g_bn ?_
    refine u_pk ?_
    refine lg_nil ?_
    have hx := hx0
    refine h6 _ ?_; clear h6; try clear N6
    refine u_cond (fun hb9 => ?_) (fun hb9 => ?_)
    ·refine vc_seq_k fun N10 h10 => ?_
     refine u_reg ?_
     try refine lg_mk ?_
     refine u_mv ?_
     refine lg_nil ?_
     refine h10 _ ?_; clear h10; try clear N10
     refine vc_ret ?_
     try simp only [k_rules]
     refine fin2_ ?_
     (repeat' apply And.intro) <;> (first | (first | rfl | trivial | (simp; done)) | exact cl_)
    ·first | omega | exact absurd trivial hb9 | contradiction | (simp_all; done)
   ·have c1 : ((histF l).1 = 0) = True := eq_true (by first | assumption | (simpa using g1))
    have c2 : ((refQ a).1 = 0) = True := eq_true (by first | assumption | (simpa using g2))
    have hla := (ok_of_val (val_of_ref g2)).1.2.1
    have hx := And.intro @c1 (And.intro @c2 hx0)
    refine u_reg ?_
    try refine lg_mk ?_
    refine u_mv ?_
    have hc := call_rule (E := (E_seld.at_ 82)) (f := 25) (sp := Spec.pure histG) rfl
    have hs := @histG.eq_1
    refine u_cp ?_
    refine u_pt ?_
    refine u_bn ?_
    refine u_mv ?_
    refine g_ld ?_
    have hc := call_rule (E := (E_seld.at_ 82)) (f := 17) (sp := Spec.pure refQG) rfl
    have hs := @refQG.eq_1
    refine g_cp ?_
    refine g_pt ?_
    refine g_bn ?_
    refine u_pk ?_
    refine u_mv ?_
    refine g_pt ?_
    refine g_ld ?_
    refine g_ln ?_
    refine g_bn ?_
    refine g_bn ?_
    refine u_pk ?_
    refine lg_nil ?_
    have hx := hx0
    refine h6 _ ?_; clear h6; try clear N6
    refine u_cond (fun hb11 => ?_) (fun hb11 => ?_)
    ·refine vc_seq_k fun N12 h12 => ?_
     refine u_reg ?_
     try refine lg_mk ?_
     refine u_mv ?_
     refine lg_nil ?_
     refine h12 _ ?_; clear h12; try clear N12
     refine vc_ret ?_
     try simp only [k_rules]
     refine fin2_ ?_
     (repeat' apply And.intro) <;> (first | (first | rfl | trivial | (simp; done)) | exact cl_)
    ·have hle : a.length + 2 ≤ 40 := by have := hb11; (try simp at this); omega
     obtain ⟨X, U, hXl, hUl, hX, hY, hZ, hW⟩ := hg_all g1 (val_of_ref g2) hle
     have hl60 := (valid_of g1).len
     refine vc_skip ?_
     try simp only [k_rules]
     refine h5 _ ?_; clear h5; try clear N5
     refine vc_seq_k fun N13 h13 => ?_
     have hx := And.intro @hX (And.intro @hXl hx0)
     refine u_reg ?_
     try refine lg_mk ?_
     refine u_mv ?_
     refine u_ld ?_
     have hc := call_rule (E := (E_seld.at_ 82)) (f := 34) (sp := Spec.pure wrG) rfl
     have hs := @wrG.eq_1
     refine u_hp ?_
     have hc := call_rule (E := (E_seld.at_ 82)) (f := 33) (sp := Spec.pure seldG) rfl
     have hs := @seldG.eq_1
     refine u_hp ?_
     refine u_mv ?_
     refine u_ex ?_
     refine u_ex ?_
     refine u_mv ?_
     refine u_mv ?_
     refine lg_nil ?_
     have hx := hx0
     refine h13 _ ?_; clear h13; try clear N13
     refine vc_seq_k fun N14 h14 => ?_
     have hx := And.intro @hY (And.intro @hXl hx0)
     refine u_reg ?_
     try refine lg_mk ?_
     refine u_mv ?_
     refine u_ld ?_
     have hc := call_rule (E := (E_seld.at_ 82)) (f := 34) (sp := Spec.pure wrG) rfl
     have hs := @wrG.eq_1
     refine u_hp ?_
     have hc := call_rule (E := (E_seld.at_ 82)) (f := 34) (sp := Spec.pure wrG) rfl
     have hs := @wrG.eq_1
     refine u_hp ?_
     have hc := call_rule (E := (E_seld.at_ 82)) (f := 33) (sp := Spec.pure seldG) rfl
     have hs := @seldG.eq_1
     refine u_hp ?_
     refine u_mv ?_
     refine u_ex ?_
     refine u_ex ?_
     refine u_mv ?_
     refine u_mv ?_
     refine lg_nil ?_
     have hx := hx0
     refine h14 _ ?_; clear h14; try clear N14
     refine vc_seq_k fun N15 h15 => ?_
     have hx := And.intro @hZ (And.intro @hUl hx0)
     refine u_reg ?_
     try refine lg_mk ?_
     refine u_mv ?_
     refine u_ld ?_
     have hc := call_rule (E := (E_seld.at_ 82)) (f := 34) (sp := Spec.pure wrG) rfl
     have hs := @wrG.eq_1
     refine u_hp ?_
     have hc := call_rule (E := (E_seld.at_ 82)) (f := 33) (sp := Spec.pure seldG) rfl
     have hs := @seldG.eq_1
     refine u_hp ?_
     refine u_mv ?_
     refine u_ex ?_
     refine u_ex ?_
     refine u_mv ?_
     refine u_mv ?_
     refine lg_nil ?_
     have hx := hx0
     refine h15 _ ?_; clear h15; try clear N15
     refine vc_seq_k fun N16 h16 => ?_
     have hx := And.intro @hW (And.intro @hUl hx0)
     refine u_reg ?_
     try refine lg_mk ?_
     refine u_mv ?_
     refine u_ld ?_
     have hc := call_rule (E := (E_seld.at_ 82)) (f := 34) (sp := Spec.pure wrG) rfl
     have hs := @wrG.eq_1
     refine u_hp ?_
     have hc := call_rule (E := (E_seld.at_ 82)) (f := 34) (sp := Spec.pure wrG) rfl
     have hs := @wrG.eq_1
     refine u_hp ?_
     have hc := call_rule (E := (E_seld.at_ 82)) (f := 33) (sp := Spec.pure seldG) rfl
     have hs := @seldG.eq_1
     refine u_hp ?_
     refine u_mv ?_
     refine u_ex ?_
     refine u_ex ?_
     refine u_mv ?_
     refine u_mv ?_
     refine lg_nil ?_
     have hx := hx0
     refine h16 _ ?_; clear h16; try clear N16
     refine vc_seq_k fun N17 h17 => ?_
     refine u_reg ?_
     try refine lg_mk ?_
     refine u_mv (hq := by (first | ((repeat' apply And.intro) <;> first | rfl | omega) | exact sd_)) ?_
     refine u_mv (hq := by (first | ((repeat' apply And.intro) <;> first | rfl | omega) | exact sd_)) ?_
     refine s_mv (hq := by (intro hg; (try simp only [b_rules, bif_and, bif_or] at hg); (first | ((repeat' apply And.intro) <;> first | rfl | omega) | exact sd_))) ?_
     refine u_pk (hq := by (first | ((repeat' apply And.intro) <;> first | rfl | omega) | exact sd_)) ?_
     refine u_mv (hq := by (first | ((repeat' apply And.intro) <;> first | rfl | omega) | exact sd_)) ?_
     refine s_mv (hq := by (intro hg; (try simp only [b_rules, bif_and, bif_or] at hg); (first | ((repeat' apply And.intro) <;> first | rfl | omega) | exact sd_))) ?_
     refine u_pk (hq := by (first | ((repeat' apply And.intro) <;> first | rfl | omega) | exact sd_)) ?_
     refine u_mv (hq := by (first | ((repeat' apply And.intro) <;> first | rfl | omega) | exact sd_)) ?_
     refine s_mv (hq := by (intro hg; (try simp only [b_rules, bif_and, bif_or] at hg); (first | ((repeat' apply And.intro) <;> first | rfl | omega) | exact sd_))) ?_
     refine u_pk (hq := by (first | ((repeat' apply And.intro) <;> first | rfl | omega) | exact sd_)) ?_
     refine u_mv (hq := by (first | ((repeat' apply And.intro) <;> first | rfl | omega) | exact sd_)) ?_
     refine s_mv (hq := by (intro hg; (try simp only [b_rules, bif_and, bif_or] at hg); (first | ((repeat' apply And.intro) <;> first | rfl | omega) | exact sd_))) ?_
     refine s_mv (hq := by (intro hg; (try simp only [b_rules, bif_and, bif_or] at hg); (first | ((repeat' apply And.intro) <;> first | rfl | omega) | exact sd_))) ?_
     have hc := call_rule (E := (E_seld.at_ 82)) (f := 27) (sp := Spec.pure boolsG) rfl
     have hs := @boolsG.eq_1
     refine s_cp (hq := by (intro hg; (try simp only [b_rules, bif_and, bif_or] at hg); (first | ((repeat' apply And.intro) <;> first | rfl | omega) | exact sd_))) ?_
     refine u_pk (hq := by (first | ((repeat' apply And.intro) <;> first | rfl | omega) | exact sd_)) ?_
     refine u_mv (hq := by (first | ((repeat' apply And.intro) <;> first | rfl | omega) | exact sd_)) ?_
     refine s_mv (hq := by (intro hg; (try simp only [b_rules, bif_and, bif_or] at hg); (first | ((repeat' apply And.intro) <;> first | rfl | omega) | exact sd_))) ?_
     refine s_mv (hq := by (intro hg; (try simp only [b_rules, bif_and, bif_or] at hg); (first | ((repeat' apply And.intro) <;> first | rfl | omega) | exact sd_))) ?_
     have hc := call_rule (E := (E_seld.at_ 82)) (f := 27) (sp := Spec.pure boolsG) rfl
     have hs := @boolsG.eq_1
     refine s_cp (hq := by (intro hg; (try simp only [b_rules, bif_and, bif_or] at hg); (first | ((repeat' apply And.intro) <;> first | rfl | omega) | exact sd_))) ?_
     refine u_pk (hq := by (first | ((repeat' apply And.intro) <;> first | rfl | omega) | exact sd_)) ?_
     refine u_mv (hq := by (first | ((repeat' apply And.intro) <;> first | rfl | omega) | exact sd_)) ?_
     refine lg_nil ?_
     refine h17 _ ?_; clear h17; try clear N17
     refine vc_ret ?_
     try simp only [k_rules]
     refine fin2_ ?_
     (repeat' apply And.intro) <;> (first | (first | rfl | trivial | (simp; done)) | exact cl_)
 ·cases hg
end Go.Proofs.YtlbjffdaooadoaaDoor
