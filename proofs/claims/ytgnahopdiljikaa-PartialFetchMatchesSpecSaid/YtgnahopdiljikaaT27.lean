/- Walks, printed by wip/gen/walk.py. -/
import Derived.Test.YtgnahopdiljikaaT26
import Derived.Test.YtgnahopdiljikaaV5
set_option linter.all false
set_option maxRecDepth 100000
set_option maxHeartbeats 4000000
namespace Go.Proofs.Ytgnahopdiljikaa
open Go Go.Vc Go.RowKit
theorem st_ext {A B : List SO} (ha : (dgs A).Pairwise (· < ·)) (hb : (dgs B).Pairwise (· < ·)) (h : ∀ x, x ∈ A ↔ x ∈ B) : A = B := by
  induction A generalizing B with
  | nil =>
    cases B with
    | nil => rfl
    | cons b B => exact absurd ((h b).2 (by simp)) (by simp)
  | cons a A ih =>
    cases B with
    | nil => exact absurd ((h a).1 (by simp)) (by simp)
    | cons b B =>
      unfold dgs at ha hb
      rw [List.map_cons, List.pairwise_cons] at ha hb
      have hA : ∀ x ∈ A, a.dg < x.dg := fun x hx => ha.1 _ (List.mem_map.2 ⟨x, hx, rfl⟩)
      have hB : ∀ x ∈ B, b.dg < x.dg := fun x hx => hb.1 _ (List.mem_map.2 ⟨x, hx, rfl⟩)
      have e : a = b := by
        rcases List.mem_cons.1 ((h a).1 (by simp)) with e | h1
        · exact e
        · rcases List.mem_cons.1 ((h b).2 (by simp)) with e | h2
          · exact e.symm
          · have h3 := hA b h2; have h4 := hB a h1; omega
      subst e
      rw [ih ha.2 hb.2 fun x => ?_]
      constructor
      · intro hx
        rcases List.mem_cons.1 ((h x).1 (by simp [hx])) with e | h1
        · subst e; have := hA x hx; omega
        · exact h1
      · intro hx
        rcases List.mem_cons.1 ((h x).2 (by simp [hx])) with e | h1
        · subst e; have := hB x hx; omega
        · exact h1
theorem fS_mem {S Rm : List SO} {W : List Int} {k : Nat} (hk : k ≤ W.length) (y : SO) : y ∈ fS S Rm W k ↔ y ∈ S ∨ ∃ d ∈ W.take k, y = getS Rm d := by
  induction k with
  | zero => simp [fS]
  | succ k ih =>
    obtain ⟨d, hd⟩ : ∃ d, W[k]? = some d := ⟨_, List.getElem?_eq_getElem (by omega)⟩
    show y ∈ addS (fS S Rm W k) (getS Rm (W.getD k 0)) ↔ _
    rw [addS_mem, ih (by omega), getD_at hd, List.take_add_one, hd]
    simp only [Option.toList_some, List.mem_append, List.mem_singleton]
    constructor
    · rintro (h | h | ⟨e, h1, h2⟩)
      · exact .inr ⟨d, .inr rfl, h⟩
      · exact .inl h
      · exact .inr ⟨e, .inl h1, h2⟩
    · rintro (h | ⟨e, h1 | h1, h2⟩)
      · exact .inr (.inl h)
      · exact .inr (.inr ⟨e, h1, h2⟩)
      · subst h1; exact .inl h2
theorem nodup_take {W : List Int} : (∀ i x, W[i]? = some x → x ∉ W.take i) ↔ W.Nodup := by
  constructor
  · intro h
    rw [List.nodup_iff_pairwise_ne, List.pairwise_iff_getElem]
    intro i j hi hj hij e
    refine h j W[j] (List.getElem?_eq_getElem hj) ?_
    rw [← e]
    exact List.mem_of_getElem? (i := i) (by rw [List.getElem?_take_of_lt hij, List.getElem?_eq_getElem hi])
  · intro h i x hx hm
    obtain ⟨j, hj⟩ := List.getElem?_of_mem hm
    rw [List.getElem?_take] at hj
    split at hj
    · rename_i hji
      rw [List.nodup_iff_pairwise_ne, List.pairwise_iff_getElem] at h
      obtain ⟨h1, e1⟩ := List.getElem?_eq_some_iff.1 hj
      obtain ⟨h2, e2⟩ := List.getElem?_eq_some_iff.1 hx
      exact h j i h1 h2 hji (by rw [e1, e2])
    · cases hj
theorem fC_all {S : List SO} {P : List Int} {Rm : List SO} {W : List Int} : (fetW S P Rm W).1 = 0 ↔ W.Nodup ∧ (∀ d ∈ W, d ∈ P ∧ inS Rm d = true) ∧ (W = [] ∨ S.length + W.length ≤ 40) := by
  rw [← nodup_take]
  constructor
  · intro h
    have hz := firstF_zero h
    have key : ∀ i x, W[i]? = some x → (x ∈ P ∧ x ∉ W.take i) ∧ inS Rm x = true ∧ S.length + i < 40 := fun i x hx => (fC_zero hx).1 (hz i (List.getElem?_eq_some_iff.1 hx).1)
    refine ⟨fun i x hx => (key i x hx).1.2, fun d hd => ?_, ?_⟩
    · obtain ⟨i, hi⟩ := List.getElem?_of_mem hd
      exact ⟨(key i d hi).1.1, (key i d hi).2.1⟩
    · cases W with
      | nil => exact .inl rfl
      | cons a W =>
        right
        have := (key W.length _ (List.getElem?_eq_getElem (by simp))).2.2
        rw [List.length_cons]; omega
  · rintro ⟨h1, h2, h3⟩
    have : fetW S P Rm W = (0, 0) := firstF_ok fun j hj => by
      obtain ⟨d, hd⟩ : ∃ d, W[j]? = some d := ⟨_, List.getElem?_eq_getElem hj⟩
      refine (fC_zero hd).2 ⟨⟨(h2 d (List.mem_of_getElem? hd)).1, h1 j d hd⟩, (h2 d (List.mem_of_getElem? hd)).2, ?_⟩
      rcases h3 with rfl | h3
      · simp at hj
      · omega
    rw [this]
theorem fetW_inv {S : List SO} {P : List Int} {Rm : List SO} {W : List Int} (hp : ValP S P) (hr : ValS Rm) (h : (fetW S P Rm W).1 = 0) : fetW S P Rm W = (0, 0) ∧ InvF S P Rm W W.length := by
  have hz := firstF_zero h
  refine ⟨firstF_ok hz, ?_⟩
  have : ∀ k, k ≤ W.length → InvF S P Rm W k := fun k => by
    induction k with
    | zero => intro _; exact InvF.zero hp.st Rm W
    | succ k ih =>
      intro hk
      obtain ⟨d, hd⟩ : ∃ d, W[k]? = some d := ⟨_, List.getElem?_eq_getElem (by omega)⟩
      obtain ⟨⟨g1, g2⟩, g3, g4⟩ := (fC_zero hd).1 (hz k (by omega))
      exact (ih (by omega)).go hp hr hd g1 g2 g3 g4
  exact this _ (Nat.le_refl _)
theorem fet_rev {S : List SO} {P : List Int} {Rm : List SO} (hp : ValP S P) (hr : ValS Rm) (W : List Int) : decide ((fetF S P Rm W).1 = 0) = decide ((fetF S P Rm W.reverse).1 = 0) ∧ fetS S P Rm W = fetS S P Rm W.reverse ∧ fetL S P Rm W = fetL S P Rm W.reverse := by
  by_cases h40 : 40 < W.length
  · have e : ∀ V : List Int, V.length = W.length → fetF S P Rm V = (2, -1) := fun V hV => by
      unfold fetF; rw [proF_of hp, stF_of hr, if_neg (by simp), if_neg (by simp), if_pos (by omega)]
    have e1 := e W rfl; have e2 := e W.reverse (by simp)
    unfold fetS fetL
    rw [e1, e2]
    exact ⟨rfl, rfl, rfl⟩
  · have e : ∀ V : List Int, V.length = W.length → fetF S P Rm V = fetW S P Rm V := fun V hV => fetF_is hp hr (by omega)
    have e1 := e W rfl; have e2 := e W.reverse (by simp)
    have hiff : (fetW S P Rm W).1 = 0 ↔ (fetW S P Rm W.reverse).1 = 0 := by
      rw [fC_all, fC_all, (List.reverse_perm W).nodup_iff, List.length_reverse, List.reverse_eq_nil_iff]
      simp only [List.mem_reverse]
    unfold fetS fetL
    rw [e1, e2]
    refine ⟨decide_eq_decide.2 hiff, ?_⟩
    by_cases h0 : (fetW S P Rm W).1 = 0
    · have h0' := hiff.1 h0
      obtain ⟨_, i1⟩ := fetW_inv hp hr h0
      obtain ⟨_, i2⟩ := fetW_inv hp hr h0'
      rw [if_neg (by simpa using h0), if_neg (by simpa using h0'), if_neg (by simpa using h0), if_neg (by simpa using h0')]
      refine ⟨st_ext i1.val.sort i2.val.sort fun y => ?_, ?_⟩
      · rw [fS_mem (Nat.le_refl _), fS_mem (Nat.le_refl _), List.take_length, List.take_length]
        simp only [List.mem_reverse]
      · rw [fL_all, fL_all]; simp only [List.mem_reverse]
    · have h0' : ¬ (fetW S P Rm W.reverse).1 = 0 := fun h => h0 (hiff.2 h)
      rw [if_pos h0, if_pos h0', if_pos h0, if_pos h0']
      exact ⟨rfl, rfl⟩
/-- The two parts of a store. -/
def sml (S : List SO) (L : Int) : List SO := S.filter fun x => !big L x
def bgs (S : List SO) (L : Int) : List Int := dgs (S.filter (big L))
theorem bgs_mem {S : List SO} {L d : Int} : d ∈ bgs S L ↔ ∃ y ∈ S, big L y = true ∧ y.dg = d := by
  unfold bgs dgs; rw [List.mem_map]
  constructor
  · rintro ⟨y, hy, rfl⟩; exact ⟨y, (List.mem_filter.1 hy).1, (List.mem_filter.1 hy).2, rfl⟩
  · rintro ⟨y, h1, h2, rfl⟩; exact ⟨y, List.mem_filter.2 ⟨h1, h2⟩, rfl⟩
theorem sml_mem {S : List SO} {L : Int} {y : SO} : y ∈ sml S L ↔ y ∈ S ∧ big L y = false := by unfold sml; rw [List.mem_filter]; simp
theorem part_len (S : List SO) (L : Int) : (sml S L).length + (bgs S L).length = S.length := by
  unfold sml bgs; rw [dgs_len]
  induction S with
  | nil => rfl
  | cons a S ih =>
    cases h : big L a
    · rw [List.filter_cons_of_pos (by simp [h]), List.filter_cons_of_neg (by simp [h])]; simp only [List.length_cons]; omega
    · rw [List.filter_cons_of_neg (by simp [h]), List.filter_cons_of_pos (by simp [h])]; simp only [List.length_cons]; omega
theorem valS_filter {S : List SO} (hv : ValS S) (f : SO → Bool) : ValS (S.filter f) where
  len := Nat.le_trans (List.length_filter_le ..) hv.len
  ok x hx := hv.ok x (List.mem_filter.1 hx).1
  dg x hx := hv.dg x (List.mem_filter.1 hx).1
  sort := hv.sort.sublist (List.Sublist.map SO.dg (List.filter_sublist))
theorem valP_part {S : List SO} (hv : ValS S) (L : Int) : ValP (sml S L) (bgs S L) where
  st := valS_filter hv _
  len := by have := part_len S L; have := hv.len; omega
  rng x hx := by
    obtain ⟨y, h1, _, rfl⟩ := bgs_mem.1 hx
    rw [← hv.dg y h1]; exact objD_rng _
  sort := (valS_filter hv (big L)).sort
  apart x hx hm := by
    obtain ⟨y, h1, h2, h3⟩ := bgs_mem.1 hx
    obtain ⟨z, h4, h5⟩ := List.mem_map.1 hm
    obtain ⟨h6, h7⟩ := sml_mem.1 h4
    have : z = y := dg_uni hv.sort h6 h1 (by omega)
    subst this; rw [h2] at h7; cases h7
theorem fet_back {S : List SO} (hv : ValS S) (L : Int) : fetF (sml S L) (bgs S L) S (bgs S L) = (0, 0) ∧ fetS (sml S L) (bgs S L) S (bgs S L) = S ∧ fetL (sml S L) (bgs S L) S (bgs S L) = [] := by
  have hp := valP_part hv L
  have hpl := part_len S L
  have hl := hv.len
  have h0 : (fetW (sml S L) (bgs S L) S (bgs S L)).1 = 0 := fC_all.2 ⟨hp.sort.imp (fun h => Int.ne_of_lt h), fun d hd => ⟨hd, by
    obtain ⟨y, h1, _, h3⟩ := bgs_mem.1 hd
    exact decide_eq_true (List.mem_map.2 ⟨y, h1, h3⟩)⟩, .inr (by omega)⟩
  obtain ⟨h1, hi⟩ := fetW_inv hp hv h0
  have hf : fetF (sml S L) (bgs S L) S (bgs S L) = (0, 0) := by rw [fetF_is hp hv hp.len, h1]
  unfold fetS fetL
  rw [hf, if_neg (by simp), if_neg (by simp)]
  refine ⟨rfl, st_ext hi.val.sort hv.sort fun y => ?_, ?_⟩
  · rw [fS_mem (Nat.le_refl _), List.take_length, sml_mem]
    have key : ∀ z, z ∈ S → getS S z.dg = z := fun z hz => by
      obtain ⟨w, w1, w2, w3, _⟩ := getS_at hv (decide_eq_true (List.mem_map.2 ⟨z, hz, rfl⟩) : inS S z.dg = true)
      rw [w3]; exact dg_uni hv.sort (mem_at w1) hz w2
    constructor
    · rintro (h | ⟨d, hd, rfl⟩)
      · exact h.1
      · obtain ⟨z, z1, _, rfl⟩ := bgs_mem.1 hd
        rw [key z z1]; exact z1
    · intro hy
      cases hb : big L y with
      | false => exact .inl ⟨hy, rfl⟩
      | true => exact .inr ⟨y.dg, bgs_mem.2 ⟨y, hy, hb, rfl⟩, (key y hy).symm⟩
  · rw [fL_all, List.filter_eq_nil_iff]
    intro x hx; simp [hx]
theorem big_links {S : List SO} (hv : ValS S) {L : Int} {y : SO} (hy : y ∈ S) {d : Int} (hd : d ∈ y.ob.ln) : y ∈ sml S L := by
  refine sml_mem.2 ⟨hy, ?_⟩
  unfold big
  rw [Bool.and_eq_false_iff]; left
  refine decide_eq_false fun hk => ?_
  have := (hv.ok y hy).blob hk
  rw [this] at hd; cases hd
theorem rch_part {S : List SO} (hv : ValS S) (L : Int) {R : List Int} {d : Int} (h : Rch S R d) : d ∈ dgs (sml S L) → Rch (sml S L) R d := by
  induction h with
  | root h1 _ => intro hm; exact .root h1 hm
  | step h1 h2 h3 _ ih =>
    intro hm
    have hT := big_links (L := L) hv h1 h3
    exact .step hT (ih (List.mem_map.2 ⟨_, hT, rfl⟩)) h3 hm
theorem dgs_sub {S : List SO} {L d : Int} (h : d ∈ dgs (sml S L)) : d ∈ dgs S := by
  obtain ⟨y, h1, h2⟩ := List.mem_map.1 h
  exact List.mem_map.2 ⟨y, (sml_mem.1 h1).1, h2⟩
theorem rch_whole {S : List SO} {L : Int} {R : List Int} {d : Int} (h : Rch (sml S L) R d) : Rch S R d := by
  induction h with
  | root h1 h2 => exact .root h1 (dgs_sub h2)
  | step h1 _ h3 h4 ih => exact .step (sml_mem.1 h1).1 ih h3 (dgs_sub h4)
theorem ned_reach {S : List SO} (hv : ValS S) (L : Int) (R : List Int) : nedL (sml S L) (bgs S L) R = (sortI (keysM (reachM S R))).filter fun x => decide (x ∈ bgs S L) := by
  have hp := valP_part hv L
  have hs := reach_set R hv
  refine sorted_ext (nedL_sort hp.sort R) ((sortI_sort hs.1.nd).filter _) fun x => ?_
  rw [nedL_mem hp.st, List.mem_filter, sortI_mem, hs.2, decide_eq_true_eq]
  constructor
  · rintro ⟨hx, hc⟩
    obtain ⟨y, y1, _, y3⟩ := bgs_mem.1 hx
    have hxd : x ∈ dgs S := List.mem_map.2 ⟨y, y1, y3⟩
    refine ⟨?_, hx⟩
    rcases hc with h | ⟨z, z1, z2, z3⟩
    · exact .root h hxd
    · exact .step (sml_mem.1 z1).1 (rch_whole z2) z3 hxd
  · rintro ⟨hr, hx⟩
    refine ⟨hx, ?_⟩
    cases hr with
    | root h1 _ => exact .inl h1
    | step h1 h2 h3 _ =>
      have hT := big_links (L := L) hv h1 h3
      exact .inr ⟨_, hT, rch_part hv L h2 (List.mem_map.2 ⟨_, hT, rfl⟩), h3⟩
/-- The marks of what is kept. -/
def bz (S : List SO) (L : Int) : List Bool := S.map fun x => !big L x
theorem bz_len (S : List SO) (L : Int) : (bz S L).length = S.length := List.length_map ..
theorem chs_map (S : List SO) (f : SO → Bool) (w : Bool) : chs S (S.map f) w = S.filter fun x => decide (f x = w) := by
  unfold chs
  induction S with
  | nil => rfl
  | cons a S ih =>
    rw [List.map_cons, List.zip_cons_cons]
    by_cases h : f a = w
    · rw [List.filter_cons_of_pos (by simpa using h), List.filter_cons_of_pos (by simpa using h), List.map_cons, ih]
    · rw [List.filter_cons_of_neg (by simpa using h), List.filter_cons_of_neg (by simpa using h), ih]
theorem chs_t (S : List SO) (L : Int) : chs S (bz S L) true = sml S L := by
  unfold bz sml; rw [chs_map]; exact List.filter_congr fun x _ => by cases big L x <;> rfl
theorem chs_f (S : List SO) (L : Int) : dgs (chs S (bz S L) false) = bgs S L := by
  unfold bz bgs; rw [chs_map]; congr 1; exact List.filter_congr fun x _ => by cases big L x <;> rfl
theorem chs_f' (S : List SO) (L : Int) : chs S (bz S L) false = S.filter (big L) := by
  unfold bz; rw [chs_map]; exact List.filter_congr fun x _ => by cases big L x <;> rfl
theorem bz_step {S : List SO} {L : Int} {b : List Bool} {i : Nat} {x : SO} (hb : b.length = S.length) (hx : S[i]? = some x) (h : ∀ j y, j < i → S[j]? = some y → b[j]? = some (!big L y)) : ∀ j y, j < i + 1 → S[j]? = some y → (b.set i (!big L x))[j]? = some (!big L y) := fun j y hj hy => by
  have hl := (List.getElem?_eq_some_iff.1 hx).1
  rw [List.getElem?_set]
  split
  · rename_i e; subst e
    rw [hx] at hy; cases hy
    rw [if_pos (by omega)]
  · exact h j y (by omega) hy
theorem bz_all {S : List SO} {L : Int} {b : List Bool} (hb : b.length = S.length) (h : ∀ j y, j < S.length → S[j]? = some y → b[j]? = some (!big L y)) : b = bz S L := by
  apply List.ext_getElem?
  intro j
  unfold bz
  by_cases hj : j < S.length
  · obtain ⟨y, hy⟩ : ∃ y, S[j]? = some y := ⟨_, List.getElem?_eq_getElem hj⟩
    rw [h j y hj hy, List.getElem?_map, hy]; rfl
  · rw [List.getElem?_eq_none (by omega), List.getElem?_eq_none (by rw [List.length_map]; omega)]
theorem small_filter {S : List SO} (h : smallS S) (f : SO → Bool) : smallS (S.filter f) := fun x hx => h x (List.mem_filter.1 hx).1
theorem small_nil : smallS [] := fun x hx => by cases hx
theorem fil_or (S : List SO) (L : Int) : ((stF S).1 ≠ 0 ∧ filF S L = stF S ∧ filS S L = [] ∧ filP S L = []) ∨
    (stF S = (0, 0) ∧ (decide (0 ≤ L) && decide (L ≤ 1000)) = false ∧ filF S L = (3, -1) ∧ filS S L = [] ∧ filP S L = []) ∨
    (stF S = (0, 0) ∧ ValS S ∧ (decide (0 ≤ L) && decide (L ≤ 1000)) = true ∧ filF S L = (0, 0) ∧ filS S L = sml S L ∧ filP S L = bgs S L) := by
  rcases stF_or S with ⟨h, hv⟩ | h
  · by_cases hL : L < 0 ∨ 1000 < L
    · have hf : filF S L = (3, -1) := by unfold filF; rw [h, if_neg (by simp), if_pos hL]
      refine .inr (.inl ⟨h, ?_, hf, by unfold filS; rw [hf]; rfl, by unfold filP; rw [hf]; rfl⟩)
      rw [Bool.and_eq_false_iff]
      rcases hL with h1 | h1
      · exact .inl (decide_eq_false (by omega))
      · exact .inr (decide_eq_false (by omega))
    · have hf : filF S L = (0, 0) := by unfold filF; rw [h, if_neg (by simp), if_neg hL]
      refine .inr (.inr ⟨h, hv, ?_, hf, by unfold filS; rw [hf]; rfl, by unfold filP; rw [hf]; rfl⟩)
      rw [Bool.and_eq_true]
      exact ⟨decide_eq_true (by omega), decide_eq_true (by omega)⟩
  · have hf : filF S L = stF S := by unfold filF; rw [if_pos h]
    exact .inl ⟨h, hf, by unfold filS; rw [hf, if_pos h], by unfold filP; rw [hf, if_pos h]⟩
theorem ned_or (S : List SO) (P R : List Int) : ((proF S P).1 ≠ 0 ∧ needF S P R = proF S P ∧ needR S P R = []) ∨ (proF S P = (0, 0) ∧ ValP S P ∧ 40 < R.length ∧ needF S P R = (2, -1) ∧ needR S P R = []) ∨
    (proF S P = (0, 0) ∧ ValP S P ∧ R.length ≤ 40 ∧ nedOk S P R = false ∧ needF S P R = (6, -1) ∧ needR S P R = []) ∨ (proF S P = (0, 0) ∧ ValP S P ∧ R.length ≤ 40 ∧ nedOk S P R = true ∧ needF S P R = (0, 0) ∧ needR S P R = nedL S P R) := by
  rcases proF_or S P with ⟨h, hv⟩ | h
  · right
    by_cases hR : 40 < R.length
    · have hf : needF S P R = (2, -1) := by unfold needF; rw [h, if_neg (by simp), if_pos hR]
      exact .inl ⟨h, hv, hR, hf, by unfold needR; rw [hf]; rfl⟩
    · right
      cases ho : nedOk S P R with
      | false =>
        have hf : needF S P R = (6, -1) := by unfold needF; rw [h, if_neg (by simp), if_neg hR, ho]; rfl
        exact .inl ⟨h, hv, by omega, rfl, hf, by unfold needR; rw [hf]; rfl⟩
      | true =>
        have hf : needF S P R = (0, 0) := by unfold needF; rw [h, if_neg (by simp), if_neg hR, ho]; rfl
        exact .inr ⟨h, hv, by omega, rfl, hf, by unfold needR; rw [hf]; rfl⟩
  · have hf : needF S P R = proF S P := by unfold needF; rw [if_pos h]
    exact .inl ⟨h, hf, by unfold needR; rw [hf, if_pos h]⟩
theorem fet_or (S : List SO) (P : List Int) (Rm : List SO) (W : List Int) : ((proF S P).1 ≠ 0 ∧ fetF S P Rm W = proF S P ∧ fetS S P Rm W = [] ∧ fetL S P Rm W = []) ∨
    (proF S P = (0, 0) ∧ (stF Rm).1 ≠ 0 ∧ fetF S P Rm W = ((stF Rm).1, -1) ∧ fetS S P Rm W = [] ∧ fetL S P Rm W = []) ∨
    (proF S P = (0, 0) ∧ stF Rm = (0, 0) ∧ 40 < W.length ∧ fetF S P Rm W = (2, -1) ∧ fetS S P Rm W = [] ∧ fetL S P Rm W = []) ∨
    (proF S P = (0, 0) ∧ stF Rm = (0, 0) ∧ ValP S P ∧ ValS Rm ∧ W.length ≤ 40 ∧ (fetW S P Rm W).1 ≠ 0 ∧ fetF S P Rm W = fetW S P Rm W ∧ fetS S P Rm W = [] ∧ fetL S P Rm W = []) ∨
    (proF S P = (0, 0) ∧ stF Rm = (0, 0) ∧ ValP S P ∧ ValS Rm ∧ W.length ≤ 40 ∧ fetW S P Rm W = (0, 0) ∧ fetF S P Rm W = (0, 0) ∧ ValS (fetS S P Rm W) ∧ (fetL S P Rm W).length ≤ 40) := by
  have bad : ∀ {f : Int × Int}, fetF S P Rm W = f → f.1 ≠ 0 → fetS S P Rm W = [] ∧ fetL S P Rm W = [] := fun h h0 => by
    unfold fetS fetL; rw [h, if_pos h0, if_pos h0]; exact ⟨rfl, rfl⟩
  rcases proF_or S P with ⟨h, hp⟩ | h
  · right
    rcases stF_or Rm with ⟨hr, hv⟩ | hr
    · right
      by_cases hW : 40 < W.length
      · have hf : fetF S P Rm W = (2, -1) := by unfold fetF; rw [h, hr, if_neg (by simp), if_neg (by simp), if_pos hW]
        exact .inl ⟨h, hr, hW, hf, bad hf (by decide)⟩
      · right
        have hf := fetF_is hp hv (W := W) (by omega)
        by_cases h0 : (fetW S P Rm W).1 = 0
        · obtain ⟨h1, hi⟩ := fetW_inv hp hv h0
          refine .inr ⟨h, hr, hp, hv, by omega, h1, by rw [hf, h1], ?_, ?_⟩
          · unfold fetS; rw [hf, h1, if_neg (by simp)]; exact hi.val
          · unfold fetL; rw [hf, h1, if_neg (by simp)]; exact Nat.le_trans (fL_len ..) hp.len
        · exact .inl ⟨h, hr, hp, hv, by omega, h0, hf, bad hf h0⟩
    · have hf : fetF S P Rm W = ((stF Rm).1, -1) := by unfold fetF; rw [h, if_neg (by simp), if_pos hr]
      exact .inl ⟨h, hr, hf, bad hf hr⟩
  · have hf : fetF S P Rm W = proF S P := by unfold fetF; rw [if_pos h]
    exact .inl ⟨h, hf, bad hf h⟩
theorem fet_fit (S : List SO) (P : List Int) (Rm : List SO) (W : List Int) : smallS (fetS S P Rm W) ∧ (fetS S P Rm W).length ≤ 9223372036854775807 ∧ (fetL S P Rm W).length ≤ 9223372036854775807 := by
  rcases fet_or S P Rm W with ⟨_, _, h1, h2⟩ | ⟨_, _, _, h1, h2⟩ | ⟨_, _, _, _, h1, h2⟩ | ⟨_, _, _, _, _, _, _, h1, h2⟩ | ⟨_, _, _, _, _, _, _, h1, h2⟩
  · rw [h1, h2]; exact ⟨small_nil, by simp, by simp⟩
  · rw [h1, h2]; exact ⟨small_nil, by simp, by simp⟩
  · rw [h1, h2]; exact ⟨small_nil, by simp, by simp⟩
  · rw [h1, h2]; exact ⟨small_nil, by simp, by simp⟩
  · exact ⟨small_of h1, Nat.le_trans h1.len (by decide), Nat.le_trans h2 (by decide)⟩
def lawFG : List AV → Option (Prop × AV)
  | [.agg [.d (.sl xs)], .d (.int .i64 n)] => some (xs = rows eO (dO xs) ∧ (dO xs).length ≤ 9223372036854775807 ∧ smallS (dO xs) ∧ inI64 n, .d (.bool true))
  | _ => none
def lawFWG : List AV → Option (Prop × AV)
  | [.agg [.d (.sl xs)], .d (.int .i64 n), .d (.sl ws)] => some (xs = rows eO (dO xs) ∧ (dO xs).length ≤ 9223372036854775807 ∧ smallS (dO xs) ∧ inI64 n ∧ ws = rows eI (dI ws) ∧ (dI ws).length ≤ 17592186043904, .d (.bool true))
  | _ => none
def lawNG : List AV → Option (Prop × AV)
  | [.agg [.d (.sl xs)], .d (.sl ps), .d (.sl rs)] => some (xs = rows eO (dO xs) ∧ (dO xs).length ≤ 9223372036854775807 ∧ smallS (dO xs) ∧ ps = rows eI (dI ps) ∧ (dI ps).length ≤ 9223372036854775807 ∧ rs = rows eI (dI rs) ∧ (dI rs).length ≤ 9223372036854775807, .d (.bool true))
  | _ => none
def lawTG : List AV → Option (Prop × AV)
  | [.agg [.d (.sl xs)], .d (.sl ps), .agg [.d (.sl ys)], .d (.sl ws)] => some (xs = rows eO (dO xs) ∧ (dO xs).length ≤ 9223372036854775807 ∧ smallS (dO xs) ∧ ps = rows eI (dI ps) ∧ (dI ps).length ≤ 9223372036854775807 ∧ ys = rows eO (dO ys) ∧ (dO ys).length ≤ 9223372036854775807 ∧ smallS (dO ys) ∧ ws = rows eI (dI ws) ∧ (dI ws).length ≤ 9223372036854775807, .d (.bool true))
  | _ => none
theorem rev_at {W : List Int} {k : Nat} {i : Int} {x : Int} (hi : i = (W.length : Int) - 1 - (k : Int)) (h0 : 0 ≤ i) (hx : W[i.toNat]? = some x) : W.reverse.take (k + 1) = W.reverse.take k ++ [x] := by
  have hk : k < W.length := by omega
  have : W.reverse[k]? = some x := by rw [List.getElem?_reverse hk, show W.length - 1 - k = i.toNat by omega]; exact hx
  rw [List.take_add_one, this]; rfl
theorem rev_all (W : List Int) : W.reverse.take W.length = W.reverse := List.take_of_length_le (by simp)
theorem reach_or (S : List SO) (n : Int) (R : List Int) : ((filF S n).1 ≠ 0 ∧ filS S n = [] ∧ filP S n = []) ∨ (filF S n = (0, 0) ∧ ValS S ∧ filS S n = sml S n ∧ filP S n = bgs S n ∧ 40 < R.length) ∨
    (filF S n = (0, 0) ∧ ValS S ∧ filS S n = sml S n ∧ filP S n = bgs S n ∧ R.length ≤ 40 ∧ needF (sml S n) (bgs S n) R = (6, -1) ∧ needR (sml S n) (bgs S n) R = [] ∧ markF S R = (0, 0)) ∨
    (filF S n = (0, 0) ∧ ValS S ∧ filS S n = sml S n ∧ filP S n = bgs S n ∧ R.length ≤ 40 ∧ needF (sml S n) (bgs S n) R = (0, 0) ∧ (∃ M : List Int, M.length ≤ 40 ∧ markR S R = M ∧ needR (sml S n) (bgs S n) R = M.filter fun x => decide (x ∈ bgs S n)) ∧ markF S R = (0, 0)) := by
  rcases fil_or S n with ⟨h, h1, h2, h3⟩ | ⟨_, _, h1, h2, h3⟩ | ⟨h, hv, _, h1, h2, h3⟩
  · exact .inl ⟨by rw [h1]; exact h, h2, h3⟩
  · exact .inl ⟨by rw [h1]; decide, h2, h3⟩
  · right
    by_cases hR : 40 < R.length
    · exact .inl ⟨h1, hv, h2, h3, hR⟩
    · right
      have hm : markF S R = (0, 0) := by unfold markF; rw [h, if_neg (by simp), if_neg (by omega)]
      have hp := valP_part hv n
      rcases ned_or (sml S n) (bgs S n) R with ⟨g, _⟩ | ⟨_, _, g, _⟩ | ⟨_, _, _, _, g1, g2⟩ | ⟨_, _, _, _, g1, g2⟩
      · rw [proF_of hp] at g; exact absurd rfl g
      · omega
      · exact .inl ⟨h1, hv, h2, h3, by omega, g1, g2, hm⟩
      · refine .inr ⟨h1, hv, h2, h3, by omega, g1, ⟨_, ?_, rfl, ?_⟩, hm⟩
        · unfold markR
          rw [hm, if_neg (by simp), sortI_len]
          have hs := reach_set R hv
          refine Nat.le_trans (nodup_le (m := dgs S) hs.1.nd fun x hx => ((hs.2 x).1 hx).mem) ?_
          rw [dgs_len]; exact hv.len
        · rw [g2, ned_reach hv]; unfold markR; rw [hm, if_neg (by simp)]
end Go.Proofs.Ytgnahopdiljikaa
