/- Walks, printed by wip/gen/walk.py. -/
import Derived.Test.YtlbjffdaooadoaaDoorT57
import Derived.Test.YtlbjffdaooadoaaDoorV5
set_option linter.all false
set_option maxRecDepth 100000
set_option maxHeartbeats 4000000
namespace Go.Proofs.YtlbjffdaooadoaaDoor
open Go Go.Vc Go.RowKit
theorem val_code {q : List Nd} (h : valQ q ≠ (0, 0)) : (valQ q).1 ≠ 0 := by
  intro h0
  unfold valQ at h h0
  split at h
  · rename_i h1; rw [if_pos h1] at h0; exact absurd h0 (by decide)
  · rename_i h1
    rw [if_neg h1] at h0
    split at h
    · rename_i h2; rw [if_pos h2] at h0; exact h2 h0
    · rename_i h2
      rw [if_neg h2] at h0
      split at h
      · rename_i h3; rw [if_pos h3] at h0; exact absurd h0 (by decide)
      · exact h rfl

def shN (m : Nat) (n : Nd) : Nd := ⟨n.kd, n.nm, if 1 ≤ ar n.kd then n.lf + m else n.lf, if ar n.kd = 2 then n.rt + m else n.rt⟩
def jnK (l r : List Nd) (i : Nat) : List Nd := l ++ (r.take i).map (shN l.length)
def jnQ (k : Int) (l r : List Nd) : List Nd := jnK l r r.length ++ [⟨k, 0, (l.length : Int) - 1, (l.length : Int) + r.length - 1⟩]
def wrQ (k : Int) (l : List Nd) : List Nd := l ++ [⟨k, 0, (l.length : Int) - 1, 0⟩]

theorem val_iff {q : List Nd} : valQ q = (0, 0) ↔ 1 ≤ q.length ∧ q.length ≤ 40 ∧ (∀ j, j < q.length → qC q j = 0) ∧ (rts q q.length).length = 1 := by
  constructor
  · intro h
    unfold valQ at h
    split at h
    · cases h
    · rename_i h1
      split at h
      · rename_i h2; rw [h] at h2; exact absurd rfl h2
      · rename_i h2
        split at h
        · cases h
        · rename_i h3
          exact ⟨by omega, by omega, fun j hj => firstF_zero (f := qC q) (g := iI) (n := q.length) (by omega) j hj, by omega⟩
  · rintro ⟨h1, h2, h3, h4⟩
    rw [valQ_end h1 h2 h3, if_neg (by omega)]
theorem getD_l {a r : List Nd} {i : Nat} (h : i < a.length) : (a ++ r).getD i default = a.getD i default := by
  rw [List.getD_eq_getElem?_getD, List.getD_eq_getElem?_getD, List.getElem?_append_left h]
theorem rts_l {a r : List Nd} : ∀ {i : Nat}, i ≤ a.length → rts (a ++ r) i = rts a i
  | 0, _ => rfl
  | i + 1, h => by
    show (rts (a ++ r) i).take _ ++ _ = (rts a i).take _ ++ _
    rw [rts_l (by omega), getD_l (by omega)]
theorem qC_l {a r : List Nd} {i : Nat} (h : i < a.length) : qC (a ++ r) i = qC a i := by unfold qC; rw [getD_l h, rts_l (by omega)]
theorem rts_root {a : List Nd} (h : valQ a = (0, 0)) : rts a a.length = [(a.length : Int) - 1] := by
  obtain ⟨h1, h2, h3, h4⟩ := val_iff.1 h
  obtain ⟨n, hn⟩ : ∃ n, a.length = n + 1 := ⟨a.length - 1, by omega⟩
  rw [hn] at h4 ⊢
  have e : rts a (n + 1) = (rts a n).take ((rts a n).length - ar (a.getD n default).kd) ++ [(n : Int)] := rfl
  rw [e] at h4 ⊢
  have : (rts a n).take ((rts a n).length - ar (a.getD n default).kd) = [] := List.eq_nil_of_length_eq_zero (by rw [List.length_append, List.length_singleton] at h4; omega)
  rw [this]; simp
theorem val_wr {k : Int} {a : List Nd} (h : valQ a = (0, 0)) (hk : 7 ≤ k ∧ k < 14) (hl : a.length < 40) : valQ (wrQ k a) = (0, 0) := by
  obtain ⟨h1, h2, h3, h4⟩ := val_iff.1 h
  have hr := rts_root h
  have hL : (wrQ k a).length = a.length + 1 := by simp [wrQ]
  have hx : (wrQ k a).getD a.length default = ⟨k, 0, (a.length : Int) - 1, 0⟩ := by unfold wrQ; simp
  have ha : ar k = 1 := by unfold ar; rw [if_neg (by omega), if_pos (by omega)]
  have hm : mostN k = 0 := by unfold mostN; rw [if_neg (by omega), if_neg (by omega), if_neg (by omega)]
  have hrt : rts (wrQ k a) a.length = [(a.length : Int) - 1] := by unfold wrQ; rw [rts_l (Nat.le_refl _), hr]
  refine val_iff.2 ⟨by omega, by omega, fun j hj => ?_, ?_⟩
  · by_cases hja : j < a.length
    · unfold wrQ; rw [qC_l hja]; exact h3 j hja
    · obtain rfl : j = a.length := by omega
      unfold qC
      rw [hx, hrt]
      unfold ndC
      dsimp only
      rw [ha, hm, if_neg (by omega), if_neg (by omega), if_neg (by simp), if_pos ⟨rfl, rfl⟩]
  · rw [hL]
    show ((rts (wrQ k a) a.length).take _ ++ _).length = 1
    rw [hx, hrt, ha]; rfl
theorem ar_sh (m : Nat) (x : Nd) : ar (shN m x).kd = ar x.kd := rfl
theorem jn_eq (k : Int) (a b : List Nd) : jnQ k a b = a ++ (b.map (shN a.length) ++ [⟨k, 0, (a.length : Int) - 1, (a.length : Int) + b.length - 1⟩]) := by
  unfold jnQ jnK; rw [List.take_length, List.append_assoc]
theorem jn_at (k : Int) {a b : List Nd} {i : Nat} (h : i < b.length) : (jnQ k a b).getD (a.length + i) default = shN a.length (b.getD i default) := by
  rw [jn_eq, List.getD_eq_getElem?_getD, List.getElem?_append_right (by omega), Nat.add_sub_cancel_left, List.getElem?_append_left (by rw [List.length_map]; exact h), List.getElem?_map, List.getD_eq_getElem?_getD]
  rw [List.getElem?_eq_getElem h]; rfl
theorem jn_last (k : Int) (a b : List Nd) : (jnQ k a b).getD (a.length + b.length) default = ⟨k, 0, (a.length : Int) - 1, (a.length : Int) + b.length - 1⟩ := by
  rw [jn_eq, List.getD_eq_getElem?_getD, List.getElem?_append_right (by omega), Nat.add_sub_cancel_left, List.getElem?_append_right (by rw [List.length_map]; exact Nat.le_refl _), List.length_map, Nat.sub_self]; rfl
theorem ndC_len2 {n : Nd} {l : List Int} (h : ndC n l = 0) : ar n.kd ≤ l.length := ndC_len h
theorem jn_rts {k : Int} {a b : List Nd} (ha : valQ a = (0, 0)) (hb : ∀ j, j < b.length → qC b j = 0) : ∀ {i : Nat}, i ≤ b.length → rts (jnQ k a b) (a.length + i) = ((a.length : Int) - 1) :: (rts b i).map (· + (a.length : Int))
  | 0, _ => by
    rw [Nat.add_zero, jn_eq, rts_l (Nat.le_refl _), rts_root ha]; rfl
  | i + 1, h => by
    have ih := jn_rts (k := k) ha hb (i := i) (by omega)
    have hc := ndC_len (hb i (by omega))
    show (rts (jnQ k a b) (a.length + i)).take ((rts (jnQ k a b) (a.length + i)).length - ar ((jnQ k a b).getD (a.length + i) default).kd) ++ [((a.length + i : Nat) : Int)] = ((a.length : Int) - 1) :: ((rts b i).take ((rts b i).length - ar (b.getD i default).kd) ++ [(i : Int)]).map (· + (a.length : Int))
    rw [ih, jn_at k (by omega), ar_sh]
    have e : (((a.length : Int) - 1) :: (rts b i).map (· + (a.length : Int))).length - ar (b.getD i default).kd = ((rts b i).length - ar (b.getD i default).kd) + 1 := by
      rw [List.length_cons, List.length_map]; omega
    rw [e, List.take_succ_cons, List.map_append, ← List.map_take]
    simp
    omega
theorem wnt_cons (x : Int) {l : List Int} {m : Nat} (h : m ≤ l.length) (k : Nat) : wnt (x :: l) m k = wnt l m k := by
  unfold wnt
  have e : (x :: l).length - m = (l.length - m) + 1 := by rw [List.length_cons]; omega
  rw [e, List.drop_succ_cons]
theorem wnt_map (l : List Int) (c : Int) {m k : Nat} (hm : m ≤ l.length) (h : k < m) : wnt (l.map (· + c)) m k = wnt l m k + c := by
  unfold wnt
  rw [List.length_map, ← List.map_drop]
  have hl : k < (l.drop (l.length - m)).length := by rw [List.length_drop]; omega
  rw [List.getD_eq_getElem?_getD, List.getD_eq_getElem?_getD, List.getElem?_map, List.getElem?_eq_getElem hl]; rfl
theorem jn_qC {x : Nd} {l : List Int} {y : Int} {m : Nat} (h : ndC x l = 0) : ndC (shN m x) (y :: l.map (· + (m : Int))) = 0 := by
  have hl := ndC_len h
  unfold ndC at h ⊢
  split at h
  · omega
  · rename_i c1
    split at h
    · omega
    · rename_i c2
      split at h
      · omega
      · split at h
        · rename_i c3 c4
          obtain ⟨c4, c5⟩ := c4
          have hkd : (shN m x).kd = x.kd := rfl
          have hnm : (shN m x).nm = x.nm := rfl
          rw [hkd, hnm, if_neg c1, if_neg c2, if_neg (by rw [List.length_cons, List.length_map]; omega), if_pos]
          rw [wnt_cons y (by rw [List.length_map]; exact hl), wnt_cons y (by rw [List.length_map]; exact hl)]
          rcases ar_or x.kd with ⟨_, ha⟩ | ⟨_, _, ha⟩ | ⟨_, ha⟩
          · rw [ha] at c4 c5 hl ⊢
            rw [wnt_out _ (by omega) (by omega)] at c4 c5
            rw [wnt_out _ (by rw [List.length_map]; omega) (by omega), wnt_out _ (by rw [List.length_map]; omega) (by omega)]
            unfold shN; dsimp only; rw [ha, if_neg (by omega), if_neg (by omega)]; exact ⟨c4, c5⟩
          · rw [ha] at c4 c5 hl ⊢
            rw [wnt_out _ hl (by omega)] at c5
            rw [wnt_map l (m : Int) (m := 1) (k := 0) hl (by omega), wnt_out (l.map (· + (m : Int))) (m := 1) (k := 1) (by rw [List.length_map]; exact hl) (by omega)]
            unfold shN; dsimp only; rw [ha, if_pos (by omega), if_neg (by omega), c4]; exact ⟨rfl, c5⟩
          · rw [ha] at c4 c5 hl ⊢
            rw [wnt_map _ _ hl (by omega), wnt_map _ _ hl (by omega)]
            unfold shN; dsimp only; rw [ha, if_pos (by omega), if_pos (by omega), c4, c5]; exact ⟨rfl, rfl⟩
        · cases h
theorem jn_len (k : Int) (a b : List Nd) : (jnQ k a b).length = a.length + b.length + 1 := by rw [jn_eq]; simp; omega
theorem val_jn {k : Int} {a b : List Nd} (ha : valQ a = (0, 0)) (hb : valQ b = (0, 0)) (hk : 14 ≤ k ∧ k ≤ 16) (hl : a.length + b.length < 40) : valQ (jnQ k a b) = (0, 0) := by
  obtain ⟨h1, h2, h3, h4⟩ := val_iff.1 ha
  obtain ⟨g1, g2, g3, g4⟩ := val_iff.1 hb
  have hL := jn_len k a b
  have hx := jn_last k a b
  have hk2 : ar k = 2 := by unfold ar; rw [if_pos (by omega)]
  have hm : mostN k = 0 := by unfold mostN; rw [if_neg (by omega), if_neg (by omega), if_neg (by omega)]
  have hrt : rts (jnQ k a b) (a.length + b.length) = [(a.length : Int) - 1, (b.length : Int) - 1 + a.length] := by
    rw [jn_rts ha g3 (Nat.le_refl _), rts_root hb]; rfl
  refine val_iff.2 ⟨by omega, by omega, fun j hj => ?_, ?_⟩
  · by_cases hja : j < a.length
    · rw [jn_eq, qC_l hja]; exact h3 j hja
    · by_cases hjb : j < a.length + b.length
      · obtain ⟨i, rfl⟩ : ∃ i, j = a.length + i := ⟨j - a.length, by omega⟩
        unfold qC
        rw [jn_at k (by omega), jn_rts ha g3 (by omega)]
        exact jn_qC (g3 i (by omega))
      · obtain rfl : j = a.length + b.length := by omega
        unfold qC
        rw [hx, hrt]
        unfold ndC
        dsimp only
        rw [hk2, hm, if_neg (by omega), if_neg (by omega), if_neg (by simp), if_pos]
        refine ⟨rfl, ?_⟩
        show (a.length : Int) + b.length - 1 = (b.length : Int) - 1 + a.length
        omega
  · rw [hL]
    show ((rts (jnQ k a b) (a.length + b.length)).take _ ++ _).length = 1
    rw [hx, hrt, hk2]; rfl
/-- What a valid query selects. -/
def rtV (l : List Cm) (q : List Nd) : List Bool := (setsQ l q q.length).getD (q.length - 1) []
theorem sets_l (l : List Cm) {a r : List Nd} : ∀ {i : Nat}, i ≤ a.length → setsQ l (a ++ r) i = setsQ l a i
  | 0, _ => rfl
  | i + 1, h => by
    show setsQ l (a ++ r) i ++ _ = setsQ l a i ++ _
    rw [sets_l l (by omega), getD_l (by omega)]
theorem rtV_len {l : List Cm} {q : List Nd} (h : valQ q = (0, 0)) : (rtV l q).length = l.length := by
  obtain ⟨hok, _⟩ := ok_of_val h
  have h1 := hok.1
  unfold rtV
  refine setsQ_all hok (Nat.le_refl _) _ (mem_at (i := q.length - 1) ?_)
  rw [List.getD_eq_getElem?_getD, List.getElem?_eq_getElem (by rw [setsQ_len]; omega)]; rfl
theorem ev_val {l : List Cm} {q : List Nd} (hl : histF l = (0, 0)) (h : valQ q = (0, 0)) : evV l q = (0, 0, rtV l q) := by
  unfold evV rtV; rw [if_neg (by rw [hl]; simp), if_neg (by rw [h]; simp)]
theorem snoc_get {α : Type} (S : List α) (x d : α) {n : Nat} (h : S.length = n) : (S ++ [x]).getD n d = x := by
  rw [List.getD_eq_getElem?_getD, List.getElem?_append_right (by omega), h, Nat.sub_self]; rfl
theorem rtV_wr {l : List Cm} {k : Int} {a : List Nd} (hk : 7 ≤ k ∧ k < 14) (h1 : 1 ≤ a.length) : rtV l (wrQ k a) = oneV l k (rtV l a) := by
  have hL : (wrQ k a).length = a.length + 1 := by simp [wrQ]
  have ha : ar k = 1 := by unfold ar; rw [if_neg (by omega), if_pos (by omega)]
  unfold rtV
  rw [hL, Nat.add_sub_cancel]
  show (setsQ l (wrQ k a) a.length ++ [nodeV l (setsQ l (wrQ k a) a.length) ((wrQ k a).getD a.length default)]).getD a.length [] = _
  have hx : (wrQ k a).getD a.length default = ⟨k, 0, (a.length : Int) - 1, 0⟩ := by unfold wrQ; simp
  have hs : setsQ l (wrQ k a) a.length = setsQ l a a.length := by unfold wrQ; exact sets_l l (Nat.le_refl _)
  rw [snoc_get _ _ _ (setsQ_len ..), hx, hs]
  unfold nodeV
  dsimp only
  rw [ha, if_neg (by omega), if_pos rfl]
  congr 2
  omega
theorem leaf_sh (l : List Cm) (m : Nat) (x : Nd) (j : Nat) : leafK l (shN m x) j = leafK l x j := rfl
theorem app_get {α : Type} (A S : List α) (d : α) (i : Nat) : (A ++ S).getD (A.length + i) d = S.getD i d := by
  rw [List.getD_eq_getElem?_getD, List.getElem?_append_right (by omega), Nat.add_sub_cancel_left, List.getD_eq_getElem?_getD]
theorem jn_sets {l : List Cm} {k : Int} {a b : List Nd} (hb : okQ b) : ∀ {i : Nat}, i ≤ b.length → setsQ l (jnQ k a b) (a.length + i) = setsQ l a a.length ++ setsQ l b i
  | 0, _ => by rw [Nat.add_zero, jn_eq, sets_l l (Nat.le_refl _)]; simp [setsQ]
  | i + 1, h => by
    have ih := jn_sets (l := l) (k := k) (a := a) hb (i := i) (by omega)
    show setsQ l (jnQ k a b) (a.length + i) ++ [nodeV l (setsQ l (jnQ k a b) (a.length + i)) ((jnQ k a b).getD (a.length + i) default)] = setsQ l a a.length ++ (setsQ l b i ++ [nodeV l (setsQ l b i) (b.getD i default)])
    rw [ih, jn_at k (by omega), List.append_assoc]
    congr 3
    obtain ⟨_, _, _, _, _, h6, h7⟩ := ok_node hb (i := i) (by omega) rfl
    have hA := setsQ_len l a a.length
    generalize b.getD i default = x at h6 h7 ⊢
    have gt : ∀ p : Nat, (setsQ l a a.length ++ setsQ l b i).getD (((p : Nat) : Int) + (a.length : Nat)).toNat [] = (setsQ l b i).getD ((p : Nat) : Int).toNat [] := fun p => by
      have e : (((p : Nat) : Int) + (a.length : Nat)).toNat = (setsQ l a a.length).length + p := by rw [hA]; omega
      rw [e, app_get]; rfl
    unfold nodeV
    rw [ar_sh]
    split
    · exact leaf_sh ..
    · split
      · rename_i ha
        have e1 : (shN a.length x).lf = x.lf + (a.length : Nat) := by unfold shN; dsimp only; rw [if_pos (by omega)]
        rw [e1, (h6 ha).2.1, gt]; rfl
      · have ha : ar x.kd = 2 := by rcases ar_or x.kd with ⟨_, h⟩ | ⟨_, _, h⟩ | ⟨_, h⟩ <;> omega
        have e1 : (shN a.length x).lf = x.lf + (a.length : Nat) := by unfold shN; dsimp only; rw [if_pos (by omega)]
        have e2 : (shN a.length x).rt = x.rt + (a.length : Nat) := by unfold shN; dsimp only; rw [if_pos ha]
        rw [e1, e2, (h7 ha).2.1, (h7 ha).2.2.1, gt, gt]; rfl
theorem rtV_jn {l : List Cm} {k : Int} {a b : List Nd} (ha : valQ a = (0, 0)) (hb : valQ b = (0, 0)) (hk : 14 ≤ k) : rtV l (jnQ k a b) = twoK l.length k (rtV l a) (rtV l b) l.length := by
  obtain ⟨oka, _⟩ := ok_of_val ha
  obtain ⟨okb, _⟩ := ok_of_val hb
  have h1 := oka.1
  have g1 := okb.1
  have hk2 : ar k = 2 := by unfold ar; rw [if_pos hk]
  unfold rtV
  rw [jn_len, Nat.add_sub_cancel]
  show (setsQ l (jnQ k a b) (a.length + b.length) ++ [nodeV l (setsQ l (jnQ k a b) (a.length + b.length)) ((jnQ k a b).getD (a.length + b.length) default)]).getD (a.length + b.length) [] = _
  rw [snoc_get _ _ _ (setsQ_len ..), jn_last, jn_sets okb (Nat.le_refl _)]
  unfold nodeV
  dsimp only
  rw [hk2, if_neg (by omega), if_neg (by omega)]
  have e1 : ((a.length : Int) - 1).toNat = a.length - 1 := by omega
  have e2 : ((a.length : Int) + b.length - 1).toNat = (setsQ l a a.length).length + (b.length - 1) := by rw [setsQ_len]; omega
  rw [e1, e2, app_get]
  congr 1
  rw [List.getD_eq_getElem?_getD, List.getElem?_append_left (by rw [setsQ_len]; omega), List.getD_eq_getElem?_getD]
theorem not_at {l : List Cm} {b : List Bool} {i : Nat} (h : i < l.length) : (oneV l 7 b).getD i false = !b.getD i false := by
  unfold oneV
  rw [if_pos rfl]
  unfold minK
  rw [vec_len, List.getD_eq_getElem?_getD, List.getElem?_map, List.getElem?_range h]
  simp [h, List.getD_eq_getElem?_getD, vec_get h]
theorem two_at {n : Nat} {k : Int} {x y : List Bool} {i : Nat} (h : i < n) : (twoK n k x y n).getD i false = opV k (x.getD i false) (y.getD i false) := by
  unfold twoK
  rw [List.getD_eq_getElem?_getD, vec_get h, if_pos h]; rfl
theorem bools_ext {x y : List Bool} {n : Nat} (hx : x.length = n) (hy : y.length = n) (h : ∀ i, i < n → x.getD i false = y.getD i false) : x = y := by
  apply List.ext_getElem?
  intro i
  by_cases hi : i < n
  · have := h i hi
    rw [List.getD_eq_getElem?_getD, List.getD_eq_getElem?_getD, List.getElem?_eq_getElem (by omega), List.getElem?_eq_getElem (by omega)] at this
    rw [List.getElem?_eq_getElem (by omega), List.getElem?_eq_getElem (by omega)]
    exact congrArg some this
  · rw [List.getElem?_eq_none (by omega), List.getElem?_eq_none (by omega)]
theorem deMorgan1 {l : List Cm} {A B : List Bool} : oneV l 7 (twoK l.length 14 A B l.length) = twoK l.length 15 (oneV l 7 A) (oneV l 7 B) l.length :=
  bools_ext (n := l.length) (oneV_len l 7 (twoK_len ..)) (twoK_len ..) fun i hi => by rw [not_at hi, two_at hi, two_at hi, not_at hi, not_at hi]; simp [opV]
theorem deMorgan2 {l : List Cm} {A B : List Bool} : oneV l 7 (twoK l.length 14 A B l.length) = twoK l.length 16 (oneV l 7 A) B l.length :=
  bools_ext (n := l.length) (oneV_len l 7 (twoK_len ..)) (twoK_len ..) fun i hi => by rw [not_at hi, two_at hi, two_at hi, not_at hi]; simp [opV]

def Bt (b : List Bool) (k : Nat) : Prop := b.getD k false = true
theorem Bt.lt {b : List Bool} {k : Nat} (h : Bt b k) : k < b.length := by
  unfold Bt at h
  rcases Nat.lt_or_ge k b.length with hk | hk
  · exact hk
  · rw [List.getD_eq_getElem?_getD, List.getElem?_eq_none hk] at h; cases h
theorem bt_vec {n i : Nat} {f : Nat → Bool} (h : i < n) : Bt (vec n f) i ↔ f i = true := by
  unfold Bt; rw [List.getD_eq_getElem?_getD, vec_get h]; rfl
theorem mem_selK {s : List Bool} {x : Int} : x ∈ selK s s.length ↔ ∃ j : Nat, Bt s j ∧ x = (j : Int) := by
  unfold selK
  constructor
  · intro h
    obtain ⟨j, hj, rfl⟩ := List.mem_map.1 h
    exact ⟨j, (List.mem_filter.1 hj).2, rfl⟩
  · rintro ⟨j, hj, rfl⟩
    exact List.mem_map.2 ⟨j, List.mem_filter.2 ⟨List.mem_range.2 hj.lt, hj⟩, rfl⟩
theorem ofV_iff {l : List Cm} (hv : Valid l) {b : List Bool} {i : Nat} (hi : i < l.length) : Bt (ofV l b) i ↔ ∃ k, Bt b k ∧ Anc l k i := by
  unfold ofV
  rw [bt_vec hi, of_iff hv]
  constructor
  · rintro ⟨n, hn, ha⟩
    obtain ⟨j, hj, rfl⟩ := mem_selK.1 hn
    exact ⟨j, hj, by simpa using ha⟩
  · rintro ⟨k, hk, ha⟩
    exact ⟨(k : Int), mem_selK.2 ⟨k, hk, rfl⟩, by simpa using ha⟩
theorem desK_new (l : List Cm) (f : Nat → Bool) : ∀ {j k : Nat}, j ≤ k → desK l f j k = f k
  | 0, _, _ => rfl
  | j + 1, k, h => by
    show setB _ j _ k = f k
    rw [setB_of _ _ (by omega), desK_new l f (by omega)]
theorem desK_old (l : List Cm) (f : Nat → Bool) {k : Nat} : ∀ {j : Nat}, k < j → desK l f j k = desK l f (k + 1) k
  | j + 1, h => by
    by_cases hj : k = j
    · subst hj; rfl
    · show setB _ j _ k = _
      rw [setB_of _ _ hj, desK_old l f (by omega)]
theorem desK_at (l : List Cm) (f : Nat → Bool) (i : Nat) : desK l f (i + 1) i = (f i || (l.getD i default).par.any fun p => desK l f i p.toNat) := by
  show setB _ i _ i = _
  rw [setB_at]
  unfold desJ
  rw [List.take_length, desK_new l f (Nat.le_refl _)]
theorem desK_iff {l : List Cm} (hv : Valid l) (f : Nat → Bool) : ∀ (i : Nat), desK l f (i + 1) i = true ↔ ∃ k, f k = true ∧ Anc l i k := by
  intro i
  induction i using Nat.strongRecOn with
  | ind i ih =>
    rw [desK_at, Bool.or_eq_true, List.any_eq_true]
    constructor
    · rintro (h | ⟨p, hp, h⟩)
      · exact ⟨i, h, .refl i⟩
      · have := hv.parD hp
        rw [desK_old l f (by omega)] at h
        obtain ⟨k, hk, ha⟩ := (ih p.toNat (by omega)).1 h
        exact ⟨k, hk, .step (j := p.toNat) (by rw [show ((p.toNat : Nat) : Int) = p by omega]; exact hp) ha⟩
    · rintro ⟨k, hk, ha⟩
      rcases ha.cases' with rfl | ⟨j, hj, ha⟩
      · exact .inl hk
      · have := hv.parD hj
        refine .inr ⟨(j : Int), hj, ?_⟩
        rw [Int.toNat_natCast, desK_old l f (by omega)]
        exact (ih j (by omega)).2 ⟨k, hk, ha⟩
theorem fnB_iff {b : List Bool} {k : Nat} : fnB b k = true ↔ Bt b k := Iff.rfl
theorem desV_iff {l : List Cm} (hv : Valid l) {b : List Bool} {i : Nat} (hi : i < l.length) : Bt (desV l b) i ↔ ∃ k, Bt b k ∧ Anc l i k := by
  unfold desV
  rw [bt_vec hi, desK_old l _ hi, desK_iff hv]
  rfl
theorem relJ_t (f : Nat → Bool) (i : Nat) (ps : List Int) (g : Nat → Bool) : ∀ {j : Nat}, j ≤ ps.length → relJ f true i ps g j = setB g i (g i || (ps.take j).any fun p => f p.toNat)
  | 0, _ => by
    funext x
    show g x = setB g i _ x
    unfold setB
    split
    · rename_i e; subst e; simp
    · rfl
  | j + 1, h => by
    obtain ⟨p, hp⟩ := getE (l := ps) (i := j) (by omega)
    show relS f true i (relJ f true i ps g j) (ps.getD j 0) = _
    rw [relJ_t f i ps g (by omega), getD_at hp]
    unfold relS
    rw [if_pos rfl, setB_set, setB_at, any_snoc hp, Bool.or_assoc]
theorem relJ_f (f : Nat → Bool) (i : Nat) (ps : List Int) (g : Nat → Bool) (x : Nat) : ∀ {j : Nat}, j ≤ ps.length → relJ f false i ps g j x = (g x || (f i && (ps.take j).any fun p => decide (p.toNat = x)))
  | 0, _ => by show g x = _; simp
  | j + 1, h => by
    obtain ⟨p, hp⟩ := getE (l := ps) (i := j) (by omega)
    have ih := relJ_f f i ps g x (j := j) (by omega)
    show relS f false i (relJ f false i ps g j) (ps.getD j 0) x = _
    rw [getD_at hp, any_snoc hp]
    unfold relS
    rw [if_neg (by simp)]
    unfold setB
    by_cases hx : x = p.toNat
    · subst hx
      rw [if_pos rfl, ih]
      simp
      cases g p.toNat <;> cases f i <;> simp
    · rw [if_neg hx, ih]
      have : decide (p.toNat = x) = false := decide_eq_false (fun h => hx h.symm)
      rw [this, Bool.or_false]
theorem relK_t (l : List Cm) (f : Nat → Bool) : ∀ {n x : Nat}, relK l f true n x = (decide (x < n) && (l.getD x default).par.any fun p => f p.toNat)
  | 0, x => by simp [relK]
  | n + 1, x => by
    have ih := fun x => relK_t l f (n := n) (x := x)
    show relJ f true n (l.getD n default).par (relK l f true n) (l.getD n default).par.length x = _
    rw [relJ_t _ _ _ _ (Nat.le_refl _), List.take_length]
    by_cases hx : x = n
    · subst hx; rw [setB_at, ih]; simp
    · rw [setB_of _ _ hx, ih]
      have : decide (x < n) = decide (x < n + 1) := by rw [decide_eq_decide]; omega
      rw [this]
theorem relK_f (l : List Cm) (f : Nat → Bool) {x : Nat} : ∀ {n : Nat}, relK l f false n x = true ↔ ∃ i, i < n ∧ f i = true ∧ ∃ p ∈ (l.getD i default).par, p.toNat = x
  | 0 => by simp [relK]
  | n + 1 => by
    have ih := relK_f l f (x := x) (n := n)
    show relJ f false n (l.getD n default).par (relK l f false n) (l.getD n default).par.length x = true ↔ _
    rw [relJ_f _ _ _ _ _ (Nat.le_refl _), List.take_length, Bool.or_eq_true, ih, Bool.and_eq_true, List.any_eq_true]
    constructor
    · rintro (⟨i, h1, h2, h3⟩ | ⟨h1, p, hp, h2⟩)
      · exact ⟨i, by omega, h2, h3⟩
      · exact ⟨n, by omega, h1, p, hp, by simpa using h2⟩
    · rintro ⟨i, h1, h2, p, hp, h3⟩
      by_cases hi : i = n
      · subst hi; exact .inr ⟨h2, p, hp, by simpa using h3⟩
      · exact .inl ⟨i, by omega, h2, p, hp, h3⟩
theorem par_cast {l : List Cm} (hv : Valid l) {i x : Nat} : (∃ p ∈ (l.getD i default).par, p.toNat = x) ↔ (x : Int) ∈ (l.getD i default).par := by
  constructor
  · rintro ⟨p, hp, rfl⟩
    have := hv.parD hp
    rw [show ((p.toNat : Nat) : Int) = p by omega]; exact hp
  · intro h; exact ⟨_, h, Int.toNat_natCast x⟩
theorem relV_f {l : List Cm} (hv : Valid l) {b : List Bool} {i : Nat} (hi : i < l.length) : Bt (relV l b false) i ↔ ∃ k, Bt b k ∧ (i : Int) ∈ (l.getD k default).par := by
  unfold relV
  rw [bt_vec hi, relK_f]
  constructor
  · rintro ⟨k, h1, h2, h3⟩; exact ⟨k, h2, (par_cast hv).1 h3⟩
  · rintro ⟨k, h1, h2⟩
    have := hv.parD h2
    exact ⟨k, by omega, h1, (par_cast hv).2 h2⟩
theorem relV_t {l : List Cm} (hv : Valid l) {b : List Bool} {i : Nat} (hi : i < l.length) : Bt (relV l b true) i ↔ ∃ k : Nat, Bt b k ∧ (k : Int) ∈ (l.getD i default).par := by
  unfold relV
  rw [bt_vec hi, relK_t, decide_eq_true hi, Bool.true_and, List.any_eq_true]
  constructor
  · rintro ⟨p, hp, h⟩
    have := hv.parD hp
    exact ⟨p.toNat, h, by rw [show ((p.toNat : Nat) : Int) = p by omega]; exact hp⟩
  · rintro ⟨k, h1, h2⟩; exact ⟨_, h2, by rw [Int.toNat_natCast]; exact h1⟩
theorem min_iff {a b : List Bool} {i n : Nat} (ha : a.length = n) (hi : i < n) : Bt (minK a b n) i ↔ Bt a i ∧ ¬Bt b i := by
  subst ha
  unfold minK Bt
  rw [List.getD_eq_getElem?_getD, List.getElem?_map, List.getElem?_range hi]
  simp [hi]
theorem heads_iff {l : List Cm} (hv : Valid l) {b : List Bool} (hb : b.length = l.length) {i : Nat} (hi : i < l.length) : Bt (oneV l 12 b) i ↔ Bt b i ∧ ¬∃ k m : Nat, Bt b k ∧ (m : Int) ∈ (l.getD k default).par ∧ Anc l m i := by
  have e : oneV l 12 b = minK b (ofV l (relV l b false)) l.length := by unfold oneV; simp
  rw [e, min_iff hb hi, ofV_iff hv hi]
  refine and_congr Iff.rfl (not_congr ⟨?_, ?_⟩)
  · rintro ⟨m, h1, h2⟩
    have hm : m < l.length := by have := h1.lt; rwa [relV_len] at this
    obtain ⟨k, g1, g2⟩ := (relV_f hv hm).1 h1
    exact ⟨k, m, g1, g2, h2⟩
  · rintro ⟨k, m, g1, g2, h2⟩
    have := hv.parD g2
    exact ⟨m, (relV_f hv (by omega)).2 ⟨k, g1, g2⟩, h2⟩
theorem roots_iff {l : List Cm} (hv : Valid l) {b : List Bool} (hb : b.length = l.length) {i : Nat} (hi : i < l.length) : Bt (oneV l 13 b) i ↔ Bt b i ∧ ¬∃ k m : Nat, Bt b k ∧ (k : Int) ∈ (l.getD m default).par ∧ Anc l i m := by
  have e : oneV l 13 b = minK b (desV l (relV l b true)) l.length := by unfold oneV; simp
  rw [e, min_iff hb hi, desV_iff hv hi]
  refine and_congr Iff.rfl (not_congr ⟨?_, ?_⟩)
  · rintro ⟨m, h1, h2⟩
    have hm : m < l.length := by have := h1.lt; rwa [relV_len] at this
    obtain ⟨k, g1, g2⟩ := (relV_t hv hm).1 h1
    exact ⟨k, m, g1, g2, h2⟩
  · rintro ⟨k, m, g1, g2, h2⟩
    have := hv.parD g2
    exact ⟨m, (relV_t hv (by omega)).2 ⟨k, g1, g2⟩, h2⟩
/-- A set and its heads have the same ancestors. -/
theorem heads_gen {l : List Cm} (hv : Valid l) {b : List Bool} (hb : b.length = l.length) (i : Nat) : ∀ (n k : Nat), l.length - k = n → Bt b k → Anc l k i → ∃ k', Bt (oneV l 12 b) k' ∧ Anc l k' i := by
  intro n
  induction n using Nat.strongRecOn with
  | ind n ih =>
    intro k hn hk ha
    have hkl : k < l.length := by rw [← hb]; exact hk.lt
    by_cases h : ∃ k2 m : Nat, Bt b k2 ∧ (m : Int) ∈ (l.getD k2 default).par ∧ Anc l m k
    · obtain ⟨k2, m, h1, h2, h3⟩ := h
      have g1 := hv.parD h2
      have g2 := h3.le hv
      exact ih (l.length - k2) (by omega) k2 rfl h1 (.step h2 (h3.trans ha))
    · exact ⟨k, (heads_iff hv hb hkl).2 ⟨hk, h⟩, ha⟩
/-- A set and its roots have the same descendants. -/
theorem roots_gen {l : List Cm} (hv : Valid l) {b : List Bool} (hb : b.length = l.length) (i : Nat) : ∀ (k : Nat), Bt b k → Anc l i k → ∃ k', Bt (oneV l 13 b) k' ∧ Anc l i k' := by
  intro k
  induction k using Nat.strongRecOn with
  | ind k ih =>
    intro hk ha
    have hkl : k < l.length := by rw [← hb]; exact hk.lt
    by_cases h : ∃ k2 m : Nat, Bt b k2 ∧ (k2 : Int) ∈ (l.getD m default).par ∧ Anc l k m
    · obtain ⟨k2, m, h1, h2, h3⟩ := h
      have g1 := hv.parD h2
      have g2 := h3.le hv
      exact ih k2 (by omega) h1 ((ha.trans h3).snoc h2)
    · exact ⟨k, (roots_iff hv hb hkl).2 ⟨hk, h⟩, ha⟩
theorem bt_ext {x y : List Bool} {n : Nat} (hx : x.length = n) (hy : y.length = n) (h : ∀ i, i < n → (Bt x i ↔ Bt y i)) : x = y :=
  bools_ext hx hy fun i hi => by
    have := h i hi
    unfold Bt at this
    exact Bool.eq_iff_iff.2 this
theorem one8 (l : List Cm) (b : List Bool) : oneV l 8 b = ofV l b := by unfold oneV; simp
theorem one9 (l : List Cm) (b : List Bool) : oneV l 9 b = desV l b := by unfold oneV; simp
theorem gen_anc {l : List Cm} (hv : Valid l) {b : List Bool} (hb : b.length = l.length) : oneV l 8 (oneV l 12 b) = oneV l 8 b := by
  rw [one8, one8]
  refine bt_ext (ofV_len ..) (ofV_len ..) fun i hi => ?_
  rw [ofV_iff hv hi, ofV_iff hv hi]
  constructor
  · rintro ⟨k, h1, h2⟩
    have hk : k < l.length := by have := h1.lt; rwa [oneV_len _ _ hb] at this
    exact ⟨k, ((heads_iff hv hb hk).1 h1).1, h2⟩
  · rintro ⟨k, h1, h2⟩; exact heads_gen hv hb i _ k rfl h1 h2
theorem gen_des {l : List Cm} (hv : Valid l) {b : List Bool} (hb : b.length = l.length) : oneV l 9 (oneV l 13 b) = oneV l 9 b := by
  rw [one9, one9]
  refine bt_ext (desV_len ..) (desV_len ..) fun i hi => ?_
  rw [desV_iff hv hi, desV_iff hv hi]
  constructor
  · rintro ⟨k, h1, h2⟩
    have hk : k < l.length := by have := h1.lt; rwa [oneV_len _ _ hb] at this
    exact ⟨k, ((roots_iff hv hb hk).1 h1).1, h2⟩
  · rintro ⟨k, h1, h2⟩; exact roots_gen hv hb i k h1 h2

theorem nd_ext {x : Nd} {a b c d : Int} (h1 : x.kd = a) (h2 : x.nm = b) (h3 : x.lf = c) (h4 : x.rt = d) : x = ⟨a, b, c, d⟩ := by
  obtain ⟨_, _, _, _⟩ := x; simp only at h1 h2 h3 h4; subst h1 h2 h3 h4; rfl
theorem root_sz {q : List Nd} (h : valQ q = (0, 0)) : szI q (q.length - 1) = q.length := by
  obtain ⟨⟨h1, h2, h3⟩, _⟩ := ok_of_val h
  have hr := refQ_end h1 h2 h3
  rw [refQ_is, h] at hr
  split at hr
  · cases hr
  · rename_i hh
    rw [← szl_at (q := q) (n := q.length) (i := q.length - 1) (by omega)]
    exact Decidable.not_not.1 hh
theorem hist_of {l : List Cm} (h : (histF l).1 = 0) : histF l = (0, 0) := by
  have hv := valid_of h
  unfold histF at h ⊢
  split at h
  · cases h
  · rename_i h0
    rw [if_neg h0]
    exact scanW_fst h

theorem ls_sh : ∀ {t : Tr}, okT t → ∀ s c : Nat, lsT (c + s) t = (lsT c t).map (shN s)
  | .nil, h, _, _ => absurd h id
  | .nd k m l r, h, s, c => by
    obtain ⟨h1, h2, h3, h4, h5, h6, h7⟩ := h
    rw [lsT_nd, lsT_nd, List.map_append, List.map_append]
    rcases ar_or k with ⟨_, ha⟩ | ⟨_, _, ha⟩ | ⟨_, ha⟩
    · obtain ⟨rfl, rfl⟩ := h5 ha
      simp [lsT_nil, shN, ha]
    · obtain ⟨hl, rfl⟩ := h6 ha
      rw [ls_sh hl s c, if_neg (okT_ne hl), if_neg (okT_ne hl)]
      simp [lsT_nil, shN, ha]; omega
    · obtain ⟨hl, hr⟩ := h7 ha
      rw [ls_sh hl s c, show c + s + szT l = c + szT l + s by omega, ls_sh hr s (c + szT l), if_neg (okT_ne hl), if_neg (okT_ne hl), if_neg (okT_ne hr), if_neg (okT_ne hr)]
      simp [shN, ha]; omega
theorem ls_one {k : Int} {l : Tr} (hl : okT l) : lsT 0 (.nd k 0 l .nil) = wrQ k (lsT 0 l) := by
  rw [lsT_nd, if_neg (okT_ne hl), if_pos rfl]
  unfold wrQ
  rw [lsT_len]
  simp [lsT_nil]
theorem ls_two {k : Int} {l r : Tr} (hl : okT l) (hr : okT r) : lsT 0 (.nd k 0 l r) = jnQ k (lsT 0 l) (lsT 0 r) := by
  rw [lsT_nd, jn_eq, if_neg (okT_ne hl), if_neg (okT_ne hr), lsT_len, lsT_len, ls_sh hr (szT l) 0]
  simp
theorem ls_ne {t : Tr} (h : okT t) : 1 ≤ (lsT 0 t).length := by rw [lsT_len]; exact szT_pos (okT_ne h)
theorem val_leaf {k m : Int} (h1 : 1 ≤ k) (h2 : k < 7) (h3 : 0 ≤ m) (h4 : m ≤ mostN k) : valQ [⟨k, m, 0, 0⟩] = (0, 0) := by
  have ha : ar k = 0 := by rcases ar_or k with ⟨_, h⟩ | ⟨_, _, h⟩ | ⟨_, h⟩ <;> omega
  refine val_iff.2 ⟨by simp, by simp, fun j hj => ?_, ?_⟩
  · obtain rfl : j = 0 := by simpa using hj
    unfold qC
    show ndC ⟨k, m, 0, 0⟩ [] = 0
    unfold ndC
    simp [ha, wnt]
    omega
  · show ((rts [(⟨k, m, 0, 0⟩ : Nd)] 0).take _ ++ [((0 : Nat) : Int)]).length = 1
    simp [rts]
theorem ls_val : ∀ {t : Tr}, okT t → szT t ≤ 40 → valQ (lsT 0 t) = (0, 0)
  | .nil, h, _ => absurd h id
  | .nd k m l r, h, hs => by
    have h0 := h
    obtain ⟨h1, h2, h3, h4, h5, h6, h7⟩ := h
    rw [szT_nd] at hs
    rcases ar_or k with ⟨hk, ha⟩ | ⟨hk, hk2, ha⟩ | ⟨hk, ha⟩
    · obtain ⟨rfl, rfl⟩ := h5 ha
      exact val_leaf h1 hk h3 h4
    · obtain ⟨hl, rfl⟩ := h6 ha
      obtain rfl : m = 0 := by
        have : mostN k = 0 := by unfold mostN; rw [if_neg (by omega), if_neg (by omega), if_neg (by omega)]
        omega
      rw [ls_one hl]
      exact val_wr (ls_val hl (by omega)) ⟨hk, hk2⟩ (by rw [lsT_len]; omega)
    · obtain ⟨hl, hr⟩ := h7 ha
      obtain rfl : m = 0 := by
        have : mostN k = 0 := by unfold mostN; rw [if_neg (by omega), if_neg (by omega), if_neg (by omega)]
        omega
      rw [ls_two hl hr]
      exact val_jn (ls_val hl (by omega)) (ls_val hr (by omega)) ⟨hk, h2⟩ (by rw [lsT_len, lsT_len]; omega)
theorem opn_ls : ∀ {t : Tr}, okT t → ∀ (p s : List Nd) (f : Nat), szT t ≤ f → opnT (p ++ lsT p.length t ++ s) f (p.length + szT t - 1) = some t
  | .nil, h, _, _, _, _ => absurd h id
  | .nd k m l r, h, p, s, f, hf => by
    obtain ⟨h1, h2, h3, h4, h5, h6, h7⟩ := h
    rw [szT_nd] at hf
    obtain ⟨f, rfl⟩ : ∃ f', f = f' + 1 := ⟨f - 1, by omega⟩
    have hn : (p ++ lsT p.length (.nd k m l r) ++ s)[p.length + szT (.nd k m l r) - 1]? = some ⟨k, m, if l = .nil then 0 else ((p.length + szT l : Nat) : Int) - 1, if r = .nil then 0 else ((p.length + szT l + szT r : Nat) : Int) - 1⟩ := by
      have e : p ++ lsT p.length (.nd k m l r) ++ s = (p ++ lsT p.length l ++ lsT (p.length + szT l) r) ++ (⟨k, m, if l = .nil then 0 else ((p.length + szT l : Nat) : Int) - 1, if r = .nil then 0 else ((p.length + szT l + szT r : Nat) : Int) - 1⟩ :: s) := by rw [lsT_nd]; simp
      rw [e, List.getElem?_append_right (by simp only [List.length_append, lsT_len, szT_nd]; omega)]
      have : p.length + szT (.nd k m l r) - 1 - (p ++ lsT p.length l ++ lsT (p.length + szT l) r).length = 0 := by simp only [List.length_append, lsT_len, szT_nd]; omega
      rw [this]; rfl
    unfold opnT
    rw [hn]
    dsimp only
    rcases ar_or k with ⟨_, ha⟩ | ⟨_, _, ha⟩ | ⟨_, ha⟩
    · obtain ⟨rfl, rfl⟩ := h5 ha
      rw [if_pos ha]
    · obtain ⟨hl, rfl⟩ := h6 ha
      have hs := szT_pos (okT_ne hl)
      have e : p ++ lsT p.length (.nd k m l .nil) ++ s = p ++ lsT p.length l ++ (⟨k, m, if l = .nil then 0 else ((p.length + szT l : Nat) : Int) - 1, if Tr.nil = .nil then 0 else ((p.length + szT l + szT .nil : Nat) : Int) - 1⟩ :: s) := by rw [lsT_nd]; simp [lsT_nil]
      have ih := opn_ls hl p (⟨k, m, if l = .nil then 0 else ((p.length + szT l : Nat) : Int) - 1, if Tr.nil = .nil then 0 else ((p.length + szT l + szT .nil : Nat) : Int) - 1⟩ :: s) f (by omega)
      rw [← e] at ih
      rw [if_neg (by omega), if_neg (okT_ne hl), show (((p.length + szT l : Nat) : Int) - 1).toNat = p.length + szT l - 1 by omega, ih, Option.bind_some, if_pos ha]
    · obtain ⟨hl, hr⟩ := h7 ha
      have hs := szT_pos (okT_ne hl)
      have hs2 := szT_pos (okT_ne hr)
      obtain ⟨x, hx⟩ : ∃ x : Nd, (⟨k, m, if l = .nil then 0 else ((p.length + szT l : Nat) : Int) - 1, if r = .nil then 0 else ((p.length + szT l + szT r : Nat) : Int) - 1⟩ : Nd) = x := ⟨_, rfl⟩
      have e : p ++ lsT p.length (.nd k m l r) ++ s = p ++ lsT p.length l ++ (lsT (p.length + szT l) r ++ x :: s) := by rw [lsT_nd, hx]; simp
      have e2 : p ++ lsT p.length (.nd k m l r) ++ s = (p ++ lsT p.length l) ++ lsT (p ++ lsT p.length l).length r ++ (x :: s) := by rw [lsT_nd, hx, List.length_append, lsT_len]; simp
      have ih := opn_ls hl p (lsT (p.length + szT l) r ++ x :: s) f (by omega)
      have ih2 := opn_ls hr (p ++ lsT p.length l) (x :: s) f (by omega)
      rw [← e] at ih
      rw [← e2, List.length_append, lsT_len] at ih2
      rw [if_neg (by omega), if_neg (okT_ne hl), if_neg (okT_ne hr), show (((p.length + szT l : Nat) : Int) - 1).toNat = p.length + szT l - 1 by omega, show (((p.length + szT l + szT r : Nat) : Int) - 1).toNat = p.length + szT l + szT r - 1 by omega, ih, Option.bind_some, if_neg (by omega), ih2]
      rfl
theorem tre_ls {t : Tr} (h : okT t) (hs : szT t ≤ 40) : treQ (lsT 0 t) = t := by
  have := opn_ls h [] [] 41 (by omega)
  simp only [List.nil_append, List.append_nil, List.length_nil, Nat.zero_add] at this
  unfold treQ
  rw [lsT_len, this]; rfl
/-- The tree of a node, listed. -/
theorem ls_opn {q : List Nd} (h : okQ q) : ∀ (f i : Nat) (R : Tr), i < q.length → opnT q f i = some R → okT R ∧ szT R = szI q i ∧ q.take (i + 1) = q.take (i + 1 - szI q i) ++ lsT (i + 1 - szI q i) R
  | 0, _, _, _, hR => by cases hR
  | f + 1, i, R, hi, hR => by
    have ih := ls_opn h f
    obtain ⟨x, hx, hc⟩ := opn_cases hR
    obtain ⟨h1, h2, h3, h4, h5, h6, h7⟩ := ok_node h hi (getD_nd hx)
    have hsz := szI_le h hi
    have ht : q.take (i + 1) = q.take i ++ [x] := by rw [List.take_add_one, hx]; rfl
    rcases hc with ⟨ha, rfl⟩ | ⟨ha, A, hA, rfl⟩ | ⟨ha, A, B, hA, hB, rfl⟩
    · obtain ⟨g1, g2, g3⟩ := h5 ha
      refine ⟨⟨h1, h2, h3, h4, fun _ => ⟨rfl, rfl⟩, fun hh => by omega, fun hh => by omega⟩, by rw [g3]; rfl, ?_⟩
      rw [ht, g3]
      show q.take i ++ [x] = q.take i ++ [⟨x.kd, x.nm, 0, 0⟩]
      rw [← nd_ext (x := x) rfl rfl g1 g2]
    · obtain ⟨g1, g2, g3, g4⟩ := h6 ha
      rw [g2, Int.toNat_natCast] at hA
      obtain ⟨a1, a2, a3⟩ := ih (i - 1) A (by omega) hA
      refine ⟨⟨h1, h2, h3, h4, fun hh => by omega, fun _ => ⟨a1, rfl⟩, fun hh => by omega⟩, by rw [szT_nd, a2, g4]; show szI q (i - 1) + 0 + 1 = _; omega, ?_⟩
      have hsA := szI_le h (i := i - 1) (by omega)
      rw [ht, show q.take i = q.take (i - 1 + 1) by congr 1; omega, a3, lsT_nd, if_neg (okT_ne a1), if_pos rfl, a2]
      rw [show i - 1 + 1 - szI q (i - 1) = i + 1 - szI q i by omega, lsT_nil, List.append_nil, List.append_assoc]
      congr 2
      rw [nd_ext (x := x) rfl rfl g2 g3]
      congr 2
      omega
    · obtain ⟨g1, g2, g3, g4⟩ := h7 ha
      rw [g2, Int.toNat_natCast] at hA
      rw [g3, Int.toNat_natCast] at hB
      obtain ⟨a1, a2, a3⟩ := ih (i - 1 - szI q (i - 1)) A (by omega) hA
      obtain ⟨b1, b2, b3⟩ := ih (i - 1) B (by omega) hB
      refine ⟨⟨h1, h2, h3, h4, fun hh => by omega, fun hh => by omega, fun _ => ⟨a1, b1⟩⟩, by rw [szT_nd, a2, b2, g4]; omega, ?_⟩
      have hsB := szI_le h (i := i - 1) (by omega)
      have hsA := szI_le h (i := i - 1 - szI q (i - 1)) (by omega)
      rw [ht, show q.take i = q.take (i - 1 + 1) by congr 1; omega, b3, lsT_nd, if_neg (okT_ne a1), if_neg (okT_ne b1), a2, b2]
      rw [show i - 1 + 1 - szI q (i - 1) = i - 1 - szI q (i - 1) + 1 by omega, a3]
      generalize hlf : i - 1 - szI q (i - 1) = lf at *
      rw [show lf + 1 - szI q lf = i + 1 - szI q i by omega, show lf + 1 = i + 1 - szI q i + szI q lf by omega]
      simp only [List.append_assoc]
      congr 4
      rw [nd_ext (x := x) rfl rfl g2 g3]
      congr 2 <;> omega
theorem q_ls {q : List Nd} (h : valQ q = (0, 0)) : ∃ R, treQ q = R ∧ okT R ∧ szT R = q.length ∧ q = lsT 0 R := by
  obtain ⟨hok, _⟩ := ok_of_val h
  obtain ⟨R, g1, g2, g3, g4⟩ := tre_ok h
  have h1 := hok.1
  obtain ⟨a1, a2, a3⟩ := ls_opn hok 41 (q.length - 1) R (by omega) g1
  rw [root_sz h] at a2 a3
  rw [show q.length - 1 + 1 - q.length = 0 by omega, show q.length - 1 + 1 = q.length by omega, List.take_of_length_le (Nat.le_refl _)] at a3
  exact ⟨R, g4, a1, a2, by simpa using a3⟩
theorem op_cases (q : List Nd) : (∃ c i : Int, c ≠ 0 ∧ optQ q = (c, i, [])) ∨ ∃ R, valQ q = (0, 0) ∧ okT R ∧ szT R = q.length ∧ q.length ≤ 40 ∧ q = lsT 0 R ∧ optQ q = (0, 0, lsT 0 (simT R)) := by
  by_cases hv : valQ q = (0, 0)
  · obtain ⟨R, g1, g2, g3, g4⟩ := q_ls hv
    exact .inr ⟨R, hv, g2, g3, (ok_of_val hv).1.2.1, g4, by unfold optQ; rw [if_neg (by rw [hv]; simp), g1]⟩
  · exact .inl ⟨(valQ q).1, (valQ q).2, val_code hv, by unfold optQ; rw [if_pos hv]⟩

def noB (n : Nat) : List Bool := vec n fun _ => false
def alB (n : Nat) : List Bool := vec n fun _ => true
theorem noB_at {n k : Nat} : ¬Bt (noB n) k := by
  intro h
  have hk := h.lt
  rw [show (noB n).length = n from vec_len ..] at hk
  exact absurd ((bt_vec hk).1 h) (by simp)
theorem alB_at {n k : Nat} (h : k < n) : Bt (alB n) k := (bt_vec h).2 rfl
theorem noB_len (n : Nat) : (noB n).length = n := vec_len ..
theorem alB_len (n : Nat) : (alB n).length = n := vec_len ..
theorem anc_anc {l : List Cm} (hv : Valid l) {b : List Bool} (hb : b.length = l.length) : oneV l 8 (oneV l 8 b) = oneV l 8 b := by
  rw [one8, one8]
  refine bt_ext (ofV_len ..) (ofV_len ..) fun i hi => ?_
  rw [ofV_iff hv hi, ofV_iff hv hi]
  constructor
  · rintro ⟨k, h1, h2⟩
    have hk : k < l.length := by have := h1.lt; rwa [ofV_len] at this
    obtain ⟨j, g1, g2⟩ := (ofV_iff hv hk).1 h1
    exact ⟨j, g1, g2.trans h2⟩
  · rintro ⟨k, h1, h2⟩
    have hk : k < l.length := by rw [← hb]; exact h1.lt
    exact ⟨k, (ofV_iff hv hk).2 ⟨k, h1, .refl k⟩, h2⟩
theorem des_des {l : List Cm} (hv : Valid l) {b : List Bool} (hb : b.length = l.length) : oneV l 9 (oneV l 9 b) = oneV l 9 b := by
  rw [one9, one9]
  refine bt_ext (desV_len ..) (desV_len ..) fun i hi => ?_
  rw [desV_iff hv hi, desV_iff hv hi]
  constructor
  · rintro ⟨k, h1, h2⟩
    have hk : k < l.length := by have := h1.lt; rwa [desV_len] at this
    obtain ⟨j, g1, g2⟩ := (desV_iff hv hk).1 h1
    exact ⟨j, g1, h2.trans g2⟩
  · rintro ⟨k, h1, h2⟩
    have hk : k < l.length := by rw [← hb]; exact h1.lt
    exact ⟨k, (desV_iff hv hk).2 ⟨k, h1, .refl k⟩, h2⟩
theorem hd_hd {l : List Cm} (hv : Valid l) {b : List Bool} (hb : b.length = l.length) : oneV l 12 (oneV l 12 b) = oneV l 12 b := by
  have hl := oneV_len l 12 hb
  refine bt_ext (oneV_len _ _ hl) hl fun i hi => ?_
  rw [heads_iff hv hl hi]
  refine ⟨fun h => h.1, fun h => ⟨h, ?_⟩⟩
  rintro ⟨k, m, h1, h2, h3⟩
  have hk : k < l.length := by have := h1.lt; rwa [hl] at this
  exact ((heads_iff hv hb hi).1 h).2 ⟨k, m, ((heads_iff hv hb hk).1 h1).1, h2, h3⟩
theorem rt_rt {l : List Cm} (hv : Valid l) {b : List Bool} (hb : b.length = l.length) : oneV l 13 (oneV l 13 b) = oneV l 13 b := by
  have hl := oneV_len l 13 hb
  refine bt_ext (oneV_len _ _ hl) hl fun i hi => ?_
  rw [roots_iff hv hl hi]
  refine ⟨fun h => h.1, fun h => ⟨h, ?_⟩⟩
  rintro ⟨k, m, h1, h2, h3⟩
  have hk : k < l.length := by have := h1.lt; rwa [hl] at this
  exact ((roots_iff hv hb hi).1 h).2 ⟨k, m, ((roots_iff hv hb hk).1 h1).1, h2, h3⟩
theorem hd_anc {l : List Cm} (hv : Valid l) {b : List Bool} (hb : b.length = l.length) : oneV l 12 (oneV l 8 b) = oneV l 12 b := by
  have hl : (oneV l 8 b).length = l.length := oneV_len l 8 hb
  have up : ∀ k, k < l.length → (Bt (oneV l 8 b) k ↔ ∃ j, Bt b j ∧ Anc l j k) := fun k hk => by rw [one8]; exact ofV_iff hv hk
  refine bt_ext (oneV_len _ _ hl) (oneV_len _ _ hb) fun i hi => ?_
  rw [heads_iff hv hl hi, heads_iff hv hb hi]
  constructor
  · rintro ⟨h1, h2⟩
    obtain ⟨j, g1, g2⟩ := (up i hi).1 h1
    have hj : j < l.length := by rw [← hb]; exact g1.lt
    refine ⟨?_, ?_⟩
    · rcases g2.cases' with rfl | ⟨m, g3, g4⟩
      · exact g1
      · exact absurd ⟨j, m, (up j hj).2 ⟨j, g1, .refl j⟩, g3, g4⟩ h2
    · rintro ⟨k, m, e1, e2, e3⟩
      have hk : k < l.length := by rw [← hb]; exact e1.lt
      exact h2 ⟨k, m, (up k hk).2 ⟨k, e1, .refl k⟩, e2, e3⟩
  · rintro ⟨h1, h2⟩
    refine ⟨(up i hi).2 ⟨i, h1, .refl i⟩, ?_⟩
    rintro ⟨k, m, e1, e2, e3⟩
    have hk := (hv.parD e2).2.2
    obtain ⟨j, g1, g2⟩ := (up k hk).1 e1
    rcases g2.cases' with rfl | ⟨m', g3, g4⟩
    · exact h2 ⟨j, m, g1, e2, e3⟩
    · exact h2 ⟨j, m', g1, g3, (g4.snoc e2).trans e3⟩
theorem rt_des {l : List Cm} (hv : Valid l) {b : List Bool} (hb : b.length = l.length) : oneV l 13 (oneV l 9 b) = oneV l 13 b := by
  have hl : (oneV l 9 b).length = l.length := oneV_len l 9 hb
  have up : ∀ k, k < l.length → (Bt (oneV l 9 b) k ↔ ∃ j, Bt b j ∧ Anc l k j) := fun k hk => by rw [one9]; exact desV_iff hv hk
  refine bt_ext (oneV_len _ _ hl) (oneV_len _ _ hb) fun i hi => ?_
  rw [roots_iff hv hl hi, roots_iff hv hb hi]
  constructor
  · rintro ⟨h1, h2⟩
    obtain ⟨j, g1, g2⟩ := (up i hi).1 h1
    have hj : j < l.length := by rw [← hb]; exact g1.lt
    refine ⟨?_, ?_⟩
    · rcases g2.last with rfl | ⟨m, g3, g4⟩
      · exact g1
      · exact absurd ⟨j, m, (up j hj).2 ⟨j, g1, .refl j⟩, g4, g3⟩ h2
    · rintro ⟨k, m, e1, e2, e3⟩
      have hk : k < l.length := by rw [← hb]; exact e1.lt
      exact h2 ⟨k, m, (up k hk).2 ⟨k, e1, .refl k⟩, e2, e3⟩
  · rintro ⟨h1, h2⟩
    refine ⟨(up i hi).2 ⟨i, h1, .refl i⟩, ?_⟩
    rintro ⟨k, m, e1, e2, e3⟩
    have hk : k < l.length := by have := e1.lt; rwa [hl] at this
    obtain ⟨j, g1, g2⟩ := (up k hk).1 e1
    rcases g2.last with rfl | ⟨m', g3, g4⟩
    · exact h2 ⟨k, m, g1, e2, e3⟩
    · exact h2 ⟨j, m', g1, g4, (e3.snoc e2).trans g3⟩
theorem one_no {l : List Cm} (hv : Valid l) {k : Int} (hk : 8 ≤ k ∧ k ≤ 13) : oneV l k (noB l.length) = noB l.length := by
  have hn := noB_len l.length
  refine bt_ext (oneV_len _ _ hn) hn fun i hi => ⟨fun h => ?_, fun h => absurd h noB_at⟩
  have : k = 8 ∨ k = 9 ∨ k = 10 ∨ k = 11 ∨ k = 12 ∨ k = 13 := by omega
  rcases this with rfl | rfl | rfl | rfl | rfl | rfl
  · rw [one8] at h; obtain ⟨j, g, _⟩ := (ofV_iff hv hi).1 h; exact absurd g noB_at
  · rw [one9] at h; obtain ⟨j, g, _⟩ := (desV_iff hv hi).1 h; exact absurd g noB_at
  · rw [show oneV l 10 (noB l.length) = relV l (noB l.length) false by unfold oneV; simp] at h; obtain ⟨j, g, _⟩ := (relV_f hv hi).1 h; exact absurd g noB_at
  · rw [show oneV l 11 (noB l.length) = relV l (noB l.length) true by unfold oneV; simp] at h; obtain ⟨j, g, _⟩ := (relV_t hv hi).1 h; exact absurd g noB_at
  · exact absurd ((heads_iff hv hn hi).1 h).1 noB_at
  · exact absurd ((roots_iff hv hn hi).1 h).1 noB_at
theorem one_al {l : List Cm} (hv : Valid l) {k : Int} (hk : k = 8 ∨ k = 9) : oneV l k (alB l.length) = alB l.length := by
  have hn := alB_len l.length
  refine bt_ext (oneV_len _ _ hn) hn fun i hi => ⟨fun _ => alB_at hi, fun _ => ?_⟩
  rcases hk with rfl | rfl
  · rw [one8]; exact (ofV_iff hv hi).2 ⟨i, alB_at hi, .refl i⟩
  · rw [one9]; exact (desV_iff hv hi).2 ⟨i, alB_at hi, .refl i⟩
theorem getD_vec {n i : Nat} {f : Nat → Bool} (h : i < n) : (vec n f).getD i false = f i := by rw [List.getD_eq_getElem?_getD, vec_get h]; rfl
theorem not_no (l : List Cm) : oneV l 7 (noB l.length) = alB l.length := bools_ext (oneV_len _ _ (noB_len _)) (alB_len _) fun i hi => by rw [not_at hi]; unfold noB alB; rw [getD_vec hi, getD_vec hi]; rfl
theorem not_al (l : List Cm) : oneV l 7 (alB l.length) = noB l.length := bools_ext (oneV_len _ _ (alB_len _)) (noB_len _) fun i hi => by rw [not_at hi]; unfold noB alB; rw [getD_vec hi, getD_vec hi]; rfl
theorem not_not {l : List Cm} {b : List Bool} (hb : b.length = l.length) : oneV l 7 (oneV l 7 b) = b := bools_ext (oneV_len _ _ (oneV_len _ _ hb)) hb fun i hi => by rw [not_at hi, not_at hi, Bool.not_not]
theorem one_same {l : List Cm} (hv : Valid l) {b : List Bool} (hb : b.length = l.length) {k : Int} (hk : k = 8 ∨ k = 9 ∨ k = 12 ∨ k = 13) : oneV l k (oneV l k b) = oneV l k b := by
  rcases hk with rfl | rfl | rfl | rfl
  · exact anc_anc hv hb
  · exact des_des hv hb
  · exact hd_hd hv hb
  · exact rt_rt hv hb
theorem one_inr {l : List Cm} (hv : Valid l) {b : List Bool} (hb : b.length = l.length) {k : Int} (hk : k = 8 ∨ k = 9 ∨ k = 12 ∨ k = 13) : oneV l k (oneV l (inr k) b) = oneV l k b := by
  rcases hk with rfl | rfl | rfl | rfl
  · exact gen_anc hv hb
  · exact gen_des hv hb
  · exact hd_anc hv hb
  · exact rt_des hv hb
/-- What a tree selects. -/
def evT (l : List Cm) : Tr → List Bool
  | .nil => []
  | .nd k m a b => if ar k = 0 then leafK l ⟨k, m, 0, 0⟩ l.length else if ar k = 1 then oneV l k (evT l a) else twoK l.length k (evT l a) (evT l b) l.length
theorem evT_len {l : List Cm} : ∀ {t : Tr}, okT t → (evT l t).length = l.length
  | .nil, h => absurd h id
  | .nd k m a b, h => by
    obtain ⟨h1, h2, h3, h4, h5, h6, h7⟩ := h
    unfold evT
    split
    · exact leafK_len ..
    · rename_i h0
      split
      · rename_i h1; exact oneV_len l k (evT_len (h6 h1).1)
      · exact twoK_len ..
theorem evT_1 (l : List Cm) (a b : Tr) : evT l (.nd 1 0 a b) = alB l.length := by
  show leafK l ⟨1, 0, 0, 0⟩ l.length = _
  unfold leafK alB
  refine vec_ext fun i hi => ?_
  rw [decide_eq_true hi]; rfl
theorem evT_2 (l : List Cm) (a b : Tr) : evT l (.nd 2 0 a b) = noB l.length := by
  show leafK l ⟨2, 0, 0, 0⟩ l.length = _
  unfold leafK noB
  refine vec_ext fun i hi => ?_
  rw [decide_eq_true hi]; rfl
theorem evT_one {l : List Cm} {k m : Int} {a b : Tr} (h : 7 ≤ k ∧ k ≤ 13) : evT l (.nd k m a b) = oneV l k (evT l a) := by
  have ha : ar k = 1 := by rcases ar_or k with ⟨_, h⟩ | ⟨_, _, h⟩ | ⟨_, h⟩ <;> omega
  rw [evT, if_neg (by omega), if_pos ha]
theorem evT_two {l : List Cm} {k m : Int} {a b : Tr} (h : 14 ≤ k) : evT l (.nd k m a b) = twoK l.length k (evT l a) (evT l b) l.length := by
  have ha : ar k = 2 := by rcases ar_or k with ⟨_, h⟩ | ⟨_, _, h⟩ | ⟨_, h⟩ <;> omega
  rw [evT, if_neg (by omega), if_neg (by omega)]
theorem leaf_is2 {k m : Int} {l r : Tr} (h : okT (.nd k m l r)) (hk : k = 1 ∨ k = 2) : m = 0 ∧ l = .nil ∧ r = .nil := by
  obtain ⟨h1, h2, h3, h4, h5, _, _⟩ := h
  have ha : ar k = 0 := by rcases hk with rfl | rfl <;> rfl
  have hm : mostN k = 0 := by rcases hk with rfl | rfl <;> rfl
  obtain ⟨a, b⟩ := h5 ha
  exact ⟨by omega, a, b⟩
theorem kd_ev {l : List Cm} {t : Tr} (h : okT t) : (kdT t = 1 → evT l t = alB l.length) ∧ (kdT t = 2 → evT l t = noB l.length) := by
  cases t with
  | nil => exact absurd h id
  | nd k m a b =>
    refine ⟨fun hk => ?_, fun hk => ?_⟩
    · have hk : k = 1 := hk
      subst hk; obtain ⟨rfl, rfl, rfl⟩ := leaf_is2 h (by omega); exact evT_1 l _ _
    · have hk : k = 2 := hk
      subst hk; obtain ⟨rfl, rfl, rfl⟩ := leaf_is2 h (by omega); exact evT_2 l _ _
theorem one_ev {l : List Cm} (hv : Valid l) {k : Int} (hk : 7 ≤ k ∧ k ≤ 13) : ∀ {x : Tr}, okT x → evT l (oneT k x) = oneV l k (evT l x)
  | .nil, h => absurd h id
  | .nd xk m a b, h => by
    have hin : k = 8 ∨ k = 9 ∨ k = 12 ∨ k = 13 → 7 ≤ inr k ∧ inr k ≤ 13 := by
      rintro (rfl | rfl | rfl | rfl) <;> decide
    have hkd := kd_ev (l := l) h
    rw [oneT]
    split
    · rename_i c; obtain ⟨rfl, c2⟩ := c
      rw [hkd.2 c2, not_no, evT_1]
    · split
      · rename_i c; obtain ⟨rfl, c2⟩ := c
        rw [hkd.1 c2, not_al, evT_2]
      · split
        · rename_i c; obtain ⟨rfl, rfl⟩ := c
          rw [evT_one (by omega), not_not (evT_len (ok_op h (by omega)))]
        · split
          · rename_i c
            rw [hkd.2 c.2, one_no hv (by omega)]
          · split
            · rename_i c
              rw [hkd.1 c.2, one_al hv c.1]
            · split
              · rename_i c; obtain ⟨c1, rfl⟩ := c
                rw [evT_one hk, one_same hv (evT_len (ok_op h hk)) c1]
              · split
                · rename_i c; obtain ⟨c1, rfl⟩ := c
                  have ho := ok_op h (hin c1)
                  rw [one_ev hv hk ho, evT_one (hin c1), one_inr hv (evT_len ho) c1]
                · rw [evT_one hk]
theorem two_ev {l : List Cm} (hv : Valid l) {k : Int} (hk : 14 ≤ k ∧ k ≤ 16) {x y : Tr} (hx : okT x) (hy : okT y) : evT l (twoT k x y) = twoK l.length k (evT l x) (evT l y) l.length := by
  have lx := evT_len (l := l) hx
  have ly := evT_len (l := l) hy
  obtain ⟨x1, x2⟩ := kd_ev (l := l) hx
  obtain ⟨y1, y2⟩ := kd_ev (l := l) hy
  have he : eqI x y = 1 → evT l x = evT l y := fun h => by
    unfold eqI at h
    split at h
    · rename_i hh; rw [hh]
    · omega
  have al : ∀ i, i < l.length → (alB l.length).getD i false = true := fun i hi => by unfold alB; rw [getD_vec hi]
  have no : ∀ i, i < l.length → (noB l.length).getD i false = false := fun i hi => by unfold noB; rw [getD_vec hi]
  have ext : ∀ {v : List Bool}, v.length = l.length → (∀ i, i < l.length → v.getD i false = opV k ((evT l x).getD i false) ((evT l y).getD i false)) → v = twoK l.length k (evT l x) (evT l y) l.length := fun h1 h2 =>
    bools_ext h1 (twoK_len ..) fun i hi => by rw [two_at hi, h2 i hi]
  have o16 : ∀ a b, opV 16 a b = (a && !b) := fun a b => rfl
  have o15 : ∀ a b, opV 15 a b = (a && b) := fun a b => rfl
  have o14 : ∀ a b, opV 14 a b = (a || b) := fun a b => rfl
  unfold twoT twoE
  split
  · rename_i h16; subst h16
    split
    · rename_i c
      rw [evT_2]
      refine ext (noB_len _) fun i hi => ?_
      rw [o16, no i hi]
      rcases c with c | c | c
      · rw [he c]; simp
      · rw [x2 c, no i hi]; rfl
      · rw [y1 c, al i hi]; simp
    · split
      · rename_i c
        exact ext lx fun i hi => by rw [o16, y2 c, no i hi]; simp
      · split
        · rename_i c
          rw [one_ev hv (by omega) hy]
          exact ext (oneV_len _ _ ly) fun i hi => by rw [o16, not_at hi, x1 c, al i hi]; rfl
        · rw [evT_two (by omega)]
  · split
    · rename_i h15; subst h15
      split
      · rename_i c
        refine ext lx fun i hi => ?_
        rw [o15]
        rcases c with c | c
        · rw [he c]; simp
        · rw [y1 c, al i hi]; simp
      · split
        · rename_i c
          exact ext ly fun i hi => by rw [o15, x1 c, al i hi]; rfl
        · split
          · rename_i c
            rw [evT_2]
            refine ext (noB_len _) fun i hi => ?_
            rw [o15, no i hi]
            rcases c with c | c
            · rw [x2 c, no i hi]; rfl
            · rw [y2 c, no i hi]; simp
          · rw [evT_two (by omega)]
    · have h14 : k = 14 := by omega
      subst h14
      split
      · rename_i c
        refine ext lx fun i hi => ?_
        rw [o14]
        rcases c with c | c
        · rw [he c]; simp
        · rw [y2 c, no i hi]; simp
      · split
        · rename_i c
          exact ext ly fun i hi => by rw [o14, x2 c, no i hi]; rfl
        · split
          · rename_i c
            rw [evT_1]
            refine ext (alB_len _) fun i hi => ?_
            rw [o14, al i hi]
            rcases c with c | c
            · rw [x1 c, al i hi]; rfl
            · rw [y1 c, al i hi]; simp
          · rw [evT_two (by omega)]
theorem sim_ev {l : List Cm} (hv : Valid l) : ∀ {t : Tr}, okT t → evT l (simT t) = evT l t
  | .nil, h => absurd h id
  | .nd k m a b, h => by
    rcases sim_c h with ⟨ha, hS⟩ | ⟨ha, hk1, hk2, hl, hS⟩ | ⟨ha, hk1, hk2, hl, hr, hS⟩
    · rw [hS]
    · rw [hS, one_ev hv ⟨hk1, hk2⟩ (sim_ok hl).1, sim_ev hv hl, evT_one ⟨hk1, hk2⟩]
    · rw [hS, two_ev hv ⟨hk1, hk2⟩ (sim_ok hl).1 (sim_ok hr).1, sim_ev hv hl, sim_ev hv hr, evT_two hk1]
theorem rtV_ls {l : List Cm} : ∀ {t : Tr}, okT t → szT t ≤ 40 → rtV l (lsT 0 t) = evT l t
  | .nil, h, _ => absurd h id
  | .nd k m a b, h, hs => by
    have h0 := h
    obtain ⟨h1, h2, h3, h4, h5, h6, h7⟩ := h
    rw [szT_nd] at hs
    rcases ar_or k with ⟨hk, ha⟩ | ⟨hk, hk2, ha⟩ | ⟨hk, ha⟩
    · obtain ⟨rfl, rfl⟩ := h5 ha
      show nodeV l [] ⟨k, m, 0, 0⟩ = _
      unfold nodeV evT
      rw [if_pos ha, if_pos ha]
    · obtain ⟨hl, rfl⟩ := h6 ha
      obtain rfl : m = 0 := by
        have : mostN k = 0 := by unfold mostN; rw [if_neg (by omega), if_neg (by omega), if_neg (by omega)]
        omega
      rw [ls_one hl, rtV_wr ⟨hk, hk2⟩ (ls_ne hl), rtV_ls hl (by omega), evT_one ⟨hk, by omega⟩]
    · obtain ⟨hl, hr⟩ := h7 ha
      obtain rfl : m = 0 := by
        have : mostN k = 0 := by unfold mostN; rw [if_neg (by omega), if_neg (by omega), if_neg (by omega)]
        omega
      rw [ls_two hl hr, rtV_jn (ls_val hl (by omega)) (ls_val hr (by omega)) hk, rtV_ls hl (by omega), rtV_ls hr (by omega), evT_two hk]
theorem sr_cases (l : List Cm) (q : List Nd) : (∃ c i : Int, c ≠ 0 ∧ optQ q = (c, i, [])) ∨ (∃ S, optQ q = (0, 0, S) ∧ (histF l).1 ≠ 0 ∧ S.length ≤ 40) ∨
    ∃ S E, optQ q = (0, 0, S) ∧ histF l = (0, 0) ∧ evV l q = (0, 0, E) ∧ evV l S = (0, 0, E) ∧ E.length = l.length ∧ S.length ≤ 40 := by
  rcases op_cases q with h | ⟨R, hvq, g1, g2, g3, g4, g5⟩
  · exact .inl h
  · have hs := sim_ok g1
    have hS : (lsT 0 (simT R)).length ≤ 40 := by rw [lsT_len]; omega
    by_cases hh : (histF l).1 = 0
    · have h0 := hist_of hh
      have hv := valid_of (l := l) hh
      refine .inr (.inr ⟨_, rtV l q, g5, h0, ev_val h0 hvq, ?_, rtV_len hvq, hS⟩)
      rw [ev_val h0 (ls_val hs.1 (by omega)), rtV_ls hs.1 (by omega), sim_ev hv g1, ← rtV_ls g1 (by omega), ← g4]
    · exact .inr (.inl ⟨_, g5, hh, hS⟩)
end Go.Proofs.YtlbjffdaooadoaaDoor
