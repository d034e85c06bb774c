/- Walks, printed by wip/gen/walk.py. -/
import Derived.Test.YtlbjffdaooadoaaDoorT37
import Derived.Test.YtlbjffdaooadoaaDoorV5
set_option linter.all false
set_option maxRecDepth 100000
set_option maxHeartbeats 4000000
namespace Go.Proofs.YtlbjffdaooadoaaDoor
open Go Go.Vc Go.RowKit
theorem val_iff {q : List Nd} : valQ q = (0, 0) ↔ 1 ≤ q.length ∧ q.length ≤ 40 ∧ (∀ j, j < q.length → qC q j = 0) ∧ (rts q q.length).length = 1 := by
  constructor
  · intro h
    unfold valQ at h
    split at h
    · cases h
    · rename_i h1
      split at h
      · rename_i h2; rw [h] at h2; exact absurd rfl h2
      · rename_i h2
        split at h
        · cases h
        · rename_i h3
          exact ⟨by omega, by omega, fun j hj => firstF_zero (f := qC q) (g := iI) (n := q.length) (by omega) j hj, by omega⟩
  · rintro ⟨h1, h2, h3, h4⟩
    rw [valQ_end h1 h2 h3, if_neg (by omega)]
theorem getD_l {a r : List Nd} {i : Nat} (h : i < a.length) : (a ++ r).getD i default = a.getD i default := by
  rw [List.getD_eq_getElem?_getD, List.getD_eq_getElem?_getD, List.getElem?_append_left h]
theorem rts_l {a r : List Nd} : ∀ {i : Nat}, i ≤ a.length → rts (a ++ r) i = rts a i
  | 0, _ => rfl
  | i + 1, h => by
    show (rts (a ++ r) i).take _ ++ _ = (rts a i).take _ ++ _
    rw [rts_l (by omega), getD_l (by omega)]
theorem qC_l {a r : List Nd} {i : Nat} (h : i < a.length) : qC (a ++ r) i = qC a i := by unfold qC; rw [getD_l h, rts_l (by omega)]
theorem rts_root {a : List Nd} (h : valQ a = (0, 0)) : rts a a.length = [(a.length : Int) - 1] := by
  obtain ⟨h1, h2, h3, h4⟩ := val_iff.1 h
  obtain ⟨n, hn⟩ : ∃ n, a.length = n + 1 := ⟨a.length - 1, by omega⟩
  rw [hn] at h4 ⊢
  have e : rts a (n + 1) = (rts a n).take ((rts a n).length - ar (a.getD n default).kd) ++ [(n : Int)] := rfl
  rw [e] at h4 ⊢
  have : (rts a n).take ((rts a n).length - ar (a.getD n default).kd) = [] := List.eq_nil_of_length_eq_zero (by rw [List.length_append, List.length_singleton] at h4; omega)
  rw [this]; simp
theorem val_wr {k : Int} {a : List Nd} (h : valQ a = (0, 0)) (hk : 7 ≤ k ∧ k < 14) (hl : a.length < 40) : valQ (wrQ k a) = (0, 0) := by
  obtain ⟨h1, h2, h3, h4⟩ := val_iff.1 h
  have hr := rts_root h
  have hL : (wrQ k a).length = a.length + 1 := by simp [wrQ]
  have hx : (wrQ k a).getD a.length default = ⟨k, 0, (a.length : Int) - 1, 0⟩ := by unfold wrQ; simp
  have ha : ar k = 1 := by unfold ar; rw [if_neg (by omega), if_pos (by omega)]
  have hm : mostN k = 0 := by unfold mostN; rw [if_neg (by omega), if_neg (by omega), if_neg (by omega)]
  have hrt : rts (wrQ k a) a.length = [(a.length : Int) - 1] := by unfold wrQ; rw [rts_l (Nat.le_refl _), hr]
  refine val_iff.2 ⟨by omega, by omega, fun j hj => ?_, ?_⟩
  · by_cases hja : j < a.length
    · unfold wrQ; rw [qC_l hja]; exact h3 j hja
    · obtain rfl : j = a.length := by omega
      unfold qC
      rw [hx, hrt]
      unfold ndC
      dsimp only
      rw [ha, hm, if_neg (by omega), if_neg (by omega), if_neg (by simp), if_pos ⟨rfl, rfl⟩]
  · rw [hL]
    show ((rts (wrQ k a) a.length).take _ ++ _).length = 1
    rw [hx, hrt, ha]; rfl
theorem ar_sh (m : Nat) (x : Nd) : ar (shN m x).kd = ar x.kd := rfl
theorem jn_eq (k : Int) (a b : List Nd) : jnQ k a b = a ++ (b.map (shN a.length) ++ [⟨k, 0, (a.length : Int) - 1, (a.length : Int) + b.length - 1⟩]) := by
  unfold jnQ jnK; rw [List.take_length, List.append_assoc]
theorem jn_at (k : Int) {a b : List Nd} {i : Nat} (h : i < b.length) : (jnQ k a b).getD (a.length + i) default = shN a.length (b.getD i default) := by
  rw [jn_eq, List.getD_eq_getElem?_getD, List.getElem?_append_right (by omega), Nat.add_sub_cancel_left, List.getElem?_append_left (by rw [List.length_map]; exact h), List.getElem?_map, List.getD_eq_getElem?_getD]
  rw [List.getElem?_eq_getElem h]; rfl
theorem jn_last (k : Int) (a b : List Nd) : (jnQ k a b).getD (a.length + b.length) default = ⟨k, 0, (a.length : Int) - 1, (a.length : Int) + b.length - 1⟩ := by
  rw [jn_eq, List.getD_eq_getElem?_getD, List.getElem?_append_right (by omega), Nat.add_sub_cancel_left, List.getElem?_append_right (by rw [List.length_map]; exact Nat.le_refl _), List.length_map, Nat.sub_self]; rfl
theorem ndC_len2 {n : Nd} {l : List Int} (h : ndC n l = 0) : ar n.kd ≤ l.length := ndC_len h
theorem jn_rts {k : Int} {a b : List Nd} (ha : valQ a = (0, 0)) (hb : ∀ j, j < b.length → qC b j = 0) : ∀ {i : Nat}, i ≤ b.length → rts (jnQ k a b) (a.length + i) = ((a.length : Int) - 1) :: (rts b i).map (· + (a.length : Int))
  | 0, _ => by
    rw [Nat.add_zero, jn_eq, rts_l (Nat.le_refl _), rts_root ha]; rfl
  | i + 1, h => by
    have ih := jn_rts (k := k) ha hb (i := i) (by omega)
    have hc := ndC_len (hb i (by omega))
    show (rts (jnQ k a b) (a.length + i)).take ((rts (jnQ k a b) (a.length + i)).length - ar ((jnQ k a b).getD (a.length + i) default).kd) ++ [((a.length + i : Nat) : Int)] = ((a.length : Int) - 1) :: ((rts b i).take ((rts b i).length - ar (b.getD i default).kd) ++ [(i : Int)]).map (· + (a.length : Int))
    rw [ih, jn_at k (by omega), ar_sh]
    have e : (((a.length : Int) - 1) :: (rts b i).map (· + (a.length : Int))).length - ar (b.getD i default).kd = ((rts b i).length - ar (b.getD i default).kd) + 1 := by
      rw [List.length_cons, List.length_map]; omega
    rw [e, List.take_succ_cons, List.map_append, ← List.map_take]
    simp
    omega
theorem wnt_cons (x : Int) {l : List Int} {m : Nat} (h : m ≤ l.length) (k : Nat) : wnt (x :: l) m k = wnt l m k := by
  unfold wnt
  have e : (x :: l).length - m = (l.length - m) + 1 := by rw [List.length_cons]; omega
  rw [e, List.drop_succ_cons]
theorem wnt_map (l : List Int) (c : Int) {m k : Nat} (hm : m ≤ l.length) (h : k < m) : wnt (l.map (· + c)) m k = wnt l m k + c := by
  unfold wnt
  rw [List.length_map, ← List.map_drop]
  have hl : k < (l.drop (l.length - m)).length := by rw [List.length_drop]; omega
  rw [List.getD_eq_getElem?_getD, List.getD_eq_getElem?_getD, List.getElem?_map, List.getElem?_eq_getElem hl]; rfl
theorem jn_qC {x : Nd} {l : List Int} {y : Int} {m : Nat} (h : ndC x l = 0) : ndC (shN m x) (y :: l.map (· + (m : Int))) = 0 := by
  have hl := ndC_len h
  unfold ndC at h ⊢
  split at h
  · omega
  · rename_i c1
    split at h
    · omega
    · rename_i c2
      split at h
      · omega
      · split at h
        · rename_i c3 c4
          obtain ⟨c4, c5⟩ := c4
          have hkd : (shN m x).kd = x.kd := rfl
          have hnm : (shN m x).nm = x.nm := rfl
          rw [hkd, hnm, if_neg c1, if_neg c2, if_neg (by rw [List.length_cons, List.length_map]; omega), if_pos]
          rw [wnt_cons y (by rw [List.length_map]; exact hl), wnt_cons y (by rw [List.length_map]; exact hl)]
          rcases ar_or x.kd with ⟨_, ha⟩ | ⟨_, _, ha⟩ | ⟨_, ha⟩
          · rw [ha] at c4 c5 hl ⊢
            rw [wnt_out _ (by omega) (by omega)] at c4 c5
            rw [wnt_out _ (by rw [List.length_map]; omega) (by omega), wnt_out _ (by rw [List.length_map]; omega) (by omega)]
            unfold shN; dsimp only; rw [ha, if_neg (by omega), if_neg (by omega)]; exact ⟨c4, c5⟩
          · rw [ha] at c4 c5 hl ⊢
            rw [wnt_out _ hl (by omega)] at c5
            rw [wnt_map l (m : Int) (m := 1) (k := 0) hl (by omega), wnt_out (l.map (· + (m : Int))) (m := 1) (k := 1) (by rw [List.length_map]; exact hl) (by omega)]
            unfold shN; dsimp only; rw [ha, if_pos (by omega), if_neg (by omega), c4]; exact ⟨rfl, c5⟩
          · rw [ha] at c4 c5 hl ⊢
            rw [wnt_map _ _ hl (by omega), wnt_map _ _ hl (by omega)]
            unfold shN; dsimp only; rw [ha, if_pos (by omega), if_pos (by omega), c4, c5]; exact ⟨rfl, rfl⟩
        · cases h
theorem jn_len (k : Int) (a b : List Nd) : (jnQ k a b).length = a.length + b.length + 1 := by rw [jn_eq]; simp; omega
theorem val_jn {k : Int} {a b : List Nd} (ha : valQ a = (0, 0)) (hb : valQ b = (0, 0)) (hk : 14 ≤ k ∧ k ≤ 16) (hl : a.length + b.length < 40) : valQ (jnQ k a b) = (0, 0) := by
  obtain ⟨h1, h2, h3, h4⟩ := val_iff.1 ha
  obtain ⟨g1, g2, g3, g4⟩ := val_iff.1 hb
  have hL := jn_len k a b
  have hx := jn_last k a b
  have hk2 : ar k = 2 := by unfold ar; rw [if_pos (by omega)]
  have hm : mostN k = 0 := by unfold mostN; rw [if_neg (by omega), if_neg (by omega), if_neg (by omega)]
  have hrt : rts (jnQ k a b) (a.length + b.length) = [(a.length : Int) - 1, (b.length : Int) - 1 + a.length] := by
    rw [jn_rts ha g3 (Nat.le_refl _), rts_root hb]; rfl
  refine val_iff.2 ⟨by omega, by omega, fun j hj => ?_, ?_⟩
  · by_cases hja : j < a.length
    · rw [jn_eq, qC_l hja]; exact h3 j hja
    · by_cases hjb : j < a.length + b.length
      · obtain ⟨i, rfl⟩ : ∃ i, j = a.length + i := ⟨j - a.length, by omega⟩
        unfold qC
        rw [jn_at k (by omega), jn_rts ha g3 (by omega)]
        exact jn_qC (g3 i (by omega))
      · obtain rfl : j = a.length + b.length := by omega
        unfold qC
        rw [hx, hrt]
        unfold ndC
        dsimp only
        rw [hk2, hm, if_neg (by omega), if_neg (by omega), if_neg (by simp), if_pos]
        refine ⟨rfl, ?_⟩
        show (a.length : Int) + b.length - 1 = (b.length : Int) - 1 + a.length
        omega
  · rw [hL]
    show ((rts (jnQ k a b) (a.length + b.length)).take _ ++ _).length = 1
    rw [hx, hrt, hk2]; rfl
/-- What a valid query selects. -/
def rtV (l : List Cm) (q : List Nd) : List Bool := (setsQ l q q.length).getD (q.length - 1) []
theorem sets_l (l : List Cm) {a r : List Nd} : ∀ {i : Nat}, i ≤ a.length → setsQ l (a ++ r) i = setsQ l a i
  | 0, _ => rfl
  | i + 1, h => by
    show setsQ l (a ++ r) i ++ _ = setsQ l a i ++ _
    rw [sets_l l (by omega), getD_l (by omega)]
theorem rtV_len {l : List Cm} {q : List Nd} (h : valQ q = (0, 0)) : (rtV l q).length = l.length := by
  obtain ⟨hok, _⟩ := ok_of_val h
  have h1 := hok.1
  unfold rtV
  refine setsQ_all hok (Nat.le_refl _) _ (mem_at (i := q.length - 1) ?_)
  rw [List.getD_eq_getElem?_getD, List.getElem?_eq_getElem (by rw [setsQ_len]; omega)]; rfl
theorem ev_val {l : List Cm} {q : List Nd} (hl : histF l = (0, 0)) (h : valQ q = (0, 0)) : evV l q = (0, 0, rtV l q) := by
  unfold evV rtV; rw [if_neg (by rw [hl]; simp), if_neg (by rw [h]; simp)]
theorem snoc_get {α : Type} (S : List α) (x d : α) {n : Nat} (h : S.length = n) : (S ++ [x]).getD n d = x := by
  rw [List.getD_eq_getElem?_getD, List.getElem?_append_right (by omega), h, Nat.sub_self]; rfl
theorem rtV_wr {l : List Cm} {k : Int} {a : List Nd} (hk : 7 ≤ k ∧ k < 14) (h1 : 1 ≤ a.length) : rtV l (wrQ k a) = oneV l k (rtV l a) := by
  have hL : (wrQ k a).length = a.length + 1 := by simp [wrQ]
  have ha : ar k = 1 := by unfold ar; rw [if_neg (by omega), if_pos (by omega)]
  unfold rtV
  rw [hL, Nat.add_sub_cancel]
  show (setsQ l (wrQ k a) a.length ++ [nodeV l (setsQ l (wrQ k a) a.length) ((wrQ k a).getD a.length default)]).getD a.length [] = _
  have hx : (wrQ k a).getD a.length default = ⟨k, 0, (a.length : Int) - 1, 0⟩ := by unfold wrQ; simp
  have hs : setsQ l (wrQ k a) a.length = setsQ l a a.length := by unfold wrQ; exact sets_l l (Nat.le_refl _)
  rw [snoc_get _ _ _ (setsQ_len ..), hx, hs]
  unfold nodeV
  dsimp only
  rw [ha, if_neg (by omega), if_pos rfl]
  congr 2
  omega
theorem leaf_sh (l : List Cm) (m : Nat) (x : Nd) (j : Nat) : leafK l (shN m x) j = leafK l x j := rfl
theorem app_get {α : Type} (A S : List α) (d : α) (i : Nat) : (A ++ S).getD (A.length + i) d = S.getD i d := by
  rw [List.getD_eq_getElem?_getD, List.getElem?_append_right (by omega), Nat.add_sub_cancel_left, List.getD_eq_getElem?_getD]
theorem jn_sets {l : List Cm} {k : Int} {a b : List Nd} (hb : okQ b) : ∀ {i : Nat}, i ≤ b.length → setsQ l (jnQ k a b) (a.length + i) = setsQ l a a.length ++ setsQ l b i
  | 0, _ => by rw [Nat.add_zero, jn_eq, sets_l l (Nat.le_refl _)]; simp [setsQ]
  | i + 1, h => by
    have ih := jn_sets (l := l) (k := k) (a := a) hb (i := i) (by omega)
    show setsQ l (jnQ k a b) (a.length + i) ++ [nodeV l (setsQ l (jnQ k a b) (a.length + i)) ((jnQ k a b).getD (a.length + i) default)] = setsQ l a a.length ++ (setsQ l b i ++ [nodeV l (setsQ l b i) (b.getD i default)])
    rw [ih, jn_at k (by omega), List.append_assoc]
    congr 3
    obtain ⟨_, _, _, _, _, h6, h7⟩ := ok_node hb (i := i) (by omega) rfl
    have hA := setsQ_len l a a.length
    generalize b.getD i default = x at h6 h7 ⊢
    have gt : ∀ p : Nat, (setsQ l a a.length ++ setsQ l b i).getD (((p : Nat) : Int) + (a.length : Nat)).toNat [] = (setsQ l b i).getD ((p : Nat) : Int).toNat [] := fun p => by
      have e : (((p : Nat) : Int) + (a.length : Nat)).toNat = (setsQ l a a.length).length + p := by rw [hA]; omega
      rw [e, app_get]; rfl
    unfold nodeV
    rw [ar_sh]
    split
    · exact leaf_sh ..
    · split
      · rename_i ha
        have e1 : (shN a.length x).lf = x.lf + (a.length : Nat) := by unfold shN; dsimp only; rw [if_pos (by omega)]
        rw [e1, (h6 ha).2.1, gt]; rfl
      · have ha : ar x.kd = 2 := by rcases ar_or x.kd with ⟨_, h⟩ | ⟨_, _, h⟩ | ⟨_, h⟩ <;> omega
        have e1 : (shN a.length x).lf = x.lf + (a.length : Nat) := by unfold shN; dsimp only; rw [if_pos (by omega)]
        have e2 : (shN a.length x).rt = x.rt + (a.length : Nat) := by unfold shN; dsimp only; rw [if_pos ha]
        rw [e1, e2, (h7 ha).2.1, (h7 ha).2.2.1, gt, gt]; rfl
theorem rtV_jn {l : List Cm} {k : Int} {a b : List Nd} (ha : valQ a = (0, 0)) (hb : valQ b = (0, 0)) (hk : 14 ≤ k) : rtV l (jnQ k a b) = twoK l.length k (rtV l a) (rtV l b) l.length := by
  obtain ⟨oka, _⟩ := ok_of_val ha
  obtain ⟨okb, _⟩ := ok_of_val hb
  have h1 := oka.1
  have g1 := okb.1
  have hk2 : ar k = 2 := by unfold ar; rw [if_pos hk]
  unfold rtV
  rw [jn_len, Nat.add_sub_cancel]
  show (setsQ l (jnQ k a b) (a.length + b.length) ++ [nodeV l (setsQ l (jnQ k a b) (a.length + b.length)) ((jnQ k a b).getD (a.length + b.length) default)]).getD (a.length + b.length) [] = _
  rw [snoc_get _ _ _ (setsQ_len ..), jn_last, jn_sets okb (Nat.le_refl _)]
  unfold nodeV
  dsimp only
  rw [hk2, if_neg (by omega), if_neg (by omega)]
  have e1 : ((a.length : Int) - 1).toNat = a.length - 1 := by omega
  have e2 : ((a.length : Int) + b.length - 1).toNat = (setsQ l a a.length).length + (b.length - 1) := by rw [setsQ_len]; omega
  rw [e1, e2, app_get]
  congr 1
  rw [List.getD_eq_getElem?_getD, List.getElem?_append_left (by rw [setsQ_len]; omega), List.getD_eq_getElem?_getD]
theorem not_at {l : List Cm} {b : List Bool} {i : Nat} (h : i < l.length) : (oneV l 7 b).getD i false = !b.getD i false := by
  unfold oneV
  rw [if_pos rfl]
  unfold minK
  rw [vec_len, List.getD_eq_getElem?_getD, List.getElem?_map, List.getElem?_range h]
  simp [h, List.getD_eq_getElem?_getD, vec_get h]
theorem two_at {n : Nat} {k : Int} {x y : List Bool} {i : Nat} (h : i < n) : (twoK n k x y n).getD i false = opV k (x.getD i false) (y.getD i false) := by
  unfold twoK
  rw [List.getD_eq_getElem?_getD, vec_get h, if_pos h]; rfl
theorem bools_ext {x y : List Bool} {n : Nat} (hx : x.length = n) (hy : y.length = n) (h : ∀ i, i < n → x.getD i false = y.getD i false) : x = y := by
  apply List.ext_getElem?
  intro i
  by_cases hi : i < n
  · have := h i hi
    rw [List.getD_eq_getElem?_getD, List.getD_eq_getElem?_getD, List.getElem?_eq_getElem (by omega), List.getElem?_eq_getElem (by omega)] at this
    rw [List.getElem?_eq_getElem (by omega), List.getElem?_eq_getElem (by omega)]
    exact congrArg some this
  · rw [List.getElem?_eq_none (by omega), List.getElem?_eq_none (by omega)]
theorem deMorgan1 {l : List Cm} {A B : List Bool} : oneV l 7 (twoK l.length 14 A B l.length) = twoK l.length 15 (oneV l 7 A) (oneV l 7 B) l.length :=
  bools_ext (n := l.length) (oneV_len l 7 (twoK_len ..)) (twoK_len ..) fun i hi => by rw [not_at hi, two_at hi, two_at hi, not_at hi, not_at hi]; simp [opV]
theorem deMorgan2 {l : List Cm} {A B : List Bool} : oneV l 7 (twoK l.length 14 A B l.length) = twoK l.length 16 (oneV l 7 A) B l.length :=
  bools_ext (n := l.length) (oneV_len l 7 (twoK_len ..)) (twoK_len ..) fun i hi => by rw [not_at hi, two_at hi, two_at hi, not_at hi]; simp [opV]

theorem ev_len {l : List Cm} {q : List Nd} (h : l.length ≤ 9223372036854775807) : (evV l q).2.2.length ≤ 9223372036854775807 := by
  unfold evV
  split
  · exact Nat.zero_le _
  · split
    · exact Nat.zero_le _
    · rename_i hv
      have := rtV_len (l := l) (q := q) (Decidable.byContradiction hv)
      unfold rtV at this
      show ((setsQ l q q.length).getD (q.length - 1) []).length ≤ _
      omega

theorem seld_meets : Meets Tryd.prog 33 (Spec.pure seldG) := by
 refine meets_fun (E_wrap.at_ 25) Tryd.func33 rfl rfl rfl ?_
 intro args p r hg hp
 unfold seldG at hg
 split at hg
 ·rename_i xs ys
  simp only [Option.some.injEq, Prod.mk.injEq] at hg
  obtain ⟨rfl, rfl⟩ := hg
  obtain ⟨he, hl, hsm, he2, hl2⟩ := hp
  generalize dC xs = l at *
  generalize dN ys = q at *
  subst he he2
  have hel := ev_len (q := q) hl
  have hT : (E_wrap).X = T := rfl
  have hx0 := And.intro @rect_eC (And.intro @rect_eN (And.intro @dC_rows (And.intro @dN_rows (And.intro @dB_rows (And.intro @dec_t (And.intro @dec_f @Tryd.results33))))))
  have hx := hx0
  refine ⟨by rfl, ?_⟩
  intro F W0 hnp hmk
  refine vc_seq_k fun N1 h1 => ?_
  refine u_reg ?_
  try refine lg_mk ?_
  refine u_bx ?_
  refine u_mv ?_
  refine u_mv ?_
  refine lg_nil ?_
  refine h1 _ ?_; clear h1; try clear N1
  refine vc_seq_k fun N2 h2 => ?_
  refine u_reg ?_
  try refine lg_mk ?_
  refine u_mv ?_
  refine u_ld ?_
  have hc := call_rule (E := (E_wrap.at_ 25)) (f := 23) (sp := Spec.pure evG) rfl
  have hs := @evG.eq_1
  refine u_hp ?_
  refine u_mv ?_
  refine u_ex ?_
  refine u_ex ?_
  refine u_al ?_
  refine u_mv ?_
  refine u_st ?_
  refine lg_nil ?_
  generalize evV l q = V at *
  refine h2 _ ?_; clear h2; try clear N2
  refine vc_seq_k fun N3 h3 => ?_
  refine u_reg ?_
  try refine lg_mk ?_
  refine u_mv ?_
  refine u_pt ?_
  refine u_ld ?_
  refine u_bn ?_
  refine u_mv ?_
  refine g_mv ?_
  refine g_ln ?_
  refine g_mv ?_
  refine g_ln ?_
  refine g_bn ?_
  refine u_pk ?_
  refine u_mv ?_
  refine u_mv ?_
  refine lg_nil ?_
  refine h3 _ ?_; clear h3; try clear N3
  refine vc_ret ?_
  try simp only [k_rules]
  refine fin2_ ?_
  exact cl_
 ·cases hg

def E_seld : Env Tryd.prog := E_wrap.add 33 (Spec.pure seldG) seld_meets (by kernel_rfl)

theorem val_code {q : List Nd} (h : valQ q ≠ (0, 0)) : (valQ q).1 ≠ 0 := by
  intro h0
  unfold valQ at h h0
  split at h
  · rename_i h1; rw [if_pos h1] at h0; exact absurd h0 (by decide)
  · rename_i h1
    rw [if_neg h1] at h0
    split at h
    · rename_i h2; rw [if_pos h2] at h0; exact h2 h0
    · rename_i h2
      rw [if_neg h2] at h0
      split at h
      · rename_i h3; rw [if_pos h3] at h0; exact absurd h0 (by decide)
      · exact h rfl

theorem sm_of {q : List Nd} (h : valQ q = (0, 0)) : smQ q := by
  obtain ⟨hok, _⟩ := ok_of_val h
  intro n hn
  obtain ⟨i, hi⟩ := List.getElem?_of_mem hn
  have hil := (List.getElem?_eq_some_iff.1 hi).1
  have h40 := hok.2.1
  obtain ⟨h1, h2, h3, h4, h5, h6, h7⟩ := ok_node hok hil (getD_nd hi)
  rcases ar_or n.kd with ⟨_, ha⟩ | ⟨_, _, ha⟩ | ⟨_, ha⟩
  · rw [(h5 ha).1, (h5 ha).2.1]; omega
  · rw [(h6 ha).2.1, (h6 ha).2.2.1]; omega
  · rw [(h7 ha).2.1, (h7 ha).2.2.1]; omega
theorem val_of_ref {q : List Nd} (h : (refQ q).1 = 0) : valQ q = (0, 0) := by
  rw [refQ_is] at h
  exact Decidable.byContradiction fun hv => val_code hv h
theorem hist_of {l : List Cm} (h : (histF l).1 = 0) : histF l = (0, 0) := by
  have hv := valid_of h
  unfold histF at h ⊢
  split at h
  · cases h
  · rename_i h0
    rw [if_neg h0]
    exact scanW_fst h
theorem wr_len (k : Int) (q : List Nd) : (wrQ k q).length = q.length + 1 := by simp [wrQ]
theorem jnQ_len (k : Int) (a b : List Nd) : (jnQ k a b).length = a.length + b.length + 1 := jn_len k a b
end Go.Proofs.YtlbjffdaooadoaaDoor
