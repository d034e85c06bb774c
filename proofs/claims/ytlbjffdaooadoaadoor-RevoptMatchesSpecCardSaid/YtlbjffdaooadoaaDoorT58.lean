/- Walks, printed by wip/gen/walk.py. -/
import Derived.Test.YtlbjffdaooadoaaDoorT57
import Derived.Test.YtlbjffdaooadoaaDoorV5
set_option linter.all false
set_option maxRecDepth 100000
set_option maxHeartbeats 4000000
namespace Go.Proofs.YtlbjffdaooadoaaDoor
open Go Go.Vc Go.RowKit
theorem val_code {q : List Nd} (h : valQ q ≠ (0, 0)) : (valQ q).1 ≠ 0 := by
  intro h0
  unfold valQ at h h0
  split at h
  · rename_i h1; rw [if_pos h1] at h0; exact absurd h0 (by decide)
  · rename_i h1
    rw [if_neg h1] at h0
    split at h
    · rename_i h2; rw [if_pos h2] at h0; exact h2 h0
    · rename_i h2
      rw [if_neg h2] at h0
      split at h
      · rename_i h3; rw [if_pos h3] at h0; exact absurd h0 (by decide)
      · exact h rfl

theorem val_iff {q : List Nd} : valQ q = (0, 0) ↔ 1 ≤ q.length ∧ q.length ≤ 40 ∧ (∀ j, j < q.length → qC q j = 0) ∧ (rts q q.length).length = 1 := by
  constructor
  · intro h
    unfold valQ at h
    split at h
    · cases h
    · rename_i h1
      split at h
      · rename_i h2; rw [h] at h2; exact absurd rfl h2
      · rename_i h2
        split at h
        · cases h
        · rename_i h3
          exact ⟨by omega, by omega, fun j hj => firstF_zero (f := qC q) (g := iI) (n := q.length) (by omega) j hj, by omega⟩
  · rintro ⟨h1, h2, h3, h4⟩
    rw [valQ_end h1 h2 h3, if_neg (by omega)]
theorem getD_l {a r : List Nd} {i : Nat} (h : i < a.length) : (a ++ r).getD i default = a.getD i default := by
  rw [List.getD_eq_getElem?_getD, List.getD_eq_getElem?_getD, List.getElem?_append_left h]
theorem rts_l {a r : List Nd} : ∀ {i : Nat}, i ≤ a.length → rts (a ++ r) i = rts a i
  | 0, _ => rfl
  | i + 1, h => by
    show (rts (a ++ r) i).take _ ++ _ = (rts a i).take _ ++ _
    rw [rts_l (by omega), getD_l (by omega)]
theorem qC_l {a r : List Nd} {i : Nat} (h : i < a.length) : qC (a ++ r) i = qC a i := by unfold qC; rw [getD_l h, rts_l (by omega)]
theorem rts_root {a : List Nd} (h : valQ a = (0, 0)) : rts a a.length = [(a.length : Int) - 1] := by
  obtain ⟨h1, h2, h3, h4⟩ := val_iff.1 h
  obtain ⟨n, hn⟩ : ∃ n, a.length = n + 1 := ⟨a.length - 1, by omega⟩
  rw [hn] at h4 ⊢
  have e : rts a (n + 1) = (rts a n).take ((rts a n).length - ar (a.getD n default).kd) ++ [(n : Int)] := rfl
  rw [e] at h4 ⊢
  have : (rts a n).take ((rts a n).length - ar (a.getD n default).kd) = [] := List.eq_nil_of_length_eq_zero (by rw [List.length_append, List.length_singleton] at h4; omega)
  rw [this]; simp
theorem val_wr {k : Int} {a : List Nd} (h : valQ a = (0, 0)) (hk : 7 ≤ k ∧ k < 14) (hl : a.length < 40) : valQ (wrQ k a) = (0, 0) := by
  obtain ⟨h1, h2, h3, h4⟩ := val_iff.1 h
  have hr := rts_root h
  have hL : (wrQ k a).length = a.length + 1 := by simp [wrQ]
  have hx : (wrQ k a).getD a.length default = ⟨k, 0, (a.length : Int) - 1, 0⟩ := by unfold wrQ; simp
  have ha : ar k = 1 := by unfold ar; rw [if_neg (by omega), if_pos (by omega)]
  have hm : mostN k = 0 := by unfold mostN; rw [if_neg (by omega), if_neg (by omega), if_neg (by omega)]
  have hrt : rts (wrQ k a) a.length = [(a.length : Int) - 1] := by unfold wrQ; rw [rts_l (Nat.le_refl _), hr]
  refine val_iff.2 ⟨by omega, by omega, fun j hj => ?_, ?_⟩
  · by_cases hja : j < a.length
    · unfold wrQ; rw [qC_l hja]; exact h3 j hja
    · obtain rfl : j = a.length := by omega
      unfold qC
      rw [hx, hrt]
      unfold ndC
      dsimp only
      rw [ha, hm, if_neg (by omega), if_neg (by omega), if_neg (by simp), if_pos ⟨rfl, rfl⟩]
  · rw [hL]
    show ((rts (wrQ k a) a.length).take _ ++ _).length = 1
    rw [hx, hrt, ha]; rfl
theorem ar_sh (m : Nat) (x : Nd) : ar (shN m x).kd = ar x.kd := rfl
theorem jn_eq (k : Int) (a b : List Nd) : jnQ k a b = a ++ (b.map (shN a.length) ++ [⟨k, 0, (a.length : Int) - 1, (a.length : Int) + b.length - 1⟩]) := by
  unfold jnQ jnK; rw [List.take_length, List.append_assoc]
theorem jn_at (k : Int) {a b : List Nd} {i : Nat} (h : i < b.length) : (jnQ k a b).getD (a.length + i) default = shN a.length (b.getD i default) := by
  rw [jn_eq, List.getD_eq_getElem?_getD, List.getElem?_append_right (by omega), Nat.add_sub_cancel_left, List.getElem?_append_left (by rw [List.length_map]; exact h), List.getElem?_map, List.getD_eq_getElem?_getD]
  rw [List.getElem?_eq_getElem h]; rfl
theorem jn_last (k : Int) (a b : List Nd) : (jnQ k a b).getD (a.length + b.length) default = ⟨k, 0, (a.length : Int) - 1, (a.length : Int) + b.length - 1⟩ := by
  rw [jn_eq, List.getD_eq_getElem?_getD, List.getElem?_append_right (by omega), Nat.add_sub_cancel_left, List.getElem?_append_right (by rw [List.length_map]; exact Nat.le_refl _), List.length_map, Nat.sub_self]; rfl
theorem ndC_len2 {n : Nd} {l : List Int} (h : ndC n l = 0) : ar n.kd ≤ l.length := ndC_len h
theorem jn_rts {k : Int} {a b : List Nd} (ha : valQ a = (0, 0)) (hb : ∀ j, j < b.length → qC b j = 0) : ∀ {i : Nat}, i ≤ b.length → rts (jnQ k a b) (a.length + i) = ((a.length : Int) - 1) :: (rts b i).map (· + (a.length : Int))
  | 0, _ => by
    rw [Nat.add_zero, jn_eq, rts_l (Nat.le_refl _), rts_root ha]; rfl
  | i + 1, h => by
    have ih := jn_rts (k := k) ha hb (i := i) (by omega)
    have hc := ndC_len (hb i (by omega))
    show (rts (jnQ k a b) (a.length + i)).take ((rts (jnQ k a b) (a.length + i)).length - ar ((jnQ k a b).getD (a.length + i) default).kd) ++ [((a.length + i : Nat) : Int)] = ((a.length : Int) - 1) :: ((rts b i).take ((rts b i).length - ar (b.getD i default).kd) ++ [(i : Int)]).map (· + (a.length : Int))
    rw [ih, jn_at k (by omega), ar_sh]
    have e : (((a.length : Int) - 1) :: (rts b i).map (· + (a.length : Int))).length - ar (b.getD i default).kd = ((rts b i).length - ar (b.getD i default).kd) + 1 := by
      rw [List.length_cons, List.length_map]; omega
    rw [e, List.take_succ_cons, List.map_append, ← List.map_take]
    simp
    omega
theorem wnt_cons (x : Int) {l : List Int} {m : Nat} (h : m ≤ l.length) (k : Nat) : wnt (x :: l) m k = wnt l m k := by
  unfold wnt
  have e : (x :: l).length - m = (l.length - m) + 1 := by rw [List.length_cons]; omega
  rw [e, List.drop_succ_cons]
theorem wnt_map (l : List Int) (c : Int) {m k : Nat} (hm : m ≤ l.length) (h : k < m) : wnt (l.map (· + c)) m k = wnt l m k + c := by
  unfold wnt
  rw [List.length_map, ← List.map_drop]
  have hl : k < (l.drop (l.length - m)).length := by rw [List.length_drop]; omega
  rw [List.getD_eq_getElem?_getD, List.getD_eq_getElem?_getD, List.getElem?_map, List.getElem?_eq_getElem hl]; rfl
theorem jn_qC {x : Nd} {l : List Int} {y : Int} {m : Nat} (h : ndC x l = 0) : ndC (shN m x) (y :: l.map (· + (m : Int))) = 0 := by
  have hl := ndC_len h
  unfold ndC at h ⊢
  split at h
  · omega
  · rename_i c1
    split at h
    · omega
    · rename_i c2
      split at h
      · omega
      · split at h
        · rename_i c3 c4
          obtain ⟨c4, c5⟩ := c4
          have hkd : (shN m x).kd = x.kd := rfl
          have hnm : (shN m x).nm = x.nm := rfl
          rw [hkd, hnm, if_neg c1, if_neg c2, if_neg (by rw [List.length_cons, List.length_map]; omega), if_pos]
          rw [wnt_cons y (by rw [List.length_map]; exact hl), wnt_cons y (by rw [List.length_map]; exact hl)]
          rcases ar_or x.kd with ⟨_, ha⟩ | ⟨_, _, ha⟩ | ⟨_, ha⟩
          · rw [ha] at c4 c5 hl ⊢
            rw [wnt_out _ (by omega) (by omega)] at c4 c5
            rw [wnt_out _ (by rw [List.length_map]; omega) (by omega), wnt_out _ (by rw [List.length_map]; omega) (by omega)]
            unfold shN; dsimp only; rw [ha, if_neg (by omega), if_neg (by omega)]; exact ⟨c4, c5⟩
          · rw [ha] at c4 c5 hl ⊢
            rw [wnt_out _ hl (by omega)] at c5
            rw [wnt_map l (m : Int) (m := 1) (k := 0) hl (by omega), wnt_out (l.map (· + (m : Int))) (m := 1) (k := 1) (by rw [List.length_map]; exact hl) (by omega)]
            unfold shN; dsimp only; rw [ha, if_pos (by omega), if_neg (by omega), c4]; exact ⟨rfl, c5⟩
          · rw [ha] at c4 c5 hl ⊢
            rw [wnt_map _ _ hl (by omega), wnt_map _ _ hl (by omega)]
            unfold shN; dsimp only; rw [ha, if_pos (by omega), if_pos (by omega), c4, c5]; exact ⟨rfl, rfl⟩
        · cases h
theorem jn_len (k : Int) (a b : List Nd) : (jnQ k a b).length = a.length + b.length + 1 := by rw [jn_eq]; simp; omega
theorem val_jn {k : Int} {a b : List Nd} (ha : valQ a = (0, 0)) (hb : valQ b = (0, 0)) (hk : 14 ≤ k ∧ k ≤ 16) (hl : a.length + b.length < 40) : valQ (jnQ k a b) = (0, 0) := by
  obtain ⟨h1, h2, h3, h4⟩ := val_iff.1 ha
  obtain ⟨g1, g2, g3, g4⟩ := val_iff.1 hb
  have hL := jn_len k a b
  have hx := jn_last k a b
  have hk2 : ar k = 2 := by unfold ar; rw [if_pos (by omega)]
  have hm : mostN k = 0 := by unfold mostN; rw [if_neg (by omega), if_neg (by omega), if_neg (by omega)]
  have hrt : rts (jnQ k a b) (a.length + b.length) = [(a.length : Int) - 1, (b.length : Int) - 1 + a.length] := by
    rw [jn_rts ha g3 (Nat.le_refl _), rts_root hb]; rfl
  refine val_iff.2 ⟨by omega, by omega, fun j hj => ?_, ?_⟩
  · by_cases hja : j < a.length
    · rw [jn_eq, qC_l hja]; exact h3 j hja
    · by_cases hjb : j < a.length + b.length
      · obtain ⟨i, rfl⟩ : ∃ i, j = a.length + i := ⟨j - a.length, by omega⟩
        unfold qC
        rw [jn_at k (by omega), jn_rts ha g3 (by omega)]
        exact jn_qC (g3 i (by omega))
      · obtain rfl : j = a.length + b.length := by omega
        unfold qC
        rw [hx, hrt]
        unfold ndC
        dsimp only
        rw [hk2, hm, if_neg (by omega), if_neg (by omega), if_neg (by simp), if_pos]
        refine ⟨rfl, ?_⟩
        show (a.length : Int) + b.length - 1 = (b.length : Int) - 1 + a.length
        omega
  · rw [hL]
    show ((rts (jnQ k a b) (a.length + b.length)).take _ ++ _).length = 1
    rw [hx, hrt, hk2]; rfl

theorem nd_ext {x : Nd} {a b c d : Int} (h1 : x.kd = a) (h2 : x.nm = b) (h3 : x.lf = c) (h4 : x.rt = d) : x = ⟨a, b, c, d⟩ := by
  obtain ⟨_, _, _, _⟩ := x; simp only at h1 h2 h3 h4; subst h1 h2 h3 h4; rfl
theorem root_sz {q : List Nd} (h : valQ q = (0, 0)) : szI q (q.length - 1) = q.length := by
  obtain ⟨⟨h1, h2, h3⟩, _⟩ := ok_of_val h
  have hr := refQ_end h1 h2 h3
  rw [refQ_is, h] at hr
  split at hr
  · cases hr
  · rename_i hh
    rw [← szl_at (q := q) (n := q.length) (i := q.length - 1) (by omega)]
    exact Decidable.not_not.1 hh
theorem sm_of {q : List Nd} (h : valQ q = (0, 0)) : smQ q := by
  obtain ⟨hok, _⟩ := ok_of_val h
  intro n hn
  obtain ⟨i, hi⟩ := List.getElem?_of_mem hn
  have hil := (List.getElem?_eq_some_iff.1 hi).1
  have h40 := hok.2.1
  obtain ⟨h1, h2, h3, h4, h5, h6, h7⟩ := ok_node hok hil (getD_nd hi)
  rcases ar_or n.kd with ⟨_, ha⟩ | ⟨_, _, ha⟩ | ⟨_, ha⟩
  · rw [(h5 ha).1, (h5 ha).2.1]; omega
  · rw [(h6 ha).2.1, (h6 ha).2.2.1]; omega
  · rw [(h7 ha).2.1, (h7 ha).2.2.1]; omega

theorem ls_sh : ∀ {t : Tr}, okT t → ∀ s c : Nat, lsT (c + s) t = (lsT c t).map (shN s)
  | .nil, h, _, _ => absurd h id
  | .nd k m l r, h, s, c => by
    obtain ⟨h1, h2, h3, h4, h5, h6, h7⟩ := h
    rw [lsT_nd, lsT_nd, List.map_append, List.map_append]
    rcases ar_or k with ⟨_, ha⟩ | ⟨_, _, ha⟩ | ⟨_, ha⟩
    · obtain ⟨rfl, rfl⟩ := h5 ha
      simp [lsT_nil, shN, ha]
    · obtain ⟨hl, rfl⟩ := h6 ha
      rw [ls_sh hl s c, if_neg (okT_ne hl), if_neg (okT_ne hl)]
      simp [lsT_nil, shN, ha]; omega
    · obtain ⟨hl, hr⟩ := h7 ha
      rw [ls_sh hl s c, show c + s + szT l = c + szT l + s by omega, ls_sh hr s (c + szT l), if_neg (okT_ne hl), if_neg (okT_ne hl), if_neg (okT_ne hr), if_neg (okT_ne hr)]
      simp [shN, ha]; omega
theorem ls_one {k : Int} {l : Tr} (hl : okT l) : lsT 0 (.nd k 0 l .nil) = wrQ k (lsT 0 l) := by
  rw [lsT_nd, if_neg (okT_ne hl), if_pos rfl]
  unfold wrQ
  rw [lsT_len]
  simp [lsT_nil]
theorem ls_two {k : Int} {l r : Tr} (hl : okT l) (hr : okT r) : lsT 0 (.nd k 0 l r) = jnQ k (lsT 0 l) (lsT 0 r) := by
  rw [lsT_nd, jn_eq, if_neg (okT_ne hl), if_neg (okT_ne hr), lsT_len, lsT_len, ls_sh hr (szT l) 0]
  simp
theorem ls_ne {t : Tr} (h : okT t) : 1 ≤ (lsT 0 t).length := by rw [lsT_len]; exact szT_pos (okT_ne h)
theorem val_leaf {k m : Int} (h1 : 1 ≤ k) (h2 : k < 7) (h3 : 0 ≤ m) (h4 : m ≤ mostN k) : valQ [⟨k, m, 0, 0⟩] = (0, 0) := by
  have ha : ar k = 0 := by rcases ar_or k with ⟨_, h⟩ | ⟨_, _, h⟩ | ⟨_, h⟩ <;> omega
  refine val_iff.2 ⟨by simp, by simp, fun j hj => ?_, ?_⟩
  · obtain rfl : j = 0 := by simpa using hj
    unfold qC
    show ndC ⟨k, m, 0, 0⟩ [] = 0
    unfold ndC
    simp [ha, wnt]
    omega
  · show ((rts [(⟨k, m, 0, 0⟩ : Nd)] 0).take _ ++ [((0 : Nat) : Int)]).length = 1
    simp [rts]
theorem ls_val : ∀ {t : Tr}, okT t → szT t ≤ 40 → valQ (lsT 0 t) = (0, 0)
  | .nil, h, _ => absurd h id
  | .nd k m l r, h, hs => by
    have h0 := h
    obtain ⟨h1, h2, h3, h4, h5, h6, h7⟩ := h
    rw [szT_nd] at hs
    rcases ar_or k with ⟨hk, ha⟩ | ⟨hk, hk2, ha⟩ | ⟨hk, ha⟩
    · obtain ⟨rfl, rfl⟩ := h5 ha
      exact val_leaf h1 hk h3 h4
    · obtain ⟨hl, rfl⟩ := h6 ha
      obtain rfl : m = 0 := by
        have : mostN k = 0 := by unfold mostN; rw [if_neg (by omega), if_neg (by omega), if_neg (by omega)]
        omega
      rw [ls_one hl]
      exact val_wr (ls_val hl (by omega)) ⟨hk, hk2⟩ (by rw [lsT_len]; omega)
    · obtain ⟨hl, hr⟩ := h7 ha
      obtain rfl : m = 0 := by
        have : mostN k = 0 := by unfold mostN; rw [if_neg (by omega), if_neg (by omega), if_neg (by omega)]
        omega
      rw [ls_two hl hr]
      exact val_jn (ls_val hl (by omega)) (ls_val hr (by omega)) ⟨hk, h2⟩ (by rw [lsT_len, lsT_len]; omega)
theorem opn_ls : ∀ {t : Tr}, okT t → ∀ (p s : List Nd) (f : Nat), szT t ≤ f → opnT (p ++ lsT p.length t ++ s) f (p.length + szT t - 1) = some t
  | .nil, h, _, _, _, _ => absurd h id
  | .nd k m l r, h, p, s, f, hf => by
    obtain ⟨h1, h2, h3, h4, h5, h6, h7⟩ := h
    rw [szT_nd] at hf
    obtain ⟨f, rfl⟩ : ∃ f', f = f' + 1 := ⟨f - 1, by omega⟩
    have hn : (p ++ lsT p.length (.nd k m l r) ++ s)[p.length + szT (.nd k m l r) - 1]? = some ⟨k, m, if l = .nil then 0 else ((p.length + szT l : Nat) : Int) - 1, if r = .nil then 0 else ((p.length + szT l + szT r : Nat) : Int) - 1⟩ := by
      have e : p ++ lsT p.length (.nd k m l r) ++ s = (p ++ lsT p.length l ++ lsT (p.length + szT l) r) ++ (⟨k, m, if l = .nil then 0 else ((p.length + szT l : Nat) : Int) - 1, if r = .nil then 0 else ((p.length + szT l + szT r : Nat) : Int) - 1⟩ :: s) := by rw [lsT_nd]; simp
      rw [e, List.getElem?_append_right (by simp only [List.length_append, lsT_len, szT_nd]; omega)]
      have : p.length + szT (.nd k m l r) - 1 - (p ++ lsT p.length l ++ lsT (p.length + szT l) r).length = 0 := by simp only [List.length_append, lsT_len, szT_nd]; omega
      rw [this]; rfl
    unfold opnT
    rw [hn]
    dsimp only
    rcases ar_or k with ⟨_, ha⟩ | ⟨_, _, ha⟩ | ⟨_, ha⟩
    · obtain ⟨rfl, rfl⟩ := h5 ha
      rw [if_pos ha]
    · obtain ⟨hl, rfl⟩ := h6 ha
      have hs := szT_pos (okT_ne hl)
      have e : p ++ lsT p.length (.nd k m l .nil) ++ s = p ++ lsT p.length l ++ (⟨k, m, if l = .nil then 0 else ((p.length + szT l : Nat) : Int) - 1, if Tr.nil = .nil then 0 else ((p.length + szT l + szT .nil : Nat) : Int) - 1⟩ :: s) := by rw [lsT_nd]; simp [lsT_nil]
      have ih := opn_ls hl p (⟨k, m, if l = .nil then 0 else ((p.length + szT l : Nat) : Int) - 1, if Tr.nil = .nil then 0 else ((p.length + szT l + szT .nil : Nat) : Int) - 1⟩ :: s) f (by omega)
      rw [← e] at ih
      rw [if_neg (by omega), if_neg (okT_ne hl), show (((p.length + szT l : Nat) : Int) - 1).toNat = p.length + szT l - 1 by omega, ih, Option.bind_some, if_pos ha]
    · obtain ⟨hl, hr⟩ := h7 ha
      have hs := szT_pos (okT_ne hl)
      have hs2 := szT_pos (okT_ne hr)
      obtain ⟨x, hx⟩ : ∃ x : Nd, (⟨k, m, if l = .nil then 0 else ((p.length + szT l : Nat) : Int) - 1, if r = .nil then 0 else ((p.length + szT l + szT r : Nat) : Int) - 1⟩ : Nd) = x := ⟨_, rfl⟩
      have e : p ++ lsT p.length (.nd k m l r) ++ s = p ++ lsT p.length l ++ (lsT (p.length + szT l) r ++ x :: s) := by rw [lsT_nd, hx]; simp
      have e2 : p ++ lsT p.length (.nd k m l r) ++ s = (p ++ lsT p.length l) ++ lsT (p ++ lsT p.length l).length r ++ (x :: s) := by rw [lsT_nd, hx, List.length_append, lsT_len]; simp
      have ih := opn_ls hl p (lsT (p.length + szT l) r ++ x :: s) f (by omega)
      have ih2 := opn_ls hr (p ++ lsT p.length l) (x :: s) f (by omega)
      rw [← e] at ih
      rw [← e2, List.length_append, lsT_len] at ih2
      rw [if_neg (by omega), if_neg (okT_ne hl), if_neg (okT_ne hr), show (((p.length + szT l : Nat) : Int) - 1).toNat = p.length + szT l - 1 by omega, show (((p.length + szT l + szT r : Nat) : Int) - 1).toNat = p.length + szT l + szT r - 1 by omega, ih, Option.bind_some, if_neg (by omega), ih2]
      rfl
theorem tre_ls {t : Tr} (h : okT t) (hs : szT t ≤ 40) : treQ (lsT 0 t) = t := by
  have := opn_ls h [] [] 41 (by omega)
  simp only [List.nil_append, List.append_nil, List.length_nil, Nat.zero_add] at this
  unfold treQ
  rw [lsT_len, this]; rfl
/-- The tree of a node, listed. -/
theorem ls_opn {q : List Nd} (h : okQ q) : ∀ (f i : Nat) (R : Tr), i < q.length → opnT q f i = some R → okT R ∧ szT R = szI q i ∧ q.take (i + 1) = q.take (i + 1 - szI q i) ++ lsT (i + 1 - szI q i) R
  | 0, _, _, _, hR => by cases hR
  | f + 1, i, R, hi, hR => by
    have ih := ls_opn h f
    obtain ⟨x, hx, hc⟩ := opn_cases hR
    obtain ⟨h1, h2, h3, h4, h5, h6, h7⟩ := ok_node h hi (getD_nd hx)
    have hsz := szI_le h hi
    have ht : q.take (i + 1) = q.take i ++ [x] := by rw [List.take_add_one, hx]; rfl
    rcases hc with ⟨ha, rfl⟩ | ⟨ha, A, hA, rfl⟩ | ⟨ha, A, B, hA, hB, rfl⟩
    · obtain ⟨g1, g2, g3⟩ := h5 ha
      refine ⟨⟨h1, h2, h3, h4, fun _ => ⟨rfl, rfl⟩, fun hh => by omega, fun hh => by omega⟩, by rw [g3]; rfl, ?_⟩
      rw [ht, g3]
      show q.take i ++ [x] = q.take i ++ [⟨x.kd, x.nm, 0, 0⟩]
      rw [← nd_ext (x := x) rfl rfl g1 g2]
    · obtain ⟨g1, g2, g3, g4⟩ := h6 ha
      rw [g2, Int.toNat_natCast] at hA
      obtain ⟨a1, a2, a3⟩ := ih (i - 1) A (by omega) hA
      refine ⟨⟨h1, h2, h3, h4, fun hh => by omega, fun _ => ⟨a1, rfl⟩, fun hh => by omega⟩, by rw [szT_nd, a2, g4]; show szI q (i - 1) + 0 + 1 = _; omega, ?_⟩
      have hsA := szI_le h (i := i - 1) (by omega)
      rw [ht, show q.take i = q.take (i - 1 + 1) by congr 1; omega, a3, lsT_nd, if_neg (okT_ne a1), if_pos rfl, a2]
      rw [show i - 1 + 1 - szI q (i - 1) = i + 1 - szI q i by omega, lsT_nil, List.append_nil, List.append_assoc]
      congr 2
      rw [nd_ext (x := x) rfl rfl g2 g3]
      congr 2
      omega
    · obtain ⟨g1, g2, g3, g4⟩ := h7 ha
      rw [g2, Int.toNat_natCast] at hA
      rw [g3, Int.toNat_natCast] at hB
      obtain ⟨a1, a2, a3⟩ := ih (i - 1 - szI q (i - 1)) A (by omega) hA
      obtain ⟨b1, b2, b3⟩ := ih (i - 1) B (by omega) hB
      refine ⟨⟨h1, h2, h3, h4, fun hh => by omega, fun hh => by omega, fun _ => ⟨a1, b1⟩⟩, by rw [szT_nd, a2, b2, g4]; omega, ?_⟩
      have hsB := szI_le h (i := i - 1) (by omega)
      have hsA := szI_le h (i := i - 1 - szI q (i - 1)) (by omega)
      rw [ht, show q.take i = q.take (i - 1 + 1) by congr 1; omega, b3, lsT_nd, if_neg (okT_ne a1), if_neg (okT_ne b1), a2, b2]
      rw [show i - 1 + 1 - szI q (i - 1) = i - 1 - szI q (i - 1) + 1 by omega, a3]
      generalize hlf : i - 1 - szI q (i - 1) = lf at *
      rw [show lf + 1 - szI q lf = i + 1 - szI q i by omega, show lf + 1 = i + 1 - szI q i + szI q lf by omega]
      simp only [List.append_assoc]
      congr 4
      rw [nd_ext (x := x) rfl rfl g2 g3]
      congr 2 <;> omega
theorem q_ls {q : List Nd} (h : valQ q = (0, 0)) : ∃ R, treQ q = R ∧ okT R ∧ szT R = q.length ∧ q = lsT 0 R := by
  obtain ⟨hok, _⟩ := ok_of_val h
  obtain ⟨R, g1, g2, g3, g4⟩ := tre_ok h
  have h1 := hok.1
  obtain ⟨a1, a2, a3⟩ := ls_opn hok 41 (q.length - 1) R (by omega) g1
  rw [root_sz h] at a2 a3
  rw [show q.length - 1 + 1 - q.length = 0 by omega, show q.length - 1 + 1 = q.length by omega, List.take_of_length_le (Nat.le_refl _)] at a3
  exact ⟨R, g4, a1, a2, by simpa using a3⟩
/-! Costs. -/
def wkK (k : Int) : Int := if 8 ≤ k ∧ k ≤ 13 then 10 else 0
def cT : Tr → Int
  | .nil => 0
  | .nd k _ l r => cT l + cT r + 1 + wkK k
def cL : List Nd → Int
  | [] => 0
  | x :: l => 1 + wkK x.kd + cL l
theorem wk_nn (k : Int) : 0 ≤ wkK k := by unfold wkK; split <;> omega
theorem wk_lo {k : Int} (h : ¬(8 ≤ k ∧ k ≤ 13)) : wkK k = 0 := if_neg h
theorem cT_nn : ∀ t, 0 ≤ cT t
  | .nil => Int.le_refl _
  | .nd k _ l r => by
    have := cT_nn l
    have := cT_nn r
    have := wk_nn k
    unfold cT; omega
theorem cL_app : ∀ a b : List Nd, cL (a ++ b) = cL a + cL b
  | [], b => by simp [cL]
  | x :: a, b => by show 1 + wkK x.kd + cL (a ++ b) = _; rw [cL_app a b]; show _ = 1 + wkK x.kd + cL a + cL b; omega
theorem cL_ls : ∀ (t : Tr) (s : Nat), cL (lsT s t) = cT t
  | .nil, _ => rfl
  | .nd k m l r, s => by
    rw [lsT_nd, cL_app, cL_app, cL_ls l, cL_ls r]
    show cT l + cT r + (1 + wkK k + 0) = cT l + cT r + 1 + wkK k
    omega
theorem cost_take (q : List Nd) : ∀ i, i ≤ q.length → costK q i = cL (q.take i)
  | 0, _ => rfl
  | i + 1, h => by
    obtain ⟨x, hx⟩ := getE (l := q) (i := i) (by omega)
    unfold costK
    rw [cost_take q i (by omega), List.take_add_one, hx, cL_app, getD_nd hx]
    show _ = cL (q.take i) + (1 + wkK x.kd + 0)
    unfold wkN wkK
    by_cases hk : 8 ≤ x.kd ∧ x.kd ≤ 13
    · rw [if_pos hk, if_pos (by simp [hk])]; omega
    · rw [if_neg hk, if_neg (by simp; omega)]; omega
theorem cost_is (q : List Nd) : costK q q.length = cL q := by rw [cost_take q _ (Nat.le_refl _), List.take_of_length_le (Nat.le_refl _)]
theorem one_c {k : Int} (hk : 7 ≤ k ∧ k ≤ 13) : ∀ {x : Tr}, okT x → cT (oneT k x) ≤ cT x + 1 + wkK k
  | .nil, h => absurd h id
  | .nd xk m l r, h => by
    have hin : k = 8 ∨ k = 9 ∨ k = 12 ∨ k = 13 → 7 ≤ inr k ∧ inr k ≤ 13 := by
      rintro (rfl | rfl | rfl | rfl) <;> decide
    have n1 := cT_nn l
    have n2 := cT_nn r
    have n3 := wk_nn xk
    have n4 := wk_nn k
    have lf : ∀ c : Int, c = 1 ∨ c = 2 → cT (.nd c 0 .nil .nil) = 1 := by rintro c (rfl | rfl) <;> decide
    have e : cT (.nd xk m l r) = cT l + cT r + 1 + wkK xk := rfl
    have e2 : cT (.nd k 0 (.nd xk m l r) .nil) = cT (.nd xk m l r) + 0 + 1 + wkK k := rfl
    rw [oneT]
    split
    · rw [lf 1 (by omega)]; omega
    · split
      · rw [lf 2 (by omega)]; omega
      · split
        · omega
        · split
          · omega
          · split
            · omega
            · split
              · omega
              · split
                · rename_i hh
                  have := one_c hk (ok_op h (by rw [hh.2]; exact hin hh.1))
                  omega
                · omega
theorem two_c {k : Int} (hk : 14 ≤ k ∧ k ≤ 16) {x y : Tr} (hx : okT x) (hy : okT y) : cT (twoT k x y) ≤ cT x + cT y + 1 := by
  have n1 := cT_nn x
  have n2 := cT_nn y
  have lf : ∀ c : Int, c = 1 ∨ c = 2 → cT (.nd c 0 .nil .nil) = 1 := by rintro c (rfl | rfl) <;> decide
  have e : cT (.nd k 0 x y) = cT x + cT y + 1 + wkK k := rfl
  rw [wk_lo (by omega)] at e
  unfold twoT twoE
  split
  · split
    · rw [lf 2 (by omega)]; omega
    · split
      · omega
      · split
        · have := one_c (k := 7) (by omega) hy
          rw [wk_lo (by omega)] at this
          omega
        · omega
  · split
    · split
      · omega
      · split
        · omega
        · split
          · rw [lf 2 (by omega)]; omega
          · omega
    · split
      · omega
      · split
        · omega
        · split
          · rw [lf 1 (by omega)]; omega
          · omega
theorem sim_cc : ∀ {t : Tr}, okT t → cT (simT t) ≤ cT t
  | .nil, h => absurd h id
  | .nd k m l r, h => by
    have n1 := cT_nn l
    have n2 := cT_nn r
    have n4 := wk_nn k
    have e : cT (.nd k m l r) = cT l + cT r + 1 + wkK k := rfl
    rcases sim_c h with ⟨ha, hS⟩ | ⟨ha, hk1, hk2, hl, hS⟩ | ⟨ha, hk1, hk2, hl, hr, hS⟩
    · rw [hS]; exact Int.le_refl _
    · rw [hS]
      have := one_c ⟨hk1, hk2⟩ (sim_ok hl).1
      have := sim_cc hl
      omega
    · rw [hS]
      have := two_c ⟨hk1, hk2⟩ (sim_ok hl).1 (sim_ok hr).1
      have := sim_cc hl
      have := sim_cc hr
      omega
/-! Simplified trees. -/
def nfT : Tr → Prop
  | .nil => True
  | .nd k m l r => nfT l ∧ nfT r ∧ (ar k = 1 → oneT k l = .nd k m l r) ∧ (ar k = 2 → twoT k l r = .nd k m l r)
theorem nf_leaf {k m : Int} (h : ar k = 0) : nfT (.nd k m .nil .nil) := by
  unfold nfT; exact ⟨trivial, trivial, fun h1 => by omega, fun h1 => by omega⟩
theorem nf_sim : ∀ {t : Tr}, nfT t → simT t = t
  | .nil, _ => rfl
  | .nd k m l r, h => by
    unfold nfT at h
    obtain ⟨h1, h2, h3, h4⟩ := h
    rw [simT, nf_sim h1, nf_sim h2]
    split
    · rename_i ha; exact h3 ha
    · split
      · rename_i ha; exact h4 ha
      · rfl
theorem nf_one {k : Int} (hk : 7 ≤ k ∧ k ≤ 13) : ∀ {x : Tr}, nfT x → nfT (oneT k x)
  | .nil, _ => trivial
  | .nd xk m l r, h => by
    have hl : nfT l := by unfold nfT at h; exact h.1
    have ha : ar k = 1 := by rcases ar_or k with ⟨_, h⟩ | ⟨_, _, h⟩ | ⟨_, h⟩ <;> omega
    generalize hv : oneT k (.nd xk m l r) = v
    have hv2 := hv
    rw [oneT] at hv
    split at hv
    · rw [← hv]; exact nf_leaf rfl
    · split at hv
      · rw [← hv]; exact nf_leaf rfl
      · split at hv
        · rw [← hv]; exact hl
        · split at hv
          · rw [← hv]; exact h
          · split at hv
            · rw [← hv]; exact h
            · split at hv
              · rw [← hv]; exact h
              · split at hv
                · rw [← hv]; exact nf_one hk hl
                · subst hv
                  unfold nfT
                  exact ⟨h, trivial, fun _ => hv2, fun h2 => by omega⟩
theorem nf_two {k : Int} (hk : 14 ≤ k ∧ k ≤ 16) {x y : Tr} (hx : nfT x) (hy : nfT y) : nfT (twoT k x y) := by
  have ha : ar k = 2 := by rcases ar_or k with ⟨_, h⟩ | ⟨_, _, h⟩ | ⟨_, h⟩ <;> omega
  have hl : ∀ c : Int, c = 1 ∨ c = 2 → nfT (.nd c 0 .nil .nil) := fun c hc => nf_leaf (by rcases hc with rfl | rfl <;> rfl)
  have hn : twoT k x y = .nd k 0 x y → nfT (.nd k 0 x y) := fun e => by unfold nfT; exact ⟨hx, hy, fun h1 => by omega, fun _ => e⟩
  generalize hv : twoT k x y = v at hn
  have hv2 := hv
  unfold twoT twoE at hv
  split at hv
  · split at hv
    · rw [← hv]; exact hl 2 (by omega)
    · split at hv
      · rw [← hv]; exact hx
      · split at hv
        · rw [← hv]; exact nf_one (by omega) hy
        · rw [← hv] at hn ⊢; exact hn rfl
  · split at hv
    · split at hv
      · rw [← hv]; exact hx
      · split at hv
        · rw [← hv]; exact hy
        · split at hv
          · rw [← hv]; exact hl 2 (by omega)
          · rw [← hv] at hn ⊢; exact hn rfl
    · split at hv
      · rw [← hv]; exact hx
      · split at hv
        · rw [← hv]; exact hy
        · split at hv
          · rw [← hv]; exact hl 1 (by omega)
          · rw [← hv] at hn ⊢; exact hn rfl
theorem nf_all : ∀ {t : Tr}, okT t → nfT (simT t)
  | .nil, h => absurd h id
  | .nd k m l r, h => by
    rcases sim_c h with ⟨ha, hS⟩ | ⟨ha, hk1, hk2, hl, hS⟩ | ⟨ha, hk1, hk2, hl, hr, hS⟩
    · obtain ⟨rfl, rfl⟩ := h.2.2.2.2.1 ha
      rw [hS]; exact nf_leaf ha
    · rw [hS]; exact nf_one ⟨hk1, hk2⟩ (nf_all hl)
    · rw [hS]; exact nf_two ⟨hk1, hk2⟩ (nf_all hl) (nf_all hr)
theorem sim_sim {t : Tr} (h : okT t) : simT (simT t) = simT t := nf_sim (nf_all h)
/-! What the laws need of a query. -/
theorem op_cases (q : List Nd) : (∃ c i : Int, c ≠ 0 ∧ optQ q = (c, i, [])) ∨ ∃ R, valQ q = (0, 0) ∧ okT R ∧ szT R = q.length ∧ q.length ≤ 40 ∧ q = lsT 0 R ∧ optQ q = (0, 0, lsT 0 (simT R)) := by
  by_cases hv : valQ q = (0, 0)
  · obtain ⟨R, g1, g2, g3, g4⟩ := q_ls hv
    exact .inr ⟨R, hv, g2, g3, (ok_of_val hv).1.2.1, g4, by unfold optQ; rw [if_neg (by rw [hv]; simp), g1]⟩
  · exact .inl ⟨(valQ q).1, (valQ q).2, val_code hv, by unfold optQ; rw [if_pos hv]⟩
theorem opt_ls {t : Tr} (h : okT t) (hs : szT t ≤ 40) : optQ (lsT 0 t) = (0, 0, lsT 0 (simT t)) := by
  unfold optQ; rw [if_neg (by rw [ls_val h hs]; simp), tre_ls h hs]
theorem cst_ls {t : Tr} (h : okT t) (hs : szT t ≤ 40) : cstQ (lsT 0 t) = (0, 0, cT t) := by
  unfold cstQ; rw [if_neg (by rw [ls_val h hs]; simp), cost_is, cL_ls]
theorem sim_two {k : Int} {R : Tr} (hk : 14 ≤ k ∧ k ≤ 16) : simT (.nd k 0 R R) = if k = 16 then .nd 2 0 .nil .nil else simT R := by
  have ha : ar k = 2 := by rcases ar_or k with ⟨_, h⟩ | ⟨_, _, h⟩ | ⟨_, h⟩ <;> omega
  rw [simT, if_neg (by omega), if_pos ha]
  unfold twoT twoE
  rw [show eqI (simT R) (simT R) = 1 from if_pos rfl]
  split
  · rw [if_pos (Or.inl rfl)]
  · split
    · rw [if_pos (Or.inl rfl)]
    · rw [if_pos (Or.inl rfl)]

def lawOG : List AV → Option (Prop × AV)
  | [.agg [.d (.sl ys)]] => some (ys = rows eN (dN ys) ∧ (dN ys).length ≤ 9223372036854775807, .d (.bool true))
  | _ => none
theorem nw_cases (q : List Nd) : (∃ c i : Int, c ≠ 0 ∧ optQ q = (c, i, [])) ∨ ∃ S C D, optQ q = (0, 0, S) ∧ cstQ q = (0, 0, C) ∧ cstQ S = (0, 0, D) ∧ D ≤ C ∧ S.length ≤ q.length ∧ q.length ≤ 40 := by
  rcases op_cases q with h | ⟨R, hv, g1, g2, g3, g4, g5⟩
  · exact .inl h
  · have hs := sim_ok g1
    exact .inr ⟨_, _, _, g5, by rw [g4]; exact cst_ls g1 (by omega), cst_ls hs.1 (by omega), sim_cc g1, by rw [lsT_len]; omega, g3⟩
theorem id_cases (q : List Nd) : (∃ c i : Int, c ≠ 0 ∧ optQ q = (c, i, [])) ∨ ∃ S, optQ q = (0, 0, S) ∧ optQ S = (0, 0, S) ∧ S.length ≤ 40 := by
  rcases op_cases q with h | ⟨R, hv, g1, g2, g3, g4, g5⟩
  · exact .inl h
  · have hs := sim_ok g1
    exact .inr ⟨_, g5, by rw [opt_ls hs.1 (by omega), sim_sim g1], by rw [lsT_len]; omega⟩
theorem eo_cases (q : List Nd) : (∃ c i : Int, c ≠ 0 ∧ optQ q = (c, i, [])) ∨ (∃ S, optQ q = (0, 0, S) ∧ S.length ≤ 40 ∧ q.length ≤ 40 ∧ 40 < 2 * q.length + 1) ∨
    ∃ S, optQ q = (0, 0, S) ∧ S.length ≤ 40 ∧ 2 * q.length + 1 ≤ 40 ∧ smQ q ∧ optQ (jnQ 14 q q) = (0, 0, S) ∧ optQ (jnQ 15 q q) = (0, 0, S) ∧ optQ (jnQ 16 q q) = (0, 0, [⟨2, 0, 0, 0⟩]) := by
  rcases op_cases q with h | ⟨R, hv, g1, g2, g3, g4, g5⟩
  · exact .inl h
  · have hs := sim_ok g1
    by_cases hl : 40 < 2 * q.length + 1
    · exact .inr (.inl ⟨_, g5, by rw [lsT_len]; omega, g3, hl⟩)
    · have hj : ∀ k : Int, 14 ≤ k → k ≤ 16 → optQ (jnQ k q q) = (0, 0, lsT 0 (if k = 16 then .nd 2 0 .nil .nil else simT R)) := fun k h1 h2 => by
        rw [g4, ← ls_two g1 g1, opt_ls (okT_two ⟨h1, h2⟩ g1 g1) (by rw [szT_nd]; omega), sim_two ⟨h1, h2⟩]
      exact .inr (.inr ⟨_, g5, by rw [lsT_len]; omega, by omega, sm_of hv, hj 14 (by omega) (by omega), hj 15 (by omega) (by omega), hj 16 (by omega) (by omega)⟩)
theorem jl_N (k : Int) (a b : List Nd) : (jnQ k a b).length = a.length + b.length + 1 := jn_len k a b
end Go.Proofs.YtlbjffdaooadoaaDoor
