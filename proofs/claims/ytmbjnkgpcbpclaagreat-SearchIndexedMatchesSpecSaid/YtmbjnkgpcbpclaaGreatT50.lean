import Derived.Test.YtmbjnkgpcbpclaaGreatT19
set_option linter.all false
set_option maxRecDepth 100000
set_option maxHeartbeats 4000000
namespace Go.Proofs.YtmbjnkgpcbpclaaGreat
open Go Go.Vc Go.RowKit
structure Nd where
  kd : Int
  nm : Int
  lf : Int
  rt : Int
  deriving DecidableEq, Inhabited
def ar (k : Int) : Nat := if 14 ≤ k then 2 else if 7 ≤ k then 1 else 0
theorem Lr (k : Int) : (k < 7 ∧ ar k = 0) ∨ (7 ≤ k ∧ k < 14 ∧ ar k = 1) ∨ (14 ≤ k ∧ ar k = 2) := by
  unfold ar
  split
  · exact .inr (.inr ⟨by omega, rfl⟩)
  · split
    · exact .inr (.inl ⟨by omega, by omega, rfl⟩)
    · exact .inl ⟨by omega, rfl⟩
def Kv (k : Int) : Int := if k = 3 then 59 else if k = 4 then 7 else if k = 5 then 100000 else 0
def rts (q : List Nd) : Nat → List Int
  | 0 => []
  | i + 1 => (rts q i).take ((rts q i).length - ar (q.getD i default).kd) ++ [(i : Int)]
def FG (l : List Int) (m k : Nat) : Int := (l.drop (l.length - m)).getD k 0
def Z7 (n : Nd) (l : List Int) : Int :=
  if n.kd < 1 ∨ 16 < n.kd then 4 else if n.nm < 0 ∨ Kv n.kd < n.nm then 3 else if l.length < ar n.kd then 5
  else if n.lf = FG l (ar n.kd) 0 ∧ n.rt = FG l (ar n.kd) 1 then 0 else 5
def qC (q : List Nd) (i : Nat) : Int := Z7 (q.getD i default) (rts q i)
def iI (i : Nat) : Int := (i : Int)
def Q8 (q : List Nd) : Int × Int :=
  if q.length = 0 ∨ 40 < q.length then (9, -1)
  else if (Co (qC q) iI q.length).1 ≠ 0 then Co (qC q) iI q.length
  else if (rts q q.length).length ≠ 1 then (5, -1) else (0, 0)
theorem R3 (q : List Nd) : ∀ i, (rts q i).length ≤ i
  | 0 => Nat.le_refl _
  | i + 1 => by
    have := R3 q i
    simp only [rts, List.length_append, List.length_take, List.length_singleton]; omega
def OZ (out : List Nat) (a : Nat) : Nat :=
  if a = 0 then 1 else if a = 1 then 1 + out.getD (out.length - 1) 0
  else 1 + out.getD (out.length - 1) 0 + out.getD (out.length - (1 + out.getD (out.length - 1) 0)) 0
def KG (out : List Nat) (a : Nat) : Bool := decide (1 ≤ a ∧ out.length = 0) || decide (2 ≤ a ∧ out.length < 1 + out.getD (out.length - 1) 0)
def F3 (q : List Nd) : Nat → List Nat
  | 0 => []
  | i + 1 => F3 q i ++ [OZ (F3 q i) (ar (q.getD i default).kd)]
theorem E9 (q : List Nd) : ∀ i, (F3 q i).length = i
  | 0 => rfl
  | i + 1 => by simp [F3, E9 q i]
def XM (out : List Nat) : List Int → Nat → Prop
  | [], i => i = 0
  | p :: r, i => 0 < i ∧ p = (i : Int) - 1 ∧ 1 ≤ out.getD (i - 1) 0 ∧ out.getD (i - 1) 0 ≤ i ∧ XM out r (i - out.getD (i - 1) 0)
theorem NK {out : List Nat} (x : Nat) : ∀ {l : List Int} {i : Nat}, i ≤ out.length → XM out l i → XM (out ++ [x]) l i
  | [], _, _, h => h
  | p :: r, i, hi, ⟨h0, h1, h2, h3, h4⟩ => by
    have e : (out ++ [x]).getD (i - 1) 0 = out.getD (i - 1) 0 := by
      simp only [List.getD_eq_getElem?_getD]
      rw [List.getElem?_append_left (by omega)]
    refine ⟨h0, h1, by rw [e]; exact h2, by rw [e]; exact h3, ?_⟩
    rw [e]; exact NK x (by omega) h4
theorem Nf {l : List Int} {m : Nat} (h : m ≤ l.length) (k : Nat) (hk : k < m) : FG l m k = l.reverse.getD (m - 1 - k) 0 := by
  unfold FG
  simp only [List.getD_eq_getElem?_getD]
  rw [List.getElem?_drop, List.getElem?_reverse (by omega)]
  congr 2; omega
theorem Nc (l : List Int) {m k : Nat} (h : m ≤ l.length) (hk : m ≤ k) : FG l m k = 0 := by
  unfold FG
  rw [List.getD_eq_getElem?_getD, List.getElem?_eq_none (by rw [List.length_drop]; omega)]; rfl
theorem NL {out : List Nat} {l : List Int} (h : XM out l.reverse out.length) (a : Nat) (ha : a ≤ 2) :
  (KG out a = decide (l.length < a)) ∧
  (a ≤ l.length → (a = 1 → FG l a 0 = (out.length : Int) - 1) ∧
   (a = 2 → FG l a 0 = (out.length : Int) - 1 - (out.getD (out.length - 1) 0 : Nat) ∧ FG l a 1 = (out.length : Int) - 1) ∧
   XM (out ++ [OZ out a]) (l.take (l.length - a) ++ [(out.length : Int)]).reverse (out.length + 1)) := by
 have hr : ∃ r, l.reverse = r := ⟨_, rfl⟩
 obtain ⟨r, hr⟩ := hr
 have hl : l = r.reverse := by rw [← hr, List.reverse_reverse]
 subst hl
 rw [List.reverse_reverse] at h
 have hpush : ∀ (r' : List Int) (i' : Nat), OZ out a + i' = out.length + 1 → 1 ≤ OZ out a → XM out r' i' → i' ≤ out.length → r'.reverse = (r.reverse).take (r.reverse.length - a) → XM (out ++ [OZ out a]) (r.reverse.take (r.reverse.length - a) ++ [(out.length : Int)]).reverse (out.length + 1) := by
  intro r' i' e1 e2 e3 e4 e5
  rw [← e5, List.reverse_append, List.reverse_reverse]
  have eg : (out ++ [OZ out a]).getD (out.length + 1 - 1) 0 = OZ out a := by
   rw [List.getD_eq_getElem?_getD, Nat.add_sub_cancel, List.getElem?_append_right (Nat.le_refl _), Nat.sub_self]; rfl
  refine ⟨by omega, by omega, by rw [eg]; exact e2, by rw [eg]; omega, ?_⟩
  rw [eg, show out.length + 1 - OZ out a = i' by omega]
  exact NK _ e4 e3
 match a, ha with
 | 0, _ =>
  refine ⟨by simp [KG], fun _ => ⟨fun h => by omega, fun h => by omega, ?_⟩⟩
  exact hpush r out.length (by show 1 + out.length = _; omega) (Nat.le_refl 1) h (Nat.le_refl _) (by rw [Nat.sub_zero, List.take_length])
 | 1, _ =>
  match r, h with
  | [], h =>
   have h : out.length = 0 := h
   refine ⟨by simp [KG, h], fun h1 => by simp at h1⟩
  | p :: r, ⟨h0, h1, h2, h3, h4⟩ =>
   refine ⟨?_, fun _ => ⟨fun _ => ?_, fun h => by omega, ?_⟩⟩
   ·have : decide ((p :: r).reverse.length < 1) = false := decide_eq_false (by simp)
    rw [this]; unfold KG
    rw [decide_eq_false (by omega), decide_eq_false (by omega)]; rfl
   ·rw [Nf (by simp) 0 (by omega), List.reverse_reverse]; simpa using h1
   ·have e1 : OZ out 1 = 1 + out.getD (out.length - 1) 0 := rfl
    refine hpush r _ ?_ ?_ h4 (by omega) ?_
    ·omega
    ·omega
    ·simp
 | 2, _ =>
  match r, h with
  | [], h =>
   have h : out.length = 0 := h
   refine ⟨by simp [KG, h], fun h1 => by simp at h1⟩
  | [p], ⟨h0, h1, h2, h3, h4⟩ =>
   have h4 : out.length - out.getD (out.length - 1) 0 = 0 := h4
   refine ⟨?_, fun h1 => by simp at h1⟩
   have : decide (([p] : List Int).reverse.length < 2) = true := decide_eq_true (by simp)
   rw [this]; unfold KG
   rw [decide_eq_true (p := 2 ≤ 2 ∧ out.length < 1 + out.getD (out.length - 1) 0) ⟨by omega, by omega⟩, Bool.or_true]
  | p :: p2 :: r, ⟨h0, h1, h2, h3, h40, h41, h42, h43, h44⟩ =>
   refine ⟨?_, fun _ => ⟨fun h => by omega, fun _ => ⟨?_, ?_⟩, ?_⟩⟩
   ·have : decide ((p :: p2 :: r).reverse.length < 2) = false := decide_eq_false (by simp)
    rw [this]; unfold KG
    rw [decide_eq_false (by omega), decide_eq_false (by omega)]; rfl
   ·rw [Nf (by simp) 0 (by omega), List.reverse_reverse]
    have : (p :: p2 :: r).getD (2 - 1 - 0) 0 = p2 := rfl
    rw [this]; omega
   ·rw [Nf (by simp) 1 (by omega), List.reverse_reverse]
    have : (p :: p2 :: r).getD (2 - 1 - 1) 0 = p := rfl
    rw [this]; exact h1
   ·have e : out.length - (1 + out.getD (out.length - 1) 0) = out.length - out.getD (out.length - 1) 0 - 1 := by omega
    have e2 : OZ out 2 = 1 + out.getD (out.length - 1) 0 + out.getD (out.length - out.getD (out.length - 1) 0 - 1) 0 := by rw [← e]; rfl
    refine hpush r _ ?_ ?_ h44 (by omega) ?_
    ·omega
    ·omega
    ·simp
theorem Mt {q : List Nd} : ∀ {i : Nat}, i ≤ q.length → (∀ j, j < i → qC q j = 0) → XM (F3 q i) (rts q i).reverse i
  | 0, _, _ => rfl
  | i + 1, hi, h => by
    have ih := Mt (q := q) (i := i) (by omega) fun j hj => h j (by omega)
    have hc := h i (by omega)
    have hl := E9 q i
    obtain ⟨s1, s2⟩ := NL (out := F3 q i) (l := rts q i) (by rw [hl]; exact ih) (ar (q.getD i default).kd) (by rcases Lr (q.getD i default).kd with ⟨_, h⟩ | ⟨_, _, h⟩ | ⟨_, h⟩ <;> omega)
    have hle : ar (q.getD i default).kd ≤ (rts q i).length := by
      unfold qC Z7 at hc
      split at hc
      · omega
      · split at hc
        · omega
        · split at hc
          · omega
          · omega
    have := (s2 hle).2.2
    rw [hl] at this
    exact this
def KL (out : List Nat) (a : Nat) : Int := if a = 1 then (out.length : Int) - 1 else if a = 2 then (out.length : Int) - 1 - (out.getD (out.length - 1) 0 : Nat) else 0
def Nk (out : List Nat) (a : Nat) : Int := if a = 2 then (out.length : Int) - 1 else 0
def He (q : List Nd) (i : Nat) : Int :=
  if (decide (1 ≤ (q.getD i default).kd) && decide ((q.getD i default).kd ≤ 16)) = false then 4
  else if (decide (0 ≤ (q.getD i default).nm) && decide ((q.getD i default).nm ≤ Kv (q.getD i default).kd)) = false then 3
  else if KG (F3 q i) (ar (q.getD i default).kd) = true then 5
  else if (q.getD i default).lf = KL (F3 q i) (ar (q.getD i default).kd) ∧ (q.getD i default).rt = Nk (F3 q i) (ar (q.getD i default).kd) then 0 else 5
theorem JC {q : List Nd} {i : Nat} (hi : i ≤ q.length) (h : ∀ j, j < i → qC q j = 0) : He q i = qC q i := by
  have ih := Mt hi h
  have hl := E9 q i
  generalize hn : q.getD i default = n
  obtain ⟨s1, s2⟩ := NL (out := F3 q i) (l := rts q i) (by rw [hl]; exact ih) (ar n.kd) (by rcases Lr n.kd with ⟨_, h⟩ | ⟨_, _, h⟩ | ⟨_, h⟩ <;> omega)
  unfold He qC Z7
  rw [hn, s1]
  have c1 : ((decide (1 ≤ n.kd) && decide (n.kd ≤ 16)) = false) = (n.kd < 1 ∨ 16 < n.kd) := by
    rw [Bool.and_eq_false_iff, decide_eq_false_iff_not, decide_eq_false_iff_not]; apply propext; omega
  have c2 : ((decide (0 ≤ n.nm) && decide (n.nm ≤ Kv n.kd)) = false) = (n.nm < 0 ∨ Kv n.kd < n.nm) := by
    rw [Bool.and_eq_false_iff, decide_eq_false_iff_not, decide_eq_false_iff_not]; apply propext; omega
  have c3 : (decide ((rts q i).length < ar n.kd) = true) = ((rts q i).length < ar n.kd) := by apply propext; exact decide_eq_true_iff
  simp only [c1, c2, c3]
  by_cases hle : (rts q i).length < ar n.kd
  · simp only [if_pos hle]
  · obtain ⟨t1, t2, _⟩ := s2 (by omega)
    have eL : KL (F3 q i) (ar n.kd) = FG (rts q i) (ar n.kd) 0 := by
      unfold KL
      rcases Lr n.kd with ⟨_, h⟩ | ⟨_, _, h⟩ | ⟨_, h⟩
      · rw [h, if_neg (by omega), if_neg (by omega), Nc _ (by omega) (by omega)]
      · rw [if_pos h, t1 h]
      · rw [if_neg (by omega), if_pos h, (t2 h).1]
    have eR : Nk (F3 q i) (ar n.kd) = FG (rts q i) (ar n.kd) 1 := by
      unfold Nk
      rcases Lr n.kd with ⟨_, h⟩ | ⟨_, _, h⟩ | ⟨_, h⟩
      · rw [h, if_neg (by omega), Nc _ (by omega) (by omega)]
      · rw [if_neg (by omega), Nc _ (by omega) (by omega)]
      · rw [if_pos h, (t2 h).2]
    rw [eL, eR]
theorem G5 {f f' g : Nat → Int} : ∀ {n : Nat}, (∀ j, j < n → (∀ k, k < j → f k = 0) → f' j = f j) → Co f' g n = Co f g n
  | 0, _ => rfl
  | n + 1, h => by
    have ih := G5 (f := f) (f' := f') (g := g) (n := n) fun j hj => h j (by omega)
    unfold Co
    rw [ih]
    by_cases h0 : (Co f g n).1 = 0
    · rw [h n (by omega) fun k hk => Dm h0 k hk]
    · rw [if_pos h0, if_pos h0]
def YI (q : List Nd) : Int × Int :=
  if (decide (1 ≤ (q.length : Int)) && decide ((q.length : Int) ≤ 40)) = false then (9, -1)
  else if (Co (He q) iI q.length).1 ≠ 0 then Co (He q) iI q.length
  else if (F3 q q.length).getD (q.length - 1) 0 ≠ q.length then (5, -1) else (0, 0)
theorem Xz (q : List Nd) : YI q = Q8 q := by
  unfold YI Q8
  have c1 : ((decide (1 ≤ (q.length : Int)) && decide ((q.length : Int) ≤ 40)) = false) = (q.length = 0 ∨ 40 < q.length) := by
    rw [Bool.and_eq_false_iff, decide_eq_false_iff_not, decide_eq_false_iff_not]; apply propext; omega
  rw [G5 (f := qC q) (f' := He q) fun j hj h => JC (by omega) h]
  simp only [c1]
  by_cases h1 : q.length = 0 ∨ 40 < q.length
  · rw [if_pos h1, if_pos h1]
  · rw [if_neg h1, if_neg h1]
    by_cases h2 : (Co (qC q) iI q.length).1 ≠ 0
    · rw [if_pos h2, if_pos h2]
    · rw [if_neg h2, if_neg h2]
      have hc := Mt (q := q) (Nat.le_refl _) fun j hj => Dm (g := iI) (n := q.length) (by omega) j hj
      have hrl : (rts q q.length).length = (rts q q.length).reverse.length := (List.length_reverse).symm
      rw [hrl]
      generalize (rts q q.length).reverse = r at hc
      match r, hc with
      | [], h => have h : q.length = 0 := h; omega
      | p :: r, ⟨h0, h1', h2', h3, h4⟩ =>
        have key : (F3 q q.length).getD (q.length - 1) 0 ≠ q.length ↔ (p :: r).length ≠ 1 := by
          constructor
          · intro hne hlen
            have : r = [] := List.eq_nil_of_length_eq_zero (by simpa using hlen)
            subst this
            have h4 : q.length - (F3 q q.length).getD (q.length - 1) 0 = 0 := h4
            omega
          · intro hne he
            rw [he, Nat.sub_self] at h4
            match r, h4 with
            | [], _ => exact hne rfl
            | a :: r, ⟨h5, _⟩ => omega
        by_cases hk : (p :: r).length ≠ 1
        · rw [if_pos hk, if_pos (key.2 hk)]
        · rw [if_neg hk, if_neg (fun h => hk (key.1 h))]
structure Sn where
  kd : Int
  tx : Bs
  lf : Int
  rt : Int
  deriving DecidableEq, Inhabited
def Ec (n : Sn) : List D := [.int .i64 n.kd, .str n.tx, .int .i64 n.lf, .int .i64 n.rt]
def Aad : List D → Sn
  | [.int _ a, .str b, .int _ c, .int _ d] => ⟨a, b, c, d⟩
  | _ => ⟨0, [], 0, 0⟩
def C8 (xs : List (List D)) : List Sn := xs.map Aad
theorem AL (l : List Sn) : C8 (rows Ec l) = l := by
  simp only [C8, rows, List.map_map]
  conv => rhs; rw [← List.map_id l]
  exact List.map_congr_left fun c _ => rfl
theorem BL (l : List Sn) : CW 4 (rows Ec l) = True := eq_true (CU (f := Ec) (fun _ => rfl) l)
def CE (k : Int) : Nat := if k = 2 ∨ k = 3 then 2 else if k = 4 then 1 else 0
theorem MW (k : Int) : CE k ≤ 2 := by unfold CE; split <;> (try split) <;> omega
def kM (k : Int) : Int := if k = 2 ∨ k = 3 then 14 else if k = 4 then 7 else 1
theorem NB (k : Int) : ar (kM k) = CE k := by
  unfold kM CE
  split
  · rfl
  · split <;> rfl
def nM (n : Sn) : Nd := ⟨kM n.kd, 0, n.lf, n.rt⟩
def Ef (q : List Sn) : List Nd := q.map nM
theorem Dz (q : List Sn) : (Ef q).length = q.length := List.length_map ..
theorem Rm {q : List Sn} {i : Nat} (h : i < q.length) : (Ef q).getD i default = nM (q.getD i default) := by
  unfold Ef
  rw [List.getD_eq_getElem?_getD, List.getD_eq_getElem?_getD, List.getElem?_map, List.getElem?_eq_getElem h]; rfl
theorem XV {q : List Sn} {i : Nat} (h : i < q.length) : ar ((Ef q).getD i default).kd = CE (q.getD i default).kd := by rw [Rm h]; exact NB _
def Gr (s : Bs) : Bool := (decide (1 ≤ s.length) && decide (s.length ≤ 80)) && !(decide ((10 : UInt8) ∈ s))
def Is (n : Sn) (c : Int) : Int := if n.kd < 1 ∨ 4 < n.kd then 4 else if n.kd = 1 ∧ Gr n.tx = false then 3 else if n.kd ≠ 1 ∧ n.tx ≠ [] then 5 else c
def I0 (n : Sn) (l : List Int) : Int := Is n (if l.length < CE n.kd then 5 else if n.lf = FG l (CE n.kd) 0 ∧ n.rt = FG l (CE n.kd) 1 then 0 else 5)
def F2 (q : List Sn) (i : Nat) : List Int := rts (Ef q) i
def Nn (q : List Sn) (i : Nat) : Int := I0 (q.getD i default) (F2 q i)
def C4 (q : List Sn) : Int × Int :=
  if q.length = 0 ∨ 40 < q.length then (9, -1)
  else if (Co (Nn q) iI q.length).1 ≠ 0 then Co (Nn q) iI q.length
  else if (F2 q q.length).length ≠ 1 then (5, -1) else (0, 0)
theorem RC {n : Sn} {c : Int} (h : Is n c = 0) : c = 0 ∧ (1 ≤ n.kd ∧ n.kd ≤ 4) ∧ (n.kd = 1 → Gr n.tx = true) ∧ (n.kd ≠ 1 → n.tx = []) := by
  unfold Is at h
  split at h
  · cases h
  · rename_i h1
    split at h
    · cases h
    · rename_i h2
      split at h
      · cases h
      · rename_i h3
        refine ⟨h, by omega, fun hk => ?_, fun hk => ?_⟩
        · cases hb : Gr n.tx with
          | true => rfl
          | false => exact absurd ⟨hk, hb⟩ h2
        · by_cases ht : n.tx = []
          · exact ht
          · exact absurd ⟨hk, ht⟩ h3
theorem YN (n : Sn) (l : List Int) : (if l.length < CE n.kd then 5 else if n.lf = FG l (CE n.kd) 0 ∧ n.rt = FG l (CE n.kd) 1 then 0 else 5 : Int) = Z7 (nM n) l := by
  have hk : kM n.kd = 14 ∨ kM n.kd = 7 ∨ kM n.kd = 1 := by
    unfold kM; split
    · exact .inl rfl
    · split
      · exact .inr (.inl rfl)
      · exact .inr (.inr rfl)
  have hm : Kv (kM n.kd) = 0 := by rcases hk with h | h | h <;> rw [h] <;> rfl
  unfold Z7 nM
  dsimp only
  rw [hm, if_neg (c := kM n.kd < 1 ∨ 16 < kM n.kd) (by omega), if_neg (c := (0 : Int) < 0 ∨ (0 : Int) < 0) (by omega), NB]
theorem Qq {q : List Sn} {i : Nat} (hi : i < q.length) : Nn q i = Is (q.getD i default) (qC (Ef q) i) := by
  unfold Nn I0 qC
  rw [YN, Rm hi]; rfl
theorem V8 {q : List Sn} {i : Nat} (hi : i < q.length) (h : Nn q i = 0) : qC (Ef q) i = 0 := by
  rw [Qq hi] at h; exact (RC h).1
def Dl (q : List Sn) (i : Nat) : List Nat := F3 (Ef q) i
def Cg (q : List Sn) (i : Nat) : Int := Is (q.getD i default) (if KG (Dl q i) (CE (q.getD i default).kd) = true then 5 else if (q.getD i default).lf = KL (Dl q i) (CE (q.getD i default).kd) ∧ (q.getD i default).rt = Nk (Dl q i) (CE (q.getD i default).kd) then 0 else 5)
theorem OK {q : List Sn} {i : Nat} (hi : i < q.length) : Cg q i = Is (q.getD i default) (He (Ef q) i) := by
  have hk : kM (q.getD i default).kd = 14 ∨ kM (q.getD i default).kd = 7 ∨ kM (q.getD i default).kd = 1 := by
    unfold kM; split
    · exact .inl rfl
    · split
      · exact .inr (.inl rfl)
      · exact .inr (.inr rfl)
  have hm : Kv (kM (q.getD i default).kd) = 0 := by rcases hk with h | h | h <;> rw [h] <;> rfl
  unfold Cg He
  rw [Rm hi]
  unfold nM
  dsimp only
  have h16 : ¬(decide (1 ≤ kM (q.getD i default).kd) && decide (kM (q.getD i default).kd ≤ 16)) = false := by rw [Bool.and_eq_false_iff, decide_eq_false_iff_not, decide_eq_false_iff_not]; omega
  rw [hm, if_neg h16, if_neg (c := (decide ((0 : Int) ≤ 0) && decide ((0 : Int) ≤ 0)) = false) (by simp), NB]; rfl
theorem VH {q : List Sn} {i : Nat} (hi : i < q.length) (h : ∀ j, j < i → Nn q j = 0) : Cg q i = Nn q i := by
  rw [OK hi, Qq hi, JC (by rw [Dz]; omega) fun j hj => V8 (by omega) (h j hj)]
def Lc (q : List Sn) : Int × Int :=
  if (decide (1 ≤ (q.length : Int)) && decide ((q.length : Int) ≤ 40)) = false then (9, -1)
  else if (Co (Cg q) iI q.length).1 ≠ 0 then Co (Cg q) iI q.length
  else if (Dl q q.length).getD (q.length - 1) 0 ≠ q.length then (5, -1) else (0, 0)
theorem X0 (q : List Sn) : Lc q = C4 q := by
  unfold Lc C4
  have c1 : ((decide (1 ≤ (q.length : Int)) && decide ((q.length : Int) ≤ 40)) = false) = (q.length = 0 ∨ 40 < q.length) := by
    rw [Bool.and_eq_false_iff, decide_eq_false_iff_not, decide_eq_false_iff_not]; apply propext; omega
  rw [G5 (f := Nn q) (f' := Cg q) fun j hj h => VH hj h]
  simp only [c1]
  by_cases h1 : q.length = 0 ∨ 40 < q.length
  · rw [if_pos h1, if_pos h1]
  · rw [if_neg h1, if_neg h1]
    by_cases h2 : (Co (Nn q) iI q.length).1 ≠ 0
    · rw [if_pos h2, if_pos h2]
    · rw [if_neg h2, if_neg h2]
      have hz : ∀ j, j < (Ef q).length → qC (Ef q) j = 0 := fun j hj => V8 (by rw [Dz] at hj; exact hj) (Dm (g := iI) (n := q.length) (by omega) j (by rw [Dz] at hj; exact hj))
      have h3 := Xz (Ef q)
      unfold YI Q8 at h3
      rw [Cv fun j hj => by rw [JC (by omega) fun k hk => hz k (by omega)]; exact hz j hj, Cv hz, Dz, if_neg (by rw [c1]; exact h1), if_neg h1] at h3
      have e0 : ¬(((0, 0) : Int × Int).1 ≠ 0) := by simp
      rw [if_neg e0, if_neg e0] at h3
      exact h3
