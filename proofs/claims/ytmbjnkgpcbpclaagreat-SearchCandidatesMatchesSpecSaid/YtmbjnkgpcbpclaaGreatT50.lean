/- Walks, printed by wip/gen/walk.py. -/
import Derived.Test.YtmbjnkgpcbpclaaGreatT22
import Derived.Test.YtmbjnkgpcbpclaaGreatV5
set_option linter.all false
set_option maxRecDepth 100000
set_option maxHeartbeats 4000000
namespace Go.Proofs.YtmbjnkgpcbpclaaGreat
open Go Go.Vc Go.RowKit
structure Nd where
  kd : Int
  nm : Int
  lf : Int
  rt : Int
  deriving DecidableEq, Inhabited
def ar (k : Int) : Nat := if 14 ≤ k then 2 else if 7 ≤ k then 1 else 0
theorem Kx (k : Int) : (k < 7 ∧ ar k = 0) ∨ (7 ≤ k ∧ k < 14 ∧ ar k = 1) ∨ (14 ≤ k ∧ ar k = 2) := by
  unfold ar
  split
  · exact .inr (.inr ⟨by omega, rfl⟩)
  · split
    · exact .inr (.inl ⟨by omega, by omega, rfl⟩)
    · exact .inl ⟨by omega, rfl⟩
def J5 (k : Int) : Int := if k = 3 then 59 else if k = 4 then 7 else if k = 5 then 100000 else 0
def rts (q : List Nd) : Nat → List Int
  | 0 => []
  | i + 1 => (rts q i).take ((rts q i).length - ar (q.getD i default).kd) ++ [(i : Int)]
def EY (l : List Int) (m k : Nat) : Int := (l.drop (l.length - m)).getD k 0
def Yb (n : Nd) (l : List Int) : Int :=
  if n.kd < 1 ∨ 16 < n.kd then 4 else if n.nm < 0 ∨ J5 n.kd < n.nm then 3 else if l.length < ar n.kd then 5
  else if n.lf = EY l (ar n.kd) 0 ∧ n.rt = EY l (ar n.kd) 1 then 0 else 5
def qC (q : List Nd) (i : Nat) : Int := Yb (q.getD i default) (rts q i)
def iI (i : Nat) : Int := (i : Int)
def Pj (q : List Nd) : Int × Int :=
  if q.length = 0 ∨ 40 < q.length then (9, -1)
  else if (BW (qC q) iI q.length).1 ≠ 0 then BW (qC q) iI q.length
  else if (rts q q.length).length ≠ 1 then (5, -1) else (0, 0)
theorem PP (q : List Nd) : ∀ i, (rts q i).length ≤ i
  | 0 => Nat.le_refl _
  | i + 1 => by
    have := PP q i
    simp only [rts, List.length_append, List.length_take, List.length_singleton]; omega
def NB (out : List Nat) (a : Nat) : Nat :=
  if a = 0 then 1 else if a = 1 then 1 + out.getD (out.length - 1) 0
  else 1 + out.getD (out.length - 1) 0 + out.getD (out.length - (1 + out.getD (out.length - 1) 0)) 0
def JN (out : List Nat) (a : Nat) : Bool := decide (1 ≤ a ∧ out.length = 0) || decide (2 ≤ a ∧ out.length < 1 + out.getD (out.length - 1) 0)
def EI (q : List Nd) : Nat → List Nat
  | 0 => []
  | i + 1 => EI q i ++ [NB (EI q i) (ar (q.getD i default).kd)]
theorem Ec (q : List Nd) : ∀ i, (EI q i).length = i
  | 0 => rfl
  | i + 1 => by simp [EI, Ec q i]
def Wn (out : List Nat) : List Int → Nat → Prop
  | [], i => i = 0
  | p :: r, i => 0 < i ∧ p = (i : Int) - 1 ∧ 1 ≤ out.getD (i - 1) 0 ∧ out.getD (i - 1) 0 ≤ i ∧ Wn out r (i - out.getD (i - 1) 0)
theorem M8 {out : List Nat} (x : Nat) : ∀ {l : List Int} {i : Nat}, i ≤ out.length → Wn out l i → Wn (out ++ [x]) l i
  | [], _, _, h => h
  | p :: r, i, hi, ⟨h0, h1, h2, h3, h4⟩ => by
    have e : (out ++ [x]).getD (i - 1) 0 = out.getD (i - 1) 0 := by
      simp only [List.getD_eq_getElem?_getD]
      rw [List.getElem?_append_left (by omega)]
    refine ⟨h0, h1, by rw [e]; exact h2, by rw [e]; exact h3, ?_⟩
    rw [e]; exact M8 x (by omega) h4
theorem Mc {l : List Int} {m : Nat} (h : m ≤ l.length) (k : Nat) (hk : k < m) : EY l m k = l.reverse.getD (m - 1 - k) 0 := by
  unfold EY
  simp only [List.getD_eq_getElem?_getD]
  rw [List.getElem?_drop, List.getElem?_reverse (by omega)]
  congr 2; omega
theorem Mb (l : List Int) {m k : Nat} (h : m ≤ l.length) (hk : m ≤ k) : EY l m k = 0 := by
  unfold EY
  rw [List.getD_eq_getElem?_getD, List.getElem?_eq_none (by rw [List.length_drop]; omega)]; rfl
theorem M9 {out : List Nat} {l : List Int} (h : Wn out l.reverse out.length) (a : Nat) (ha : a ≤ 2) :
  (JN out a = decide (l.length < a)) ∧
  (a ≤ l.length → (a = 1 → EY l a 0 = (out.length : Int) - 1) ∧
   (a = 2 → EY l a 0 = (out.length : Int) - 1 - (out.getD (out.length - 1) 0 : Nat) ∧ EY l a 1 = (out.length : Int) - 1) ∧
   Wn (out ++ [NB out a]) (l.take (l.length - a) ++ [(out.length : Int)]).reverse (out.length + 1)) := by
 have hr : ∃ r, l.reverse = r := ⟨_, rfl⟩
 obtain ⟨r, hr⟩ := hr
 have hl : l = r.reverse := by rw [← hr, List.reverse_reverse]
 subst hl
 rw [List.reverse_reverse] at h
 have hpush : ∀ (r' : List Int) (i' : Nat), NB out a + i' = out.length + 1 → 1 ≤ NB out a → Wn out r' i' → i' ≤ out.length → r'.reverse = (r.reverse).take (r.reverse.length - a) → Wn (out ++ [NB out a]) (r.reverse.take (r.reverse.length - a) ++ [(out.length : Int)]).reverse (out.length + 1) := by
  intro r' i' e1 e2 e3 e4 e5
  rw [← e5, List.reverse_append, List.reverse_reverse]
  have eg : (out ++ [NB out a]).getD (out.length + 1 - 1) 0 = NB out a := by
   rw [List.getD_eq_getElem?_getD, Nat.add_sub_cancel, List.getElem?_append_right (Nat.le_refl _), Nat.sub_self]; rfl
  refine ⟨by omega, by omega, by rw [eg]; exact e2, by rw [eg]; omega, ?_⟩
  rw [eg, show out.length + 1 - NB out a = i' by omega]
  exact M8 _ e4 e3
 match a, ha with
 | 0, _ =>
  refine ⟨by simp [JN], fun _ => ⟨fun h => by omega, fun h => by omega, ?_⟩⟩
  exact hpush r out.length (by show 1 + out.length = _; omega) (Nat.le_refl 1) h (Nat.le_refl _) (by rw [Nat.sub_zero, List.take_length])
 | 1, _ =>
  match r, h with
  | [], h =>
   have h : out.length = 0 := h
   refine ⟨by simp [JN, h], fun h1 => by simp at h1⟩
  | p :: r, ⟨h0, h1, h2, h3, h4⟩ =>
   refine ⟨?_, fun _ => ⟨fun _ => ?_, fun h => by omega, ?_⟩⟩
   ·have : decide ((p :: r).reverse.length < 1) = false := decide_eq_false (by simp)
    rw [this]; unfold JN
    rw [decide_eq_false (by omega), decide_eq_false (by omega)]; rfl
   ·rw [Mc (by simp) 0 (by omega), List.reverse_reverse]; simpa using h1
   ·have e1 : NB out 1 = 1 + out.getD (out.length - 1) 0 := rfl
    refine hpush r _ ?_ ?_ h4 (by omega) ?_
    ·omega
    ·omega
    ·simp
 | 2, _ =>
  match r, h with
  | [], h =>
   have h : out.length = 0 := h
   refine ⟨by simp [JN, h], fun h1 => by simp at h1⟩
  | [p], ⟨h0, h1, h2, h3, h4⟩ =>
   have h4 : out.length - out.getD (out.length - 1) 0 = 0 := h4
   refine ⟨?_, fun h1 => by simp at h1⟩
   have : decide (([p] : List Int).reverse.length < 2) = true := decide_eq_true (by simp)
   rw [this]; unfold JN
   rw [decide_eq_true (p := 2 ≤ 2 ∧ out.length < 1 + out.getD (out.length - 1) 0) ⟨by omega, by omega⟩, Bool.or_true]
  | p :: p2 :: r, ⟨h0, h1, h2, h3, h40, h41, h42, h43, h44⟩ =>
   refine ⟨?_, fun _ => ⟨fun h => by omega, fun _ => ⟨?_, ?_⟩, ?_⟩⟩
   ·have : decide ((p :: p2 :: r).reverse.length < 2) = false := decide_eq_false (by simp)
    rw [this]; unfold JN
    rw [decide_eq_false (by omega), decide_eq_false (by omega)]; rfl
   ·rw [Mc (by simp) 0 (by omega), List.reverse_reverse]
    have : (p :: p2 :: r).getD (2 - 1 - 0) 0 = p2 := rfl
    rw [this]; omega
   ·rw [Mc (by simp) 1 (by omega), List.reverse_reverse]
    have : (p :: p2 :: r).getD (2 - 1 - 1) 0 = p := rfl
    rw [this]; exact h1
   ·have e : out.length - (1 + out.getD (out.length - 1) 0) = out.length - out.getD (out.length - 1) 0 - 1 := by omega
    have e2 : NB out 2 = 1 + out.getD (out.length - 1) 0 + out.getD (out.length - out.getD (out.length - 1) 0 - 1) 0 := by rw [← e]; rfl
    refine hpush r _ ?_ ?_ h44 (by omega) ?_
    ·omega
    ·omega
    ·simp
theorem Ls {q : List Nd} : ∀ {i : Nat}, i ≤ q.length → (∀ j, j < i → qC q j = 0) → Wn (EI q i) (rts q i).reverse i
  | 0, _, _ => rfl
  | i + 1, hi, h => by
    have ih := Ls (q := q) (i := i) (by omega) fun j hj => h j (by omega)
    have hc := h i (by omega)
    have hl := Ec q i
    obtain ⟨s1, s2⟩ := M9 (out := EI q i) (l := rts q i) (by rw [hl]; exact ih) (ar (q.getD i default).kd) (by rcases Kx (q.getD i default).kd with ⟨_, h⟩ | ⟨_, _, h⟩ | ⟨_, h⟩ <;> omega)
    have hle : ar (q.getD i default).kd ≤ (rts q i).length := by
      unfold qC Yb at hc
      split at hc
      · omega
      · split at hc
        · omega
        · split at hc
          · omega
          · omega
    have := (s2 hle).2.2
    rw [hl] at this
    exact this
def JV (out : List Nat) (a : Nat) : Int := if a = 1 then (out.length : Int) - 1 else if a = 2 then (out.length : Int) - 1 - (out.getD (out.length - 1) 0 : Nat) else 0
def Mh (out : List Nat) (a : Nat) : Int := if a = 2 then (out.length : Int) - 1 else 0
def G6 (q : List Nd) (i : Nat) : Int :=
  if (decide (1 ≤ (q.getD i default).kd) && decide ((q.getD i default).kd ≤ 16)) = false then 4
  else if (decide (0 ≤ (q.getD i default).nm) && decide ((q.getD i default).nm ≤ J5 (q.getD i default).kd)) = false then 3
  else if JN (EI q i) (ar (q.getD i default).kd) = true then 5
  else if (q.getD i default).lf = JV (EI q i) (ar (q.getD i default).kd) ∧ (q.getD i default).rt = Mh (EI q i) (ar (q.getD i default).kd) then 0 else 5
theorem IJ {q : List Nd} {i : Nat} (hi : i ≤ q.length) (h : ∀ j, j < i → qC q j = 0) : G6 q i = qC q i := by
  have ih := Ls hi h
  have hl := Ec q i
  generalize hn : q.getD i default = n
  obtain ⟨s1, s2⟩ := M9 (out := EI q i) (l := rts q i) (by rw [hl]; exact ih) (ar n.kd) (by rcases Kx n.kd with ⟨_, h⟩ | ⟨_, _, h⟩ | ⟨_, h⟩ <;> omega)
  unfold G6 qC Yb
  rw [hn, s1]
  have c1 : ((decide (1 ≤ n.kd) && decide (n.kd ≤ 16)) = false) = (n.kd < 1 ∨ 16 < n.kd) := by
    rw [Bool.and_eq_false_iff, decide_eq_false_iff_not, decide_eq_false_iff_not]; apply propext; omega
  have c2 : ((decide (0 ≤ n.nm) && decide (n.nm ≤ J5 n.kd)) = false) = (n.nm < 0 ∨ J5 n.kd < n.nm) := by
    rw [Bool.and_eq_false_iff, decide_eq_false_iff_not, decide_eq_false_iff_not]; apply propext; omega
  have c3 : (decide ((rts q i).length < ar n.kd) = true) = ((rts q i).length < ar n.kd) := by apply propext; exact decide_eq_true_iff
  simp only [c1, c2, c3]
  by_cases hle : (rts q i).length < ar n.kd
  · simp only [if_pos hle]
  · obtain ⟨t1, t2, _⟩ := s2 (by omega)
    have eL : JV (EI q i) (ar n.kd) = EY (rts q i) (ar n.kd) 0 := by
      unfold JV
      rcases Kx n.kd with ⟨_, h⟩ | ⟨_, _, h⟩ | ⟨_, h⟩
      · rw [h, if_neg (by omega), if_neg (by omega), Mb _ (by omega) (by omega)]
      · rw [if_pos h, t1 h]
      · rw [if_neg (by omega), if_pos h, (t2 h).1]
    have eR : Mh (EI q i) (ar n.kd) = EY (rts q i) (ar n.kd) 1 := by
      unfold Mh
      rcases Kx n.kd with ⟨_, h⟩ | ⟨_, _, h⟩ | ⟨_, h⟩
      · rw [h, if_neg (by omega), Mb _ (by omega) (by omega)]
      · rw [if_neg (by omega), Mb _ (by omega) (by omega)]
      · rw [if_pos h, (t2 h).2]
    rw [eL, eR]
theorem FR {f f' g : Nat → Int} : ∀ {n : Nat}, (∀ j, j < n → (∀ k, k < j → f k = 0) → f' j = f j) → BW f' g n = BW f g n
  | 0, _ => rfl
  | n + 1, h => by
    have ih := FR (f := f) (f' := f') (g := g) (n := n) fun j hj => h j (by omega)
    unfold BW
    rw [ih]
    by_cases h0 : (BW f g n).1 = 0
    · rw [h n (by omega) fun k hk => CK h0 k hk]
    · rw [if_pos h0, if_pos h0]
def Xk (q : List Nd) : Int × Int :=
  if (decide (1 ≤ (q.length : Int)) && decide ((q.length : Int) ≤ 40)) = false then (9, -1)
  else if (BW (G6 q) iI q.length).1 ≠ 0 then BW (G6 q) iI q.length
  else if (EI q q.length).getD (q.length - 1) 0 ≠ q.length then (5, -1) else (0, 0)
theorem VO (q : List Nd) : Xk q = Pj q := by
  unfold Xk Pj
  have c1 : ((decide (1 ≤ (q.length : Int)) && decide ((q.length : Int) ≤ 40)) = false) = (q.length = 0 ∨ 40 < q.length) := by
    rw [Bool.and_eq_false_iff, decide_eq_false_iff_not, decide_eq_false_iff_not]; apply propext; omega
  rw [FR (f := qC q) (f' := G6 q) fun j hj h => IJ (by omega) h]
  simp only [c1]
  by_cases h1 : q.length = 0 ∨ 40 < q.length
  · rw [if_pos h1, if_pos h1]
  · rw [if_neg h1, if_neg h1]
    by_cases h2 : (BW (qC q) iI q.length).1 ≠ 0
    · rw [if_pos h2, if_pos h2]
    · rw [if_neg h2, if_neg h2]
      have hc := Ls (q := q) (Nat.le_refl _) fun j hj => CK (g := iI) (n := q.length) (by omega) j hj
      have hrl : (rts q q.length).length = (rts q q.length).reverse.length := (List.length_reverse).symm
      rw [hrl]
      generalize (rts q q.length).reverse = r at hc
      match r, hc with
      | [], h => have h : q.length = 0 := h; omega
      | p :: r, ⟨h0, h1', h2', h3, h4⟩ =>
        have key : (EI q q.length).getD (q.length - 1) 0 ≠ q.length ↔ (p :: r).length ≠ 1 := by
          constructor
          · intro hne hlen
            have : r = [] := List.eq_nil_of_length_eq_zero (by simpa using hlen)
            subst this
            have h4 : q.length - (EI q q.length).getD (q.length - 1) 0 = 0 := h4
            omega
          · intro hne he
            rw [he, Nat.sub_self] at h4
            match r, h4 with
            | [], _ => exact hne rfl
            | a :: r, ⟨h5, _⟩ => omega
        by_cases hk : (p :: r).length ≠ 1
        · rw [if_pos hk, if_pos (key.2 hk)]
        · rw [if_neg hk, if_neg (fun h => hk (key.1 h))]

structure Sn where
  kd : Int
  tx : Bs
  lf : Int
  rt : Int
  deriving DecidableEq, Inhabited
def DR (n : Sn) : List D := [.int .i64 n.kd, .str n.tx, .int .i64 n.lf, .int .i64 n.rt]
def Y6 : List D → Sn
  | [.int _ a, .str b, .int _ c, .int _ d] => ⟨a, b, c, d⟩
  | _ => ⟨0, [], 0, 0⟩
def Cz (xs : List (List D)) : List Sn := xs.map Y6
theorem AY (l : List Sn) : Cz (rows DR l) = l := by
  simp only [Cz, rows, List.map_map]
  conv => rhs; rw [← List.map_id l]
  exact List.map_congr_left fun c _ => rfl
theorem BQ (l : List Sn) : C4 4 (rows DR l) = True := eq_true (C3 (f := DR) (fun _ => rfl) l)
def Cm (k : Int) : Nat := if k = 2 ∨ k = 3 then 2 else if k = 4 then 1 else 0
theorem LS (k : Int) : Cm k ≤ 2 := by unfold Cm; split <;> (try split) <;> omega
def kM (k : Int) : Int := if k = 2 ∨ k = 3 then 14 else if k = 4 then 7 else 1
theorem Mv (k : Int) : ar (kM k) = Cm k := by
  unfold kM Cm
  split
  · rfl
  · split <;> rfl
def nM (n : Sn) : Nd := ⟨kM n.kd, 0, n.lf, n.rt⟩
def D4 (q : List Sn) : List Nd := q.map nM
theorem CX (q : List Sn) : (D4 q).length = q.length := List.length_map ..
theorem PB {q : List Sn} {i : Nat} (h : i < q.length) : (D4 q).getD i default = nM (q.getD i default) := by
  unfold D4
  rw [List.getD_eq_getElem?_getD, List.getD_eq_getElem?_getD, List.getElem?_map, List.getElem?_eq_getElem h]; rfl
theorem Wx {q : List Sn} {i : Nat} (h : i < q.length) : ar ((D4 q).getD i default).kd = Cm (q.getD i default).kd := by rw [PB h]; exact Mv _
def FC (s : Bs) : Bool := (decide (1 ≤ s.length) && decide (s.length ≤ 80)) && !(decide ((10 : UInt8) ∈ s))
def H4 (n : Sn) (c : Int) : Int := if n.kd < 1 ∨ 4 < n.kd then 4 else if n.kd = 1 ∧ FC n.tx = false then 3 else if n.kd ≠ 1 ∧ n.tx ≠ [] then 5 else c
def H9 (n : Sn) (l : List Int) : Int := H4 n (if l.length < Cm n.kd then 5 else if n.lf = EY l (Cm n.kd) 0 ∧ n.rt = EY l (Cm n.kd) 1 then 0 else 5)
def EH (q : List Sn) (i : Nat) : List Int := rts (D4 q) i
def Mk (q : List Sn) (i : Nat) : Int := H9 (q.getD i default) (EH q i)
def Cq (q : List Sn) : Int × Int :=
  if q.length = 0 ∨ 40 < q.length then (9, -1)
  else if (BW (Mk q) iI q.length).1 ≠ 0 then BW (Mk q) iI q.length
  else if (EH q q.length).length ≠ 1 then (5, -1) else (0, 0)
theorem PX {n : Sn} {c : Int} (h : H4 n c = 0) : c = 0 ∧ (1 ≤ n.kd ∧ n.kd ≤ 4) ∧ (n.kd = 1 → FC n.tx = true) ∧ (n.kd ≠ 1 → n.tx = []) := by
  unfold H4 at h
  split at h
  · cases h
  · rename_i h1
    split at h
    · cases h
    · rename_i h2
      split at h
      · cases h
      · rename_i h3
        refine ⟨h, by omega, fun hk => ?_, fun hk => ?_⟩
        · cases hb : FC n.tx with
          | true => rfl
          | false => exact absurd ⟨hk, hb⟩ h2
        · by_cases ht : n.tx = []
          · exact ht
          · exact absurd ⟨hk, ht⟩ h3
theorem Xo (n : Sn) (l : List Int) : (if l.length < Cm n.kd then 5 else if n.lf = EY l (Cm n.kd) 0 ∧ n.rt = EY l (Cm n.kd) 1 then 0 else 5 : Int) = Yb (nM n) l := by
  have hk : kM n.kd = 14 ∨ kM n.kd = 7 ∨ kM n.kd = 1 := by
    unfold kM; split
    · exact .inl rfl
    · split
      · exact .inr (.inl rfl)
      · exact .inr (.inr rfl)
  have hm : J5 (kM n.kd) = 0 := by rcases hk with h | h | h <;> rw [h] <;> rfl
  unfold Yb nM
  dsimp only
  rw [hm, if_neg (c := kM n.kd < 1 ∨ 16 < kM n.kd) (by omega), if_neg (c := (0 : Int) < 0 ∨ (0 : Int) < 0) (by omega), Mv]
theorem OS {q : List Sn} {i : Nat} (hi : i < q.length) : Mk q i = H4 (q.getD i default) (qC (D4 q) i) := by
  unfold Mk H9 qC
  rw [Xo, PB hi]; rfl
theorem TW {q : List Sn} {i : Nat} (hi : i < q.length) (h : Mk q i = 0) : qC (D4 q) i = 0 := by
  rw [OS hi] at h; exact (PX h).1
def CI (q : List Sn) (i : Nat) : List Nat := EI (D4 q) i
def BR (q : List Sn) (i : Nat) : Int := H4 (q.getD i default) (if JN (CI q i) (Cm (q.getD i default).kd) = true then 5 else if (q.getD i default).lf = JV (CI q i) (Cm (q.getD i default).kd) ∧ (q.getD i default).rt = Mh (CI q i) (Cm (q.getD i default).kd) then 0 else 5)
theorem Nq {q : List Sn} {i : Nat} (hi : i < q.length) : BR q i = H4 (q.getD i default) (G6 (D4 q) i) := by
  have hk : kM (q.getD i default).kd = 14 ∨ kM (q.getD i default).kd = 7 ∨ kM (q.getD i default).kd = 1 := by
    unfold kM; split
    · exact .inl rfl
    · split
      · exact .inr (.inl rfl)
      · exact .inr (.inr rfl)
  have hm : J5 (kM (q.getD i default).kd) = 0 := by rcases hk with h | h | h <;> rw [h] <;> rfl
  unfold BR G6
  rw [PB hi]
  unfold nM
  dsimp only
  have h16 : ¬(decide (1 ≤ kM (q.getD i default).kd) && decide (kM (q.getD i default).kd ≤ 16)) = false := by rw [Bool.and_eq_false_iff, decide_eq_false_iff_not, decide_eq_false_iff_not]; omega
  rw [hm, if_neg h16, if_neg (c := (decide ((0 : Int) ≤ 0) && decide ((0 : Int) ≤ 0)) = false) (by simp), Mv]; rfl
theorem Ue {q : List Sn} {i : Nat} (hi : i < q.length) (h : ∀ j, j < i → Mk q j = 0) : BR q i = Mk q i := by
  rw [Nq hi, OS hi, IJ (by rw [CX]; omega) fun j hj => TW (by omega) (h j hj)]
def Ki (q : List Sn) : Int × Int :=
  if (decide (1 ≤ (q.length : Int)) && decide ((q.length : Int) ≤ 40)) = false then (9, -1)
  else if (BW (BR q) iI q.length).1 ≠ 0 then BW (BR q) iI q.length
  else if (CI q q.length).getD (q.length - 1) 0 ≠ q.length then (5, -1) else (0, 0)
theorem VP (q : List Sn) : Ki q = Cq q := by
  unfold Ki Cq
  have c1 : ((decide (1 ≤ (q.length : Int)) && decide ((q.length : Int) ≤ 40)) = false) = (q.length = 0 ∨ 40 < q.length) := by
    rw [Bool.and_eq_false_iff, decide_eq_false_iff_not, decide_eq_false_iff_not]; apply propext; omega
  rw [FR (f := Mk q) (f' := BR q) fun j hj h => Ue hj h]
  simp only [c1]
  by_cases h1 : q.length = 0 ∨ 40 < q.length
  · rw [if_pos h1, if_pos h1]
  · rw [if_neg h1, if_neg h1]
    by_cases h2 : (BW (Mk q) iI q.length).1 ≠ 0
    · rw [if_pos h2, if_pos h2]
    · rw [if_neg h2, if_neg h2]
      have hz : ∀ j, j < (D4 q).length → qC (D4 q) j = 0 := fun j hj => TW (by rw [CX] at hj; exact hj) (CK (g := iI) (n := q.length) (by omega) j (by rw [CX] at hj; exact hj))
      have h3 := VO (D4 q)
      unfold Xk Pj at h3
      rw [Cc fun j hj => by rw [IJ (by omega) fun k hk => hz k (by omega)]; exact hz j hj, Cc hz, CX, if_neg (by rw [c1]; exact h1), if_neg h1] at h3
      have e0 : ¬(((0, 0) : Int × Int).1 ≠ 0) := by simp
      rw [if_neg e0, if_neg e0] at h3
      exact h3
end Go.Proofs.YtmbjnkgpcbpclaaGreat
