/- Walks, printed by wip/gen/walk.py. -/
import Derived.Test.YtmbjnkgpcbpclaaGreatT17
import Derived.Test.YtmbjnkgpcbpclaaGreatV5
import Derived.Test.YtmbjnkgpcbpclaaGreatV6
set_option linter.all false
set_option maxRecDepth 100000
set_option maxHeartbeats 4000000
namespace Go.Proofs.YtmbjnkgpcbpclaaGreat
open Go Go.Vc Go.RowKit
structure Nd where
  kd : Int
  nm : Int
  lf : Int
  rt : Int
  deriving DecidableEq, Inhabited
def ar (k : Int) : Nat := if 14 ≤ k then 2 else if 7 ≤ k then 1 else 0
theorem JT (k : Int) : (k < 7 ∧ ar k = 0) ∨ (7 ≤ k ∧ k < 14 ∧ ar k = 1) ∨ (14 ≤ k ∧ ar k = 2) := by
  unfold ar
  split
  · exact .inr (.inr ⟨by omega, rfl⟩)
  · split
    · exact .inr (.inl ⟨by omega, by omega, rfl⟩)
    · exact .inl ⟨by omega, rfl⟩
def Kn (k : Int) : Int := if k = 3 then 59 else if k = 4 then 7 else if k = 5 then 100000 else 0
def rts (q : List Nd) : Nat → List Int
  | 0 => []
  | i + 1 => (rts q i).take ((rts q i).length - ar (q.getD i default).kd) ++ [(i : Int)]
def EJ (l : List Int) (m k : Nat) : Int := (l.drop (l.length - m)).getD k 0
def Xm (n : Nd) (l : List Int) : Int :=
  if n.kd < 1 ∨ 16 < n.kd then 4 else if n.nm < 0 ∨ Kn n.kd < n.nm then 3 else if l.length < ar n.kd then 5
  else if n.lf = EJ l (ar n.kd) 0 ∧ n.rt = EJ l (ar n.kd) 1 then 0 else 5
def qC (q : List Nd) (i : Nat) : Int := Xm (q.getD i default) (rts q i)
def iI (i : Nat) : Int := (i : Int)
def Vg (q : List Nd) : Int × Int :=
  if q.length = 0 ∨ 40 < q.length then (9, -1)
  else if (CN (qC q) iI q.length).1 ≠ 0 then CN (qC q) iI q.length
  else if (rts q q.length).length ≠ 1 then (5, -1) else (0, 0)
theorem Ph (q : List Nd) : ∀ i, (rts q i).length ≤ i
  | 0 => Nat.le_refl _
  | i + 1 => by
    have := Ph q i
    simp only [rts, List.length_append, List.length_take, List.length_singleton]; omega
def MP (out : List Nat) (a : Nat) : Nat :=
  if a = 0 then 1 else if a = 1 then 1 + out.getD (out.length - 1) 0
  else 1 + out.getD (out.length - 1) 0 + out.getD (out.length - (1 + out.getD (out.length - 1) 0)) 0
def Rg (out : List Nat) (a : Nat) : Bool := decide (1 ≤ a ∧ out.length = 0) || decide (2 ≤ a ∧ out.length < 1 + out.getD (out.length - 1) 0)
def Gh (q : List Nd) : Nat → List Nat
  | 0 => []
  | i + 1 => Gh q i ++ [MP (Gh q i) (ar (q.getD i default).kd)]
theorem Fq (q : List Nd) : ∀ i, (Gh q i).length = i
  | 0 => rfl
  | i + 1 => by simp [Gh, Fq q i]
def Vr (out : List Nat) : List Int → Nat → Prop
  | [], i => i = 0
  | p :: r, i => 0 < i ∧ p = (i : Int) - 1 ∧ 1 ≤ out.getD (i - 1) 0 ∧ out.getD (i - 1) 0 ≤ i ∧ Vr out r (i - out.getD (i - 1) 0)
theorem LS {out : List Nat} (x : Nat) : ∀ {l : List Int} {i : Nat}, i ≤ out.length → Vr out l i → Vr (out ++ [x]) l i
  | [], _, _, h => h
  | p :: r, i, hi, ⟨h0, h1, h2, h3, h4⟩ => by
    have e : (out ++ [x]).getD (i - 1) 0 = out.getD (i - 1) 0 := by
      simp only [List.getD_eq_getElem?_getD]
      rw [List.getElem?_append_left (by omega)]
    refine ⟨h0, h1, by rw [e]; exact h2, by rw [e]; exact h3, ?_⟩
    rw [e]; exact LS x (by omega) h4
theorem L2 {l : List Int} {m : Nat} (h : m ≤ l.length) (k : Nat) (hk : k < m) : EJ l m k = l.reverse.getD (m - 1 - k) 0 := by
  unfold EJ
  simp only [List.getD_eq_getElem?_getD]
  rw [List.getElem?_drop, List.getElem?_reverse (by omega)]
  congr 2; omega
theorem L1 (l : List Int) {m k : Nat} (h : m ≤ l.length) (hk : m ≤ k) : EJ l m k = 0 := by
  unfold EJ
  rw [List.getD_eq_getElem?_getD, List.getElem?_eq_none (by rw [List.length_drop]; omega)]; rfl
theorem LU {out : List Nat} {l : List Int} (h : Vr out l.reverse out.length) (a : Nat) (ha : a ≤ 2) :
  (Rg out a = decide (l.length < a)) ∧
  (a ≤ l.length → (a = 1 → EJ l a 0 = (out.length : Int) - 1) ∧
   (a = 2 → EJ l a 0 = (out.length : Int) - 1 - (out.getD (out.length - 1) 0 : Nat) ∧ EJ l a 1 = (out.length : Int) - 1) ∧
   Vr (out ++ [MP out a]) (l.take (l.length - a) ++ [(out.length : Int)]).reverse (out.length + 1)) := by
 have hr : ∃ r, l.reverse = r := ⟨_, rfl⟩
 obtain ⟨r, hr⟩ := hr
 have hl : l = r.reverse := by rw [← hr, List.reverse_reverse]
 subst hl
 rw [List.reverse_reverse] at h
 have hpush : ∀ (r' : List Int) (i' : Nat), MP out a + i' = out.length + 1 → 1 ≤ MP out a → Vr out r' i' → i' ≤ out.length → r'.reverse = (r.reverse).take (r.reverse.length - a) → Vr (out ++ [MP out a]) (r.reverse.take (r.reverse.length - a) ++ [(out.length : Int)]).reverse (out.length + 1) := by
  intro r' i' e1 e2 e3 e4 e5
  rw [← e5, List.reverse_append, List.reverse_reverse]
  have eg : (out ++ [MP out a]).getD (out.length + 1 - 1) 0 = MP out a := by
   rw [List.getD_eq_getElem?_getD, Nat.add_sub_cancel, List.getElem?_append_right (Nat.le_refl _), Nat.sub_self]; rfl
  refine ⟨by omega, by omega, by rw [eg]; exact e2, by rw [eg]; omega, ?_⟩
  rw [eg, show out.length + 1 - MP out a = i' by omega]
  exact LS _ e4 e3
 match a, ha with
 | 0, _ =>
  refine ⟨by simp [Rg], fun _ => ⟨fun h => by omega, fun h => by omega, ?_⟩⟩
  exact hpush r out.length (by show 1 + out.length = _; omega) (Nat.le_refl 1) h (Nat.le_refl _) (by rw [Nat.sub_zero, List.take_length])
 | 1, _ =>
  match r, h with
  | [], h =>
   have h : out.length = 0 := h
   refine ⟨by simp [Rg, h], fun h1 => by simp at h1⟩
  | p :: r, ⟨h0, h1, h2, h3, h4⟩ =>
   refine ⟨?_, fun _ => ⟨fun _ => ?_, fun h => by omega, ?_⟩⟩
   ·have : decide ((p :: r).reverse.length < 1) = false := decide_eq_false (by simp)
    rw [this]; unfold Rg
    rw [decide_eq_false (by omega), decide_eq_false (by omega)]; rfl
   ·rw [L2 (by simp) 0 (by omega), List.reverse_reverse]; simpa using h1
   ·have e1 : MP out 1 = 1 + out.getD (out.length - 1) 0 := rfl
    refine hpush r _ ?_ ?_ h4 (by omega) ?_
    ·omega
    ·omega
    ·simp
 | 2, _ =>
  match r, h with
  | [], h =>
   have h : out.length = 0 := h
   refine ⟨by simp [Rg, h], fun h1 => by simp at h1⟩
  | [p], ⟨h0, h1, h2, h3, h4⟩ =>
   have h4 : out.length - out.getD (out.length - 1) 0 = 0 := h4
   refine ⟨?_, fun h1 => by simp at h1⟩
   have : decide (([p] : List Int).reverse.length < 2) = true := decide_eq_true (by simp)
   rw [this]; unfold Rg
   rw [decide_eq_true (p := 2 ≤ 2 ∧ out.length < 1 + out.getD (out.length - 1) 0) ⟨by omega, by omega⟩, Bool.or_true]
  | p :: p2 :: r, ⟨h0, h1, h2, h3, h40, h41, h42, h43, h44⟩ =>
   refine ⟨?_, fun _ => ⟨fun h => by omega, fun _ => ⟨?_, ?_⟩, ?_⟩⟩
   ·have : decide ((p :: p2 :: r).reverse.length < 2) = false := decide_eq_false (by simp)
    rw [this]; unfold Rg
    rw [decide_eq_false (by omega), decide_eq_false (by omega)]; rfl
   ·rw [L2 (by simp) 0 (by omega), List.reverse_reverse]
    have : (p :: p2 :: r).getD (2 - 1 - 0) 0 = p2 := rfl
    rw [this]; omega
   ·rw [L2 (by simp) 1 (by omega), List.reverse_reverse]
    have : (p :: p2 :: r).getD (2 - 1 - 1) 0 = p := rfl
    rw [this]; exact h1
   ·have e : out.length - (1 + out.getD (out.length - 1) 0) = out.length - out.getD (out.length - 1) 0 - 1 := by omega
    have e2 : MP out 2 = 1 + out.getD (out.length - 1) 0 + out.getD (out.length - out.getD (out.length - 1) 0 - 1) 0 := by rw [← e]; rfl
    refine hpush r _ ?_ ?_ h44 (by omega) ?_
    ·omega
    ·omega
    ·simp
theorem OG {q : List Nd} : ∀ {i : Nat}, i ≤ q.length → (∀ j, j < i → qC q j = 0) → Vr (Gh q i) (rts q i).reverse i
  | 0, _, _ => rfl
  | i + 1, hi, h => by
    have ih := OG (q := q) (i := i) (by omega) fun j hj => h j (by omega)
    have hc := h i (by omega)
    have hl := Fq q i
    obtain ⟨s1, s2⟩ := LU (out := Gh q i) (l := rts q i) (by rw [hl]; exact ih) (ar (q.getD i default).kd) (by rcases JT (q.getD i default).kd with ⟨_, h⟩ | ⟨_, _, h⟩ | ⟨_, h⟩ <;> omega)
    have hle : ar (q.getD i default).kd ≤ (rts q i).length := by
      unfold qC Xm at hc
      split at hc
      · omega
      · split at hc
        · omega
        · split at hc
          · omega
          · omega
    have := (s2 hle).2.2
    rw [hl] at this
    exact this
def XA (out : List Nat) (a : Nat) : Int := if a = 1 then (out.length : Int) - 1 else if a = 2 then (out.length : Int) - 1 - (out.getD (out.length - 1) 0 : Nat) else 0
def XB (out : List Nat) (a : Nat) : Int := if a = 2 then (out.length : Int) - 1 else 0
def MF (q : List Nd) (i : Nat) : Int :=
  if (decide (1 ≤ (q.getD i default).kd) && decide ((q.getD i default).kd ≤ 16)) = false then 4
  else if (decide (0 ≤ (q.getD i default).nm) && decide ((q.getD i default).nm ≤ Kn (q.getD i default).kd)) = false then 3
  else if Rg (Gh q i) (ar (q.getD i default).kd) = true then 5
  else if (q.getD i default).lf = XA (Gh q i) (ar (q.getD i default).kd) ∧ (q.getD i default).rt = XB (Gh q i) (ar (q.getD i default).kd) then 0 else 5
theorem US {q : List Nd} {i : Nat} (hi : i ≤ q.length) (h : ∀ j, j < i → qC q j = 0) : MF q i = qC q i := by
  have ih := OG hi h
  have hl := Fq q i
  generalize hn : q.getD i default = n
  obtain ⟨s1, s2⟩ := LU (out := Gh q i) (l := rts q i) (by rw [hl]; exact ih) (ar n.kd) (by rcases JT n.kd with ⟨_, h⟩ | ⟨_, _, h⟩ | ⟨_, h⟩ <;> omega)
  unfold MF qC Xm
  rw [hn, s1]
  have c1 : ((decide (1 ≤ n.kd) && decide (n.kd ≤ 16)) = false) = (n.kd < 1 ∨ 16 < n.kd) := by
    rw [Bool.and_eq_false_iff, decide_eq_false_iff_not, decide_eq_false_iff_not]; apply propext; omega
  have c2 : ((decide (0 ≤ n.nm) && decide (n.nm ≤ Kn n.kd)) = false) = (n.nm < 0 ∨ Kn n.kd < n.nm) := by
    rw [Bool.and_eq_false_iff, decide_eq_false_iff_not, decide_eq_false_iff_not]; apply propext; omega
  have c3 : (decide ((rts q i).length < ar n.kd) = true) = ((rts q i).length < ar n.kd) := by apply propext; exact decide_eq_true_iff
  simp only [c1, c2, c3]
  by_cases hle : (rts q i).length < ar n.kd
  · simp only [if_pos hle]
  · obtain ⟨t1, t2, _⟩ := s2 (by omega)
    have eL : XA (Gh q i) (ar n.kd) = EJ (rts q i) (ar n.kd) 0 := by
      unfold XA
      rcases JT n.kd with ⟨_, h⟩ | ⟨_, _, h⟩ | ⟨_, h⟩
      · rw [h, if_neg (by omega), if_neg (by omega), L1 _ (by omega) (by omega)]
      · rw [if_pos h, t1 h]
      · rw [if_neg (by omega), if_pos h, (t2 h).1]
    have eR : XB (Gh q i) (ar n.kd) = EJ (rts q i) (ar n.kd) 1 := by
      unfold XB
      rcases JT n.kd with ⟨_, h⟩ | ⟨_, _, h⟩ | ⟨_, h⟩
      · rw [h, if_neg (by omega), L1 _ (by omega) (by omega)]
      · rw [if_neg (by omega), L1 _ (by omega) (by omega)]
      · rw [if_pos h, (t2 h).2]
    rw [eL, eR]
structure Sn where
  kd : Int
  tx : Bs
  lf : Int
  rt : Int
  deriving DecidableEq, Inhabited
def DL (n : Sn) : List D := [.int .i64 n.kd, .str n.tx, .int .i64 n.lf, .int .i64 n.rt]
def XI : List D → Sn
  | [.int _ a, .str b, .int _ c, .int _ d] => ⟨a, b, c, d⟩
  | _ => ⟨0, [], 0, 0⟩
def C3 (xs : List (List D)) : List Sn := xs.map XI
theorem AX (l : List Sn) : C3 (rows DL l) = l := by
  simp only [C3, rows, List.map_map]
  conv => rhs; rw [← List.map_id l]
  exact List.map_congr_left fun c _ => rfl
theorem A0 (l : List Sn) : Cs 4 (rows DL l) = True := eq_true (Cr (f := DL) (fun _ => rfl) l)
def Dh (k : Int) : Nat := if k = 2 ∨ k = 3 then 2 else if k = 4 then 1 else 0
theorem Oi (k : Int) : Dh k ≤ 2 := by unfold Dh; split <;> (try split) <;> omega
def kM (k : Int) : Int := if k = 2 ∨ k = 3 then 14 else if k = 4 then 7 else 1
theorem Ru (k : Int) : ar (kM k) = Dh k := by
  unfold kM Dh
  split
  · rfl
  · split <;> rfl
def nM (n : Sn) : Nd := ⟨kM n.kd, 0, n.lf, n.rt⟩
def Ic (q : List Sn) : List Nd := q.map nM
theorem NS (q : List Sn) : (Ic q).length = q.length := List.length_map ..
theorem SB {q : List Sn} {i : Nat} (h : i < q.length) : (Ic q).getD i default = nM (q.getD i default) := by
  unfold Ic
  rw [List.getD_eq_getElem?_getD, List.getD_eq_getElem?_getD, List.getElem?_map, List.getElem?_eq_getElem h]; rfl
theorem Xi {q : List Sn} {i : Nat} (h : i < q.length) : ar ((Ic q).getD i default).kd = Dh (q.getD i default).kd := by rw [SB h]; exact Ru _
def Gu (s : Bs) : Bool := (decide (1 ≤ s.length) && decide (s.length ≤ 80)) && !(decide ((10 : UInt8) ∈ s))
def MY (n : Sn) (c : Int) : Int := if n.kd < 1 ∨ 4 < n.kd then 4 else if n.kd = 1 ∧ Gu n.tx = false then 3 else if n.kd ≠ 1 ∧ n.tx ≠ [] then 5 else c
def Hi (n : Sn) (l : List Int) : Int := MY n (if l.length < Dh n.kd then 5 else if n.lf = EJ l (Dh n.kd) 0 ∧ n.rt = EJ l (Dh n.kd) 1 then 0 else 5)
def Dz (q : List Sn) (i : Nat) : List Int := rts (Ic q) i
def MB (q : List Sn) (i : Nat) : Int := Hi (q.getD i default) (Dz q i)
def BR (q : List Sn) : Int × Int :=
  if q.length = 0 ∨ 40 < q.length then (9, -1)
  else if (CN (MB q) iI q.length).1 ≠ 0 then CN (MB q) iI q.length
  else if (Dz q q.length).length ≠ 1 then (5, -1) else (0, 0)
theorem Tu {n : Sn} {c : Int} (h : MY n c = 0) : c = 0 ∧ (1 ≤ n.kd ∧ n.kd ≤ 4) ∧ (n.kd = 1 → Gu n.tx = true) ∧ (n.kd ≠ 1 → n.tx = []) := by
  unfold MY at h
  split at h
  · cases h
  · rename_i h1
    split at h
    · cases h
    · rename_i h2
      split at h
      · cases h
      · rename_i h3
        refine ⟨h, by omega, fun hk => ?_, fun hk => ?_⟩
        · cases hb : Gu n.tx with
          | true => rfl
          | false => exact absurd ⟨hk, hb⟩ h2
        · by_cases ht : n.tx = []
          · exact ht
          · exact absurd ⟨hk, ht⟩ h3
theorem Wy (n : Sn) (l : List Int) : (if l.length < Dh n.kd then 5 else if n.lf = EJ l (Dh n.kd) 0 ∧ n.rt = EJ l (Dh n.kd) 1 then 0 else 5 : Int) = Xm (nM n) l := by
  have hk : kM n.kd = 14 ∨ kM n.kd = 7 ∨ kM n.kd = 1 := by
    unfold kM; split
    · exact .inl rfl
    · split
      · exact .inr (.inl rfl)
      · exact .inr (.inr rfl)
  have hm : Kn (kM n.kd) = 0 := by rcases hk with h | h | h <;> rw [h] <;> rfl
  unfold Xm nM
  dsimp only
  rw [hm, if_neg (c := kM n.kd < 1 ∨ 16 < kM n.kd) (by omega), if_neg (c := (0 : Int) < 0 ∨ (0 : Int) < 0) (by omega), Ru]
theorem Tb {q : List Sn} {i : Nat} (hi : i < q.length) : MB q i = MY (q.getD i default) (qC (Ic q) i) := by
  unfold MB Hi qC
  rw [Wy, SB hi]; rfl
theorem Xs {q : List Sn} {i : Nat} (hi : i < q.length) (h : MB q i = 0) : qC (Ic q) i = 0 := by
  rw [Tb hi] at h; exact (Tu h).1
end Go.Proofs.YtmbjnkgpcbpclaaGreat
