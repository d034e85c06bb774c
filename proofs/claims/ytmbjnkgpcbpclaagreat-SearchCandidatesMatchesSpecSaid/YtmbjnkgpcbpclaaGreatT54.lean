/- Walks, printed by wip/gen/walk.py. -/
import Derived.Test.YtmbjnkgpcbpclaaGreatT53
import Derived.Test.YtmbjnkgpcbpclaaGreatV5
set_option linter.all false
set_option maxRecDepth 100000
set_option maxHeartbeats 4000000
namespace Go.Proofs.YtmbjnkgpcbpclaaGreat
open Go Go.Vc Go.RowKit
def zI (l : List Nat) : List Int := l.map fun (n : Nat) => (n : Int)
def dZ (xs : List (List D)) : List Nat := (dI xs).map Int.toNat
theorem Lw (l : List Nat) : dZ (rows eI (zI l)) = l := by
  unfold dZ zI
  rw [AA, List.map_map]
  conv => rhs; rw [← List.map_id l]
  exact List.map_congr_left fun c _ => Int.toNat_natCast c
theorem Me (l : List Nat) : (zI l).length = l.length := List.length_map ..
theorem Qe {l : List Nat} {i x : Nat} (h : l[i]? = some x) : (zI l)[i]? = some (x : Int) := by unfold zI; rw [List.getElem?_map, h]; rfl
theorem Qf (l : List Nat) (x : Nat) : rows eI (zI l) ++ [[.int .i64 (x : Int)]] = rows eI (zI (l ++ [x])) := by simp [rows, eI, zI]
theorem IL (l : List Nat) : (zI l).take l.length = zI l := List.take_of_length_le (by rw [Me]; exact Nat.le_refl _)
def nK (out : List Nat) : Nat → Nat
  | 0 => 1
  | k + 1 => nK out k + out.getD (out.length - nK out k) 0
theorem LF (out : List Nat) : ∀ k, 1 ≤ nK out k
  | 0 => Nat.le_refl _
  | k + 1 => Nat.le_trans (LF out k) (Nat.le_add_right _ _)
theorem Ph (out : List Nat) {a : Nat} (h : a ≤ 2) : NB out a = nK out a := by
  match a, h with
  | 0, _ => rfl
  | 1, _ => rfl
  | 2, _ => rfl
theorem Xq {out : List Nat} {a : Nat} (h : a ≤ 2) (hk : ∀ k, k < a → nK out k ≤ out.length) : JN out a = false := by
  unfold JN
  have e1 : ¬(1 ≤ a ∧ out.length = 0) := fun ⟨h1, h2⟩ => by
    have := hk 0 (by omega)
    simp only [nK] at this; omega
  have e2 : ¬(2 ≤ a ∧ out.length < 1 + out.getD (out.length - 1) 0) := fun ⟨h1, h2⟩ => by
    have := hk 1 (by omega)
    simp only [nK] at this; omega
  rw [decide_eq_false e1, decide_eq_false e2]; rfl
theorem VX {out : List Nat} {a k : Nat} (h : a ≤ 2) (hk : k < a) (hl : out.length < nK out k) : JN out a = true := by
  unfold JN
  rw [Bool.or_eq_true]
  match k, hk with
  | 0, hk => exact .inl (decide_eq_true ⟨by omega, by simp only [nK] at hl; omega⟩)
  | 1, hk => exact .inr (decide_eq_true ⟨by omega, hl⟩)
  | k + 2, hk => omega
def Eo (az : List Nat) : Nat → List Nat
  | 0 => []
  | i + 1 => Eo az i ++ [NB (Eo az i) (az.getD i 0)]
theorem F5 (az : List Nat) : ∀ i, (Eo az i).length = i
  | 0 => rfl
  | i + 1 => by simp [Eo, F5 az i]
def Xf (az : List Nat) (i : Nat) : Prop := ∀ j, j < i → JN (Eo az j) (az.getD j 0) = false
theorem LX {out : List Nat} {a : Nat} (h : JN out a = false) : (1 ≤ a → 1 ≤ out.length) ∧ (2 ≤ a → 1 + out.getD (out.length - 1) 0 ≤ out.length) := by
  unfold JN at h
  rw [Bool.or_eq_false_iff, decide_eq_false_iff_not, decide_eq_false_iff_not] at h
  exact ⟨fun h1 => by have := h.1; omega, fun h2 => by have := h.2; omega⟩
theorem TC {out : List Nat} (ho : ∀ p, p < out.length → out.getD p 0 ≤ p + 1) {k : Nat} (h : nK out k ≤ out.length) : nK out (k + 1) ≤ out.length + 1 := by
  have h1 := LF out k
  have := ho (out.length - nK out k) (by omega)
  show nK out k + out.getD (out.length - nK out k) 0 ≤ _
  omega
theorem Pf {az : List Nat} (h2 : ∀ a ∈ az, a ≤ 2) : ∀ {i : Nat}, Xf az i → ∀ p, p < i → (Eo az i).getD p 0 ≤ p + 1
  | 0, _, p, hp => by omega
  | i + 1, h, p, hp => by
    have ih := Pf h2 (i := i) fun j hj => h j (by omega)
    have hl := F5 az i
    show (Eo az i ++ [_]).getD p 0 ≤ p + 1
    rw [List.getD_eq_getElem?_getD]
    by_cases hpi : p < i
    · rw [List.getElem?_append_left (by omega)]
      have := ih p hpi
      rwa [List.getD_eq_getElem?_getD] at this
    · obtain rfl : p = i := by omega
      rw [List.getElem?_append_right (by omega), hl, Nat.sub_self]
      have ha : az.getD p 0 ≤ 2 := by
        rw [List.getD_eq_getElem?_getD]
        cases hg : az[p]? with
        | none => simp
        | some a => exact h2 a (List.mem_of_getElem? hg)
      show NB (Eo az p) (az.getD p 0) ≤ p + 1
      rw [Ph _ ha]
      have hb := LX (h p (by omega))
      have ho : ∀ r, r < (Eo az p).length → (Eo az p).getD r 0 ≤ r + 1 := fun r hr => ih r (by omega)
      generalize az.getD p 0 = a at *
      match a, ha with
      | 0, _ => show 1 ≤ p + 1; omega
      | 1, _ => have := TC ho (k := 0) (hb.1 (by omega)); rwa [hl] at this
      | 2, _ => have := TC ho (k := 1) (hb.2 (by omega)); rwa [hl] at this
def EQ (az : List Nat) : Bool := decide (az ≠ []) && JN (Eo az (az.length - 1)) (az.getD (az.length - 1) 0)
def W3 (az : List Nat) : List Nat := if EQ az = true then Eo az (az.length - 1) else Eo az az.length
def Uv (az : List Nat) : Int := if EQ az = true then (az.length : Int) - 1 else -1
def Ig : D3
  | [.sl 0 0 n], [some (.vec t s xs)] => some (xs = rows eI (zI (dZ xs)) ∧ t = 3 ∧ s = 1 ∧ n = (dZ xs).length ∧ (dZ xs).length ≤ 40 ∧ (∀ a ∈ dZ xs, a ≤ 2) ∧ Xf (dZ xs) ((dZ xs).length - 1), .tup [.d (.sl (rows eI (zI (W3 (dZ xs))))), .d (.int .i64 (Uv (dZ xs)))], [some (.vec 3 1 (rows eI (zI (dZ xs))))])
  | _, _ => none
def ON : List AV → Option (Prop × AV)
  | [.d (.int .i64 a), .d (.sl xs), .d (.int .i64 i)] => some (xs = rows eI (zI (dZ xs)) ∧ (dZ xs).length ≤ 41 ∧ i + 1 = (dZ xs).length ∧ 0 ≤ i ∧ 0 ≤ a ∧ (a = 2 → 1 ≤ i ∧ (dZ xs).getD (i.toNat - 1) 0 ≤ 1000), .tup [.d (.int .i64 (if a = 1 then i - 1 else if a = 2 then i - 1 - ((dZ xs).getD (i.toNat - 1) 0 : Nat) else 0)), .d (.int .i64 (if a = 2 then i - 1 else 0))])
  | _ => none

theorem Rm : A1 Tryz.prog 39 (Spec.pure ON) := by
 refine Az (Sg.at_ 24) Tryz.func39 rfl rfl rfl ?_
 intro args p r hg hp
 unfold ON at hg
 split at hg
 rename_i a xs i
 simp only [Option.some.injEq, Prod.mk.injEq] at hg
 obtain ⟨rfl, rfl⟩ := hg
 obtain ⟨he, hl, hi, hi0, ha, h2⟩ := hp
 generalize dZ xs = out at *
 subst he
 obtain ⟨m, rfl⟩ := Int.eq_ofNat_of_zero_le hi0
 have hmt : ((m : Nat) : Int).toNat - 1 = m - 1 := by omega
 rw [hmt] at h2 ⊢
 have hT : (Sg).X = T := rfl
 have hx0 := And.intro @Lw (And.intro @Me @Tryz.results39)
 have hx := hx0
 refine ⟨by rfl, ?_⟩
 intro F W0 hnp hmk
 refine Aa fun N1 h1 => ?_
 refine Ad ?_
 try refine Ac ?_
 iterate 2 refine Ae (hq := by exact AD) ?_
 refine Ab ?_
 refine h1 _ ?_; clear h1
 refine Aa fun N2 h2 => ?_
 refine Aa fun N3 h3 => ?_
 refine Ad ?_
 try refine Ac ?_
 refine Ae (hq := by exact AD) ?_
 refine Al (hq := by exact AD) ?_
 refine Ab ?_
 refine h3 _ ?_; clear h3
 refine Ai (fun hb4 => ?_) (fun hb4 => ?_)
 refine Aa fun N5 h5 => ?_
 refine Ad ?_
 try refine Ac ?_
 refine Ae (hq := by exact AD) ?_
 refine Al (hq := by exact AD) ?_
 iterate 2 refine Ae (hq := by exact AD) ?_
 refine Ab ?_
 refine h5 _ ?_; clear h5
 refine An ?_
 try simp only [Af]
 have ha1 : a = 1 := by have := hb4; (try simp at this); omega
 rw [if_pos ha1, if_neg (by omega)]
 refine Ax ?_
 exact As
 refine Am ?_
 try simp only [Af]
 refine h2 _ ?_; clear h2
 refine Aa fun N6 h6 => ?_
 refine Aa fun N7 h7 => ?_
 refine Ad ?_
 try refine Ac ?_
 refine Ae (hq := by exact AD) ?_
 refine Al (hq := by exact AD) ?_
 refine Ab ?_
 refine h7 _ ?_; clear h7
 refine Ai (fun hb8 => ?_) (fun hb8 => ?_)
 have ha2 : a = 2 := by have := hb8; (try simp at this); omega
 obtain ⟨h3, h4⟩ := h2 ha2
 obtain ⟨x, hxe⟩ := BG (l := out) (i := m - 1) (by omega)
 have hxd : out.getD (m - 1) 0 = x := B5 hxe
 have hpm : ((m : Int) - 1).toNat = m - 1 := by omega
 have hze := Qe hxe
 rw [hxd] at h4
 refine Aa fun N9 h9 => ?_
 have hx := And.intro @hpm (And.intro @hze (And.intro @eI.eq_1 hx0))
 refine Ad ?_
 try refine Ac ?_
 refine Ae (hq := by exact AD) ?_
 refine Al (hq := by exact AD) ?_
 iterate 2 refine Ae (hq := by exact AD) ?_
 refine Al (hq := by exact AD) ?_
 refine At (hq := by exact AD) ?_
 refine Ap (hq := by exact AD) ?_
 refine Al (hq := by exact AD) ?_
 refine Ae (hq := by exact AD) ?_
 refine Al (hq := by exact AD) ?_
 iterate 2 refine Ae (hq := by exact AD) ?_
 refine Ab ?_
 have hx := hx0
 refine h9 _ ?_; clear h9
 refine An ?_
 try simp only [Af]
 rw [if_neg (by omega), if_pos ha2, if_pos ha2, hxd]
 refine Ax ?_
 exact As
 refine Am ?_
 try simp only [Af]
 refine h6 _ ?_; clear h6
 refine Aa fun N10 h10 => ?_
 refine Ad ?_
 try refine Ac ?_
 iterate 2 refine Ae (hq := by exact AD) ?_
 refine Ab ?_
 refine h10 _ ?_; clear h10
 refine An ?_
 try simp only [Af]
 rw [if_neg (by have := hb4; (try simp at this); omega), if_neg (by have := hb8; (try simp at this); omega), if_neg (by have := hb8; (try simp at this); omega)]
 refine Ax ?_
 exact As
 cases hg

def Se : Bn Tryz.prog := Sg.add 39 (Spec.pure ON) Rm (by kernel_rfl)

theorem RC : A1 Tryz.prog 38 (Spec.gen Ig) := by
 refine Bq (Se.at_ 41) Tryz.func38 rfl rfl rfl ?_
 intro args bl p r bf hg hp
 unfold Ig at hg
 split at hg
 rename_i n t s xs
 simp only [Option.some.injEq, Prod.mk.injEq] at hg
 obtain ⟨rfl, rfl, rfl⟩ := hg
 obtain ⟨he, rfl, rfl, rfl, hl, h2, hok⟩ := hp
 generalize dZ xs = az at *
 subst he
 have hT : (Se).X = T := rfl
 have hx0 := And.intro @Lw (And.intro @Me @Tryz.results38)
 have hx := hx0
 refine ⟨Nat.le_of_ble_eq_true rfl, ?_⟩
 intro F W0 M0 hnp hmk
 have hnp : Bd.np = 1 := hnp
 refine Aa fun N1 h1 => ?_
 refine Ad ?_
 try refine Ac ?_
 iterate 2 refine Ae (hq := by exact AD) ?_
 refine Ab ?_
 refine h1 _ ?_; clear h1
 refine Aa fun N2 h2 => ?_
 refine Ad ?_
 try refine Ac ?_
 refine Ae (hq := by exact AD) ?_
 refine Ab ?_
 refine h2 _ ?_; clear h2
 refine Aa fun N3 h3 => ?_
 refine Aa fun N4 h4 => ?_
 refine Ad ?_
 try refine Ac ?_
 refine Ae (hq := by exact AD) ?_
 refine Ab ?_
 refine h4 _ ?_; clear h4
 refine Au ?_
 refine A0 (σ := Nat) (fun s => (fun i => i ≤ az.length ∧ Xf az i) s)
  (fun s => (fun i => [(0, .sl 0 0 az.length), (4, .sl 1 0 i), (5, .d (.int .i64 (i : Nat)))]) s)
  (fun s => (fun i => [some (.vec 3 1 (rows eI (zI az))), some (.vec 3 1 (rows eI (zI (Eo az i))))]) s) (fun s => (fun i => az.length - i) s) hnp 0 ?_ [some 0, none] ?_ ?_
 dsimp only
 exact ⟨by omega, fun j hj => by omega⟩
 dsimp only
 refine ⟨by rfl, ?_, ?_⟩
 refine Aj ?_
 exact As
 refine Aj ?_
 exact As
 rintro i hinv N5 h5
 dsimp only at hinv ⊢
 obtain ⟨i1, i2⟩ := hinv
 refine Aa fun N6 h6 => ?_
 refine Aa fun N7 h7 => ?_
 refine Ad ?_
 try refine Ac ?_
 iterate 2 refine Ae (hq := by exact AD) ?_
 refine AZ (hq := by exact AD) ?_
 refine Al (hq := by exact AD) ?_
 refine Ab ?_
 refine h7 _ ?_; clear h7
 refine Ai (fun hb8 => ?_) (fun hb8 => ?_)
 obtain ⟨a, hae⟩ := BG (l := az) (i := i) (by omega)
 have had : az.getD i 0 = a := B5 hae
 have hza := Qe hae
 have ha2 := h2 a (AE hae)
 have hol := F5 az i
 have hole := Pf h2 i2
 refine Am ?_
 try simp only [Af]
 refine h6 _ ?_; clear h6
 refine Aa fun N9 h9 => ?_
 refine Au ?_
 refine Aa fun N10 h10 => ?_
 refine Ad ?_
 try refine Ac ?_
 refine Ae (hq := by exact AD) ?_
 refine Ab ?_
 refine h10 _ ?_; clear h10
 refine Aa fun N11 h11 => ?_
 refine Aa fun N12 h12 => ?_
 refine Ad ?_
 try refine Ac ?_
 refine Ae (hq := by exact AD) ?_
 refine Ab ?_
 refine h12 _ ?_; clear h12
 refine Au ?_
 refine A0 (σ := Nat) (fun s => (fun k => k ≤ a ∧ nK (Eo az i) k ≤ i + 1 ∧ ∀ j, j < k → nK (Eo az i) j ≤ i) s)
  (fun s => (fun k => [(0, .sl 0 0 az.length), (4, .sl 1 0 i), (5, .d (.int .i64 (i : Nat))), (6, .d (.int .i64 (nK (Eo az i) k : Nat))), (7, .d (.int .i64 (k : Nat)))]) s)
  (fun s => (fun k => [some (.vec 3 1 (rows eI (zI az))), some (.vec 3 1 (rows eI (zI (Eo az i))))]) s) (fun s => (fun k => a - k) s) hnp 0 ?_ [some 0, some 1] ?_ ?_
 dsimp only
 exact ⟨by omega, by show 1 ≤ i + 1; omega, fun j hj => by omega⟩
 dsimp only
 refine ⟨by rfl, ?_, ?_⟩
 refine Aj ?_
 exact As
 refine Aj ?_
 exact As
 rintro k hinv N13 h13
 dsimp only at hinv ⊢
 obtain ⟨k1, k3, k2⟩ := hinv
 refine Aa fun N14 h14 => ?_
 refine Aa fun N15 h15 => ?_
 have hx := And.intro @hza (And.intro @eI.eq_1 hx0)
 refine Ad ?_
 try refine Ac ?_
 iterate 3 refine Ae (hq := by exact AD) ?_
 refine At (hq := by exact AD) ?_
 refine Ap (hq := by exact AD) ?_
 refine Al (hq := by exact AD) ?_
 refine Ab ?_
 have hx := hx0
 refine h15 _ ?_; clear h15
 refine Ai (fun hb16 => ?_) (fun hb16 => ?_)
 have hnp := LF (Eo az i) k
 refine Am ?_
 try simp only [Af]
 refine h14 _ ?_; clear h14
 refine Aa fun N17 h17 => ?_
 refine Au ?_
 refine Aa fun N18 h18 => ?_
 refine Aa fun N19 h19 => ?_
 refine Ad ?_
 try refine Ac ?_
 iterate 2 refine Ae (hq := by exact AD) ?_
 iterate 2 refine Al (hq := by exact AD) ?_
 refine Ab ?_
 refine h19 _ ?_; clear h19
 refine Ai (fun hb20 => ?_) (fun hb20 => ?_)
 refine Aa fun N21 h21 => ?_
 refine Ad ?_
 try refine Ac ?_
 iterate 4 refine Ae (hq := by exact AD) ?_
 refine Ab ?_
 refine h21 _ ?_; clear h21
 refine An ?_
 try simp only [Af]
 have hby : JN (Eo az i) a = true := VX ha2 (k := k) (by omega) (by have := hb20; (try simp at this); omega)
 obtain rfl : i = az.length - 1 := by
  by_cases h : i < az.length - 1
  ·have := hok i h; rw [had, hby] at this; cases this
  ·omega
 have hbd : EQ az = true := by unfold EQ; rw [had, hby, Bool.and_true]; exact decide_eq_true (fun h => by rw [h] at hae; cases hae)
 have r1 : W3 az = Eo az (az.length - 1) := by unfold W3; rw [if_pos hbd]
 have r2 : Uv az = (az.length : Int) - 1 := by unfold Uv; rw [if_pos hbd]
 have r3 : ((az.length - 1 : Nat) : Int) = (az.length : Int) - 1 := by omega
 have hzt : (zI (Eo az (az.length - 1))).take (az.length - 1) = zI (Eo az (az.length - 1)) := by
  have := IL (Eo az (az.length - 1)); rwa [F5] at this
 have hzl := F5 az (az.length - 1)
 rw [r1, r2, ← r3]
 refine Aj ?_
 refine ⟨[some 0], by rfl, ?_, ?_⟩
 refine Aj ?_
 ·(repeat' apply And.intro) <;> (first | (first | rfl | trivial | omega | (left; rfl) | (rw [hzt]; done) | (left; rw [hzt]; done)) | exact As)
 refine Aj ?_
 ·(repeat' apply And.intro) <;> (first | (first | rfl | trivial | omega | (left; rfl) | (rw [hzt]; done) | (left; rw [hzt]; done)) | exact As)
 have hni : nK (Eo az i) k ≤ i := by have := hb20; (try simp at this); omega
 obtain ⟨y, hye⟩ := BG (l := Eo az i) (i := i - nK (Eo az i) k) (by omega)
 have hyd : (Eo az i).getD (i - nK (Eo az i) k) 0 = y := B5 hye
 have hzy := Qe hye
 have hpm : ((i : Int) - (nK (Eo az i) k : Int)).toNat = i - nK (Eo az i) k := by omega
 have hns : nK (Eo az i) (k + 1) = nK (Eo az i) k + y := by
  rw [← hyd]; show nK (Eo az i) k + (Eo az i).getD ((Eo az i).length - nK (Eo az i) k) 0 = _; rw [hol]
 have hnl := TC (k := k) (fun p hp => hole p (by omega)) (by omega)
 refine Am ?_
 try simp only [Af]
 refine h18 _ ?_; clear h18
 have hx := And.intro @hpm (And.intro @hzy (And.intro @eI.eq_1 hx0))
 refine Ad ?_
 try refine Ac ?_
 iterate 4 refine Ae (hq := by exact AD) ?_
 refine Al (hq := by exact AD) ?_
 refine At (hq := by exact AD) ?_
 refine Ap (hq := by exact AD) ?_
 refine Al (hq := by exact AD) ?_
 refine Ae (hq := by exact AD) ?_
 refine Ab ?_
 have hx := hx0
 refine h17 _ ?_; clear h17
 refine Ad ?_
 try refine Ac ?_
 refine Ae (hq := by exact AD) ?_
 refine Al (hq := by exact AD) ?_
 refine Ae (hq := by exact AD) ?_
 refine Ab ?_
 refine h13 _ ⟨k + 1, ?_, ?_, [some 0, some 1], ?_⟩
 dsimp only
 refine ⟨by omega, by omega, fun j hj => ?_⟩
 rcases Nat.lt_or_ge j k with h | h
 exact k2 j h
 obtain rfl : j = k := by omega
 exact hni
 dsimp only
 omega
 dsimp only
 refine ⟨by rfl, ?_, ?_⟩
 refine Aj ?_
 ·(repeat' apply And.intro) <;> (first | (first | rfl | trivial | omega | (rw [hns]; simp; done)) | exact As)
 refine Aj ?_
 ·(repeat' apply And.intro) <;> (first | (first | rfl | trivial | omega | (rw [hns]; simp; done)) | exact As)
 obtain rfl : k = a := by have := hb16; (try simp at this); omega
 have hsz := Ph (Eo az i) ha2
 have hnb := Xq (out := Eo az i) ha2 (fun j hj => by rw [hol]; exact k2 j hj)
 have hsn : Eo az (i + 1) = Eo az i ++ [nK (Eo az i) k] := by rw [← hsz, ← had]; rfl
 have hzs := Qf (Eo az i) (nK (Eo az i) k)
 have hzt := IL (Eo az i)
 rw [hol] at hzt
 refine AF ?_
 simp only [Af, Nat.reduceEqDiff, reduceIte, eq_self]
 refine h11 _ ?_; clear h11
 refine Ad ?_
 try refine Ac ?_
 iterate 2 refine Ae (hq := by exact AD) ?_
 refine FH (hq := by exact AD) ?_
 refine Ih (hq := by exact AD) ?_
 refine Ae (hq := by exact AD) ?_
 refine Ab ?_
 refine h9 _ ?_; clear h9
 refine Ad ?_
 try refine Ac ?_
 refine Ae (hq := by exact AD) ?_
 refine Al (hq := by exact AD) ?_
 refine Ae (hq := by exact AD) ?_
 refine Ab ?_
 refine h5 _ ⟨i + 1, ?_, ?_, [some 0, some 3], ?_⟩
 dsimp only
 refine ⟨by omega, fun j hj => ?_⟩
 rcases Nat.lt_or_ge j i with h | h
 exact i2 j h
 obtain rfl : j = i := by omega
 rw [had]; exact hnb
 dsimp only
 omega
 dsimp only
 refine ⟨by rfl, ?_, ?_⟩
 refine Aj ?_
 ·(repeat' apply And.intro) <;> (first | (first | rfl | trivial | omega | (rw [hsn, ← hzs, hzt]; done) | (rw [hsn, ← hzs]; done) | exact Or.inl rfl) | exact As)
 refine Aj ?_
 ·(repeat' apply And.intro) <;> (first | (first | rfl | trivial | omega | (rw [hsn, ← hzs, hzt]; done) | (rw [hsn, ← hzs]; done) | exact Or.inl rfl) | exact As)
 refine AF ?_
 simp only [Af, Nat.reduceEqDiff, reduceIte, eq_self]
 refine h3 _ ?_; clear h3
 refine Aa fun N22 h22 => ?_
 refine Ad ?_
 try refine Ac ?_
 iterate 3 refine Ae (hq := by exact AD) ?_
 refine Ab ?_
 refine h22 _ ?_; clear h22
 refine An ?_
 try simp only [Af]
 obtain rfl : i = az.length := by omega
 have hbd : EQ az = false := by
  unfold EQ
  by_cases h : az = []
  ·rw [decide_eq_false (fun h' => h' h)]; rfl
  ·rw [i2 (az.length - 1) (by have := List.length_pos_iff.2 h; omega), Bool.and_false]
 have r1 : W3 az = Eo az az.length := by unfold W3; rw [if_neg (by rw [hbd]; simp)]
 have r2 : Uv az = -1 := by unfold Uv; rw [if_neg (by rw [hbd]; simp)]
 have hzt : (zI (Eo az az.length)).take az.length = zI (Eo az az.length) := by
  have := IL (Eo az az.length); rwa [F5] at this
 have hzl := F5 az az.length
 rw [r1, r2]
 refine Aj ?_
 refine ⟨[some 0], by rfl, ?_, ?_⟩
 refine Aj ?_
 ·(repeat' apply And.intro) <;> (first | (first | rfl | trivial | omega | (left; rfl) | (rw [hzt]; done) | (left; rw [hzt]; done)) | exact As)
 refine Aj ?_
 ·(repeat' apply And.intro) <;> (first | (first | rfl | trivial | omega | (left; rfl) | (rw [hzt]; done) | (left; rw [hzt]; done)) | exact As)
 cases hg

def Ck : Bn Tryz.prog := Se.add 38 (Spec.gen Ig) RC (by kernel_rfl)
end Go.Proofs.YtmbjnkgpcbpclaaGreat
