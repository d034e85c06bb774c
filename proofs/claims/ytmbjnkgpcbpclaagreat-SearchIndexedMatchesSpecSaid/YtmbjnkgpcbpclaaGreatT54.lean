import Derived.Test.YtmbjnkgpcbpclaaGreatT53
set_option linter.all false
set_option maxRecDepth 100000
set_option maxHeartbeats 4000000
namespace Go.Proofs.YtmbjnkgpcbpclaaGreat
open Go Go.Vc Go.RowKit
def zI (l : List Nat) : List Int := l.map fun (n : Nat) => (n : Int)
def dZ (xs : List (List D)) : List Nat := (dI xs).map Int.toNat
theorem Mx (l : List Nat) : dZ (rows eI (zI l)) = l := by
  unfold dZ zI
  rw [AE, List.map_map]
  conv => rhs; rw [← List.map_id l]
  exact List.map_congr_left fun c _ => Int.toNat_natCast c
theorem Nh (l : List Nat) : (zI l).length = l.length := List.length_map ..
theorem RL {l : List Nat} {i x : Nat} (h : l[i]? = some x) : (zI l)[i]? = some (x : Int) := by unfold zI; rw [List.getElem?_map, h]; rfl
theorem RM (l : List Nat) (x : Nat) : rows eI (zI l) ++ [[.int .i64 (x : Int)]] = rows eI (zI (l ++ [x])) := by simp [rows, eI, zI]
theorem JH (l : List Nat) : (zI l).take l.length = zI l := List.take_of_length_le (by rw [Nh]; exact Nat.le_refl _)
def nK (out : List Nat) : Nat → Nat
  | 0 => 1
  | k + 1 => nK out k + out.getD (out.length - nK out k) 0
theorem MI (out : List Nat) : ∀ k, 1 ≤ nK out k
  | 0 => Nat.le_refl _
  | k + 1 => Nat.le_trans (MI out k) (Nat.le_add_right _ _)
theorem Q5 (out : List Nat) {a : Nat} (h : a ≤ 2) : OZ out a = nK out a := by
  match a, h with
  | 0, _ => rfl
  | 1, _ => rfl
  | 2, _ => rfl
theorem YO {out : List Nat} {a : Nat} (h : a ≤ 2) (hk : ∀ k, k < a → nK out k ≤ out.length) : KG out a = false := by
  unfold KG
  have e1 : ¬(1 ≤ a ∧ out.length = 0) := fun ⟨h1, h2⟩ => by
    have := hk 0 (by omega)
    simp only [nK] at this; omega
  have e2 : ¬(2 ≤ a ∧ out.length < 1 + out.getD (out.length - 1) 0) := fun ⟨h1, h2⟩ => by
    have := hk 1 (by omega)
    simp only [nK] at this; omega
  rw [decide_eq_false e1, decide_eq_false e2]; rfl
theorem X8 {out : List Nat} {a k : Nat} (h : a ≤ 2) (hk : k < a) (hl : out.length < nK out k) : KG out a = true := by
  unfold KG
  rw [Bool.or_eq_true]
  match k, hk with
  | 0, hk => exact .inl (decide_eq_true ⟨by omega, by simp only [nK] at hl; omega⟩)
  | 1, hk => exact .inr (decide_eq_true ⟨by omega, hl⟩)
  | k + 2, hk => omega
def EN (az : List Nat) : Nat → List Nat
  | 0 => []
  | i + 1 => EN az i ++ [OZ (EN az i) (az.getD i 0)]
theorem Gk (az : List Nat) : ∀ i, (EN az i).length = i
  | 0 => rfl
  | i + 1 => by simp [EN, Gk az i]
def YD (az : List Nat) (i : Nat) : Prop := ∀ j, j < i → KG (EN az j) (az.getD j 0) = false
theorem MZ {out : List Nat} {a : Nat} (h : KG out a = false) : (1 ≤ a → 1 ≤ out.length) ∧ (2 ≤ a → 1 + out.getD (out.length - 1) 0 ≤ out.length) := by
  unfold KG at h
  rw [Bool.or_eq_false_iff, decide_eq_false_iff_not, decide_eq_false_iff_not] at h
  exact ⟨fun h1 => by have := h.1; omega, fun h2 => by have := h.2; omega⟩
theorem Vo {out : List Nat} (ho : ∀ p, p < out.length → out.getD p 0 ≤ p + 1) {k : Nat} (h : nK out k ≤ out.length) : nK out (k + 1) ≤ out.length + 1 := by
  have h1 := MI out k
  have := ho (out.length - nK out k) (by omega)
  show nK out k + out.getD (out.length - nK out k) 0 ≤ _
  omega
theorem Q3 {az : List Nat} (h2 : ∀ a ∈ az, a ≤ 2) : ∀ {i : Nat}, YD az i → ∀ p, p < i → (EN az i).getD p 0 ≤ p + 1
  | 0, _, p, hp => by omega
  | i + 1, h, p, hp => by
    have ih := Q3 h2 (i := i) fun j hj => h j (by omega)
    have hl := Gk az i
    show (EN az i ++ [_]).getD p 0 ≤ p + 1
    rw [List.getD_eq_getElem?_getD]
    by_cases hpi : p < i
    · rw [List.getElem?_append_left (by omega)]
      have := ih p hpi
      rwa [List.getD_eq_getElem?_getD] at this
    · obtain rfl : p = i := by omega
      rw [List.getElem?_append_right (by omega), hl, Nat.sub_self]
      have ha : az.getD p 0 ≤ 2 := by
        rw [List.getD_eq_getElem?_getD]
        cases hg : az[p]? with
        | none => simp
        | some a => exact h2 a (List.mem_of_getElem? hg)
      show OZ (EN az p) (az.getD p 0) ≤ p + 1
      rw [Q5 _ ha]
      have hb := MZ (h p (by omega))
      have ho : ∀ r, r < (EN az p).length → (EN az p).getD r 0 ≤ r + 1 := fun r hr => ih r (by omega)
      generalize az.getD p 0 = a at *
      match a, ha with
      | 0, _ => show 1 ≤ p + 1; omega
      | 1, _ => have := Vo ho (k := 0) (hb.1 (by omega)); rwa [hl] at this
      | 2, _ => have := Vo ho (k := 1) (hb.2 (by omega)); rwa [hl] at this
def FB (az : List Nat) : Bool := decide (az ≠ []) && KG (EN az (az.length - 1)) (az.getD (az.length - 1) 0)
def Ya (az : List Nat) : List Nat := if FB az = true then EN az (az.length - 1) else EN az az.length
def Wa (az : List Nat) : Int := if FB az = true then (az.length : Int) - 1 else -1
def IX : DP
  | [.sl 0 0 n], [some (.vec t s xs)] => some (xs = rows eI (zI (dZ xs)) ∧ t = 3 ∧ s = 1 ∧ n = (dZ xs).length ∧ (dZ xs).length ≤ 40 ∧ (∀ a ∈ dZ xs, a ≤ 2) ∧ YD (dZ xs) ((dZ xs).length - 1), .tup [.d (.sl (rows eI (zI (Ya (dZ xs))))), .d (.int .i64 (Wa (dZ xs)))], [some (.vec 3 1 (rows eI (zI (dZ xs))))])
  | _, _ => none
def Ql : List AV → Option (Prop × AV)
  | [.d (.int .i64 a), .d (.sl xs), .d (.int .i64 i)] => some (xs = rows eI (zI (dZ xs)) ∧ (dZ xs).length ≤ 41 ∧ i + 1 = (dZ xs).length ∧ 0 ≤ i ∧ 0 ≤ a ∧ (a = 2 → 1 ≤ i ∧ (dZ xs).getD (i.toNat - 1) 0 ≤ 1000), .tup [.d (.int .i64 (if a = 1 then i - 1 else if a = 2 then i - 1 - ((dZ xs).getD (i.toNat - 1) 0 : Nat) else 0)), .d (.int .i64 (if a = 2 then i - 1 else 0))])
  | _ => none
theorem Th : A5 Tryz.prog 39 (Spec.pure Ql) := by
 refine A1 (TV.at_ 24) Tryz.func39 rfl rfl rfl ?_
 intro args p r hg hp
 unfold Ql at hg
 split at hg
 rename_i a xs i
 simp only [Option.some.injEq, Prod.mk.injEq] at hg
 obtain ⟨rfl, rfl⟩ := hg
 obtain ⟨he, hl, hi, hi0, ha, h2⟩ := hp
 generalize dZ xs = out at *
 subst he
 obtain ⟨m, rfl⟩ := Int.eq_ofNat_of_zero_le hi0
 have hmt : ((m : Nat) : Int).toNat - 1 = m - 1 := by omega
 rw [hmt] at h2 ⊢
 have hT : (TV).X = T := rfl
 have hx0 := And.intro @Mx (And.intro @Nh @Tryz.results39)
 have hx := hx0
 refine ⟨by rfl, ?_⟩
 intro F W0 hnp hmk
 refine Aa fun N1 h1 => Ac ?_
 refine Az ?_
 iterate 2 refine Ad (hq := AN) ?_
 refine Ab (h1 _ (Aa fun N2 h2 => ?_)); clear h1
 refine Aa fun N3 h3 => Ac ?_
 refine Ad (hq := AN) ?_
 refine Ao (hq := AN) ?_
 refine Ab (h3 _ (Ak (fun hb4 => ?_) (fun hb4 => ?_))); clear h3
 refine Aa fun N5 h5 => Ac ?_
 refine Ad (hq := AN) ?_
 refine Ao (hq := AN) ?_
 iterate 2 refine Ad (hq := AN) ?_
 refine Ab (h5 _ (Am ?_)); clear h5
 try simp only [Ae]
 have ha1 : a = 1 := by have := hb4; (try simp at this); omega
 rw [if_pos ha1, if_neg (by omega)]
 refine Aw ?_
 exact Au
 refine An ?_
 try simp only [Ae]
 refine h2 _ (Aa fun N6 h6 => ?_); clear h2
 refine Aa fun N7 h7 => Ac ?_
 refine Ad (hq := AN) ?_
 refine Ao (hq := AN) ?_
 refine Ab (h7 _ (Ak (fun hb8 => ?_) (fun hb8 => ?_))); clear h7
 have ha2 : a = 2 := by have := hb8; (try simp at this); omega
 obtain ⟨h3, h4⟩ := h2 ha2
 obtain ⟨x, hxe⟩ := BA (l := out) (i := m - 1) (by omega)
 have hxd : out.getD (m - 1) 0 = x := B5 hxe
 have hpm : ((m : Int) - 1).toNat = m - 1 := by omega
 have hze := RL hxe
 rw [hxd] at h4
 have hx := And.intro @hpm (And.intro @hze (And.intro @eI.eq_1 hx0))
 refine Aa fun N9 h9 => Ac ?_
 refine Ad (hq := AN) ?_
 refine Ao (hq := AN) ?_
 iterate 2 refine Ad (hq := AN) ?_
 refine Ao (hq := AN) ?_
 refine Ar (hq := AN) ?_
 refine Aq (hq := AN) ?_
 refine Ao (hq := AN) ?_
 refine Ad (hq := AN) ?_
 refine Ao (hq := AN) ?_
 iterate 2 refine Ad (hq := AN) ?_
 have hx := hx0
 refine Ab (h9 _ (Am ?_)); clear h9
 try simp only [Ae]
 rw [if_neg (by omega), if_pos ha2, if_pos ha2, hxd]
 refine Aw ?_
 exact Au
 refine An ?_
 try simp only [Ae]
 refine h6 _ (Aa fun N10 h10 => Ac ?_); clear h6
 iterate 2 refine Ad (hq := AN) ?_
 refine Ab (h10 _ (Am ?_)); clear h10
 try simp only [Ae]
 rw [if_neg (by have := hb4; (try simp at this); omega), if_neg (by have := hb8; (try simp at this); omega), if_neg (by have := hb8; (try simp at this); omega)]
 refine Aw ?_
 exact Au
 cases hg
def TS : Bq Tryz.prog := TV.add 39 (Spec.pure Ql) Th (by kernel_rfl)
theorem T3 : A5 Tryz.prog 38 (Spec.gen IX) := by
 refine Bm (TS.at_ 41) Tryz.func38 rfl rfl rfl ?_
 intro args bl p r bf hg hp
 unfold IX at hg
 split at hg
 rename_i n t s xs
 simp only [Option.some.injEq, Prod.mk.injEq] at hg
 obtain ⟨rfl, rfl, rfl⟩ := hg
 obtain ⟨he, rfl, rfl, rfl, hl, h2, hok⟩ := hp
 generalize dZ xs = az at *
 subst he
 have hT : (TS).X = T := rfl
 have hx0 := And.intro @Mx (And.intro @Nh @Tryz.results38)
 have hx := hx0
 refine ⟨Nat.le_of_ble_eq_true rfl, ?_⟩
 intro F W0 M0 hnp hmk
 have hnp : Bl.np = 1 := hnp
 refine Aa fun N1 h1 => Ac ?_
 refine Az ?_
 iterate 2 refine Ad (hq := AN) ?_
 refine Ab (h1 _ (Aa fun N2 h2 => Ac ?_)); clear h1
 refine Ad (hq := AN) ?_
 refine Ab (h2 _ (Aa fun N3 h3 => ?_)); clear h2
 refine Aa fun N4 h4 => Ac ?_
 refine Ad (hq := AN) ?_
 refine Ab (h4 _ (As ?_)); clear h4
 refine A3 (σ := Nat) (fun s => (fun i => i ≤ az.length ∧ YD az i) s)
  (fun s => (fun i => [(0, .sl 0 0 az.length), (4, .sl 1 0 i), (5, .d (.int .i64 (i : Nat)))]) s)
  (fun s => (fun i => [some (.vec 3 1 (rows eI (zI az))), some (.vec 3 1 (rows eI (zI (EN az i))))]) s) (fun s => (fun i => az.length - i) s) hnp 0 ?_ [some 0, none] ?_ ?_
 dsimp only
 exact ⟨by omega, fun j hj => by omega⟩
 dsimp only
 refine ⟨by rfl, ?_, ?_⟩
 refine Aj ?_
 exact Au
 refine Aj ?_
 exact Au
 rintro i hinv N5 h5
 dsimp only at hinv ⊢
 obtain ⟨i1, i2⟩ := hinv
 refine Aa fun N6 h6 => ?_
 refine Aa fun N7 h7 => Ac ?_
 refine Az ?_
 iterate 2 refine Ad (hq := AN) ?_
 refine AU (hq := AN) ?_
 refine Ao (hq := AN) ?_
 refine Ab (h7 _ (Ak (fun hb8 => ?_) (fun hb8 => ?_))); clear h7
 obtain ⟨a, hae⟩ := BA (l := az) (i := i) (by omega)
 have had : az.getD i 0 = a := B5 hae
 have hza := RL hae
 have ha2 := h2 a (AB hae)
 have hol := Gk az i
 have hole := Q3 h2 i2
 refine An ?_
 try simp only [Ae]
 refine h6 _ (Aa fun N9 h9 => As ?_); clear h6
 refine Aa fun N10 h10 => Ac ?_
 refine Ad (hq := AN) ?_
 refine Ab (h10 _ (Aa fun N11 h11 => ?_)); clear h10
 refine Aa fun N12 h12 => Ac ?_
 refine Ad (hq := AN) ?_
 refine Ab (h12 _ (As ?_)); clear h12
 refine A3 (σ := Nat) (fun s => (fun k => k ≤ a ∧ nK (EN az i) k ≤ i + 1 ∧ ∀ j, j < k → nK (EN az i) j ≤ i) s)
  (fun s => (fun k => [(0, .sl 0 0 az.length), (4, .sl 1 0 i), (5, .d (.int .i64 (i : Nat))), (6, .d (.int .i64 (nK (EN az i) k : Nat))), (7, .d (.int .i64 (k : Nat)))]) s)
  (fun s => (fun k => [some (.vec 3 1 (rows eI (zI az))), some (.vec 3 1 (rows eI (zI (EN az i))))]) s) (fun s => (fun k => a - k) s) hnp 0 ?_ [some 0, some 1] ?_ ?_
 dsimp only
 exact ⟨by omega, by show 1 ≤ i + 1; omega, fun j hj => by omega⟩
 dsimp only
 refine ⟨by rfl, ?_, ?_⟩
 refine Aj ?_
 exact Au
 refine Aj ?_
 exact Au
 rintro k hinv N13 h13
 dsimp only at hinv ⊢
 obtain ⟨k1, k3, k2⟩ := hinv
 refine Aa fun N14 h14 => ?_
 have hx := And.intro @hza (And.intro @eI.eq_1 hx0)
 refine Aa fun N15 h15 => Ac ?_
 refine Az ?_
 iterate 3 refine Ad (hq := AN) ?_
 refine Ar (hq := AN) ?_
 refine Aq (hq := AN) ?_
 refine Ao (hq := AN) ?_
 have hx := hx0
 refine Ab (h15 _ (Ak (fun hb16 => ?_) (fun hb16 => ?_))); clear h15
 have hnp := MI (EN az i) k
 refine An ?_
 try simp only [Ae]
 refine h14 _ (Aa fun N17 h17 => As (Aa fun N18 h18 => ?_)); clear h14
 refine Aa fun N19 h19 => Ac ?_
 iterate 2 refine Ad (hq := AN) ?_
 iterate 2 refine Ao (hq := AN) ?_
 refine Ab (h19 _ (Ak (fun hb20 => ?_) (fun hb20 => ?_))); clear h19
 refine Aa fun N21 h21 => Ac ?_
 iterate 4 refine Ad (hq := AN) ?_
 refine Ab (h21 _ (Am ?_)); clear h21
 try simp only [Ae]
 have hby : KG (EN az i) a = true := X8 ha2 (k := k) (by omega) (by have := hb20; (try simp at this); omega)
 obtain rfl : i = az.length - 1 := by
  by_cases h : i < az.length - 1
  ·have := hok i h; rw [had, hby] at this; cases this
  ·omega
 have hbd : FB az = true := by unfold FB; rw [had, hby, Bool.and_true]; exact decide_eq_true (fun h => by rw [h] at hae; cases hae)
 have r1 : Ya az = EN az (az.length - 1) := by unfold Ya; rw [if_pos hbd]
 have r2 : Wa az = (az.length : Int) - 1 := by unfold Wa; rw [if_pos hbd]
 have r3 : ((az.length - 1 : Nat) : Int) = (az.length : Int) - 1 := by omega
 have hzt : (zI (EN az (az.length - 1))).take (az.length - 1) = zI (EN az (az.length - 1)) := by
  have := JH (EN az (az.length - 1)); rwa [Gk] at this
 have hzl := Gk az (az.length - 1)
 rw [r1, r2, ← r3]
 refine Aj ?_
 refine ⟨[some 0], by rfl, ?_, ?_⟩
 refine Aj ?_
 ·(repeat' apply And.intro) <;> (first | (first | rfl | trivial | omega | (left; rfl) | (rw [hzt]; done) | (left; rw [hzt]; done)) | exact Au)
 refine Aj ?_
 ·(repeat' apply And.intro) <;> (first | (first | rfl | trivial | omega | (left; rfl) | (rw [hzt]; done) | (left; rw [hzt]; done)) | exact Au)
 have hni : nK (EN az i) k ≤ i := by have := hb20; (try simp at this); omega
 obtain ⟨y, hye⟩ := BA (l := EN az i) (i := i - nK (EN az i) k) (by omega)
 have hyd : (EN az i).getD (i - nK (EN az i) k) 0 = y := B5 hye
 have hzy := RL hye
 have hpm : ((i : Int) - (nK (EN az i) k : Int)).toNat = i - nK (EN az i) k := by omega
 have hns : nK (EN az i) (k + 1) = nK (EN az i) k + y := by
  rw [← hyd]; show nK (EN az i) k + (EN az i).getD ((EN az i).length - nK (EN az i) k) 0 = _; rw [hol]
 have hnl := Vo (k := k) (fun p hp => hole p (by omega)) (by omega)
 refine An ?_
 try simp only [Ae]
 have hx := And.intro @hpm (And.intro @hzy (And.intro @eI.eq_1 hx0))
 refine h18 _ (Ac ?_); clear h18
 iterate 4 refine Ad (hq := AN) ?_
 refine Ao (hq := AN) ?_
 refine Ar (hq := AN) ?_
 refine Aq (hq := AN) ?_
 refine Ao (hq := AN) ?_
 refine Ad (hq := AN) ?_
 have hx := hx0
 refine Ab (h17 _ (Ac ?_)); clear h17
 refine Ad (hq := AN) ?_
 refine Ao (hq := AN) ?_
 refine Ad (hq := AN) ?_
 refine Ab ?_
 refine h13 _ ⟨k + 1, ?_, ?_, [some 0, some 1], ?_⟩
 dsimp only
 refine ⟨by omega, by omega, fun j hj => ?_⟩
 rcases Nat.lt_or_ge j k with h | h
 exact k2 j h
 obtain rfl : j = k := by omega
 exact hni
 dsimp only
 omega
 dsimp only
 refine ⟨by rfl, ?_, ?_⟩
 refine Aj ?_
 ·(repeat' apply And.intro) <;> (first | (first | rfl | trivial | omega | (rw [hns]; simp; done)) | exact Au)
 refine Aj ?_
 ·(repeat' apply And.intro) <;> (first | (first | rfl | trivial | omega | (rw [hns]; simp; done)) | exact Au)
 obtain rfl : k = a := by have := hb16; (try simp at this); omega
 have hsz := Q5 (EN az i) ha2
 have hnb := YO (out := EN az i) ha2 (fun j hj => by rw [hol]; exact k2 j hj)
 have hsn : EN az (i + 1) = EN az i ++ [nK (EN az i) k] := by rw [← hsz, ← had]; rfl
 have hzs := RM (EN az i) (nK (EN az i) k)
 have hzt := JH (EN az i)
 rw [hol] at hzt
 refine AJ ?_
 simp only [Ae, Nat.reduceEqDiff, reduceIte, eq_self]
 refine h11 _ (Ac ?_); clear h11
 iterate 2 refine Ad (hq := AN) ?_
 refine Di (hq := AN) ?_
 refine Bf (hq := AN) ?_
 refine Ad (hq := AN) ?_
 refine Ab (h9 _ (Ac ?_)); clear h9
 refine Ad (hq := AN) ?_
 refine Ao (hq := AN) ?_
 refine Ad (hq := AN) ?_
 refine Ab ?_
 refine h5 _ ⟨i + 1, ?_, ?_, [some 0, some 3], ?_⟩
 dsimp only
 refine ⟨by omega, fun j hj => ?_⟩
 rcases Nat.lt_or_ge j i with h | h
 exact i2 j h
 obtain rfl : j = i := by omega
 rw [had]; exact hnb
 dsimp only
 omega
 dsimp only
 refine ⟨by rfl, ?_, ?_⟩
 refine Aj ?_
 ·(repeat' apply And.intro) <;> (first | (first | rfl | trivial | omega | (rw [hsn, ← hzs, hzt]; done) | (rw [hsn, ← hzs]; done) | exact Or.inl rfl) | exact Au)
 refine Aj ?_
 ·(repeat' apply And.intro) <;> (first | (first | rfl | trivial | omega | (rw [hsn, ← hzs, hzt]; done) | (rw [hsn, ← hzs]; done) | exact Or.inl rfl) | exact Au)
 refine AJ ?_
 simp only [Ae, Nat.reduceEqDiff, reduceIte, eq_self]
 refine h3 _ (Aa fun N22 h22 => Ac ?_); clear h3
 iterate 3 refine Ad (hq := AN) ?_
 refine Ab (h22 _ (Am ?_)); clear h22
 try simp only [Ae]
 obtain rfl : i = az.length := by omega
 have hbd : FB az = false := by
  unfold FB
  by_cases h : az = []
  ·rw [decide_eq_false (fun h' => h' h)]; rfl
  ·rw [i2 (az.length - 1) (by have := List.length_pos_iff.2 h; omega), Bool.and_false]
 have r1 : Ya az = EN az az.length := by unfold Ya; rw [if_neg (by rw [hbd]; simp)]
 have r2 : Wa az = -1 := by unfold Wa; rw [if_neg (by rw [hbd]; simp)]
 have hzt : (zI (EN az az.length)).take az.length = zI (EN az az.length) := by
  have := JH (EN az az.length); rwa [Gk] at this
 have hzl := Gk az az.length
 rw [r1, r2]
 refine Aj ?_
 refine ⟨[some 0], by rfl, ?_, ?_⟩
 refine Aj ?_
 ·(repeat' apply And.intro) <;> (first | (first | rfl | trivial | omega | (left; rfl) | (rw [hzt]; done) | (left; rw [hzt]; done)) | exact Au)
 refine Aj ?_
 ·(repeat' apply And.intro) <;> (first | (first | rfl | trivial | omega | (left; rfl) | (rw [hzt]; done) | (left; rw [hzt]; done)) | exact Au)
 cases hg
def CB : Bq Tryz.prog := TS.add 38 (Spec.gen IX) T3 (by kernel_rfl)
