/- Walks, printed by wip/gen/walk.py. -/
import Derived.Test.YtmbjnkgpcbpclaaGreatT53
import Derived.Test.YtmbjnkgpcbpclaaGreatV5
set_option linter.all false
set_option maxRecDepth 100000
set_option maxHeartbeats 4000000
namespace Go.Proofs.YtmbjnkgpcbpclaaGreat
open Go Go.Vc Go.RowKit
def zI (l : List Nat) : List Int := l.map fun (n : Nat) => (n : Int)
def dZ (xs : List (List D)) : List Nat := (dI xs).map Int.toNat
theorem dZ_rows (l : List Nat) : dZ (rows eI (zI l)) = l := by
  unfold dZ zI
  rw [dI_rows, List.map_map]
  conv => rhs; rw [← List.map_id l]
  exact List.map_congr_left fun c _ => Int.toNat_natCast c
theorem zI_len (l : List Nat) : (zI l).length = l.length := List.length_map ..
theorem zI_at {l : List Nat} {i x : Nat} (h : l[i]? = some x) : (zI l)[i]? = some (x : Int) := by unfold zI; rw [List.getElem?_map, h]; rfl
theorem zI_snoc (l : List Nat) (x : Nat) : rows eI (zI l) ++ [[.int .i64 (x : Int)]] = rows eI (zI (l ++ [x])) := by simp [rows, eI, zI]
theorem zI_take (l : List Nat) : (zI l).take l.length = zI l := List.take_of_length_le (by rw [zI_len]; exact Nat.le_refl _)
def nK (out : List Nat) : Nat → Nat
  | 0 => 1
  | k + 1 => nK out k + out.getD (out.length - nK out k) 0
theorem nK_pos (out : List Nat) : ∀ k, 1 ≤ nK out k
  | 0 => Nat.le_refl _
  | k + 1 => Nat.le_trans (nK_pos out k) (Nat.le_add_right _ _)
theorem szN_is (out : List Nat) {a : Nat} (h : a ≤ 2) : szN out a = nK out a := by
  match a, h with
  | 0, _ => rfl
  | 1, _ => rfl
  | 2, _ => rfl
theorem szB_no {out : List Nat} {a : Nat} (h : a ≤ 2) (hk : ∀ k, k < a → nK out k ≤ out.length) : szB out a = false := by
  unfold szB
  have e1 : ¬(1 ≤ a ∧ out.length = 0) := fun ⟨h1, h2⟩ => by
    have := hk 0 (by omega)
    simp only [nK] at this; omega
  have e2 : ¬(2 ≤ a ∧ out.length < 1 + out.getD (out.length - 1) 0) := fun ⟨h1, h2⟩ => by
    have := hk 1 (by omega)
    simp only [nK] at this; omega
  rw [decide_eq_false e1, decide_eq_false e2]; rfl
theorem szB_yes {out : List Nat} {a k : Nat} (h : a ≤ 2) (hk : k < a) (hl : out.length < nK out k) : szB out a = true := by
  unfold szB
  rw [Bool.or_eq_true]
  match k, hk with
  | 0, hk => exact .inl (decide_eq_true ⟨by omega, by simp only [nK] at hl; omega⟩)
  | 1, hk => exact .inr (decide_eq_true ⟨by omega, hl⟩)
  | k + 2, hk => omega
def szA (az : List Nat) : Nat → List Nat
  | 0 => []
  | i + 1 => szA az i ++ [szN (szA az i) (az.getD i 0)]
theorem szA_len (az : List Nat) : ∀ i, (szA az i).length = i
  | 0 => rfl
  | i + 1 => by simp [szA, szA_len az i]
def okA (az : List Nat) (i : Nat) : Prop := ∀ j, j < i → szB (szA az j) (az.getD j 0) = false
theorem szB_get {out : List Nat} {a : Nat} (h : szB out a = false) : (1 ≤ a → 1 ≤ out.length) ∧ (2 ≤ a → 1 + out.getD (out.length - 1) 0 ≤ out.length) := by
  unfold szB at h
  rw [Bool.or_eq_false_iff, decide_eq_false_iff_not, decide_eq_false_iff_not] at h
  exact ⟨fun h1 => by have := h.1; omega, fun h2 => by have := h.2; omega⟩
theorem nK_le {out : List Nat} (ho : ∀ p, p < out.length → out.getD p 0 ≤ p + 1) {k : Nat} (h : nK out k ≤ out.length) : nK out (k + 1) ≤ out.length + 1 := by
  have h1 := nK_pos out k
  have := ho (out.length - nK out k) (by omega)
  show nK out k + out.getD (out.length - nK out k) 0 ≤ _
  omega
theorem szA_le {az : List Nat} (h2 : ∀ a ∈ az, a ≤ 2) : ∀ {i : Nat}, okA az i → ∀ p, p < i → (szA az i).getD p 0 ≤ p + 1
  | 0, _, p, hp => by omega
  | i + 1, h, p, hp => by
    have ih := szA_le h2 (i := i) fun j hj => h j (by omega)
    have hl := szA_len az i
    show (szA az i ++ [_]).getD p 0 ≤ p + 1
    rw [List.getD_eq_getElem?_getD]
    by_cases hpi : p < i
    · rw [List.getElem?_append_left (by omega)]
      have := ih p hpi
      rwa [List.getD_eq_getElem?_getD] at this
    · obtain rfl : p = i := by omega
      rw [List.getElem?_append_right (by omega), hl, Nat.sub_self]
      have ha : az.getD p 0 ≤ 2 := by
        rw [List.getD_eq_getElem?_getD]
        cases hg : az[p]? with
        | none => simp
        | some a => exact h2 a (List.mem_of_getElem? hg)
      show szN (szA az p) (az.getD p 0) ≤ p + 1
      rw [szN_is _ ha]
      have hb := szB_get (h p (by omega))
      have ho : ∀ r, r < (szA az p).length → (szA az p).getD r 0 ≤ r + 1 := fun r hr => ih r (by omega)
      generalize az.getD p 0 = a at *
      match a, ha with
      | 0, _ => show 1 ≤ p + 1; omega
      | 1, _ => have := nK_le ho (k := 0) (hb.1 (by omega)); rwa [hl] at this
      | 2, _ => have := nK_le ho (k := 1) (hb.2 (by omega)); rwa [hl] at this
def badA (az : List Nat) : Bool := decide (az ≠ []) && szB (szA az (az.length - 1)) (az.getD (az.length - 1) 0)
def szO (az : List Nat) : List Nat := if badA az = true then szA az (az.length - 1) else szA az az.length
def szX (az : List Nat) : Int := if badA az = true then (az.length : Int) - 1 else -1
def sizG : GFun
  | [.sl 0 0 n], [some (.vec t s xs)] => some (xs = rows eI (zI (dZ xs)) ∧ t = 3 ∧ s = 1 ∧ n = (dZ xs).length ∧ (dZ xs).length ≤ 40 ∧ (∀ a ∈ dZ xs, a ≤ 2) ∧ okA (dZ xs) ((dZ xs).length - 1), .tup [.d (.sl (rows eI (zI (szO (dZ xs))))), .d (.int .i64 (szX (dZ xs)))], [some (.vec 3 1 (rows eI (zI (dZ xs))))])
  | _, _ => none
def opdG : List AV → Option (Prop × AV)
  | [.d (.int .i64 a), .d (.sl xs), .d (.int .i64 i)] => some (xs = rows eI (zI (dZ xs)) ∧ (dZ xs).length ≤ 41 ∧ i + 1 = (dZ xs).length ∧ 0 ≤ i ∧ 0 ≤ a ∧ (a = 2 → 1 ≤ i ∧ (dZ xs).getD (i.toNat - 1) 0 ≤ 1000), .tup [.d (.int .i64 (if a = 1 then i - 1 else if a = 2 then i - 1 - ((dZ xs).getD (i.toNat - 1) 0 : Nat) else 0)), .d (.int .i64 (if a = 2 then i - 1 else 0))])
  | _ => none

theorem opd_meets : Meets Tryz.prog 39 (Spec.pure opdG) := by
 refine meets_fun (E_val.at_ 24) Tryz.func39 rfl rfl rfl ?_
 intro args p r hg hp
 unfold opdG at hg
 split at hg
 rename_i a xs i
 simp only [Option.some.injEq, Prod.mk.injEq] at hg
 obtain ⟨rfl, rfl⟩ := hg
 obtain ⟨he, hl, hi, hi0, ha, h2⟩ := hp
 generalize dZ xs = out at *
 subst he
 obtain ⟨m, rfl⟩ := Int.eq_ofNat_of_zero_le hi0
 have hmt : ((m : Nat) : Int).toNat - 1 = m - 1 := by omega
 rw [hmt] at h2 ⊢
 have hT : (E_val).X = T := rfl
 have hx0 := And.intro @dZ_rows (And.intro @zI_len @Tryz.results39)
 have hx := hx0
 refine ⟨by rfl, ?_⟩
 intro F W0 hnp hmk
 refine vc_seq_k fun N1 h1 => ?_
 refine u_reg ?_
 try refine lg_mk ?_
 iterate 2 refine u_mv (hq := by exact so_) ?_
 refine lg_nil ?_
 refine h1 _ ?_; clear h1; try clear N1
 refine vc_seq_k fun N2 h2 => ?_
 refine vc_seq_k fun N3 h3 => ?_
 refine u_reg ?_
 try refine lg_mk ?_
 refine u_mv (hq := by exact so_) ?_
 refine u_bn (hq := by exact so_) ?_
 refine lg_nil ?_
 refine h3 _ ?_; clear h3; try clear N3
 refine u_cond (fun hb4 => ?_) (fun hb4 => ?_)
 refine vc_seq_k fun N5 h5 => ?_
 refine u_reg ?_
 try refine lg_mk ?_
 refine u_mv (hq := by exact so_) ?_
 refine u_bn (hq := by exact so_) ?_
 iterate 2 refine u_mv (hq := by exact so_) ?_
 refine lg_nil ?_
 refine h5 _ ?_; clear h5; try clear N5
 refine vc_ret ?_
 try simp only [k_rules]
 have ha1 : a = 1 := by have := hb4; (try simp at this); omega
 rw [if_pos ha1, if_neg (by omega)]
 refine fin2_ ?_
 exact cl_
 refine vc_skip ?_
 try simp only [k_rules]
 refine h2 _ ?_; clear h2; try clear N2
 refine vc_seq_k fun N6 h6 => ?_
 refine vc_seq_k fun N7 h7 => ?_
 refine u_reg ?_
 try refine lg_mk ?_
 refine u_mv (hq := by exact so_) ?_
 refine u_bn (hq := by exact so_) ?_
 refine lg_nil ?_
 refine h7 _ ?_; clear h7; try clear N7
 refine u_cond (fun hb8 => ?_) (fun hb8 => ?_)
 have ha2 : a = 2 := by have := hb8; (try simp at this); omega
 obtain ⟨h3, h4⟩ := h2 ha2
 obtain ⟨x, hxe⟩ := getE (l := out) (i := m - 1) (by omega)
 have hxd : out.getD (m - 1) 0 = x := getD_at hxe
 have hpm : ((m : Int) - 1).toNat = m - 1 := by omega
 have hze := zI_at hxe
 rw [hxd] at h4
 refine vc_seq_k fun N9 h9 => ?_
 have hx := And.intro @hpm (And.intro @hze (And.intro @eI.eq_1 hx0))
 refine u_reg ?_
 try refine lg_mk ?_
 refine u_mv (hq := by exact so_) ?_
 refine u_bn (hq := by exact so_) ?_
 iterate 2 refine u_mv (hq := by exact so_) ?_
 refine u_bn (hq := by exact so_) ?_
 refine u_pt (hq := by exact so_) ?_
 refine u_ld (hq := by exact so_) ?_
 refine u_bn (hq := by exact so_) ?_
 refine u_mv (hq := by exact so_) ?_
 refine u_bn (hq := by exact so_) ?_
 iterate 2 refine u_mv (hq := by exact so_) ?_
 refine lg_nil ?_
 have hx := hx0
 refine h9 _ ?_; clear h9; try clear N9
 refine vc_ret ?_
 try simp only [k_rules]
 rw [if_neg (by omega), if_pos ha2, if_pos ha2, hxd]
 refine fin2_ ?_
 exact cl_
 refine vc_skip ?_
 try simp only [k_rules]
 refine h6 _ ?_; clear h6; try clear N6
 refine vc_seq_k fun N10 h10 => ?_
 refine u_reg ?_
 try refine lg_mk ?_
 iterate 2 refine u_mv (hq := by exact so_) ?_
 refine lg_nil ?_
 refine h10 _ ?_; clear h10; try clear N10
 refine vc_ret ?_
 try simp only [k_rules]
 rw [if_neg (by have := hb4; (try simp at this); omega), if_neg (by have := hb8; (try simp at this); omega), if_neg (by have := hb8; (try simp at this); omega)]
 refine fin2_ ?_
 exact cl_
 cases hg

def E_opd : Env Tryz.prog := E_val.add 39 (Spec.pure opdG) opd_meets (by kernel_rfl)

theorem siz_meets : Meets Tryz.prog 38 (Spec.gen sizG) := by
 refine meets_handed (E_opd.at_ 41) Tryz.func38 rfl rfl rfl ?_
 intro args bl p r bf hg hp
 unfold sizG at hg
 split at hg
 rename_i n t s xs
 simp only [Option.some.injEq, Prod.mk.injEq] at hg
 obtain ⟨rfl, rfl, rfl⟩ := hg
 obtain ⟨he, rfl, rfl, rfl, hl, h2, hok⟩ := hp
 generalize dZ xs = az at *
 subst he
 have hT : (E_opd).X = T := rfl
 have hx0 := And.intro @dZ_rows (And.intro @zI_len @Tryz.results38)
 have hx := hx0
 refine ⟨Nat.le_of_ble_eq_true rfl, ?_⟩
 intro F W0 M0 hnp hmk
 have hnp : Far.np = 1 := hnp
 refine vc_seq_k fun N1 h1 => ?_
 refine u_reg ?_
 try refine lg_mk ?_
 iterate 2 refine u_mv (hq := by exact so_) ?_
 refine lg_nil ?_
 refine h1 _ ?_; clear h1; try clear N1
 refine vc_seq_k fun N2 h2 => ?_
 refine u_reg ?_
 try refine lg_mk ?_
 refine u_mv (hq := by exact so_) ?_
 refine lg_nil ?_
 refine h2 _ ?_; clear h2; try clear N2
 refine vc_seq_k fun N3 h3 => ?_
 refine vc_seq_k fun N4 h4 => ?_
 refine u_reg ?_
 try refine lg_mk ?_
 refine u_mv (hq := by exact so_) ?_
 refine lg_nil ?_
 refine h4 _ ?_; clear h4; try clear N4
 refine vc_block ?_
 refine vc_loop_mk (σ := Nat) (fun s => (fun i => i ≤ az.length ∧ okA az i) s)
  (fun s => (fun i => [(0, .sl 0 0 az.length), (4, .sl 1 0 i), (5, .d (.int .i64 (i : Nat)))]) s)
  (fun s => (fun i => [some (.vec 3 1 (rows eI (zI az))), some (.vec 3 1 (rows eI (zI (szA az i))))]) s) (fun s => (fun i => az.length - i) s) hnp 0 ?_ [some 0, none] ?_ ?_
 dsimp only
 exact ⟨by omega, fun j hj => by omega⟩
 dsimp only
 refine ⟨by rfl, ?_, ?_⟩
 refine fin_ ?_
 exact cl_
 refine fin_ ?_
 exact cl_
 rintro i hinv N5 h5
 dsimp only at hinv ⊢
 obtain ⟨i1, i2⟩ := hinv
 refine vc_seq_k fun N6 h6 => ?_
 refine vc_seq_k fun N7 h7 => ?_
 refine u_reg ?_
 try refine lg_mk ?_
 iterate 2 refine u_mv (hq := by exact so_) ?_
 refine u_ln (hq := by exact so_) ?_
 refine u_bn (hq := by exact so_) ?_
 refine lg_nil ?_
 refine h7 _ ?_; clear h7; try clear N7
 refine u_cond (fun hb8 => ?_) (fun hb8 => ?_)
 obtain ⟨a, hae⟩ := getE (l := az) (i := i) (by omega)
 have had : az.getD i 0 = a := getD_at hae
 have hza := zI_at hae
 have ha2 := h2 a (mem_at hae)
 have hol := szA_len az i
 have hole := szA_le h2 i2
 refine vc_skip ?_
 try simp only [k_rules]
 refine h6 _ ?_; clear h6; try clear N6
 refine vc_seq_k fun N9 h9 => ?_
 refine vc_block ?_
 refine vc_seq_k fun N10 h10 => ?_
 refine u_reg ?_
 try refine lg_mk ?_
 refine u_mv (hq := by exact so_) ?_
 refine lg_nil ?_
 refine h10 _ ?_; clear h10; try clear N10
 refine vc_seq_k fun N11 h11 => ?_
 refine vc_seq_k fun N12 h12 => ?_
 refine u_reg ?_
 try refine lg_mk ?_
 refine u_mv (hq := by exact so_) ?_
 refine lg_nil ?_
 refine h12 _ ?_; clear h12; try clear N12
 refine vc_block ?_
 refine vc_loop_mk (σ := Nat) (fun s => (fun k => k ≤ a ∧ nK (szA az i) k ≤ i + 1 ∧ ∀ j, j < k → nK (szA az i) j ≤ i) s)
  (fun s => (fun k => [(0, .sl 0 0 az.length), (4, .sl 1 0 i), (5, .d (.int .i64 (i : Nat))), (6, .d (.int .i64 (nK (szA az i) k : Nat))), (7, .d (.int .i64 (k : Nat)))]) s)
  (fun s => (fun k => [some (.vec 3 1 (rows eI (zI az))), some (.vec 3 1 (rows eI (zI (szA az i))))]) s) (fun s => (fun k => a - k) s) hnp 0 ?_ [some 0, some 1] ?_ ?_
 dsimp only
 exact ⟨by omega, by show 1 ≤ i + 1; omega, fun j hj => by omega⟩
 dsimp only
 refine ⟨by rfl, ?_, ?_⟩
 refine fin_ ?_
 exact cl_
 refine fin_ ?_
 exact cl_
 rintro k hinv N13 h13
 dsimp only at hinv ⊢
 obtain ⟨k1, k3, k2⟩ := hinv
 refine vc_seq_k fun N14 h14 => ?_
 refine vc_seq_k fun N15 h15 => ?_
 have hx := And.intro @hza (And.intro @eI.eq_1 hx0)
 refine u_reg ?_
 try refine lg_mk ?_
 iterate 3 refine u_mv (hq := by exact so_) ?_
 refine u_pt (hq := by exact so_) ?_
 refine u_ld (hq := by exact so_) ?_
 refine u_bn (hq := by exact so_) ?_
 refine lg_nil ?_
 have hx := hx0
 refine h15 _ ?_; clear h15; try clear N15
 refine u_cond (fun hb16 => ?_) (fun hb16 => ?_)
 have hnp := nK_pos (szA az i) k
 refine vc_skip ?_
 try simp only [k_rules]
 refine h14 _ ?_; clear h14; try clear N14
 refine vc_seq_k fun N17 h17 => ?_
 refine vc_block ?_
 refine vc_seq_k fun N18 h18 => ?_
 refine vc_seq_k fun N19 h19 => ?_
 refine u_reg ?_
 try refine lg_mk ?_
 iterate 2 refine u_mv (hq := by exact so_) ?_
 iterate 2 refine u_bn (hq := by exact so_) ?_
 refine lg_nil ?_
 refine h19 _ ?_; clear h19; try clear N19
 refine u_cond (fun hb20 => ?_) (fun hb20 => ?_)
 refine vc_seq_k fun N21 h21 => ?_
 refine u_reg ?_
 try refine lg_mk ?_
 iterate 4 refine u_mv (hq := by exact so_) ?_
 refine lg_nil ?_
 refine h21 _ ?_; clear h21; try clear N21
 refine vc_ret ?_
 try simp only [k_rules]
 have hby : szB (szA az i) a = true := szB_yes ha2 (k := k) (by omega) (by have := hb20; (try simp at this); omega)
 obtain rfl : i = az.length - 1 := by
  by_cases h : i < az.length - 1
  ·have := hok i h; rw [had, hby] at this; cases this
  ·omega
 have hbd : badA az = true := by unfold badA; rw [had, hby, Bool.and_true]; exact decide_eq_true (fun h => by rw [h] at hae; cases hae)
 have r1 : szO az = szA az (az.length - 1) := by unfold szO; rw [if_pos hbd]
 have r2 : szX az = (az.length : Int) - 1 := by unfold szX; rw [if_pos hbd]
 have r3 : ((az.length - 1 : Nat) : Int) = (az.length : Int) - 1 := by omega
 have hzt : (zI (szA az (az.length - 1))).take (az.length - 1) = zI (szA az (az.length - 1)) := by
  have := zI_take (szA az (az.length - 1)); rwa [szA_len] at this
 have hzl := szA_len az (az.length - 1)
 rw [r1, r2, ← r3]
 refine fin_ ?_
 refine ⟨[some 0], by rfl, ?_, ?_⟩
 refine fin_ ?_
 ·(repeat' apply And.intro) <;> (first | (first | rfl | trivial | omega | (left; rfl) | (rw [hzt]; done) | (left; rw [hzt]; done)) | exact cl_)
 refine fin_ ?_
 ·(repeat' apply And.intro) <;> (first | (first | rfl | trivial | omega | (left; rfl) | (rw [hzt]; done) | (left; rw [hzt]; done)) | exact cl_)
 have hni : nK (szA az i) k ≤ i := by have := hb20; (try simp at this); omega
 obtain ⟨y, hye⟩ := getE (l := szA az i) (i := i - nK (szA az i) k) (by omega)
 have hyd : (szA az i).getD (i - nK (szA az i) k) 0 = y := getD_at hye
 have hzy := zI_at hye
 have hpm : ((i : Int) - (nK (szA az i) k : Int)).toNat = i - nK (szA az i) k := by omega
 have hns : nK (szA az i) (k + 1) = nK (szA az i) k + y := by
  rw [← hyd]; show nK (szA az i) k + (szA az i).getD ((szA az i).length - nK (szA az i) k) 0 = _; rw [hol]
 have hnl := nK_le (k := k) (fun p hp => hole p (by omega)) (by omega)
 refine vc_skip ?_
 try simp only [k_rules]
 refine h18 _ ?_; clear h18; try clear N18
 have hx := And.intro @hpm (And.intro @hzy (And.intro @eI.eq_1 hx0))
 refine u_reg ?_
 try refine lg_mk ?_
 iterate 4 refine u_mv (hq := by exact so_) ?_
 refine u_bn (hq := by exact so_) ?_
 refine u_pt (hq := by exact so_) ?_
 refine u_ld (hq := by exact so_) ?_
 refine u_bn (hq := by exact so_) ?_
 refine u_mv (hq := by exact so_) ?_
 refine lg_nil ?_
 have hx := hx0
 refine h17 _ ?_; clear h17; try clear N17
 refine u_reg ?_
 try refine lg_mk ?_
 refine u_mv (hq := by exact so_) ?_
 refine u_bn (hq := by exact so_) ?_
 refine u_mv (hq := by exact so_) ?_
 refine lg_nil ?_
 refine h13 _ ⟨k + 1, ?_, ?_, [some 0, some 1], ?_⟩
 dsimp only
 refine ⟨by omega, by omega, fun j hj => ?_⟩
 rcases Nat.lt_or_ge j k with h | h
 exact k2 j h
 obtain rfl : j = k := by omega
 exact hni
 dsimp only
 omega
 dsimp only
 refine ⟨by rfl, ?_, ?_⟩
 refine fin_ ?_
 ·(repeat' apply And.intro) <;> (first | (first | rfl | trivial | omega | (rw [hns]; simp; done)) | exact cl_)
 refine fin_ ?_
 ·(repeat' apply And.intro) <;> (first | (first | rfl | trivial | omega | (rw [hns]; simp; done)) | exact cl_)
 obtain rfl : k = a := by have := hb16; (try simp at this); omega
 have hsz := szN_is (szA az i) ha2
 have hnb := szB_no (out := szA az i) ha2 (fun j hj => by rw [hol]; exact k2 j hj)
 have hsn : szA az (i + 1) = szA az i ++ [nK (szA az i) k] := by rw [← hsz, ← had]; rfl
 have hzs := zI_snoc (szA az i) (nK (szA az i) k)
 have hzt := zI_take (szA az i)
 rw [hol] at hzt
 refine vc_exit ?_
 simp only [k_rules, Nat.reduceEqDiff, reduceIte, eq_self]
 refine h11 _ ?_; clear h11; try clear N11
 refine u_reg ?_
 try refine lg_mk ?_
 iterate 2 refine u_mv (hq := by exact so_) ?_
 refine u_bs (hq := by exact so_) ?_
 refine u_ap (hq := by exact so_) ?_
 refine u_mv (hq := by exact so_) ?_
 refine lg_nil ?_
 refine h9 _ ?_; clear h9; try clear N9
 refine u_reg ?_
 try refine lg_mk ?_
 refine u_mv (hq := by exact so_) ?_
 refine u_bn (hq := by exact so_) ?_
 refine u_mv (hq := by exact so_) ?_
 refine lg_nil ?_
 refine h5 _ ⟨i + 1, ?_, ?_, [some 0, some 3], ?_⟩
 dsimp only
 refine ⟨by omega, fun j hj => ?_⟩
 rcases Nat.lt_or_ge j i with h | h
 exact i2 j h
 obtain rfl : j = i := by omega
 rw [had]; exact hnb
 dsimp only
 omega
 dsimp only
 refine ⟨by rfl, ?_, ?_⟩
 refine fin_ ?_
 ·(repeat' apply And.intro) <;> (first | (first | rfl | trivial | omega | (rw [hsn, ← hzs, hzt]; done) | (rw [hsn, ← hzs]; done) | exact Or.inl rfl) | exact cl_)
 refine fin_ ?_
 ·(repeat' apply And.intro) <;> (first | (first | rfl | trivial | omega | (rw [hsn, ← hzs, hzt]; done) | (rw [hsn, ← hzs]; done) | exact Or.inl rfl) | exact cl_)
 refine vc_exit ?_
 simp only [k_rules, Nat.reduceEqDiff, reduceIte, eq_self]
 refine h3 _ ?_; clear h3; try clear N3
 refine vc_seq_k fun N22 h22 => ?_
 refine u_reg ?_
 try refine lg_mk ?_
 iterate 3 refine u_mv (hq := by exact so_) ?_
 refine lg_nil ?_
 refine h22 _ ?_; clear h22; try clear N22
 refine vc_ret ?_
 try simp only [k_rules]
 obtain rfl : i = az.length := by omega
 have hbd : badA az = false := by
  unfold badA
  by_cases h : az = []
  ·rw [decide_eq_false (fun h' => h' h)]; rfl
  ·rw [i2 (az.length - 1) (by have := List.length_pos_iff.2 h; omega), Bool.and_false]
 have r1 : szO az = szA az az.length := by unfold szO; rw [if_neg (by rw [hbd]; simp)]
 have r2 : szX az = -1 := by unfold szX; rw [if_neg (by rw [hbd]; simp)]
 have hzt : (zI (szA az az.length)).take az.length = zI (szA az az.length) := by
  have := zI_take (szA az az.length); rwa [szA_len] at this
 have hzl := szA_len az az.length
 rw [r1, r2]
 refine fin_ ?_
 refine ⟨[some 0], by rfl, ?_, ?_⟩
 refine fin_ ?_
 ·(repeat' apply And.intro) <;> (first | (first | rfl | trivial | omega | (left; rfl) | (rw [hzt]; done) | (left; rw [hzt]; done)) | exact cl_)
 refine fin_ ?_
 ·(repeat' apply And.intro) <;> (first | (first | rfl | trivial | omega | (left; rfl) | (rw [hzt]; done) | (left; rw [hzt]; done)) | exact cl_)
 cases hg

def E_siz : Env Tryz.prog := E_opd.add 38 (Spec.gen sizG) siz_meets (by kernel_rfl)
end Go.Proofs.YtmbjnkgpcbpclaaGreat
