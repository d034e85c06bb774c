/- Walks, printed by wip/gen/walk.py. -/
import Derived.Test.YtmbjnkgpcbpclaaGreatT55
import Derived.Test.YtmbjnkgpcbpclaaGreatV5
set_option linter.all false
set_option maxRecDepth 100000
set_option maxHeartbeats 4000000
namespace Go.Proofs.YtmbjnkgpcbpclaaGreat
open Go Go.Vc Go.RowKit
def szI (q : List Nd) (i : Nat) : Nat := szN (szl q i) (ar (q.getD i default).kd)
theorem szl_at {q : List Nd} : ∀ {n i : Nat}, i < n → (szl q n).getD i 0 = szI q i
  | n + 1, i, h => by
    by_cases hi : i < n
    · rw [szl_get hi]; exact szl_at hi
    · obtain rfl : i = n := by omega
      show (szl q i ++ [_]).getD i 0 = _
      rw [List.getD_eq_getElem?_getD, List.getElem?_append_right (by rw [szl_len]; exact Nat.le_refl _), szl_len, Nat.sub_self]; rfl
def okQ (q : List Nd) : Prop := 1 ≤ q.length ∧ q.length ≤ 40 ∧ ∀ j, j < q.length → refC q j = 0
theorem ok_of_val {q : List Nd} (h : valQ q = (0, 0)) : okQ q ∧ (rts q q.length).length = 1 := by
  unfold valQ at h
  split at h
  · cases h
  · rename_i h1
    split at h
    · rename_i h2; rw [h] at h2; exact absurd rfl h2
    · rename_i h2
      have h0 := fun j hj => firstF_zero (f := qC q) (g := iI) (n := q.length) (by omega) j hj
      refine ⟨⟨by omega, by omega, fun j hj => ?_⟩, ?_⟩
      · rw [refC_is (by omega) fun k hk => h0 k (by omega)]; exact h0 j hj
      · split at h
        · cases h
        · rename_i h3; omega
theorem szI_le {q : List Nd} (h : okQ q) {i : Nat} (hi : i < q.length) : 1 ≤ szI q i ∧ szI q i ≤ i + 1 := by
  refine ⟨?_, ?_⟩
  · unfold szI
    rw [szN_is _ (by rcases ar_or (q.getD i default).kd with ⟨_, h⟩ | ⟨_, _, h⟩ | ⟨_, h⟩ <;> omega)]
    exact nK_pos _ _
  · have := szl_le (q := q) (i := i + 1) (by omega) (fun j hj => h.2.2 j (by omega)) i (by omega)
    rwa [szl_at (by omega)] at this

theorem ok_node {q : List Nd} (h : okQ q) {i : Nat} (hi : i < q.length) {x : Nd} (hx : q.getD i default = x) : 1 ≤ x.kd ∧ x.kd ≤ 16 ∧ 0 ≤ x.nm ∧ x.nm ≤ mostN x.kd ∧
    (ar x.kd = 0 → x.lf = 0 ∧ x.rt = 0 ∧ szI q i = 1) ∧ (ar x.kd = 1 → 1 ≤ i ∧ x.lf = ((i - 1 : Nat) : Int) ∧ x.rt = 0 ∧ szI q i = 1 + szI q (i - 1)) ∧
    (ar x.kd = 2 → szI q (i - 1) + 1 ≤ i ∧ x.lf = ((i - 1 - szI q (i - 1) : Nat) : Int) ∧ x.rt = ((i - 1 : Nat) : Int) ∧ szI q i = 1 + szI q (i - 1) + szI q (i - 1 - szI q (i - 1))) := by
  have hr := h.2.2 i hi
  have hl := szl_len q i
  have hb := ref_sz hr
  rw [hx] at hb
  have hg := szB_get hb
  rw [hl] at hg
  unfold refC at hr
  rw [hx] at hr
  split at hr
  · cases hr
  rename_i c1
  split at hr
  · cases hr
  rename_i c2
  split at hr
  · cases hr
  split at hr
  · rename_i c3 c4
    simp only [Bool.and_eq_false_iff, decide_eq_false_iff_not, not_or, Decidable.not_not] at c1 c2
    have e1 : 1 ≤ i → (szl q i).getD (i - 1) 0 = szI q (i - 1) := fun h => szl_at (by omega)
    obtain ⟨c4, c5⟩ := c4
    unfold opL at c4
    unfold opR at c5
    rw [hl] at c4 c5
    have eI : szI q i = szN (szl q i) (ar x.kd) := by unfold szI; rw [hx]
    refine ⟨c1.1, c1.2, c2.1, c2.2, fun ha => ?_, fun ha => ?_, fun ha => ?_⟩
    · rw [ha] at c4 c5 eI
      exact ⟨by simpa using c4, by simpa using c5, eI⟩
    · rw [ha] at c4 c5 eI hg
      have h1 := hg.1 (by omega)
      have e2 := e1 h1
      refine ⟨h1, ?_, by simpa using c5, ?_⟩
      · rw [c4, if_pos rfl]; omega
      · rw [eI]; show 1 + (szl q i).getD ((szl q i).length - 1) 0 = _; rw [hl, e2]
    · rw [ha] at c4 c5 eI hg
      have h1 := hg.1 (by omega)
      have h2 := hg.2 (by omega)
      have e2 := e1 h1
      rw [e2] at h2 c4
      refine ⟨by omega, ?_, ?_, ?_⟩
      · rw [c4, if_neg (by omega), if_pos rfl]; omega
      · rw [c5, if_pos rfl]; omega
      · rw [eI]
        show 1 + (szl q i).getD ((szl q i).length - 1) 0 + (szl q i).getD ((szl q i).length - (1 + (szl q i).getD ((szl q i).length - 1) 0)) 0 = _
        rw [hl, e2, szl_at (q := q) (n := i) (i := i - (1 + szI q (i - 1))) (by omega)]
        congr 2; omega
  · cases hr

theorem val_mp {q : List Sn} (h : valS q = (0, 0)) : valQ (mpQ q) = (0, 0) ∧ 1 ≤ q.length ∧ q.length ≤ 40 ∧ ∀ j, j < q.length → qCs q j = 0 := by
  unfold valS at h
  split at h
  · cases h
  · rename_i h1
    split at h
    · rename_i h2; rw [h] at h2; exact absurd rfl h2
    · rename_i h2
      have h0 := fun j hj => firstF_zero (f := qCs q) (g := iI) (n := q.length) (by omega) j hj
      split at h
      · cases h
      · rename_i h3
        refine ⟨?_, by omega, by omega, h0⟩
        unfold valQ
        rw [mp_len, if_neg h1, firstF_none fun j hj => qC_of hj (h0 j hj), if_neg (by simp)]
        exact if_neg h3
theorem valS_code {q : List Sn} (h : valS q ≠ (0, 0)) : (valS q).1 ≠ 0 := by
  intro h0
  unfold valS at h h0
  split at h
  · rename_i h1; rw [if_pos h1] at h0; exact absurd h0 (by decide)
  · rename_i h1
    rw [if_neg h1] at h0
    split at h
    · rename_i h2; rw [if_pos h2] at h0; exact h2 h0
    · rename_i h2
      rw [if_neg h2] at h0
      split at h
      · rename_i h3; rw [if_pos h3] at h0; exact absurd h0 (by decide)
      · exact h rfl
theorem okS_node {q : List Sn} (h : valS q = (0, 0)) {i : Nat} (hi : i < q.length) {x : Sn} (hx : q.getD i default = x) : (1 ≤ x.kd ∧ x.kd ≤ 4) ∧ (x.kd = 1 → okT x.tx = true) ∧ (x.kd ≠ 1 → x.tx = []) ∧ (x.kd = 1 → x.lf = 0 ∧ x.rt = 0 ∧ szI (mpQ q) i = 1) ∧
    (x.kd = 4 → 1 ≤ i ∧ x.lf = ((i - 1 : Nat) : Int) ∧ x.rt = 0 ∧ szI (mpQ q) i = 1 + szI (mpQ q) (i - 1)) ∧
    (x.kd = 2 ∨ x.kd = 3 → szI (mpQ q) (i - 1) + 1 ≤ i ∧ x.lf = ((i - 1 - szI (mpQ q) (i - 1) : Nat) : Int) ∧ x.rt = ((i - 1 : Nat) : Int) ∧ szI (mpQ q) i = 1 + szI (mpQ q) (i - 1) + szI (mpQ q) (i - 1 - szI (mpQ q) (i - 1))) := by
  obtain ⟨h1, _, _, h4⟩ := val_mp h
  have hq := (ok_of_val h1).1
  have hm : (mpQ q).getD i default = nM x := by rw [mp_at hi, hx]
  obtain ⟨_, _, _, _, o5, o6, o7⟩ := ok_node hq (by rw [mp_len]; exact hi) hm
  have hs := h4 i hi
  rw [qCs_mp hi, hx] at hs
  obtain ⟨_, s2, s3, s4⟩ := snF_c hs
  have ha : ar (nM x).kd = sar x.kd := ar_kM _
  rw [ha] at o5 o6 o7
  refine ⟨s2, s3, s4, fun hk => o5 (by rw [hk]; rfl), fun hk => o6 (by rw [hk]; rfl), fun hk => o7 (by rcases hk with hk | hk <;> rw [hk] <;> rfl)⟩
def msN (u : Bs) (n : Sn) (l : List Bool) : Bool :=
  if n.kd = 1 then hasSub u n.tx else if n.kd = 2 then l.getD n.lf.toNat false && l.getD n.rt.toNat false
  else if n.kd = 3 then l.getD n.lf.toNat false || l.getD n.rt.toNat false else !(l.getD n.lf.toNat false)
def msV (u : Bs) (q : List Sn) : Nat → List Bool
  | 0 => []
  | i + 1 => msV u q i ++ [msN u (q.getD i default) (msV u q i)]
theorem msV_len (u : Bs) (q : List Sn) : ∀ i, (msV u q i).length = i
  | 0 => rfl
  | i + 1 => by simp [msV, msV_len u q i]
def mtQ (u : Bs) (q : List Sn) : Bool := (msV u q q.length).getD (q.length - 1) false
def mtG : List AV → Option (Prop × AV)
  | [.d (.str u), .agg [.d (.sl xs)]] => some (xs = rows eSn (dSn xs) ∧ valS (dSn xs) = (0, 0) ∧ u.length ≤ 1000000000, .d (.bool (mtQ u (dSn xs))))
  | _ => none
theorem okT_len {b : Bs} (h : okT b = true) : 1 ≤ b.length ∧ b.length ≤ 80 := by
  unfold okT at h
  simp only [Bool.and_eq_true, decide_eq_true_eq] at h
  exact h.1
theorem okS_at {q : List Sn} (h : valS q = (0, 0)) {i : Nat} (hi : i < q.length) {x : Sn} (hx : q.getD i default = x) (hk : x.kd ≠ 1) : 0 ≤ x.lf ∧ x.lf < i ∧ 0 ≤ x.rt ∧ x.rt < i := by
  obtain ⟨h1, _, _, _, h5, h6⟩ := okS_node h hi hx
  by_cases h4 : x.kd = 4
  · obtain ⟨a, b, c, _⟩ := h5 h4; omega
  · obtain ⟨a, b, c, _⟩ := h6 (by omega); omega

theorem msN_1 {u : Bs} {a c e : Int} {b : Bs} {l : List Bool} (h : a = 1) : msN u ⟨a, b, c, e⟩ l = hasSub u b := if_pos h
theorem getDB {l : List Bool} {j : Int} {v : Bool} (h : l[j.toNat]? = some v) : l.getD j.toNat false = v := by rw [List.getD_eq_getElem?_getD, h]; rfl
theorem msN_2 {u : Bs} {a c e : Int} {b : Bs} {l : List Bool} {v w : Bool} (h : a = 2) (h1 : l[c.toNat]? = some v) (h2 : l[e.toNat]? = some w) : msN u ⟨a, b, c, e⟩ l = (v && w) := by
  unfold msN; dsimp only; rw [if_neg (by omega), if_pos h, getDB h1, getDB h2]
theorem msN_3 {u : Bs} {a c e : Int} {b : Bs} {l : List Bool} {v w : Bool} (h : a = 3) (h1 : l[c.toNat]? = some v) (h2 : l[e.toNat]? = some w) : msN u ⟨a, b, c, e⟩ l = (v || w) := by
  unfold msN; dsimp only; rw [if_neg (by omega), if_neg (by omega), if_pos h, getDB h1, getDB h2]
theorem msN_4 {u : Bs} {a c e : Int} {b : Bs} {l : List Bool} {v : Bool} (h1' : a ≠ 1) (h2' : a ≠ 2) (h3' : a ≠ 3) (h1 : l[c.toNat]? = some v) : msN u ⟨a, b, c, e⟩ l = !v := by
  unfold msN; dsimp only; rw [if_neg h1', if_neg h2', if_neg h3', getDB h1]
theorem msV_step {u : Bs} {q : List Sn} {i : Nat} {x : Sn} (h : q.getD i default = x) : msV u q (i + 1) = msV u q i ++ [msN u x (msV u q i)] := by rw [← h]; rfl
end Go.Proofs.YtmbjnkgpcbpclaaGreat
