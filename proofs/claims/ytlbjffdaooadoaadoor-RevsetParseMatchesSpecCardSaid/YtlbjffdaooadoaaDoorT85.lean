/- Walks, printed by wip/gen/walk.py. -/
import Derived.Test.YtlbjffdaooadoaaDoorT84
import Derived.Test.YtlbjffdaooadoaaDoorV5
set_option linter.all false
set_option maxRecDepth 100000
set_option maxHeartbeats 4000000
namespace Go.Proofs.YtlbjffdaooadoaaDoor
open Go Go.Vc Go.RowKit
def nBin (ops : List Int) : Nat := (ops.filter fun k => decide (14 ≤ k)).length
def opOk (k : Int) : Prop := k = 0 ∨ k = 7 ∨ (14 ≤ k ∧ k ≤ 16) ∨ (-13 ≤ k ∧ k ≤ -8)
structure okMc (i : Nat) (m : Mc) (b : Bool) : Prop where
  cnt : m.ns.length + m.ops.length ≤ i
  rts : m.rs.length = nBin m.ops + (if b = true then 0 else 1)
  ops : ∀ k ∈ m.ops, opOk k
theorem nBin_snoc (l : List Int) (k : Int) : nBin (l ++ [k]) = nBin l + if 14 ≤ k then 1 else 0 := by
  unfold nBin
  rw [List.filter_append, List.length_append]
  congr 1
  by_cases h : 14 ≤ k
  · rw [if_pos h, List.filter_cons_of_pos (by simpa using h)]; rfl
  · rw [if_neg h, List.filter_cons_of_neg (by simpa using h)]; rfl
theorem nBin_le (l : List Int) : nBin l ≤ l.length := List.length_filter_le _ _
theorem okMc.le {i j : Nat} {m : Mc} {b : Bool} (h : okMc i m b) (hij : i ≤ j) : okMc j m b := ⟨Nat.le_trans h.cnt hij, h.rts, h.ops⟩
theorem ops_snoc {l : List Int} {k : Int} (h : ∀ k ∈ l, opOk k) (hk : opOk k) : ∀ x ∈ l ++ [k], opOk x := fun x hx => by
  rcases List.mem_append.1 hx with h1 | h1
  · exact h x h1
  · rw [List.mem_singleton.1 h1]; exact hk
theorem okMc.push {i j : Nat} {m : Mc} {k : Int} (h : okMc i m true) (hk : opOk k) (h14 : k < 14) (hij : i + 1 ≤ j) : okMc j (pushM m k) true := by
  refine ⟨?_, ?_, ops_snoc h.ops hk⟩
  · have := h.cnt; show m.ns.length + (m.ops ++ [k]).length ≤ j; rw [List.length_append, List.length_singleton]; omega
  · have := h.rts; show m.rs.length = nBin (m.ops ++ [k]) + _; rw [nBin_snoc, if_neg (by omega)]; omega
theorem okMc.pushb {i j : Nat} {m : Mc} {k : Int} (h : okMc i m false) (h14 : 14 ≤ k) (h16 : k ≤ 16) (hij : i + 1 ≤ j) : okMc j (pushM m k) true := by
  refine ⟨?_, ?_, ops_snoc h.ops (.inr (.inr (.inl ⟨h14, h16⟩)))⟩
  · have := h.cnt; show m.ns.length + (m.ops ++ [k]).length ≤ j; rw [List.length_append, List.length_singleton]; omega
  · have := h.rts; show m.rs.length = nBin (m.ops ++ [k]) + _; rw [nBin_snoc, if_pos h14, if_pos rfl]; simpa using this
theorem okMc.leaf {i j : Nat} {m : Mc} {n : Nd} (h : okMc i m true) (hij : i + 1 ≤ j) : okMc j (leafM m n) false := by
  refine ⟨?_, ?_, h.ops⟩
  · have := h.cnt; show (m.ns ++ [n]).length + m.ops.length ≤ j; rw [List.length_append, List.length_singleton]; omega
  · have := h.rts; show (m.rs ++ [_]).length = nBin m.ops + _; rw [List.length_append, List.length_singleton]; simp at this ⊢; omega
theorem ar_op {k : Int} (h : opOk k) (hl : 0 ≤ lvO k ∨ k < 0) : 1 ≤ ar (kO k) ∧ ar (kO k) = 1 + (if 14 ≤ k then 1 else 0) ∧ -100 ≤ k ∧ k ≤ 100 := by
  rcases h with rfl | rfl | h | h
  · rcases hl with hl | hl
    · exact absurd hl (by decide)
    · omega
  · exact ⟨by decide, rfl, by omega, by omega⟩
  · have e1 : kO k = k := by unfold kO; rw [if_neg (by omega)]
    have e2 : ar k = 2 := by unfold ar; rw [if_pos h.1]
    rw [e1, e2, if_pos h.1]; exact ⟨by omega, rfl, by omega, by omega⟩
  · have e1 : kO k = -k := by unfold kO; rw [if_pos (by omega)]
    have e2 : ar (-k) = 1 := by unfold ar; rw [if_neg (by omega), if_pos (by omega)]
    rw [e1, e2, if_neg (by omega)]; exact ⟨by omega, rfl, by omega, by omega⟩
theorem okMc.red {i : Nat} {m : Mc} {l : List Int} {k : Int} (h : okMc i m false) (hi : i ≤ 100000) (hl : m.ops = l ++ [k]) (hk : 0 ≤ lvO k ∨ k < 0) : rdOk m ∧ okMc i (redM m) false := by
  obtain ⟨ns, rs, ops⟩ := m
  subst hl
  have h1 := h.cnt
  have h2 := h.rts
  have h3 := h.ops k (by simp)
  obtain ⟨a1, a2, a3, a4⟩ := ar_op h3 hk
  dsimp only at h1 h2
  have ebf : (if false = true then 0 else 1) = 1 := rfl
  rw [nBin_snoc, ebf] at h2
  have hnb := nBin_le l
  have hll : (l ++ [k]).length = l.length + 1 := by simp
  refine ⟨⟨by simp, ?_, ?_, ?_, ?_, by dsimp only; omega, ?_, by dsimp only; omega⟩, ?_⟩
  · show 1 ≤ ar (kO (lastO (l ++ [k]))); rw [lastO_snoc]; exact a1
  · show ar (kO (lastO (l ++ [k]))) ≤ rs.length; rw [lastO_snoc]; omega
  · show _ ≤ lastO (l ++ [k]); rw [lastO_snoc]; exact a3
  · show lastO (l ++ [k]) ≤ _; rw [lastO_snoc]; exact a4
  · show rs.length ≤ _; split at h2 <;> omega
  · rw [red_gen rfl]
    refine ⟨?_, ?_, fun x hx => h.ops x (List.mem_append_left _ hx)⟩
    · show (ns ++ [_]).length + l.length ≤ i; rw [List.length_append, List.length_singleton]; omega
    · show (rs.take _ ++ [_]).length = nBin l + _
      rw [List.length_append, List.length_take, List.length_singleton, ebf]; omega
theorem okMc.pop {i : Nat} {m : Mc} {l : List Int} {k : Int} (h : okMc i m false) (hl : m.ops = l ++ [k]) (hk : lvO k < 0) : okMc i (popM m) false := by
  obtain ⟨ns, rs, ops⟩ := m
  subst hl
  have h1 := h.cnt
  have h2 := h.rts
  have h3 := h.ops k (by simp)
  dsimp only at h1 h2
  have hk14 : ¬14 ≤ k := by
    intro h14
    rcases h3 with rfl | rfl | h | h
    · omega
    · omega
    · have : lvO k = 0 ∨ lvO k = 1 := by unfold lvO; split; exact .inl rfl; rw [if_pos (by omega)]; exact .inr rfl
      omega
    · omega
  rw [nBin_snoc, if_neg hk14] at h2
  have hll : (l ++ [k]).length = l.length + 1 := by simp
  unfold popM
  dsimp only
  rw [List.dropLast_concat]
  exact ⟨by dsimp only; omega, by dsimp only; omega, fun x hx => h.ops x (List.mem_append_left _ hx)⟩
theorem inv_t {x : Tn} {r : List Tn} {m : Mc} {z : Rz} (h : RunT (x :: r) m true z) :
    if x.1 = [33] then RunT r (pushM m 7) true z
    else if x.1 = [40] then RunT r (pushM m 0) true z
    else if x.1 = [35] then (match numV (hdT r).1 with
      | none => z = (1, ((hdT r).2 : Int), [])
      | some n => if n ≤ mostN 3 then RunT r.tail (leafM m ⟨3, n, 0, 0⟩) false z else z = (3, ((hdT r).2 : Int), []))
    else if kindN x.1 = 0 then z = (1, (x.2 : Int), [])
    else if kindN x.1 = 1 ∨ kindN x.1 = 2 ∨ kindN x.1 = 6 then RunT r (leafM m ⟨kindN x.1, 0, 0, 0⟩) false z
    else if (hdT r).1 ≠ [40] then z = (1, ((hdT r).2 : Int), [])
    else if ar (kindN x.1) = 1 then RunT r.tail (pushM m (-(kindN x.1 : Int))) true z
    else match numV (hdT r.tail).1 with
      | none => z = (1, ((hdT r.tail).2 : Int), [])
      | some n => if n ≤ mostN (kindN x.1) then (if (hdT r.tail.tail).1 ≠ [41] then z = (1, ((hdT r.tail.tail).2 : Int), []) else RunT r.tail.tail.tail (leafM m ⟨kindN x.1, n, 0, 0⟩) false z) else z = (3, ((hdT r.tail).2 : Int), []) := by
  obtain ⟨f, hf⟩ := h
  cases f with
  | zero => cases hf
  | succ f =>
    unfold mR at hf
    split
    · rename_i c; rw [if_pos c] at hf; exact ⟨f, hf⟩
    rename_i c1; rw [if_neg c1] at hf
    split
    · rename_i c; rw [if_pos c] at hf; exact ⟨f, hf⟩
    rename_i c2; rw [if_neg c2] at hf
    split
    · rename_i c; rw [if_pos c] at hf
      unfold numA at hf
      cases hn : numV (hdT r).1 with
      | none => rw [hn] at hf; exact (Option.some.inj hf).symm
      | some n =>
        rw [hn] at hf
        dsimp only at hf ⊢
        split
        · rename_i c3; rw [if_pos c3] at hf; exact ⟨f, hf⟩
        · rename_i c3; rw [if_neg c3] at hf; exact (Option.some.inj hf).symm
    rename_i c3; rw [if_neg c3] at hf
    split
    · rename_i c; rw [if_pos c] at hf; exact (Option.some.inj hf).symm
    rename_i c4; rw [if_neg c4] at hf
    split
    · rename_i c; rw [if_pos c] at hf; exact ⟨f, hf⟩
    rename_i c5; rw [if_neg c5] at hf
    split
    · rename_i c; rw [if_pos c] at hf; exact (Option.some.inj hf).symm
    rename_i c6; rw [if_neg c6] at hf
    split
    · rename_i c; rw [if_pos c] at hf; exact ⟨f, hf⟩
    rename_i c7; rw [if_neg c7] at hf
    unfold numA at hf
    cases hn : numV (hdT r.tail).1 with
    | none => rw [hn] at hf; exact (Option.some.inj hf).symm
    | some n =>
      rw [hn] at hf
      dsimp only at hf ⊢
      split
      · rename_i c8; rw [if_pos c8] at hf
        split
        · rename_i c9; rw [if_pos c9] at hf; exact (Option.some.inj hf).symm
        · rename_i c9; rw [if_neg c9] at hf; exact ⟨f, hf⟩
      · rename_i c8; rw [if_neg c8] at hf; exact (Option.some.inj hf).symm
theorem inv_f0 {x : Tn} {r : List Tn} {m : Mc} {z : Rz} (h : RunT (x :: r) m false z) (ho : opW x.1 = none) : z = (1, (x.2 : Int), []) := by
  obtain ⟨f, hf⟩ := h
  cases f with
  | zero => cases hf
  | succ f =>
    unfold mR at hf
    rw [ho] at hf
    exact (Option.some.inj hf).symm
theorem inv_f {x : Tn} {r : List Tn} {m : Mc} {z : Rz} {op : Int} (h : RunT (x :: r) m false z) (ho : opW x.1 = some op) :
    if 0 < op then RunT r (pushM (rdy op m) op) true z
    else if decide (x.1 = []) ≠ decide ((rdy op m).ops = []) then z = (1, (x.2 : Int), [])
    else if x.1 = [41] then (if lastO (rdy op m).ops < 0 then RunT r (redM (rdy op m)) false z else RunT r (popM (rdy op m)) false z)
    else RunT r (rdy op m) false z := by
  obtain ⟨f, hf⟩ := h
  cases f with
  | zero => cases hf
  | succ f =>
    unfold mR at hf
    rw [ho] at hf
    dsimp only at hf
    split
    · rename_i c; rw [if_pos c] at hf; exact ⟨f, hf⟩
    rename_i c1; rw [if_neg c1] at hf
    split
    · rename_i c; rw [if_pos c] at hf; exact (Option.some.inj hf).symm
    rename_i c2; rw [if_neg c2] at hf
    split
    · rename_i c; rw [if_pos c] at hf
      split
      · rename_i c; rw [if_pos c] at hf; exact ⟨f, hf⟩
      · rename_i c; rw [if_neg c] at hf; exact ⟨f, hf⟩
    · rename_i c; rw [if_neg c] at hf; exact ⟨f, hf⟩
theorem inv_nil {m : Mc} {b : Bool} {z : Rz} (h : RunT [] m b z) : z = (0, 0, m.ns) := by
  obtain ⟨f, hf⟩ := h
  cases f with
  | zero => cases hf
  | succ f => unfold mR at hf; exact (Option.some.inj hf).symm
def prI (L : List Tn) (z : Rz) (i : Nat) (m : Mc) (b : Bool) (c ix : Int) : Prop := (c = 0 ∧ RunT (L.drop i) m b z ∧ okMc i m b) ∨ (c ≠ 0 ∧ z.1 = c ∧ z.2.1 = ix)
theorem tks_next {t : Bs} {i : Nat} {x : Tn} (h : (tksQ t)[i]? = some x) (h0 : x.1 ≠ []) : i + 1 < (tksQ t).length := by
  unfold tksQ at h ⊢
  rw [List.length_append, List.length_singleton]
  by_cases hi : i < (tkL t t.length).length
  · omega
  · rw [List.getElem?_append_right (by omega)] at h
    by_cases h1 : i - (tkL t t.length).length = 0
    · rw [h1] at h
      simp at h
      rw [← h] at h0
      exact absurd rfl h0
    · rw [List.getElem?_eq_none (by simp; omega)] at h; cases h
theorem Ts_len {t : Bs} : ∀ (f e : Nat), ∀ x ∈ Ts t f e, x.1.length ≤ t.length
  | 0, e, x, hx => by unfold Ts at hx; rw [List.mem_singleton.1 hx]; exact Nat.zero_le _
  | f + 1, e, x, hx => by
    unfold Ts at hx
    split at hx
    · rcases List.mem_cons.1 hx with rfl | hx
      · exact tok_len t _ _
      · exact Ts_len f _ x hx
    · rw [List.mem_singleton.1 hx]; exact Nat.zero_le _
theorem tks_wl {t : Bs} {x : Tn} (hx : x ∈ tksQ t) : x.1.length ≤ t.length := by
  rw [tk_all (t.length + 1) 0 (Nat.zero_le _) (fun _ => rfl) (by omega)] at hx
  exact Ts_len _ _ x hx
structure okL (L : List Tn) : Prop where
  len : L.length ≤ 301
  nxt : ∀ (i : Nat) (x : Tn), L[i]? = some x → x.1 ≠ [] → i + 1 < L.length
  dig : ∀ (i : Nat) (x : Tn), L[i]? = some x → dgW x.1 ∧ x.1.length ≤ 300
theorem okL_of {t : Bs} (h : t.length ≤ 300) : okL (tksQ t) :=
  ⟨by have := tks_len t; omega, fun i x hx h0 => tks_next hx h0, fun i x hx => ⟨tks_dig (List.mem_of_getElem? hx), by have := tks_wl (List.mem_of_getElem? hx); omega⟩⟩
theorem drop_x {L : List Tn} {i : Nat} {x : Tn} (h : L[i]? = some x) : L.drop i = x :: L.drop (i + 1) := by
  obtain ⟨h1, h2⟩ := List.getElem?_eq_some_iff.1 h
  rw [List.drop_eq_getElem_cons h1, h2]
theorem hd_drop {L : List Tn} {i : Nat} {x : Tn} (h : L[i]? = some x) : hdT (L.drop i) = x := by rw [drop_x h]; rfl
theorem tl_drop (L : List Tn) (i : Nat) : (L.drop i).tail = L.drop (i + 1) := by rw [List.tail_drop]
theorem kind_iff {w : Bs} {k : Nat} (h1 : 1 ≤ k) (h : k ≤ 16) : (w ≠ [] ∧ wordN (k : Int) = w) ↔ kindN w = k := by
  unfold wordN
  rw [Int.toNat_natCast]
  constructor
  · rintro ⟨h0, hw⟩
    refine kind_at (by omega) hw h0 fun j hj he => ?_
    have hne : wordsL.getD k [] ≠ [] := by rw [hw]; exact h0
    have hee : wordsL.getD j [] = wordsL.getD k [] := by rw [he, hw]
    have : ∀ k, k < 17 → ∀ j, j < k → wordsL.getD k [] ≠ [] → wordsL.getD j [] = wordsL.getD k [] → False := by decide
    exact this k (by omega) j hj hne hee
  · intro hk
    have hw0 : w ≠ [] := fun h => by rw [h] at hk; have : kindN [] = 0 := rfl; omega
    refine ⟨hw0, ?_⟩
    unfold kindN at hk
    rw [if_neg hw0] at hk
    cases hf : (List.range 17).find? fun k => decide (wordsL.getD k [] = w) with
    | none => rw [hf] at hk; have : 0 = k := hk; omega
    | some j =>
      rw [hf] at hk
      obtain rfl : j = k := hk
      have h2 := List.find?_some hf
      simpa using h2
def kfN (w : Bs) (k : Nat) : Nat := if kindN w < k then kindN w else 0
theorem kf_step {w : Bs} {k : Nat} (h1 : 1 ≤ k) (h : k ≤ 16) : kfN w (k + 1) = if w ≠ [] ∧ wordN (k : Int) = w then k else kfN w k := by
 unfold kfN
 split
 ·rename_i h2
  split
  ·rename_i h3; exact (kind_iff h1 h).1 h3
  ·rename_i h3
   have : kindN w ≠ k := fun h' => h3 ((kind_iff h1 h).2 h')
   rw [if_pos (by omega)]
 ·rename_i h2
  rw [if_neg (fun h3 => by have := (kind_iff h1 h).1 h3; omega), if_neg (by omega)]
theorem kf_one (w : Bs) : kfN w 1 = 0 := by unfold kfN; split <;> omega
theorem kf_end (w : Bs) : kfN w 17 = kindN w := by
  unfold kfN
  rw [if_pos]
  rcases kind_cases w with h | h | h | h | h | h | h <;> omega
theorem limR_c {z : Rz} {c ix : Int} (h0 : c ≠ 0) (h1 : z.1 = c) (h2 : z.2.1 = ix) : limR z = (c, ix, []) := by unfold limR; rw [if_pos (by rw [h1]; exact h0), h1, h2]
theorem num_split {w : Bs} (hd : dgW w) (k c i : Int) (a : Nat) : (numV w = none ∧ faX w = 0 ∧ faC w k c = 1 ∧ faI w a k i = a) ∨ ∃ n : Nat, numV w = some (n : Int) ∧ n < 10000000 ∧ faX w = n ∧ (((n : Int) ≤ k ∧ faC w k c = c ∧ faI w a k i = i) ∨ (¬(n : Int) ≤ k ∧ faC w k c = 3 ∧ faI w a k i = a)) := by
  rw [num_ref hd]
  unfold faX faC faI
  cases hb : nbR w with
  | false => exact .inl ⟨by simp, by simp, by simp, by simp⟩
  | true =>
    refine .inr ⟨nvR w, by simp, ?_, by simp, ?_⟩
    · unfold nbR at hb
      simp only [Bool.and_eq_true, Bool.or_eq_true, decide_eq_true_eq] at hb
      have := nv_small (w := w) (i := w.length) (hd (by omega) hb.2.1) hb.1.2
      rwa [List.take_length] at this
    · by_cases hk : (nvR w : Int) ≤ k
      · exact .inl ⟨hk, by simp [hk], by simp [hk]⟩
      · exact .inr ⟨hk, by simp [hk], by simp [hk]⟩
theorem redB_of {op : Int} {ns : List Nd} {rs l : List Int} {k : Int} : redB op ⟨ns, rs, l ++ [k]⟩ = (decide (0 ≤ lvO k) && (decide (op = 0) || decide (lvO op ≤ lvO k))) := by
  unfold redB
  dsimp only
  rw [lastO_snoc, decide_eq_true (p := l ++ [k] ≠ []) (by simp), Bool.true_and]
theorem rdy_yes {op : Int} {m : Mc} (h : redB op m = true) : rdy op m = rdy op (redM m) := by
  obtain ⟨ns, rs, ops⟩ := m
  have h0 : ops ≠ [] := by
    intro h0; subst h0; cases h
  obtain ⟨l, k, rfl⟩ := snoc_of h0
  rw [redB_of, Bool.and_eq_true, Bool.or_eq_true, decide_eq_true_eq, decide_eq_true_eq, decide_eq_true_eq] at h
  exact rdy_pre h.1 h.2

theorem kd_leaf {k : Nat} (hk : k = 0 ∨ k = 1 ∨ k = 2 ∨ k = 4 ∨ k = 5 ∨ k = 6 ∨ (8 ≤ k ∧ k ≤ 13)) (h0 : ¬k = 0) (h : mostN (k : Int) = 0 ∧ ar (k : Int) = 0) : k = 1 ∨ k = 2 ∨ k = 6 := by
  obtain ⟨h1, h2⟩ := h
  rcases hk with h | h | h | h | h | h | h
  · exact absurd h h0
  · omega
  · omega
  · subst h; exact absurd h1 (by decide)
  · subst h; exact absurd h1 (by decide)
  · omega
  · have : ar (k : Int) = 1 := by unfold ar; rw [if_neg (by omega), if_pos (by omega)]
    omega
theorem kd_leaf' {k : Nat} (h : k = 1 ∨ k = 2 ∨ k = 6) : mostN (k : Int) = 0 ∧ ar (k : Int) = 0 := by
  rcases h with rfl | rfl | rfl <;> exact ⟨rfl, rfl⟩
theorem kd_one {k : Nat} (hk : k = 0 ∨ k = 1 ∨ k = 2 ∨ k = 4 ∨ k = 5 ∨ k = 6 ∨ (8 ≤ k ∧ k ≤ 13)) (h : ar (k : Int) = 1) : opOk (-(k : Int)) := by
  rcases ar_or (k : Int) with ⟨_, h2⟩ | ⟨h1, h2, _⟩ | ⟨_, h2⟩
  · omega
  · exact .inr (.inr (.inr (by omega)))
  · omega
theorem push_rows (m : Mc) (k : Int) : rows eI (List.take m.ops.length m.ops) ++ [[.int .i64 k]] = rows eI (pushM m k).ops := by rw [List.take_of_length_le (Nat.le_refl _)]; exact snI_rows _ _
theorem push_len (m : Mc) (k : Int) : m.ops.length + 1 = (pushM m k).ops.length := by show _ = (m.ops ++ [k]).length; simp
theorem leaf_rows (m : Mc) (a b : Int) : rows eN (List.take m.ns.length m.ns) ++ [[.int .i64 a, .int .i64 b, .int .i64 0, .int .i64 0]] = rows eN (leafM m ⟨a, b, 0, 0⟩).ns := by rw [List.take_of_length_le (Nat.le_refl _)]; exact addN_rows _ _ _ _ _
theorem leaf_len (m : Mc) (n : Nd) : m.ns.length + 1 = (leafM m n).ns.length := by show _ = (m.ns ++ [n]).length; simp
theorem leafr_rows (m : Mc) (n : Nd) : rows eI (List.take m.rs.length m.rs) ++ [[.int .i64 (m.ns.length : Int)]] = rows eI (leafM m n).rs := by rw [List.take_of_length_le (Nat.le_refl _)]; exact snI_rows _ _
theorem leafr_len (m : Mc) (n : Nd) : m.rs.length + 1 = (leafM m n).rs.length := by show _ = (m.rs ++ [_]).length; simp
theorem mcB_rows (a : List Nd) (b c : List Int) : mcB (rows eN a) (rows eI b) (rows eI c) = ⟨a, b, c⟩ := by unfold mcB; rw [dN_rows, dI_rows, dI_rows]
theorem preR_ok {ns : List Nd} {rs ops : List Int} {z : Nat} (h : z = ops.length) : preR 92 39 4 ns.length 3 1 rs.length 3 1 z (rows eN ns) (rows eI rs) (rows eI ops) := by
  unfold preR
  rw [dN_rows, dI_rows, dI_rows]
  exact ⟨rfl, ⟨rfl, rfl, rfl, rfl⟩, ⟨rfl, rfl, rfl, rfl⟩, ⟨rfl, rfl, rfl, h⟩⟩
def nxI (P : Prop) (z : Rz) (c ix : Int) : Prop := (c = 0 ∧ P) ∨ (c ≠ 0 ∧ z.1 = c ∧ z.2.1 = ix)
def nx2 (L : List Tn) (j : Nat) (m2 : Mc) (z : Rz) : Prop := ∃ x : Tn, L[j]? = some x ∧ if x.1 ≠ [41] then z = (1, (x.2 : Int), []) else RunT (L.drop (j + 1)) m2 false z
theorem pop_eq (ns : List Nd) (rs l : List Int) (k : Int) : popM ⟨ns, rs, l ++ [k]⟩ = ⟨ns, rs, l⟩ := by unfold popM; dsimp only; rw [List.dropLast_concat]
theorem sbt_ {p : Prop} (h : p := by (first | with_reducible rfl | exact push_rows _ _ | exact push_len _ _ | exact leaf_rows _ _ _ | exact leafr_rows _ _ | exact leaf_len _ _ | exact leafr_len _ _ | exact Or.inl rfl | (rw [pop_eq]; done) | (rw [pop_eq]; rfl) | rfl | (first | rfl | exact Or.inr rfl | exact Or.inl rfl | trivial | omega | assumption | (simp; done) | (simp; omega)))) : p := h
theorem q_cases (ops : List Int) (op : Int) : ops = [] ∨ (∃ l k, ops = l ++ [k] ∧ lvO k < 0) ∨ (∃ l k, ops = l ++ [k] ∧ 0 ≤ lvO k ∧ op = 0) ∨ (∃ l k, ops = l ++ [k] ∧ 0 ≤ lvO k ∧ ¬op = 0 ∧ lvO op ≤ lvO k) ∨ (∃ l k, ops = l ++ [k] ∧ 0 ≤ lvO k ∧ ¬op = 0 ∧ lvO k < lvO op) := by
  by_cases h : ops = []
  · exact .inl h
  obtain ⟨l, k, rfl⟩ := snoc_of h
  by_cases h1 : 0 ≤ lvO k
  · by_cases h2 : op = 0
    · exact .inr (.inr (.inl ⟨l, k, rfl, h1, h2⟩))
    · by_cases h3 : lvO op ≤ lvO k
      · exact .inr (.inr (.inr (.inl ⟨l, k, rfl, h1, h2, h3⟩)))
      · exact .inr (.inr (.inr (.inr ⟨l, k, rfl, h1, h2, by omega⟩)))
  · exact .inr (.inl ⟨l, k, rfl, by omega⟩)
theorem q_cases2 (w : Bs) (ops : List Int) (hw : w = [41] ∨ w = []) : (w = [] ∧ ops = []) ∨ (w = [] ∧ ∃ l k, ops = l ++ [k]) ∨ (w = [41] ∧ ops = []) ∨ (w = [41] ∧ ∃ l k, ops = l ++ [k]) := by
  by_cases h : ops = []
  · rcases hw with h1 | h1
    · exact .inr (.inr (.inl ⟨h1, h⟩))
    · exact .inl ⟨h1, h⟩
  · obtain ⟨l, k, rfl⟩ := snoc_of h
    rcases hw with h1 | h1
    · exact .inr (.inr (.inr ⟨h1, l, k, rfl⟩))
    · exact .inr (.inl ⟨h1, l, k, rfl⟩)
theorem opW_zero {w : Bs} (h : opW w = some 0) : w = [41] ∨ w = [] := by
  unfold opW at h
  split at h
  · cases h
  · split at h
    · cases h
    · split at h
      · cases h
      · split at h
        · assumption
        · cases h
theorem redB_last {ns : List Nd} {rs l : List Int} {k : Int} (h : redB 0 ⟨ns, rs, l ++ [k]⟩ = false) : lvO k < 0 := by
  rw [redB_of] at h
  by_cases h0 : 0 ≤ lvO k
  · rw [decide_eq_true h0] at h; simp at h
  · omega
end Go.Proofs.YtlbjffdaooadoaaDoor
