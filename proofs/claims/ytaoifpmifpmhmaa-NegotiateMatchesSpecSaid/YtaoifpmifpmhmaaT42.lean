/- Walks, printed by wip/gen/walk.py. -/
import Derived.Test.YtaoifpmifpmhmaaT41
import Derived.Test.YtaoifpmifpmhmaaV4
set_option linter.all false
set_option maxRecDepth 100000
set_option maxHeartbeats 4000000
namespace Go.Proofs.Ytaoifpmifpmhmaa
open Go Go.Vc Go.RowKit
theorem dB3 (a b c : Bool) : dB [[D.bool a], [D.bool b], [D.bool c]] = [a, b, c] := rfl
theorem ex_negF : negF (chainR 3) [true, true, true] [true, false, false] [2] = (0, 0) := by decide
theorem ex_miss : missR (chainR 3) [true, false, false] [2] = [1, 2] := by decide
theorem ex_end : endR (chainR 3) [true, true, true] [true, false, false] = 1 := by decide
theorem ex_sent : sentR (chainR 3) [true, true, true] [true, false, false] [2] = [1, 2] := by decide
theorem ex_rds : (rdsT (chainR 3) [true, true, true] [true, false, false] 1).2 = [[0]] := by decide
def lawNG : List AV → Option (Prop × AV)
  | [.d (.sl xs), .d (.sl ss), .d (.sl rs), .d (.sl ws)] => some (xs = rows eC (dC xs) ∧ ss = rows eB (dB ss) ∧ rs = rows eB (dB rs) ∧ ws = rows eI (dI ws) ∧ (dC xs).length ≤ 9223372036854775807 ∧ smallC (dC xs) ∧ (dB ss).length ≤ 9223372036854775807 ∧ (dB rs).length ≤ 9223372036854775807 ∧ (dI ws).length ≤ 9223372036854775807, .d (.bool true))
  | _ => none
theorem rds_get {l : List Cm} {ss rs : List Bool} {i r : Nat} (h : i < r) : (rdsT l ss rs r).2[i]? = some (batR l ss rs i) := by
  induction r with
  | zero => omega
  | succ r ih =>
    rw [rdsT]
    by_cases hir : i = r
    · subst hir
      rw [List.getElem?_append_right (by rw [rds_len]; exact Nat.le_refl _), rds_len, Nat.sub_self]; rfl
    · rw [List.getElem?_append_left (by rw [rds_len]; omega)]; exact ih (by omega)
theorem sent_len (l : List Cm) (ss rs : List Bool) (ws : List Int) : (sentR l ss rs ws).length ≤ l.length := lst_len _ _
theorem miss_len (l : List Cm) (rs : List Bool) (ws : List Int) : (missR l rs ws).length ≤ l.length := lst_len _ _
/-- What the receiver has with some more commits. -/
def hasB (rs : List Bool) (m : List Int) (k : Nat) : Bool := rs.getD k false || mark m k
theorem list_vec {rs : List Bool} {n : Nat} (h : rs.length = n) : rs = vec n (hasB rs []) := by
  apply List.ext_getElem?
  intro i
  by_cases hi : i < n
  · obtain ⟨b, hb⟩ := getE (l := rs) (i := i) (by omega)
    rw [vec_get hi, hb]; unfold hasB; rw [getD_of hb]; simp [mark]
  · rw [List.getElem?_eq_none (by omega), List.getElem?_eq_none (by rw [vec_len]; omega)]
theorem has_set {rs : List Bool} {m : List Int} {j n : Nat} {x : Int} (h : m[j]? = some x) (h0 : 0 ≤ x) : (vec n (hasB rs (m.take j))).set x.toNat true = vec n (hasB rs (m.take (j + 1))) := by
  rw [vec_set]; refine vec_ext fun k _ => ?_
  simp only [setB, hasB, mark, mem_snoc h]
  split
  · rename_i hk
    have : (k : Int) = x := by omega
    simp [this]
  · rename_i hk
    have : ¬(k : Int) = x := by omega
    simp [this]
theorem sent_at {l : List Cm} {ss rs : List Bool} {ws : List Int} (h : Neg l ss rs ws) {j : Nat} {x : Int} (hx : (sentR l ss rs ws)[j]? = some x) : 0 ≤ x ∧ x < l.length ∧ ss.getD x.toNat false = true ∧ hasB rs ((sentR l ss rs ws).take j) x.toNat = false := by
  have h1 := lst_at hx
  simp only [Bool.and_eq_true, Bool.not_eq_true'] at h1
  obtain ⟨h2, h3, h4, h5⟩ := h1
  obtain ⟨w, hw, ha⟩ := (of_iff h.val).1 h4
  have hr := h.inr w hw
  have hs := part_anc h.sg ha (by omega) h.val (h.snd w hw)
  rw [com_end h (by omega) hs] at h5
  refine ⟨h2, h3, hs, ?_⟩
  have hn : x ∉ (sentR l ss rs ws).take j := sorted_not (lst_sorted _ _) hx
  unfold hasB mark
  rw [h5, show ((x.toNat : Nat) : Int) = x by omega, decide_eq_false hn]; rfl
theorem has_end {l : List Cm} {ss rs : List Bool} {ws : List Int} (h : Neg l ss rs ws) {k : Nat} (hk : k < l.length) : hasB rs (sentR l ss rs ws) k = (rs.getD k false || ofB l ws k) := by
  unfold hasB
  have hm := mark_lst (f := fun k => ofB l ws k && !(comV l ss (rdsT l ss rs (endR l ss rs)).1 k)) hk
  unfold sentR
  rw [hm]
  cases ho : ofB l ws k
  · simp
  · obtain ⟨w, hw, ha⟩ := (of_iff h.val).1 ho
    have hr := h.inr w hw
    rw [com_end h hk (part_anc h.sg ha (by omega) h.val (h.snd w hw))]
    cases rs.getD k false <;> rfl
theorem has_want {l : List Cm} {ss rs : List Bool} {ws : List Int} (h : Neg l ss rs ws) {w : Int} (hw : w ∈ ws) : hasB rs (sentR l ss rs ws) w.toNat = true := by
  have hr := h.inr w hw
  rw [has_end h (by omega), (of_iff h.val).2 ⟨w, hw, .refl _⟩, Bool.or_true]
theorem has_par {l : List Cm} {ss rs : List Bool} {ws : List Int} (h : Neg l ss rs ws) {i : Nat} {c : Cm} {p : Int} (hc : l[i]? = some c) (hp : p ∈ c.par) (hi : hasB rs (sentR l ss rs ws) i = true) : hasB rs (sentR l ss rs ws) p.toNat = true := by
  have hil := (List.getElem?_eq_some_iff.1 hc).1
  have hpd : p ∈ (l.getD i default).par := by rw [getD_of hc]; exact hp
  have hpr := h.val.parD hpd
  have hst : Anc l i p.toNat := .step (j := p.toNat) (by rw [show ((p.toNat : Nat) : Int) = p by omega]; exact hpd) (.refl _)
  rw [has_end h hil, Bool.or_eq_true] at hi
  rw [has_end h (by omega), Bool.or_eq_true]
  rcases hi with hi | hi
  · exact .inl (part_anc h.rg hst hil h.val hi)
  · obtain ⟨w, hw, ha⟩ := (of_iff h.val).1 hi
    exact .inr ((of_iff h.val).2 ⟨w, hw, ha.trans hst⟩)
theorem bat_at {l : List Cm} {ss rs : List Bool} (hv : Valid l) {i k : Nat} {x : Int} (hx : (batR l ss rs i)[k]? = some x) : 0 ≤ x ∧ x < l.length ∧ rs.getD x.toNat false = true ∧ x ∉ (batR l ss rs i).take k ∧ ∀ t ∈ (rdsT l ss rs i).1, t ≠ x ∧ (ss.getD t.toNat false && ancB l t.toNat x.toNat) = false := by
  have hm := List.mem_filter.1 (List.mem_of_mem_take (List.mem_of_getElem? hx))
  have ho := ord_all hv l.length (Nat.le_refl _)
  have hr := ho.inr x hm.1
  have hop := hm.2
  simp only [openB, Bool.and_eq_true, Bool.not_eq_true', decide_eq_false_iff_not, List.any_eq_false] at hop
  refine ⟨hr.1, hr.2, hop.1.1, fun hmem => ?_, fun t ht => ⟨fun e => hop.1.2 (e ▸ ht), by have := hop.2 t ht; simpa using this⟩⟩
  have hnd : (batR l ss rs i).Nodup := ho.nodup.sublist (List.Sublist.trans (List.take_sublist _ _) List.filter_sublist)
  obtain ⟨j, hj⟩ := List.getElem?_of_mem hmem
  have hjk : j < k := by
    have := (List.getElem?_eq_some_iff.1 hj).1
    rw [List.length_take] at this; omega
  rw [List.getElem?_take, if_pos hjk] at hj
  have hjl := (List.getElem?_eq_some_iff.1 hj)
  have hkl := (List.getElem?_eq_some_iff.1 hx)
  obtain ⟨hj1, hj2⟩ := hjl
  obtain ⟨hk1, hk2⟩ := hkl
  have := List.pairwise_iff_getElem.1 hnd j k hj1 hk1 hjk
  exact this (by rw [hj2, hk2])
end Go.Proofs.Ytaoifpmifpmhmaa
