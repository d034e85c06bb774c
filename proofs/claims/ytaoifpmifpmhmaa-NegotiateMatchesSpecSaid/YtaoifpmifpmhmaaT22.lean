/- Walks, printed by wip/gen/walk.py. -/
import Derived.Test.YtaoifpmifpmhmaaT21
import Derived.Test.YtaoifpmifpmhmaaV4
set_option linter.all false
set_option maxRecDepth 100000
set_option maxHeartbeats 4000000
namespace Go.Proofs.Ytaoifpmifpmhmaa
open Go Go.Vc Go.RowKit
theorem histF_valid {l : List Cm} (hv : Valid l) : histF l = (0, 0) := by
  refine hist_ok (by have := hv.len; omega) fun i hi => ?_
  obtain ⟨c, hc⟩ := getE hi
  rw [getD_of hc]
  have hn := hv.nums hc
  refine cm_msg (by have := hv.few hc; omega) (fun k hk => ?_) hn.1 hn.2.1 hn.2.2.1 (if_neg (by omega))
  obtain ⟨p, hp⟩ := getE hk
  obtain ⟨q, hq⟩ := getE (l := c.par) (i := ((k : Int) - 1).toNat) (by omega)
  have := hv.par hc hp
  refine par_0 hp hq this.1 this.2 fun h => ?_
  have e : ((k : Int) - 1).toNat + 1 = k := by omega
  exact hv.inc hc hq (by rw [e]; exact hp)
theorem lst_at {n : Nat} {f : Nat → Bool} {k : Nat} {p : Int} (h : (lst n f)[k]? = some p) : 0 ≤ p ∧ p < n ∧ f p.toNat = true := by
  obtain ⟨j, h1, h2, rfl⟩ := lst_mem.1 (List.mem_of_getElem? h)
  exact ⟨by omega, by omega, by simpa using h2⟩
theorem exR_at {l : List Cm} {ns : List Int} (h : Sel l ns) {i : Nat} {d : Cm} (hd : (exR l ns)[i]? = some d) : ∃ x c, i < ns.length ∧ ns[i]? = some x ∧ l[x.toNat]? = some c ∧ d = ⟨lst i (fun k => decide (ns.getD k 0 ∈ c.par)), c.au, c.ti, c.tr, c.ms⟩ := by
  have hi := (List.getElem?_eq_some_iff.1 hd).1
  rw [exR_len] at hi
  obtain ⟨x, hx⟩ := getE hi
  have hr := h.inr.at hx
  obtain ⟨c, hc⟩ := getE (l := l) (i := x.toNat) (by omega)
  rw [exR_get hi, exC_at hx hc] at hd
  exact ⟨x, c, hi, hx, hc, (Option.some.inj hd).symm⟩
theorem ex_valid {l : List Cm} {ns : List Int} (h : Sel l ns) : Valid (exR l ns) where
  len := by rw [exR_len]; have := h.len; have := h.val.len; omega
  few := by
    intro i d hd
    obtain ⟨x, c, hi, hx, hc, rfl⟩ := exR_at h hd
    show (lst i fun k => decide (ns.getD k 0 ∈ c.par)).length ≤ 3
    rw [← ex_par h hx hc]
    have := h.val.few hc
    unfold psK; rw [List.length_map]
    exact Nat.le_trans (List.length_filter_le _ _) this
  par := by
    intro i d hd k p hp
    obtain ⟨x, c, hi, hx, hc, rfl⟩ := exR_at h hd
    have := lst_at hp
    omega
  inc := by
    intro i d hd k p q hp hq
    obtain ⟨x, c, hi, hx, hc, rfl⟩ := exR_at h hd
    have hs := lst_sorted i (fun k => decide (ns.getD k 0 ∈ c.par))
    exact sorted_lt hs hp hq (by omega)
  nums := by
    intro i d hd
    obtain ⟨x, c, hi, hx, hc, rfl⟩ := exR_at h hd
    have hn := h.val.nums hc
    exact hn
theorem ex_anc {l : List Cm} {ns : List Int} (h : Sel l ns) {i k : Nat} (ha : Anc (exR l ns) i k) : Anc l (ns.getD i 0).toNat (ns.getD k 0).toNat := by
  induction ha with
  | refl i => exact .refl _
  | @step i j k hp _ ih =>
    have hj := (ex_valid h).parD hp
    obtain ⟨d, hd⟩ := getE hj.2.2
    rw [getD_of hd] at hp
    obtain ⟨x, c, hi, hx, hc, rfl⟩ := exR_at h hd
    obtain ⟨m, hm, hf, he⟩ := lst_mem.1 hp
    have : j = m := by omega
    subst this
    simp only [decide_eq_true_eq] at hf
    obtain ⟨y, hy⟩ := getE (l := ns) (i := j) (by omega)
    have hr := h.inr.at hy
    rw [getD_of hy] at hf ih
    refine .step ?_ ih
    rw [getD_of hx, getD_of hc, show ((y.toNat : Nat) : Int) = y by omega]
    exact hf
theorem ex_anc_conv {l : List Cm} {ns : List Int} (h : Sel l ns) (hb : bndR l ns = []) {a y : Nat} (ha : Anc l a y) : ∀ {i : Nat} {x : Int}, ns[i]? = some x → x.toNat = a → ∃ (m : Nat) (z : Int), ns[m]? = some z ∧ z.toNat = y ∧ Anc (exR l ns) i m := by
  induction ha with
  | refl a => intro i x hx he; exact ⟨i, x, hx, he, .refl i⟩
  | @step a j y hp _ ih =>
    intro i x hx he
    have hxn := List.mem_of_getElem? hx
    have hr := h.inr.at hx
    have hjp := h.val.parD hp
    have hnb := List.filter_eq_nil_iff.1 hb x hxn
    simp only [List.any_eq_true, not_exists, not_and, outB, Bool.not_eq_true', decide_eq_false_iff_not, Decidable.not_not] at hnb
    have hjn : (j : Int) ∈ ns := hnb j (by rw [he]; exact hp)
    obtain ⟨m, hm⟩ := List.getElem?_of_mem hjn
    obtain ⟨m', z, h1, h2, h3⟩ := ih hm (by simp)
    have hmi : m < i := by
      rcases Nat.lt_trichotomy m i with g | g | g
      · exact g
      · subst g; rw [hx] at hm; cases hm; omega
      · have := sorted_lt h.inc hx hm g; omega
    obtain ⟨c, hc⟩ := getE (l := l) (i := x.toNat) (by omega)
    have hil := (List.getElem?_eq_some_iff.1 hx).1
    refine ⟨m', z, h1, h2, .step (j := m) ?_ h3⟩
    rw [getD_of (exR_get hil), exC_at hx hc]
    refine lst_mem.2 ⟨m, hmi, ?_, rfl⟩
    rw [he] at hc
    rw [getD_of hc] at hp
    rw [getD_of hm]; exact decide_eq_true hp
/-- What the law asks of two places. -/
theorem ex_keeps {l : List Cm} {ns : List Int} (h : Sel l ns) {i k : Nat} {x y : Int} (hx : ns[i]? = some x) (hy : ns[k]? = some y) :
    (ancB (exR l ns) i k = true → ancB l x.toNat y.toNat = true) ∧ ((bndR l ns).length = 0 → ancB l x.toNat y.toNat = true → ancB (exR l ns) i k = true) := by
  have hv := ex_valid h
  rw [anc_iff hv, anc_iff h.val]
  constructor
  · intro ha
    have := ex_anc h ha
    rwa [getD_of hx, getD_of hy] at this
  · intro hb ha
    obtain ⟨m, z, h1, h2, h3⟩ := ex_anc_conv h (List.length_eq_zero_iff.1 hb) ha hx rfl
    have hz := h.inr.at h1
    have hw := h.inr.at hy
    have : m = k := by
      rcases Nat.lt_trichotomy m k with g | g | g
      · have := sorted_lt h.inc h1 hy g; omega
      · exact g
      · have := sorted_lt h.inc hy h1 g; omega
    subst this
    exact h3
theorem keeps_bool {u v : Bool} {n : Nat} (h1 : u = true → v = true) (h2 : n = 0 → v = true → u = true) : (u && !v || v && !u && decide ((n : Int) = 0)) = false := by
  cases u <;> cases v <;> simp_all
end Go.Proofs.Ytaoifpmifpmhmaa
