/- Walks, printed by wip/gen/walk.py. -/
import Derived.Test.YtjpkgmmmmcgmeaaT7
import Derived.Test.YtjpkgmmmmcgmeaaV6
import Derived.Test.YtjpkgmmmmcgmeaaV5
set_option linter.all false
set_option maxRecDepth 100000
set_option maxHeartbeats 4000000
namespace Go.Proofs.Ytjpkgmmmmcgmeaa
open Go Go.Vc Go.RowKit
/-- slices.Clone as a row of one's own. -/
def cloneF (ty : TypeId) : GFun
  | [.d (.sl xs)], [] => some (Rect 1 xs ∧ xs.length ≤ 1000000000, .sl 0 0 xs.length, [some (.vec ty 1 xs)])
  | _, _ => none

def delI (Q : Int → Bool) (l : List Int) : List Int := l.filter fun x => !Q x

theorem fidx_or (Q : Int → Bool) (l : List Int) : (fidx Q l = -1 ∧ ∀ y ∈ l, Q y = false) ∨ ∃ i : Nat, ∃ x, fidx Q l = (i : Int) ∧ l[i]? = some x ∧ Q x = true ∧ ∀ y ∈ l.take i, Q y = false := by
  unfold fidx
  split
  · rename_i h
    have hlt := List.findIdx_lt_length.2 (List.any_eq_true.1 h)
    refine .inr ⟨_, _, rfl, List.getElem?_eq_getElem hlt, List.findIdx_getElem, fun y hy => ?_⟩
    obtain ⟨j, hj⟩ := List.getElem?_of_mem hy
    rw [List.getElem?_take] at hj
    split at hj
    · rename_i hjl
      have := List.not_of_lt_findIdx hjl
      have h2 := (List.getElem?_eq_some_iff.1 hj).2
      rw [h2] at this
      simpa using this
    · cases hj
  · rename_i h
    refine .inl ⟨rfl, fun y hy => ?_⟩
    cases hq : Q y with
    | false => rfl
    | true => exact absurd (List.any_eq_true.2 ⟨y, hy, hq⟩) h
theorem delI_none {Q : Int → Bool} {l : List Int} (h : ∀ y ∈ l, Q y = false) : delI Q l = l := List.filter_eq_self.2 fun x hx => by rw [h x hx]; rfl
/-- DeleteFunc's loop. -/
structure DelInv (Q : Int → Bool) (l m : List Int) (i j : Nat) : Prop where
  len : m.length = l.length
  le : i < j
  jl : j ≤ l.length
  low : m.take i = delI Q (l.take j)
  high : m.drop j = l.drop j
theorem DelInv.start {Q : Int → Bool} {l : List Int} {i : Nat} {x : Int} (hx : l[i]? = some x) (hq : Q x = true) (hn : ∀ y ∈ l.take i, Q y = false) : DelInv Q l l i (i + 1) := by
  refine ⟨rfl, by omega, (List.getElem?_eq_some_iff.1 hx).1, ?_, rfl⟩
  unfold delI
  rw [List.take_add_one, hx, List.filter_append, show List.filter (fun x => !Q x) (Option.toList (some x)) = [] by simp [hq], List.append_nil]
  exact (delI_none hn).symm
theorem DelInv.get {Q : Int → Bool} {l m : List Int} {i j : Nat} (h : DelInv Q l m i j) (hj : j < l.length) : ∃ x, m[j]? = some x ∧ l[j]? = some x := by
  obtain ⟨x, hx⟩ := getE hj
  refine ⟨x, ?_, hx⟩
  have := congrArg (fun z => z[0]?) h.high
  simpa [List.getElem?_drop, hx] using this
theorem DelInv.keep {Q : Int → Bool} {l m : List Int} {i j : Nat} {x : Int} (h : DelInv Q l m i j) (hx : l[j]? = some x) (hq : Q x = false) : DelInv Q l (m.set i x) (i + 1) (j + 1) := by
  have hj := (List.getElem?_eq_some_iff.1 hx).1
  have := h.le; have := h.len
  refine ⟨by simp [h.len], by omega, by omega, ?_, ?_⟩
  · rw [List.take_add_one, List.take_set_of_le (Nat.le_refl _), h.low, List.getElem?_set]
    unfold delI
    rw [List.take_add_one, hx, List.filter_append]
    simp [hq, show i < m.length by omega]
  · rw [List.drop_set_of_lt (by omega), ← List.drop_drop, ← List.drop_drop, h.high]
theorem DelInv.skip {Q : Int → Bool} {l m : List Int} {i j : Nat} {x : Int} (h : DelInv Q l m i j) (hx : l[j]? = some x) (hq : Q x = true) : DelInv Q l m i (j + 1) := by
  have hj := (List.getElem?_eq_some_iff.1 hx).1
  have := h.le
  refine ⟨h.len, by omega, by omega, ?_, by rw [← List.drop_drop, ← List.drop_drop, h.high]⟩
  rw [h.low]; unfold delI
  rw [List.take_add_one, hx, List.filter_append]
  simp [hq]
theorem DelInv.fin {Q : Int → Bool} {l m : List Int} {i : Nat} (h : DelInv Q l m i l.length) : m.take i = delI Q l ∧ (delI Q l).length = i := by
  have h1 := h.low; rw [List.take_length] at h1
  refine ⟨h1, ?_⟩
  rw [← h1, List.length_take]; have := h.le; have := h.len; omega
theorem delI_len (Q : Int → Bool) (l : List Int) : (delI Q l).length ≤ l.length := List.length_filter_le _ _

def rwD (f : Nat → Bool) : List D := (List.range 60).map fun j => .bool (f j)
theorem rwD_len (f : Nat → Bool) : (rwD f).length = 60 := by simp [rwD]
theorem rwD_get {f : Nat → Bool} {k : Nat} (h : k < 60) : (rwD f)[k]? = some (.bool (f k)) := by simp [rwD, List.getElem?_range h]
theorem rwA_D (f : Nat → Bool) : rwA f = (rwD f).map AV.d := by unfold rwA rwD; rw [List.map_map]; rfl
theorem pureL_bools (f : Nat → Bool) (l : List Nat) : pureL (l.map fun j => AV.d (.bool (f j))) = some (l.map fun j => D.bool (f j)) := by
  induction l with
  | nil => rfl
  | cons a l ih => rw [List.map_cons]; unfold pureL; rw [ih]; rfl
theorem pureL_rwA (f : Nat → Bool) : pureL (rwA f) = some (rwD f) := pureL_bools f _
theorem idsL_bools (f : Nat → Bool) (l : List Nat) : idsL (l.map fun j => AV.d (.bool (f j))) = [] := by
  induction l with
  | nil => rfl
  | cons a l ih => rw [List.map_cons]; unfold idsL; rw [ih]; rfl
theorem idsL_rwA (f : Nat → Bool) : idsL (rwA f) = [] := idsL_bools f _
theorem ixL_bools (ds : List Nat) (f : Nat → Bool) (l : List Nat) : ixL ds (l.map fun j => AV.d (.bool (f j))) = some (l.map fun j => AV.d (.bool (f j))) := by
  induction l with
  | nil => rfl
  | cons a l ih => rw [List.map_cons]; unfold ixL; rw [ih]; rfl
theorem ixL_rwA (ds : List Nat) (f : Nat → Bool) : ixL ds (rwA f) = some (rwA f) := ixL_bools ds f _
theorem ouL_bools (ds : List Nat) (n : Nat) (f : Nat → Bool) (l : List Nat) : ouL ds n (l.map fun j => AV.d (.bool (f j))) = l.map fun j => AV.d (.bool (f j)) := by
  induction l with
  | nil => rfl
  | cons a l ih => rw [List.map_cons]; unfold ouL; rw [ih]; rfl
theorem ouL_rwA (ds : List Nat) (n : Nat) (f : Nat → Bool) : ouL ds n (rwA f) = rwA f := ouL_bools ds n f _
def dBl (ds : List D) (j : Nat) : Bool := match ds[j]? with
  | some (.bool b) => b
  | _ => false
theorem dBl_rwD (f : Nat → Bool) : rwD (dBl (rwD f)) = rwD f := List.map_congr_left fun j hj => by unfold dBl; rw [rwD_get (List.mem_range.1 hj)]
def aBl (cs : List AV) (j : Nat) : Bool := match cs[j]? with
  | some (.d (.bool b)) => b
  | _ => false
theorem aBl_rwA (f : Nat → Bool) : rwA (aBl (rwA f)) = rwA f := List.map_congr_left fun j hj => by unfold aBl; rw [rwA_get (List.mem_range.1 hj)]
def inR59 (l : List Int) : Prop := ∀ x ∈ l, 0 ≤ x ∧ x ≤ 59
def visQ (f : Nat → Bool) (x : Int) : Bool := f x.toNat
theorem visQ_ext {f g : Nat → Bool} (h : ∀ j, j < 60 → f j = g j) {l : List Int} (hl : inR59 l) : delI (visQ f) l = delI (visQ g) l := List.filter_congr fun x hx => by
  have := hl x hx
  unfold visQ; rw [h x.toNat (by omega)]
theorem visQ_aBl (f : Nat → Bool) {l : List Int} (hl : inR59 l) : delI (visQ (aBl (rwA f))) l = delI (visQ f) l := visQ_ext (fun j hj => by unfold aBl; rw [rwA_get hj]) hl
theorem visQ_dBl (f : Nat → Bool) {l : List Int} (hl : inR59 l) : fidx (visQ (dBl (rwD f))) l = fidx (visQ f) l := by
  have h : ∀ x ∈ l, visQ (dBl (rwD f)) x = visQ f x := fun x hx => by
    have := hl x hx
    unfold visQ dBl; rw [rwD_get (by omega)]
  unfold fidx
  have e1 : l.any (visQ (dBl (rwD f))) = l.any (visQ f) := by
    rw [Bool.eq_iff_iff, List.any_eq_true, List.any_eq_true]
    exact ⟨fun ⟨x, hx, h2⟩ => ⟨x, hx, by rw [← h x hx]; exact h2⟩, fun ⟨x, hx, h2⟩ => ⟨x, hx, by rw [h x hx]; exact h2⟩⟩
  have e2 : l.findIdx (visQ (dBl (rwD f))) = l.findIdx (visQ f) := by
    clear e1
    induction l with
    | nil => rfl
    | cons a l ih =>
      rw [List.findIdx_cons, List.findIdx_cons, h a (by simp), ih (fun x hx => hl x (by simp [hx])) (fun x hx => h x (by simp [hx]))]
  rw [e1, e2]
def vClG : List AV → Option (Prop × AV)
  | [.d (.int .i64 n), .d (.ptr ds)] => some (ds = rwD (dBl ds) ∧ 0 ≤ n ∧ n ≤ 59, .d (.bool (visQ (dBl ds) n)))
  | _ => none
def ixVG : List AV → Option (Prop × AV)
  | [.d (.sl xs), .clo (.func 46) [.d (.ptr ds)]] => some (xs = rows eI (dI xs) ∧ (dI xs).length ≤ 9223372036854775807 ∧ ds = rwD (dBl ds) ∧ inR59 (dI xs), .d (.int .i64 (fidx (visQ (dBl ds)) (dI xs))))
  | _ => none
def delVG : GFun
  | [.sl 0 0 n, .clo (.func 46) [.ptr 1 0 0]], [some (.vec t s xs), some (.one tb cs)] =>
    some (t = 3 ∧ s = 1 ∧ xs = rows eI (dI xs) ∧ n = (dI xs).length ∧ (dI xs).length ≤ 1000000000 ∧ cs = rwA (aBl cs) ∧ inR59 (dI xs),
      .sl 0 0 (delI (visQ (aBl cs)) (dI xs)).length, [some (.vec 3 1 (rows eI (delI (visQ (aBl cs)) (dI xs)))), some (.one tb cs)])
  | _, _ => none
def visG : List AV → Option (Prop × AV)
  | [.d (.sl xs), .d (.sl ys)] => some (xs = rows eM (dM xs) ∧ (dM xs).length ≤ 9223372036854775807 ∧ smallM (dM xs) ∧ ys = rows eI (dI ys) ∧ (dI ys).length ≤ 9223372036854775807, .tup [.d (.sl (rows eI (visR (dM xs) (dI ys)))), .agg [.d (.int .i64 (visF (dM xs) (dI ys)).1), .d (.int .i64 (visF (dM xs) (dI ys)).2)]])
  | _ => none
theorem rg_yes {n : Int} (h : 0 ≤ n ∧ n ≤ 59) : rgK n = true := by unfold rgK; simpa using h
theorem visC_rng {cs : List Int} {i : Nat} {n : Int} (h : cs[i]? = some n) (hr : rgK n = false) : visC cs i = (3, -2 - (i : Int)) := by unfold visC; rw [h]; dsimp only; rw [if_pos hr]
theorem visC_mal {cs : List Int} {i : Nat} {n y : Int} (h : cs[i]? = some n) (hr : rgK n = true) (h0 : 0 < i) (hy : cs[i - 1]? = some y) (hc : n ≤ y) : visC cs i = (5, -2 - (i : Int)) := by
  unfold visC; rw [h]; dsimp only; rw [if_neg (by simp [hr]), getD_at hy, if_pos ⟨h0, hc⟩]
theorem visC_ok {cs : List Int} {i : Nat} {n y : Int} (h : cs[i]? = some n) (hr : rgK n = true) (hy : 0 < i → cs[i - 1]? = some y ∧ y < n) : visC cs i = (0, 0) := by
  unfold visC; rw [h]; dsimp only
  rw [if_neg (by simp [hr]), if_neg]
  rintro ⟨h0, hc⟩
  obtain ⟨h1, h2⟩ := hy h0
  rw [getD_at h1] at hc
  omega
structure VisI (cs : List Int) : Prop where
  rng : inR59 cs
  srt : cs.Pairwise (· < ·)
theorem vis_of {cs : List Int} (h : ∀ j, j < cs.length → (visC cs j).1 = 0) : VisI cs := by
  have key : ∀ i (hi : i < cs.length), rgK cs[i] = true ∧ (0 < i → cs.getD (i - 1) 0 < cs[i]) := fun i hi => by
    have := h i hi
    unfold visC at this
    rw [List.getElem?_eq_getElem hi] at this
    dsimp only at this
    split at this
    · exact absurd this (by simp)
    · rename_i h1
      split at this
      · exact absurd this (by simp)
      · rename_i h2
        exact ⟨by simpa using h1, fun h0 => Int.not_le.1 fun h3 => h2 ⟨h0, h3⟩⟩
  refine ⟨fun x hx => ?_, ?_⟩
  · obtain ⟨i, hi, rfl⟩ := List.getElem_of_mem hx
    exact rg_of (key i hi).1
  · rw [List.pairwise_iff_getElem]
    have step : ∀ d i (hi : i < cs.length) (hj : i + d + 1 < cs.length), cs[i] < cs[i + d + 1] := by
      intro d
      induction d with
      | zero =>
        intro i hi hj
        have := (key (i + 1) hj).2 (by omega)
        rw [Nat.add_sub_cancel, List.getD_eq_getElem?_getD, List.getElem?_eq_getElem hi] at this
        exact this
      | succ d ih =>
        intro i hi hj
        have h1 := ih i hi (by omega)
        have := (key (i + d + 2) hj).2 (by omega)
        rw [show i + d + 2 - 1 = i + d + 1 by omega, List.getD_eq_getElem?_getD, List.getElem?_eq_getElem (by omega : i + d + 1 < cs.length)] at this
        exact Int.lt_trans h1 this
    intro i j hi hj hij
    have := step (j - i - 1) i hi (by omega)
    have e : i + (j - i - 1) + 1 = j := by omega
    simp only [e] at this
    exact this
theorem VisI.low {cs : List Int} (h : VisI cs) : ∀ i (hi : i < cs.length), (i : Int) ≤ cs[i] := by
  intro i
  induction i with
  | zero => intro hi; have := h.rng _ (List.getElem_mem hi); omega
  | succ i ih =>
    intro hi
    have h1 := ih (by omega)
    have h2 := List.pairwise_iff_getElem.1 h.srt i (i + 1) (by omega) hi (by omega)
    omega
theorem VisI.len {cs : List Int} (h : VisI cs) : cs.length ≤ 60 := by
  rcases Nat.lt_or_ge 60 cs.length with hl | hl
  · have h1 := h.low 60 hl
    have := h.rng _ (List.getElem_mem hl)
    omega
  · exact hl
theorem visF_at {L : List Mk} {cs : List Int} {i : Nat} {v x : Int} (hz : (mkF L).1 = 0) (hi : i < cs.length) (hj : ∀ j, j < i → (visC cs j).1 = 0) (hv : visC cs i = (v, x)) (hv0 : v ≠ 0) : visF L cs = (v, x) := by
  unfold visF visW
  rw [if_neg (by simp [hz]), scanW_hit hi hj (by rw [hv]; exact hv0), hv]
theorem visF_ok {L : List Mk} {cs : List Int} (hz : (mkF L).1 = 0) (hj : ∀ j, j < cs.length → (visC cs j).1 = 0) : visF L cs = (0, 0) := by
  unfold visF visW
  rw [if_neg (by simp [hz]), scanW_none hj]
theorem visR_bad {L : List Mk} {cs : List Int} (h : (visF L cs).1 ≠ 0) : visR L cs = [] := by unfold visR; rw [if_pos h]
theorem visR_ok {L : List Mk} {cs : List Int} (h : visF L cs = (0, 0)) (hv : inR59 cs) : visR L cs = delI (visQ fun j => goneK L (j : Int)) cs := by
  unfold visR; rw [h, if_neg (by simp)]
  exact List.filter_congr fun x hx => by have := hv x hx; unfold visQ; dsimp only; rw [show ((x.toNat : Nat) : Int) = x by omega]

theorem div_meets : Meets Try.prog 17 (Spec.pure divG) := by
 refine meets_fun (E_suc.at_ 48) Try.func17 rfl rfl rfl ?_
 intro args p r hg hp
 unfold divG at hg
 split at hg
 ·rename_i xs
  simp only [Option.some.injEq, Prod.mk.injEq] at hg
  obtain ⟨rfl, rfl⟩ := hg
  obtain ⟨he, hl, hsm⟩ := hp
  generalize dM xs = l at *
  subst he
  have hT : (E_suc).X = T := rfl
  have hx0 := And.intro @mtL_rwI (And.intro @rect_eM (And.intro @rwI_len (And.intro @rwI_take (And.intro @dI_rows (And.intro @dM_rows (And.intro @dec_t (And.intro @dec_f @Try.results17)))))))
  have hx := hx0
  refine ⟨by rfl, ?_⟩
  intro F W0 hnp hmk
  refine vc_seq_k fun N1 h1 => ?_
  refine u_reg ?_
  try refine lg_mk ?_
  refine u_mv ?_
  refine u_al ?_
  refine lg_nil ?_
  refine h1 _ ?_; clear h1; try clear N1
  refine vc_seq_k fun N2 h2 => ?_
  refine vc_seq_k fun N3 h3 => ?_
  refine u_reg ?_
  try refine lg_mk ?_
  refine u_mv ?_
  have hc := call_rule (E := (E_suc.at_ 48)) (f := 18) (sp := Spec.pure valKG) rfl
  have hs := @valKG.eq_1
  refine u_cp ?_
  refine u_al ?_
  refine u_st ?_
  refine lg_nil ?_
  refine h3 _ ?_; clear h3; try clear N3
  refine vc_seq_k fun N4 h4 => ?_
  rcases mkF_or l with ⟨hz, hv⟩ | hz
  ·have hz1 : (mkF l).1 = 0 := by rw [hz]
   have hz2 : (mkF l).2 = 0 := by rw [hz]
   have hok := hv.okM
   have hlen40 := hv.len
   refine u_reg ?_
   try refine lg_mk ?_
   refine u_ld ?_
   refine u_bd ?_
   refine u_bn ?_
   refine lg_nil ?_
   refine h4 _ ?_; clear h4; try clear N4
   refine u_cond (fun hb5 => ?_) (fun hb5 => ?_)
   ·exact absurd (And.intro hz1 hz2) (by have := hb5; simpa using this)
   ·refine vc_skip ?_
    try simp only [k_rules]
    refine h2 _ ?_; clear h2; try clear N2
    refine vc_seq_k fun N6 h6 => ?_
    refine u_reg ?_
    try refine lg_mk ?_
    refine lg_sem (by rfl) (sem_allocOne (by first | (simp only [wB, eq_self, Nat.reduceEqDiff, reduceIte, env_rules, tys, hT, tiAgg]; done) | (simp only [wB, eq_self, Nat.reduceEqDiff, reduceIte, env_rules, tys, hT, tiAgg]; rfl)) rwI_zero (by simp) (by decide) ?_)
    try simp only [wB, eq_self, Nat.reduceEqDiff, reduceIte, wL, Int.toNat_natCast, Int.reduceToNat, Nat.reduceAdd, Nat.reduceMul, Nat.reduceSub, Nat.reduceLeDiff, hx]
    refine lg_nil ?_
    refine h6 _ ?_; clear h6; try clear N6
    refine vc_seq_k fun N7 h7 => ?_
    refine vc_seq_k fun N8 h8 => ?_
    refine u_reg ?_
    try refine lg_mk ?_
    refine u_mv ?_
    refine u_ln ?_
    refine u_mv ?_
    refine lg_nil ?_
    refine h8 _ ?_; clear h8; try clear N8
    refine vc_block ?_
    refine vc_loop_mk (σ := Nat) (fun s => (fun i => i ≤ l.length) s)
     (fun s => (fun i => [(0, .d (.sl (rows eM l))), (3, .ptr 0 0 0), (5, .ptr 1 0 0), (17, .d (.sl (rows eM l))), (18, .d (.int .i64 (l.length : Nat))), (19, .d (.int .i64 (i : Nat)))]) s)
     (fun s => (fun i => [some (.one 25 [.d (.int .i64 0), .d (.int .i64 0)]), some (.one 68 (rwI (cntZ (l.take i))))]) s) (fun s => (fun i => l.length - i) s) hnp 0 ?_ [some 0, some 2] ?_ ?_
    ·dsimp only
     omega
    ·dsimp only
     refine ⟨by rfl, ?_, ?_⟩
     ·refine fin_ ?_
      (repeat' apply And.intro) <;> (first | (first | (with_reducible rfl) | exact True.intro | rfl) | exact cl_)
     ·refine fin_ ?_
      (repeat' apply And.intro) <;> (first | (first | (with_reducible rfl) | exact True.intro | rfl) | exact cl_)
    ·rintro i hinv N9 h9
     dsimp only at hinv ⊢
     have i1 := hinv
     refine vc_seq_k fun N10 h10 => ?_
     refine u_reg ?_
     try refine lg_mk ?_
     refine u_bn ?_
     refine lg_nil ?_
     refine h10 _ ?_; clear h10; try clear N10
     refine vc_seq_k fun N11 h11 => ?_
     refine u_cond (fun hb12 => ?_) (fun hb12 => ?_)
     ·obtain ⟨m, hme⟩ := getE (l := l) (i := i) (by omega)
      have hmm := hsm m (mem_at hme)
      obtain ⟨ho1, ho2⟩ := hok.old (mem_at hme)
      have hgc := rwI_get1 (f := cntZ (l.take i)) (k := m.old.toNat) (by omega)
      have hst := fun f b => rwI_set (f := f) (b := b) (k := m.old.toNat) (by omega)
      have hcb : cntZ (l.take i) m.old.toNat ≤ 40 := by unfold cntZ; have := cntK_le (l.take i) ((m.old.toNat : Nat) : Int); rw [List.length_take] at this; omega
      have hcb0 : 0 ≤ cntZ (l.take i) m.old.toNat := by unfold cntZ; omega
      refine vc_skip ?_
      try simp only [k_rules]
      refine h11 _ ?_; clear h11; try clear N11
      refine vc_seq_k fun N13 h13 => ?_
      refine vc_block ?_
      refine vc_seq_k fun N14 h14 => ?_
      have hx := And.intro @hme (And.intro @eM.eq_1 hx0)
      refine u_reg ?_
      try refine lg_mk ?_
      refine u_pt ?_
      refine u_ld ?_
      refine u_al ?_
      refine u_st ?_
      refine lg_nil ?_
      have hx := hx0
      refine h14 _ ?_; clear h14; try clear N14
      refine vc_seq_k fun N15 h15 => ?_
      refine u_reg ?_
      try refine lg_mk ?_
      refine u_pt ?_
      refine u_ld ?_
      refine u_ln ?_
      refine u_bn ?_
      refine lg_nil ?_
      refine h15 _ ?_; clear h15; try clear N15
      refine u_cond (fun hb16 => ?_) (fun hb16 => ?_)
      ·have hx := And.intro @hgc (And.intro @hst hx0)
       refine u_reg ?_
       try refine lg_mk ?_
       refine u_pt ?_
       refine u_ld ?_
       refine u_pt ?_
       refine u_ld ?_
       refine u_bn ?_
       refine u_pt ?_
       refine u_st ?_
       refine lg_nil ?_
       have hx := hx0
       refine h13 _ ?_; clear h13; try clear N13
       refine u_reg ?_
       try refine lg_mk ?_
       refine u_bn ?_
       refine u_mv ?_
       refine lg_nil ?_
       refine h9 _ ⟨i + 1, ?_, ?_, [some 0, some 1], ?_⟩
       ·dsimp only
        omega
       ·dsimp only
        omega
       ·dsimp only
        refine ⟨by rfl, ?_, ?_⟩
        ·refine fin_ ?_
         (repeat' apply And.intro) <;> (first | (first | (with_reducible rfl) | exact True.intro | exact cntZ_set hme ho1 (fun h => by have := hb16; rw [h] at this; simp at this)) | exact cl_)
        ·refine fin_ ?_
         (repeat' apply And.intro) <;> (first | (first | (with_reducible rfl) | exact True.intro | exact cntZ_set hme ho1 (fun h => by have := hb16; rw [h] at this; simp at this)) | exact cl_)
      ·refine vc_skip ?_
       try simp only [k_rules]
       refine h13 _ ?_; clear h13; try clear N13
       refine u_reg ?_
       try refine lg_mk ?_
       refine u_bn ?_
       refine u_mv ?_
       refine lg_nil ?_
       refine h9 _ ⟨i + 1, ?_, ?_, [some 0, some 1], ?_⟩
       ·dsimp only
        omega
       ·dsimp only
        omega
       ·dsimp only
        refine ⟨by rfl, ?_, ?_⟩
        ·refine fin_ ?_
         (repeat' apply And.intro) <;> (first | (first | (with_reducible rfl) | exact True.intro | exact cntZ_same hme (List.eq_nil_of_length_eq_zero (by have := hb16; omega))) | exact cl_)
        ·refine fin_ ?_
         (repeat' apply And.intro) <;> (first | (first | (with_reducible rfl) | exact True.intro | exact cntZ_same hme (List.eq_nil_of_length_eq_zero (by have := hb16; omega))) | exact cl_)
     ·refine vc_exit ?_
      simp only [k_rules, Nat.reduceEqDiff, reduceIte, eq_self]
      refine h7 _ ?_; clear h7; try clear N7
      refine vc_seq_k fun N17 h17 => ?_
      refine u_reg ?_
      try refine lg_mk ?_
      refine u_mv ?_
      refine lg_nil ?_
      refine h17 _ ?_; clear h17; try clear N17
      refine vc_seq_k fun N18 h18 => ?_
      refine vc_seq_k fun N19 h19 => ?_
      refine u_reg ?_
      try refine lg_mk ?_
      refine u_ld ?_
      refine u_mv ?_
      refine lg_nil ?_
      refine h19 _ ?_; clear h19; try clear N19
      refine vc_block ?_
      obtain rfl : i = l.length := by omega
      refine vc_loop_mk (σ := Nat) (fun s => (fun i => i ≤ 60) s)
       (fun s => (fun i => [(0, .d (.sl (rows eM l))), (3, .ptr 0 0 0), (5, .ptr 1 0 0), (8, .sl 2 0 (lst i (divB l)).length), (34, .agg (rwI (cntZ l))), (35, .d (.int .i64 (i : Nat)))]) s)
       (fun s => (fun i => [some (.one 25 [.d (.int .i64 0), .d (.int .i64 0)]), some (.one 68 (rwI (cntZ l))), some (.vec 3 1 (rows eI (lst i (divB l))))]) s) (fun s => (fun i => 60 - i) s) hnp 0 ?_ [some 0, some 1, none] ?_ ?_
      ·dsimp only
       omega
      ·dsimp only
       refine ⟨by rfl, ?_, ?_⟩
       ·refine fin_ ?_
        (repeat' apply And.intro) <;> (first | (first | (with_reducible rfl) | exact True.intro | (rw [List.take_length]; done)) | exact cl_)
       ·refine fin_ ?_
        (repeat' apply And.intro) <;> (first | (first | (with_reducible rfl) | exact True.intro | (rw [List.take_length]; done)) | exact cl_)
      ·rintro i hinv N20 h20
       dsimp only at hinv ⊢
       have i1 := hinv
       refine vc_seq_k fun N21 h21 => ?_
       refine u_reg ?_
       try refine lg_mk ?_
       refine u_bn ?_
       refine lg_nil ?_
       refine h21 _ ?_; clear h21; try clear N21
       refine vc_seq_k fun N22 h22 => ?_
       refine u_cond (fun hb23 => ?_) (fun hb23 => ?_)
       ·have hg2 := rwI_get1 (f := cntZ l) (k := i) (by omega)
        have hll := lst_len i (divB l)
        refine vc_skip ?_
        try simp only [k_rules]
        refine h22 _ ?_; clear h22; try clear N22
        refine vc_seq_k fun N24 h24 => ?_
        refine vc_block ?_
        refine vc_seq_k fun N25 h25 => ?_
        have hx := And.intro @hg2 hx0
        refine u_reg ?_
        try refine lg_mk ?_
        refine u_mv ?_
        refine u_pt ?_
        refine u_mv ?_
        refine u_mv ?_
        refine lg_nil ?_
        have hx := hx0
        refine h25 _ ?_; clear h25; try clear N25
        refine vc_seq_k fun N26 h26 => ?_
        refine u_reg ?_
        try refine lg_mk ?_
        refine u_mv ?_
        refine u_bn ?_
        refine lg_nil ?_
        refine h26 _ ?_; clear h26; try clear N26
        refine u_cond (fun hb27 => ?_) (fun hb27 => ?_)
        ·refine u_reg ?_
         try refine lg_mk ?_
         refine u_mv ?_
         refine u_mv ?_
         refine u_bs ?_
         refine u_ap ?_
         refine u_mv ?_
         refine lg_nil ?_
         refine h24 _ ?_; clear h24; try clear N24
         refine u_reg ?_
         try refine lg_mk ?_
         refine u_bn ?_
         refine u_mv ?_
         refine lg_nil ?_
         have hls := lst_yes (f := divB l) (i := i) (by have := hb27; unfold divB; simpa using this)
         refine h20 _ ⟨i + 1, ?_, ?_, [some 0, some 1, some 4], ?_⟩
         ·dsimp only
          omega
         ·dsimp only
          omega
         ·dsimp only
          refine ⟨by rfl, ?_, ?_⟩
          ·refine fin_ ?_
           (repeat' apply And.intro) <;> (first | (first | (with_reducible rfl) | exact True.intro | (rw [hls]; simp [rows, eI]; done)) | exact cl_)
          ·refine fin_ ?_
           (repeat' apply And.intro) <;> (first | (first | (with_reducible rfl) | exact True.intro | (rw [hls]; simp [rows, eI]; done)) | exact cl_)
        ·refine vc_skip ?_
         try simp only [k_rules]
         refine h24 _ ?_; clear h24; try clear N24
         refine u_reg ?_
         try refine lg_mk ?_
         refine u_bn ?_
         refine u_mv ?_
         refine lg_nil ?_
         have hls := lst_no (f := divB l) (i := i) (by have := hb27; unfold divB; simpa using this)
         refine h20 _ ⟨i + 1, ?_, ?_, [some 0, some 1, some 2], ?_⟩
         ·dsimp only
          omega
         ·dsimp only
          omega
         ·dsimp only
          refine ⟨by rfl, ?_, ?_⟩
          ·refine fin_ ?_
           (repeat' apply And.intro) <;> (first | (first | (with_reducible rfl) | exact True.intro | (rw [hls]; done)) | exact cl_)
          ·refine fin_ ?_
           (repeat' apply And.intro) <;> (first | (first | (with_reducible rfl) | exact True.intro | (rw [hls]; done)) | exact cl_)
       ·refine vc_exit ?_
        simp only [k_rules, Nat.reduceEqDiff, reduceIte, eq_self]
        refine h18 _ ?_; clear h18; try clear N18
        refine vc_seq_k fun N28 h28 => ?_
        refine u_reg ?_
        try refine lg_mk ?_
        refine u_mv ?_
        refine u_bd ?_
        refine u_mv ?_
        refine u_st ?_
        refine lg_nil ?_
        refine h28 _ ?_; clear h28; try clear N28
        refine vc_ret ?_
        try simp only [k_rules]
        obtain rfl : i = 60 := by omega
        have hr2 : divR l = lst 60 (divB l) := by unfold divR; rw [if_neg (by rw [hz1]; simp), divK_is]
        rw [hz, hr2]
        refine fin2_ ?_
        (repeat' apply And.intro) <;> (first | (first | rfl | exact Or.inl rfl | trivial | (simp; done)) | exact cl_)
  ·have hz1 := hz
   refine u_reg ?_
   try refine lg_mk ?_
   refine u_ld ?_
   refine u_bd ?_
   refine u_bn ?_
   refine lg_nil ?_
   refine h4 _ ?_; clear h4; try clear N4
   refine u_cond (fun hb29 => ?_) (fun hb29 => ?_)
   ·refine vc_seq_k fun N30 h30 => ?_
    refine u_reg ?_
    try refine lg_mk ?_
    refine u_ld ?_
    refine u_mv ?_
    refine u_st ?_
    refine lg_nil ?_
    refine h30 _ ?_; clear h30; try clear N30
    refine vc_ret ?_
    try simp only [k_rules]
    have hr2 : divR l = [] := by unfold divR; rw [if_pos hz1]
    rw [hr2]
    refine fin2_ ?_
    exact cl_
   ·exact absurd (show (mkF l).1 = 0 by have := hb29; first | exact this.1 | exact (Classical.not_not.1 this).1 | (simp at this; exact this.1)) hz1
 ·cases hg

def E_div : Env Try.prog := E_suc.add 17 (Spec.pure divG) div_meets (by kernel_rfl)

theorem cloneI_meets : Meets Try.prog 30 (Spec.fresh (cloneF 3)) := by
 refine meets_fresh (E_div.at_ 8) Try.func30 rfl rfl rfl ?_
 intro args bl p r bf hg hp
 unfold cloneF at hg
 split at hg
 ·rename_i xs
  simp only [Option.some.injEq, Prod.mk.injEq] at hg
  obtain ⟨rfl, rfl, rfl⟩ := hg
  obtain ⟨hr, hb⟩ := hp
  have hT : (E_div).X = T := rfl
  have hx0 := @Try.results30
  have hx := hx0
  refine ⟨Nat.le_of_ble_eq_true rfl, ?_⟩
  intro F W0 M0 hnp hmk
  have hnp : Far.np = 0 := hnp
  refine vc_seq_k fun N1 h1 => ?_
  refine u_reg ?_
  try refine lg_mk ?_
  refine u_mv ?_
  refine lg_nil ?_
  refine h1 _ ?_; clear h1; try clear N1
  refine vc_seq_k fun N2 h2 => ?_
  refine vc_seq_k fun N3 h3 => ?_
  refine u_reg ?_
  try refine lg_mk ?_
  refine u_mv ?_
  refine lg_sem (by rfl) (sem_eqnil (by first | (simp only [wB, eq_self, Nat.reduceEqDiff, reduceIte]; done) | (simp only [wB, eq_self, Nat.reduceEqDiff, reduceIte]; rfl)) (by first | trivial | simp only [wB, eq_self, Nat.reduceEqDiff, reduceIte]) (by first | (simp only [wB, eq_self, Nat.reduceEqDiff, reduceIte, env_rules, tys, hT, tiAgg]; done) | (simp only [wB, eq_self, Nat.reduceEqDiff, reduceIte, env_rules, tys, hT, tiAgg]; rfl)) (by first | (simp only [slA, wB, eq_self, Nat.reduceEqDiff, reduceIte]; done) | (simp only [slA, wB, eq_self, Nat.reduceEqDiff, reduceIte]; rfl)) fun z_r1_1 hz_r1_1 hz_r1_1' => ?_)
  refine lg_nil ?_
  refine h3 _ ?_; clear h3; try clear N3
  refine u_cond (fun hb4 => ?_) (fun hb4 => ?_)
  ·have hz := hz_r1_1 hb4
   unfold emptyA at hz
   subst hz
   refine vc_seq_k fun N5 h5 => ?_
   refine u_reg ?_
   try refine lg_mk ?_
   refine u_mv ?_
   refine lg_nil ?_
   refine h5 _ ?_; clear h5; try clear N5
   refine vc_ret ?_
   try simp only [k_rules]
   refine fin_ ?_
   refine ⟨[none], by rfl, ?_, ?_⟩
   ·refine fin_ ?_
    exact cl_
   ·refine fin_ ?_
    exact cl_
  ·refine vc_skip ?_
   try simp only [k_rules]
   refine h2 _ ?_; clear h2; try clear N2
   refine vc_seq_k fun N6 h6 => ?_
   refine u_reg ?_
   try refine lg_mk ?_
   refine u_bs ?_
   refine u_mv ?_
   refine u_ap (hq := by (first | (exact ⟨hr, by omega⟩) | exact sd_)) ?_
   refine u_mv ?_
   refine lg_nil ?_
   refine h6 _ ?_; clear h6; try clear N6
   refine vc_ret ?_
   try simp only [k_rules]
   refine fin_ ?_
   refine ⟨[some 1], by rfl, ?_, ?_⟩
   ·refine fin_ ?_
    exact cl_
   ·refine fin_ ?_
    exact cl_
 ·cases hg

def E_cloneI : Env Try.prog := E_div.add 30 (Spec.fresh (cloneF 3)) cloneI_meets (by kernel_rfl)

theorem vCl_meets : Meets Try.prog 46 (Spec.pure vClG) := by
 refine meets_fun (E_cloneI.at_ 7) Try.func46 rfl rfl rfl ?_
 intro args p r hg hp
 unfold vClG at hg
 split at hg
 ·rename_i n ds
  simp only [Option.some.injEq, Prod.mk.injEq] at hg
  obtain ⟨rfl, rfl⟩ := hg
  obtain ⟨he, h0, h1⟩ := hp
  generalize dBl ds = f at *
  subst he
  have hg : (rwD f)[n.toNat * 1]? = some (.bool (visQ f n)) := by rw [Nat.mul_one]; exact rwD_get (by omega)
  have hT : (E_cloneI).X = T := rfl
  have hx0 := @Try.results46
  have hx := hx0
  refine ⟨by rfl, ?_⟩
  intro F W0 hnp hmk
  refine vc_seq_k fun N1 h1 => ?_
  refine u_reg ?_
  try refine lg_mk ?_
  refine u_mv ?_
  refine lg_nil ?_
  refine h1 _ ?_; clear h1; try clear N1
  refine vc_seq_k fun N2 h2 => ?_
  have hx := And.intro @hg (And.intro @rwD_len hx0)
  refine u_reg ?_
  try refine lg_mk ?_
  refine u_mv ?_
  refine u_pt ?_
  refine u_ld ?_
  refine u_mv ?_
  refine lg_nil ?_
  have hx := hx0
  refine h2 _ ?_; clear h2; try clear N2
  refine vc_ret ?_
  try simp only [k_rules]
  refine fin2_ ?_
  exact cl_
 ·cases hg

def E_vCl : Env Try.prog := E_cloneI.add 46 (Spec.pure vClG) vCl_meets (by kernel_rfl)

theorem ixV_meets : Meets Try.prog 58 (Spec.pure ixVG) := by
 refine meets_fun (E_vCl.at_ 19) Try.func58 rfl rfl rfl ?_
 intro args p r hg hp
 unfold ixVG at hg
 split at hg
 ·rename_i xs ds
  simp only [Option.some.injEq, Prod.mk.injEq] at hg
  obtain ⟨rfl, rfl⟩ := hg
  obtain ⟨he, hl, hf, hrg⟩ := hp
  generalize dI xs = l at *
  rw [hf, dBl_rwD] at *
  generalize dBl ds = f at *
  subst he
  have hT : (E_vCl).X = T := rfl
  have hx0 := And.intro @pureL_rwA @Try.results58
  have hx := hx0
  refine ⟨by rfl, ?_⟩
  intro F W0 hnp hmk
  refine vc_seq_k fun N1 h1 => ?_
  refine u_reg ?_
  try refine lg_mk ?_
  refine u_mv ?_
  refine lg_nil ?_
  refine h1 _ ?_; clear h1; try clear N1
  refine vc_seq_k fun N2 h2 => ?_
  refine vc_seq_k fun N3 h3 => ?_
  refine u_reg ?_
  try refine lg_mk ?_
  refine u_mv ?_
  refine u_ln ?_
  refine u_mv ?_
  refine lg_nil ?_
  refine h3 _ ?_; clear h3; try clear N3
  refine vc_block ?_
  refine vc_loop_mk (σ := Nat) (fun s => (fun k' => k' ≤ l.length ∧ ∀ y ∈ l.take k', visQ (dBl (rwD f)) y = false) s)
   (fun s => (fun k' => [(0, .d (.sl (rows eI l))), (1, .clo (.func 46) [.d (.ptr (rwD f))]), (6, .d (.sl (rows eI l))), (7, .d (.int .i64 (l.length : Nat))), (8, .d (.int .i64 (k' : Nat)))]) s)
   (fun s => (fun k' => []) s) (fun s => (fun k' => l.length - k') s) hnp 0 ?_ [] ?_ ?_
  ·dsimp only
   simp
  ·dsimp only
   refine ⟨by rfl, ?_, ?_⟩
   ·refine fin_ ?_
    exact cl_
   ·refine fin_ ?_
    exact cl_
  ·rintro k' hinv N4 h4
   dsimp only at hinv ⊢
   obtain ⟨k1, k2⟩ := hinv
   refine vc_seq_k fun N5 h5 => ?_
   refine u_reg ?_
   try refine lg_mk ?_
   refine u_bn ?_
   refine lg_nil ?_
   refine h5 _ ?_; clear h5; try clear N5
   refine vc_seq_k fun N6 h6 => ?_
   refine u_cond (fun hb7 => ?_) (fun hb7 => ?_)
   ·obtain ⟨x, hxe⟩ := getE (l := l) (i := k') (by omega)
    obtain ⟨hx1, hx2⟩ := hrg x (mem_at hxe)
    refine vc_skip ?_
    try simp only [k_rules]
    refine h6 _ ?_; clear h6; try clear N6
    refine vc_seq_k fun N8 h8 => ?_
    refine vc_block ?_
    refine vc_seq_k fun N9 h9 => ?_
    refine u_reg ?_
    try refine lg_mk ?_
    refine u_mv ?_
    refine u_mv ?_
    refine lg_nil ?_
    refine h9 _ ?_; clear h9; try clear N9
    refine vc_seq_k fun N10 h10 => ?_
    have hx := And.intro @hxe (And.intro @eI.eq_1 hx0)
    refine u_reg ?_
    try refine lg_mk ?_
    refine u_mv ?_
    refine u_mv ?_
    refine u_mv ?_
    refine u_pt ?_
    refine u_ld ?_
    have hc := (rfl : ((E_vCl.at_ 19)).Γ 46 = some (Spec.pure vClG))
    have hs := (@vClG.eq_1)
    refine u_kp (hq := by (first | (exact ⟨(dBl_rwD f).symm, hx1, hx2⟩) | exact sd_)) ?_
    refine lg_nil ?_
    have hx := hx0
    refine h10 _ ?_; clear h10; try clear N10
    refine u_cond (fun hb11 => ?_) (fun hb11 => ?_)
    ·refine vc_seq_k fun N12 h12 => ?_
     refine u_reg ?_
     try refine lg_mk ?_
     refine u_mv ?_
     refine u_mv ?_
     refine lg_nil ?_
     refine h12 _ ?_; clear h12; try clear N12
     refine vc_ret ?_
     try simp only [k_rules]
     rw [fidx_at hxe (by have := hb11; simpa using this) k2]
     refine fin2_ ?_
     exact cl_
    ·refine vc_skip ?_
     try simp only [k_rules]
     refine h8 _ ?_; clear h8; try clear N8
     refine u_reg ?_
     try refine lg_mk ?_
     refine u_bn ?_
     refine u_mv ?_
     refine lg_nil ?_
     refine h4 _ ⟨k' + 1, ?_, ?_, [], ?_⟩
     ·dsimp only
      exact ⟨by omega, all_false_snoc k2 hxe (by have := hb11; simpa using this)⟩
     ·dsimp only
      omega
     ·dsimp only
      refine ⟨by rfl, ?_, ?_⟩
      ·refine fin_ ?_
       exact cl_
      ·refine fin_ ?_
       exact cl_
   ·refine vc_exit ?_
    simp only [k_rules, Nat.reduceEqDiff, reduceIte, eq_self]
    refine h2 _ ?_; clear h2; try clear N2
    refine vc_seq_k fun N13 h13 => ?_
    refine u_reg ?_
    try refine lg_mk ?_
    refine u_mv ?_
    refine lg_nil ?_
    refine h13 _ ?_; clear h13; try clear N13
    refine vc_ret ?_
    try simp only [k_rules]
    rw [fidx_none (by rw [List.take_of_length_le (by omega)] at k2; exact k2)]
    refine fin2_ ?_
    exact cl_
 ·cases hg

def E_ixV : Env Try.prog := E_vCl.add 58 (Spec.pure ixVG) ixV_meets (by kernel_rfl)

theorem dBl_aBl (f : Nat → Bool) : dBl (rwD f) = aBl (rwA f) := by
  funext j
  unfold dBl aBl
  rw [rwA_D, List.getElem?_map]
  cases (rwD f)[j]? with
  | none => rfl
  | some d => cases d <;> rfl
def orpG : List AV → Option (Prop × AV)
  | [.d (.sl xs), .d (.sl ys)] => some (xs = rows eM (dM xs) ∧ (dM xs).length ≤ 9223372036854775807 ∧ smallM (dM xs) ∧ ys = rows eC (dC ys) ∧ (dC ys).length ≤ 9223372036854775807 ∧ smallC (dC ys), .tup [.d (.sl (rows eI (orpR (dM xs) (dC ys)))), .agg [.d (.int .i64 (orpF (dM xs) (dC ys)).1), .d (.int .i64 (orpF (dM xs) (dC ys)).2)]])
  | _ => none
def orpB (L : List Mk) (C : List Cm) (i : Nat) : Bool := oldK L C i && !goneK L i
theorem bel_fin {L : List Mk} {C : List Cm} (hv : Valid C) {i : Nat} {c : Cm} (hc : C[i]? = some c) : (vec C.length (belV L C i c.par.length))[i]? = some (oldK L C i) := by
  rw [belV_next hv hc, vec_get (List.getElem?_eq_some_iff.1 hc).1, belV_lt (by omega)]
theorem bel_now {L : List Mk} {C : List Cm} {i j : Nat} (hi : i < C.length) : (vec C.length (belV L C i j))[i]? = some (belV L C i j i) := vec_get hi
theorem bel_old {L : List Mk} {C : List Cm} {i j p : Nat} (hi : i < C.length) (hp : p < i) : (vec C.length (belV L C i j))[p]? = some (oldK L C p) := by rw [vec_get (by omega), belV_lt hp]
theorem bel_set {L : List Mk} {C : List Cm} {i j : Nat} {c : Cm} {p : Int} (hc : C[i]? = some c) (hp : c.par[j]? = some p) : (rows eB (vec C.length (belV L C i j))).set i [.bool (belV L C i j i || oldK L C p.toNat || goneK L p)] = rows eB (vec C.length (belV L C i (j + 1))) := by
  rw [← belV_set hc hp, Bool.or_assoc]; simp [rows, eB]
theorem bel_start (L : List Mk) (C : List Cm) : List.replicate C.length [D.bool false] = rows eB (vec C.length (belV L C 0 0)) := by rw [belV_zero]; simp [rows, eB]

theorem delV_meets : Meets Try.prog 45 (Spec.gen delVG) := by
 refine meets_handed (E_ixV.at_ 42) Try.func45 rfl rfl rfl ?_
 intro args bl p r bf hg hp
 unfold delVG at hg
 split at hg
 ·rename_i n t s xs tb cs
  simp only [Option.some.injEq, Prod.mk.injEq] at hg
  obtain ⟨rfl, rfl, rfl⟩ := hg
  obtain ⟨rfl, rfl, he, rfl, hl, hcs, hrg⟩ := hp
  generalize dI xs = l at *
  generalize hf : aBl cs = f at *
  subst he hcs
  have hdf : dBl (rwD f) = f := by rw [dBl_aBl]; exact hf
  have hT : (E_ixV).X = T := rfl
  have hx0 := And.intro @mtL_rwA (And.intro @idsL_rwA (And.intro @ixL_rwA (And.intro @ouL_rwA (And.intro @pureL_rwA (And.intro @hdf @Try.results45)))))
  have hx := hx0
  refine ⟨Nat.le_of_ble_eq_true rfl, ?_⟩
  intro F W0 M0 hnp hmk
  have hnp : Far.np = 2 := hnp
  refine vc_seq_k fun N1 h1 => ?_
  refine u_reg ?_
  try refine lg_mk ?_
  refine u_mv ?_
  refine lg_nil ?_
  refine h1 _ ?_; clear h1; try clear N1
  refine vc_seq_k fun N2 h2 => ?_
  refine u_reg ?_
  try refine lg_mk ?_
  refine u_mv ?_
  refine u_mv ?_
  have hc := call_rule (E := (E_ixV.at_ 42)) (f := 58) (sp := Spec.pure ixVG) rfl
  have hs := @ixVG.eq_1
  refine u_cp (hq := by (first | (rw [List.take_length]; exact ⟨Nat.le_refl _, by omega, hrg⟩) | exact sd_)) ?_
  refine u_mv ?_
  refine lg_nil ?_
  simp only [List.take_length]
  refine h2 _ ?_; clear h2; try clear N2
  refine vc_seq_k fun N3 h3 => ?_
  refine vc_seq_k fun N4 h4 => ?_
  rcases fidx_or (visQ f) l with ⟨hf1, hf2⟩ | ⟨i0, x0, hf1, hf2, hf3, hf4⟩
  ·have hdl := delI_none hf2
   have hx := And.intro @hf1 hx0
   refine u_reg ?_
   try refine lg_mk ?_
   refine u_mv ?_
   refine u_bn ?_
   refine lg_nil ?_
   have hx := hx0
   refine h4 _ ?_; clear h4; try clear N4
   refine u_cond (fun hb5 => ?_) (fun hb5 => ?_)
   ·refine vc_seq_k fun N6 h6 => ?_
    refine u_reg ?_
    try refine lg_mk ?_
    refine u_mv ?_
    refine u_mv ?_
    refine lg_nil ?_
    refine h6 _ ?_; clear h6; try clear N6
    refine vc_ret ?_
    try simp only [k_rules]
    rw [hdl]
    refine fin_ ?_
    refine ⟨[some 0, some 1], by rfl, ?_, ?_⟩
    ·refine fin_ ?_
     exact cl_
    ·refine fin_ ?_
     exact cl_
   ·first | omega | exact absurd trivial hb5 | contradiction | (simp_all; done)
  ·have hst := DelInv.start hf2 hf3 hf4
   have hi0 := (List.getElem?_eq_some_iff.1 hf2).1
   have hx := And.intro @hf1 hx0
   refine u_reg ?_
   try refine lg_mk ?_
   refine u_mv ?_
   refine u_bn ?_
   refine lg_nil ?_
   have hx := hx0
   refine h4 _ ?_; clear h4; try clear N4
   refine u_cond (fun hb7 => ?_) (fun hb7 => ?_)
   ·first | omega | exact absurd trivial hb7 | contradiction | (simp_all; done)
   ·refine vc_skip ?_
    try simp only [k_rules]
    refine h3 _ ?_; clear h3; try clear N3
    refine vc_seq_k fun N8 h8 => ?_
    refine vc_seq_k fun N9 h9 => ?_
    refine u_reg ?_
    try refine lg_mk ?_
    refine u_mv ?_
    refine u_bn ?_
    refine u_mv ?_
    refine lg_nil ?_
    refine h9 _ ?_; clear h9; try clear N9
    refine vc_block ?_
    refine vc_loop_mk (σ := Nat × Nat × List Int) (fun s => (fun i j m => DelInv (visQ f) l m i j) (s.1) (s.2.1) (s.2.2))
     (fun s => (fun i j m => [(0, .sl 0 0 l.length), (1, .clo (.func 46) [.ptr 1 0 0]), (5, .d (.int .i64 (i : Nat))), (6, .d (.int .i64 (j : Nat)))]) (s.1) (s.2.1) (s.2.2))
     (fun s => (fun i j m => [some (.vec 3 1 (rows eI m)), some (.one tb (rwA f))]) (s.1) (s.2.1) (s.2.2)) (fun s => (fun i j m => l.length - j) (s.1) (s.2.1) (s.2.2)) hnp (i0, i0 + 1, l) ?_ [some 0, some 1] ?_ ?_
    ·dsimp only
     exact hst
    ·dsimp only
     refine ⟨by rfl, ?_, ?_⟩
     ·refine fin_ ?_
      exact cl_
     ·refine fin_ ?_
      exact cl_
    ·rintro ⟨i, j, m⟩ hinv N10 h10
     dsimp only at hinv ⊢
     have hiv := hinv
     have hml := hinv.len
     have hij := hinv.le
     have hjl := hinv.jl
     refine vc_seq_k fun N11 h11 => ?_
     refine vc_seq_k fun N12 h12 => ?_
     refine u_reg ?_
     try refine lg_mk ?_
     refine u_mv ?_
     refine u_mv ?_
     refine u_ln ?_
     refine u_bn ?_
     refine lg_nil ?_
     refine h12 _ ?_; clear h12; try clear N12
     refine u_cond (fun hb13 => ?_) (fun hb13 => ?_)
     ·obtain ⟨x, hmx, hlx⟩ := hiv.get (by have := hiv.len; omega)
      refine vc_skip ?_
      try simp only [k_rules]
      refine h11 _ ?_; clear h11; try clear N11
      refine vc_seq_k fun N14 h14 => ?_
      refine vc_block ?_
      refine vc_seq_k fun N15 h15 => ?_
      have hx := And.intro @hmx (And.intro @eI.eq_1 hx0)
      refine u_reg ?_
      try refine lg_mk ?_
      refine u_mv ?_
      refine u_mv ?_
      refine u_pt ?_
      refine u_ld ?_
      refine u_mv ?_
      refine lg_nil ?_
      have hx := hx0
      refine h15 _ ?_; clear h15; try clear N15
      refine vc_seq_k fun N16 h16 => ?_
      refine u_reg ?_
      try refine lg_mk ?_
      refine u_mv ?_
      refine u_mv ?_
      have hc := (rfl : ((E_ixV.at_ 42)).Γ 46 = some (Spec.pure vClG))
      have hs := (@vClG.eq_1)
      refine u_kp (hq := by (first | (exact ⟨trivial, (dBl_rwD f).symm, hrg x (mem_at hlx)⟩) | exact sd_)) ?_
      refine u_un ?_
      refine lg_nil ?_
      refine h16 _ ?_; clear h16; try clear N16
      refine u_cond (fun hb17 => ?_) (fun hb17 => ?_)
      ·have hq : visQ f x = false := by have := hb17; (try simp only [dP_rows] at this); simpa using this
       obtain ⟨y, hye⟩ := getE (l := m) (i := i) (by omega)
       refine vc_seq_k fun N18 h18 => ?_
       have hx := And.intro @hye (And.intro @eI.eq_1 hx0)
       refine u_reg ?_
       try refine lg_mk ?_
       refine u_mv ?_
       refine u_mv ?_
       refine u_mv ?_
       refine u_pt ?_
       refine u_st ?_
       refine lg_nil ?_
       have hx := hx0
       refine h18 _ ?_; clear h18; try clear N18
       refine u_reg ?_
       try refine lg_mk ?_
       refine u_mv ?_
       refine u_bn ?_
       refine u_mv ?_
       refine lg_nil ?_
       refine h14 _ ?_; clear h14; try clear N14
       refine u_reg ?_
       try refine lg_mk ?_
       refine u_mv ?_
       refine u_bn ?_
       refine u_mv ?_
       refine lg_nil ?_
       refine h10 _ ⟨(i + 1, j + 1, m.set i x), ?_, ?_, [some 0, some 1], ?_⟩
       ·dsimp only
        exact hiv.keep hlx hq
       ·dsimp only
        omega
       ·dsimp only
        refine ⟨by rfl, ?_, ?_⟩
        ·refine fin_ ?_
         (repeat' apply And.intro) <;> (first | (first | rfl | trivial | (simp [rows, eI]; done)) | exact cl_)
        ·refine fin_ ?_
         (repeat' apply And.intro) <;> (first | (first | rfl | trivial | (simp [rows, eI]; done)) | exact cl_)
      ·have hq : visQ f x = true := by have := hb17; (try simp only [dP_rows] at this); simpa using this
       refine vc_skip ?_
       try simp only [k_rules]
       refine h14 _ ?_; clear h14; try clear N14
       refine u_reg ?_
       try refine lg_mk ?_
       refine u_mv ?_
       refine u_bn ?_
       refine u_mv ?_
       refine lg_nil ?_
       refine h10 _ ⟨(i, j + 1, m), ?_, ?_, [some 0, some 1], ?_⟩
       ·dsimp only
        exact hiv.skip hlx hq
       ·dsimp only
        omega
       ·dsimp only
        refine ⟨by rfl, ?_, ?_⟩
        ·refine fin_ ?_
         (repeat' apply And.intro) <;> (first | (first | rfl | trivial | (simp [rows, eI]; done)) | exact cl_)
        ·refine fin_ ?_
         (repeat' apply And.intro) <;> (first | (first | rfl | trivial | (simp [rows, eI]; done)) | exact cl_)
     ·refine vc_exit ?_
      simp only [k_rules, Nat.reduceEqDiff, reduceIte, eq_self]
      refine h8 _ ?_; clear h8; try clear N8
      refine vc_seq_k fun N19 h19 => ?_
      refine u_reg ?_
      try refine lg_mk ?_
      refine u_mv ?_
      refine u_mv ?_
      refine u_sl ?_
      refine lg_sem (by rfl) (sem_clear (by first | (simp only [wB, eq_self, Nat.reduceEqDiff, reduceIte]; done) | (simp only [wB, eq_self, Nat.reduceEqDiff, reduceIte]; rfl)) (by first | trivial | simp only [wB, eq_self, Nat.reduceEqDiff, reduceIte]) (by simp only [wB, eq_self, Nat.reduceEqDiff, reduceIte]; rfl) (by first | (simp only [wB, eq_self, Nat.reduceEqDiff, reduceIte, env_rules, tys, hT, tiAgg]; done) | (simp only [wB, eq_self, Nat.reduceEqDiff, reduceIte, env_rules, tys, hT, tiAgg]; rfl)) (by first | (simp only [wB, eq_self, Nat.reduceEqDiff, reduceIte, env_rules, tys, hT, tiAgg]; done) | (simp only [wB, eq_self, Nat.reduceEqDiff, reduceIte, env_rules, tys, hT, tiAgg]; rfl)) rfl ?_)
      try simp only [wB, eq_self, Nat.reduceEqDiff, reduceIte, wL, Int.toNat_natCast, Int.reduceToNat, Nat.reduceAdd, Nat.reduceMul, Nat.reduceSub, Nat.reduceLeDiff, hx]
      refine lg_nil ?_
      refine h19 _ ?_; clear h19; try clear N19
      refine vc_seq_k fun N20 h20 => ?_
      refine u_reg ?_
      try refine lg_mk ?_
      refine u_mv ?_
      refine u_mv ?_
      refine u_sl ?_
      refine u_mv ?_
      refine lg_nil ?_
      refine h20 _ ?_; clear h20; try clear N20
      refine vc_ret ?_
      try simp only [k_rules]
      obtain rfl : j = l.length := by omega
      obtain ⟨hfi, hfl⟩ := hiv.fin
      rw [hfl, ← hfi]
      refine fin_ ?_
      refine ⟨[some 0, some 1], by rfl, ?_, ?_⟩
      ·refine fin_ ?_
       (repeat' apply And.intro) <;> (first | (first | rfl | trivial | omega | (simp [rows, splice, List.map_take]; done) | (simp [rows, splice, List.map_take]; omega)) | exact cl_)
      ·refine fin_ ?_
       (repeat' apply And.intro) <;> (first | (first | rfl | trivial | omega | (simp [rows, splice, List.map_take]; done) | (simp [rows, splice, List.map_take]; omega)) | exact cl_)
 ·cases hg

def E_delV : Env Try.prog := E_ixV.add 45 (Spec.gen delVG) delV_meets (by kernel_rfl)

theorem vis_meets : Meets Try.prog 23 (Spec.pure visG) := by
 refine meets_fun (E_delV.at_ 51) Try.func23 rfl rfl rfl ?_
 intro args p r hg hp
 unfold visG at hg
 split at hg
 ·rename_i xs ys
  simp only [Option.some.injEq, Prod.mk.injEq] at hg
  obtain ⟨rfl, rfl⟩ := hg
  obtain ⟨he, hl, hsm, he2, hl2⟩ := hp
  generalize dM xs = l at *
  generalize dI ys = cs at *
  subst he he2
  have hT : (E_delV).X = T := rfl
  have hx0 := And.intro @mtL_rwA (And.intro @idsL_rwA (And.intro @ixL_rwA (And.intro @ouL_rwA (And.intro @rect_eM (And.intro @rwA_len (And.intro @rwA_take (And.intro @rwA_spl (And.intro @dI_rows (And.intro @dM_rows (And.intro @dec_t (And.intro @dec_f @Try.results23)))))))))))
  have hx := hx0
  refine ⟨by rfl, ?_⟩
  intro F W0 hnp hmk
  refine vc_seq_k fun N1 h1 => ?_
  refine u_reg ?_
  try refine lg_mk ?_
  refine u_mv ?_
  refine u_al ?_
  refine lg_nil ?_
  refine h1 _ ?_; clear h1; try clear N1
  refine vc_seq_k fun N2 h2 => ?_
  refine vc_seq_k fun N3 h3 => ?_
  refine u_reg ?_
  try refine lg_mk ?_
  refine u_mv ?_
  have hc := call_rule (E := (E_delV.at_ 51)) (f := 18) (sp := Spec.pure valKG) rfl
  have hs := @valKG.eq_1
  refine u_cp ?_
  refine u_al ?_
  refine u_st ?_
  refine lg_nil ?_
  refine h3 _ ?_; clear h3; try clear N3
  refine vc_seq_k fun N4 h4 => ?_
  rcases mkF_or l with ⟨hz, hv⟩ | hz
  ·have hz1 : (mkF l).1 = 0 := by rw [hz]
   have hz2 : (mkF l).2 = 0 := by rw [hz]
   have hok := hv.okM
   have hlen40 := hv.len
   refine u_reg ?_
   try refine lg_mk ?_
   refine u_ld ?_
   refine u_bd ?_
   refine u_bn ?_
   refine lg_nil ?_
   refine h4 _ ?_; clear h4; try clear N4
   refine u_cond (fun hb5 => ?_) (fun hb5 => ?_)
   ·exact absurd (And.intro hz1 hz2) (by have := hb5; simpa using this)
   ·refine vc_skip ?_
    try simp only [k_rules]
    refine h2 _ ?_; clear h2; try clear N2
    refine vc_seq_k fun N6 h6 => ?_
    refine vc_seq_k fun N7 h7 => ?_
    refine u_reg ?_
    try refine lg_mk ?_
    refine u_mv ?_
    refine u_ln ?_
    refine u_mv ?_
    refine lg_nil ?_
    refine h7 _ ?_; clear h7; try clear N7
    refine vc_block ?_
    refine vc_loop_mk (σ := Nat) (fun s => (fun i => i ≤ cs.length ∧ ∀ j, j < i → (visC cs j).1 = 0) s)
     (fun s => (fun i => [(0, .d (.sl (rows eM l))), (1, .d (.sl (rows eI cs))), (5, .ptr 0 0 0), (16, .d (.sl (rows eI cs))), (17, .d (.int .i64 (cs.length : Nat))), (18, .d (.int .i64 (i : Nat)))]) s)
     (fun s => (fun i => [some (.one 25 [.d (.int .i64 0), .d (.int .i64 0)])]) s) (fun s => (fun i => cs.length - i) s) hnp 0 ?_ [some 0] ?_ ?_
    ·dsimp only
     exact ⟨by omega, fun j hj => by omega⟩
    ·dsimp only
     refine ⟨by rfl, ?_, ?_⟩
     ·refine fin_ ?_
      exact cl_
     ·refine fin_ ?_
      exact cl_
    ·rintro i hinv N8 h8
     dsimp only at hinv ⊢
     obtain ⟨i1, i2⟩ := hinv
     refine vc_seq_k fun N9 h9 => ?_
     refine u_reg ?_
     try refine lg_mk ?_
     refine u_bn ?_
     refine lg_nil ?_
     refine h9 _ ?_; clear h9; try clear N9
     refine vc_seq_k fun N10 h10 => ?_
     refine u_cond (fun hb11 => ?_) (fun hb11 => ?_)
     ·obtain ⟨x, hxe⟩ := getE (l := cs) (i := i) (by omega)
      refine vc_skip ?_
      try simp only [k_rules]
      refine h10 _ ?_; clear h10; try clear N10
      refine vc_seq_k fun N12 h12 => ?_
      refine vc_block ?_
      refine vc_seq_k fun N13 h13 => ?_
      have hx := And.intro @hxe (And.intro @eI.eq_1 hx0)
      refine u_reg ?_
      try refine lg_mk ?_
      refine u_mv ?_
      refine u_pt ?_
      refine u_ld ?_
      refine u_mv ?_
      refine u_mv ?_
      refine lg_nil ?_
      have hx := hx0
      refine h13 _ ?_; clear h13; try clear N13
      refine vc_seq_k fun N14 h14 => ?_
      refine vc_seq_k fun N15 h15 => ?_
      refine u_reg ?_
      try refine lg_mk ?_
      refine u_mv ?_
      have hc := call_rule (E := (E_delV.at_ 51)) (f := 40) (sp := Spec.pure rgG) rfl
      have hs := @rgG.eq_1
      refine u_cp ?_
      refine u_un ?_
      refine lg_nil ?_
      refine h15 _ ?_; clear h15; try clear N15
      refine u_cond (fun hb16 => ?_) (fun hb16 => ?_)
      ·refine vc_seq_k fun N17 h17 => ?_
       refine u_reg ?_
       try refine lg_mk ?_
       refine u_mv ?_
       refine u_bn ?_
       refine u_bd ?_
       refine u_mv ?_
       refine u_st ?_
       refine lg_nil ?_
       refine h17 _ ?_; clear h17; try clear N17
       refine vc_ret ?_
       try simp only [k_rules]
       have hr := visF_at (L := l) hz1 (by omega) i2 (visC_rng hxe (by have := hb16; simpa using this)) (by decide)
       have hr2 : visR l cs = [] := visR_bad (by rw [hr]; exact (by decide : (3 : Int) ≠ 0))
       rw [hr, hr2]
       refine fin2_ ?_
       exact cl_
      ·refine vc_skip ?_
       try simp only [k_rules]
       refine h14 _ ?_; clear h14; try clear N14
       refine vc_seq_k fun N18 h18 => ?_
       rcases Nat.eq_zero_or_pos i with hk0 | hk0
       ·have hye := hxe
        have hgt : decide ((0 : Int) < (i : Int)) = false := decide_eq_false (by omega)
        have hpm := hxe
        have hx := And.intro @hxe (And.intro @hye (And.intro @hgt (And.intro @hpm (And.intro @eI.eq_1 hx0))))
        refine u_reg ?_
        try refine lg_mk ?_
        refine u_mv ?_
        refine u_bn ?_
        refine u_mv ?_
        refine g_mv ?_
        refine g_mv ?_
        refine g_mv ?_
        refine g_bn ?_
        refine g_pt ?_
        refine g_ld ?_
        refine g_bn ?_
        refine u_pk ?_
        refine lg_nil ?_
        have hx := hx0
        refine h18 _ ?_; clear h18; try clear N18
        refine u_cond (fun hb19 => ?_) (fun hb19 => ?_)
        ·first | omega | exact absurd trivial hb19 | contradiction | (simp_all; done)
        ·refine vc_skip ?_
         try simp only [k_rules]
         refine h12 _ ?_; clear h12; try clear N12
         refine u_reg ?_
         try refine lg_mk ?_
         refine u_bn ?_
         refine u_mv ?_
         refine lg_nil ?_
         refine h8 _ ⟨i + 1, ?_, ?_, [some 0], ?_⟩
         ·dsimp only
          exact ⟨by omega, lt_snoc i2 (by rw [visC_ok (y := 0) hxe (by have := hb16; simpa using this) (fun h => by omega)])⟩
         ·dsimp only
          omega
         ·dsimp only
          refine ⟨by rfl, ?_, ?_⟩
          ·refine fin_ ?_
           exact cl_
          ·refine fin_ ?_
           exact cl_
       ·obtain ⟨y, hye⟩ := getE (l := cs) (i := i - 1) (by omega)
        have hpm : ((i : Int) - 1).toNat = i - 1 := by omega
        have hgt : decide ((0 : Int) < (i : Int)) = true := decide_eq_true (by omega)
        have hx := And.intro @hxe (And.intro @hye (And.intro @hgt (And.intro @hpm (And.intro @eI.eq_1 hx0))))
        refine u_reg ?_
        try refine lg_mk ?_
        refine u_mv ?_
        refine u_bn ?_
        refine u_mv ?_
        refine g_mv ?_
        refine g_mv ?_
        refine g_mv ?_
        refine g_bn ?_
        refine g_pt ?_
        refine g_ld ?_
        refine g_bn ?_
        refine u_pk ?_
        refine lg_nil ?_
        have hx := hx0
        refine h18 _ ?_; clear h18; try clear N18
        refine u_cond (fun hb20 => ?_) (fun hb20 => ?_)
        ·refine vc_seq_k fun N21 h21 => ?_
         refine u_reg ?_
         try refine lg_mk ?_
         refine u_mv ?_
         refine u_bn ?_
         refine u_bd ?_
         refine u_mv ?_
         refine u_st ?_
         refine lg_nil ?_
         refine h21 _ ?_; clear h21; try clear N21
         refine vc_ret ?_
         try simp only [k_rules]
         have hr := visF_at (L := l) hz1 (by omega) i2 (visC_mal hxe (by have := hb16; simpa using this) hk0 hye (by have := hb20; omega)) (by decide)
         have hr2 : visR l cs = [] := visR_bad (by rw [hr]; exact (by decide : (5 : Int) ≠ 0))
         rw [hr, hr2]
         refine fin2_ ?_
         exact cl_
        ·refine vc_skip ?_
         try simp only [k_rules]
         refine h12 _ ?_; clear h12; try clear N12
         refine u_reg ?_
         try refine lg_mk ?_
         refine u_bn ?_
         refine u_mv ?_
         refine lg_nil ?_
         refine h8 _ ⟨i + 1, ?_, ?_, [some 0], ?_⟩
         ·dsimp only
          exact ⟨by omega, lt_snoc i2 (by rw [visC_ok hxe (by have := hb16; simpa using this) (fun _ => ⟨hye, by have := hb20; omega⟩)])⟩
         ·dsimp only
          omega
         ·dsimp only
          refine ⟨by rfl, ?_, ?_⟩
          ·refine fin_ ?_
           exact cl_
          ·refine fin_ ?_
           exact cl_
     ·have hz0 : ∀ j, j < cs.length → (visC cs j).1 = 0 := fun j hj => i2 j (by omega)
      have hvi := vis_of hz0
      have hrg := hvi.rng
      have hl60 := hvi.len
      have hva := visQ_aBl (fun j => goneK l (j : Int)) hrg
      refine vc_exit ?_
      simp only [k_rules, Nat.reduceEqDiff, reduceIte, eq_self]
      refine h6 _ ?_; clear h6; try clear N6
      refine vc_seq_k fun N22 h22 => ?_
      refine u_reg ?_
      try refine lg_mk ?_
      refine u_mv ?_
      have hc := call_rule (E := (E_delV.at_ 51)) (f := 41) (sp := Spec.pure goneAG) rfl
      have hs := @goneAG.eq_1
      refine u_cp (hq := by (first | (exact ⟨hl, hok⟩) | exact sd_)) ?_
      refine lg_sem (by rfl) (sem_allocOne (by first | (simp only [wB, eq_self, Nat.reduceEqDiff, reduceIte, env_rules, tys, hT, tiAgg]; done) | (simp only [wB, eq_self, Nat.reduceEqDiff, reduceIte, env_rules, tys, hT, tiAgg]; rfl)) rwA_zero (by simp) (by decide) ?_)
      try simp only [wB, eq_self, Nat.reduceEqDiff, reduceIte, wL, Int.toNat_natCast, Int.reduceToNat, Nat.reduceAdd, Nat.reduceMul, Nat.reduceSub, Nat.reduceLeDiff, hx]
      refine u_st ?_
      refine lg_nil ?_
      refine h22 _ ?_; clear h22; try clear N22
      refine vc_seq_k fun N23 h23 => ?_
      have hx := And.intro @hva hx0
      refine u_reg ?_
      try refine lg_mk ?_
      refine u_mv ?_
      have hc := call_rule (E := (E_delV.at_ 51)) (f := 30) (sp := Spec.fresh (cloneF 3)) rfl
      have hs := @cloneF.eq_1
      refine u_hg (hq := by (first | (exact ⟨of_eq_true (rect_eI cs), by omega⟩) | exact sd_)) ?_
      refine u_mf ?_
      have hc := call_rule (E := (E_delV.at_ 51)) (f := 45) (sp := Spec.gen delVG) rfl
      have hs := @delVG.eq_1
      refine u_hg (hq := by (first | (exact ⟨by omega, (aBl_rwA _).symm, hrg⟩) | exact sd_)) ?_
      refine u_bd ?_
      refine u_mv ?_
      refine u_st ?_
      refine lg_nil ?_
      have hx := hx0
      refine h23 _ ?_; clear h23; try clear N23
      refine vc_ret ?_
      try simp only [k_rules]
      have hr := visF_ok (L := l) hz1 hz0
      have hr2 := visR_ok hr hrg
      rw [hr, hr2]
      refine fin2_ ?_
      (repeat' apply And.intro) <;> (first | (first | rfl | exact Or.inl rfl | trivial | (simp; done) | (rw [List.drop_zero, rows_take, List.take_length]; done)) | exact cl_)
  ·have hz1 := hz
   refine u_reg ?_
   try refine lg_mk ?_
   refine u_ld ?_
   refine u_bd ?_
   refine u_bn ?_
   refine lg_nil ?_
   refine h4 _ ?_; clear h4; try clear N4
   refine u_cond (fun hb24 => ?_) (fun hb24 => ?_)
   ·refine vc_seq_k fun N25 h25 => ?_
    refine u_reg ?_
    try refine lg_mk ?_
    refine u_ld ?_
    refine u_mv ?_
    refine u_st ?_
    refine lg_nil ?_
    refine h25 _ ?_; clear h25; try clear N25
    refine vc_ret ?_
    try simp only [k_rules]
    have hr : visF l cs = mkF l := by unfold visF; rw [if_pos hz1]
    have hr2 : visR l cs = [] := visR_bad (by rw [hr]; exact hz1)
    rw [hr, hr2]
    refine fin2_ ?_
    exact cl_
   ·exact absurd (show (mkF l).1 = 0 by have := hb24; first | exact this.1 | exact (Classical.not_not.1 this).1 | (simp at this; exact this.1)) hz1
 ·cases hg

def E_vis : Env Try.prog := E_delV.add 23 (Spec.pure visG) vis_meets (by kernel_rfl)

theorem orp_meets : Meets Try.prog 25 (Spec.pure orpG) := by
 refine meets_fun (E_vis.at_ 84) Try.func25 rfl rfl rfl ?_
 intro args p r hg hp
 unfold orpG at hg
 split at hg
 ·rename_i xs ys
  simp only [Option.some.injEq, Prod.mk.injEq] at hg
  obtain ⟨rfl, rfl⟩ := hg
  obtain ⟨he, hl, hsm, he2, hl2, hsc⟩ := hp
  generalize dM xs = l at *
  generalize dC ys = C at *
  subst he he2
  have hT : (E_vis).X = T := rfl
  have hx0 := And.intro @mtL_rwA (And.intro @rect_eM (And.intro @rect_eC (And.intro @rwA_len (And.intro @rwA_take (And.intro @rwA_spl (And.intro @vec_len (And.intro @dC_rows (And.intro @dI_rows (And.intro @dM_rows (And.intro @dec_t (And.intro @dec_f @Try.results25)))))))))))
  have hx := hx0
  refine ⟨by rfl, ?_⟩
  intro F W0 hnp hmk
  refine vc_seq_k fun N1 h1 => ?_
  refine u_reg ?_
  try refine lg_mk ?_
  refine u_mv ?_
  refine u_al ?_
  refine lg_nil ?_
  refine h1 _ ?_; clear h1; try clear N1
  refine vc_seq_k fun N2 h2 => ?_
  refine vc_seq_k fun N3 h3 => ?_
  refine u_reg ?_
  try refine lg_mk ?_
  refine u_mv ?_
  have hc := call_rule (E := (E_vis.at_ 84)) (f := 18) (sp := Spec.pure valKG) rfl
  have hs := @valKG.eq_1
  refine u_cp ?_
  refine u_al ?_
  refine u_st ?_
  refine lg_nil ?_
  refine h3 _ ?_; clear h3; try clear N3
  refine vc_seq_k fun N4 h4 => ?_
  rcases mkF_or l with ⟨hz, hv⟩ | hz
  ·have hz1 : (mkF l).1 = 0 := by rw [hz]
   have hz2 : (mkF l).2 = 0 := by rw [hz]
   have hok := hv.okM
   have hlen40 := hv.len
   refine u_reg ?_
   try refine lg_mk ?_
   refine u_ld ?_
   refine u_bd ?_
   refine u_bn ?_
   refine lg_nil ?_
   refine h4 _ ?_; clear h4; try clear N4
   refine u_cond (fun hb5 => ?_) (fun hb5 => ?_)
   ·exact absurd (And.intro hz1 hz2) (by have := hb5; simpa using this)
   ·refine vc_skip ?_
    try simp only [k_rules]
    refine h2 _ ?_; clear h2; try clear N2
    refine vc_seq_k fun N6 h6 => ?_
    refine vc_seq_k fun N7 h7 => ?_
    refine u_reg ?_
    try refine lg_mk ?_
    refine u_mv ?_
    have hc := call_rule (E := (E_vis.at_ 84)) (f := 47) (sp := Spec.pure histG) rfl
    have hs := @histG.eq_1
    refine u_cp ?_
    refine u_al ?_
    refine u_st ?_
    refine lg_nil ?_
    refine h7 _ ?_; clear h7; try clear N7
    refine vc_seq_k fun N8 h8 => ?_
    rcases Decidable.em ((histF C).1 = 0) with hh | hh
    ·have hh0 := histF_zero hh
     have hh2 : (histF C).2 = 0 := by rw [hh0]
     have hval := valid_of hh
     have hc60 := hval.len
     refine u_reg ?_
     try refine lg_mk ?_
     refine u_ld ?_
     refine u_bd ?_
     refine u_bn ?_
     refine lg_nil ?_
     refine h8 _ ?_; clear h8; try clear N8
     refine u_cond (fun hb9 => ?_) (fun hb9 => ?_)
     ·exact absurd (And.intro hh hh2) (by have := hb9; simpa using this)
     ·refine vc_skip ?_
      try simp only [k_rules]
      refine h6 _ ?_; clear h6; try clear N6
      refine vc_seq_k fun N10 h10 => ?_
      refine u_reg ?_
      try refine lg_mk ?_
      refine u_mv ?_
      have hc := call_rule (E := (E_vis.at_ 84)) (f := 41) (sp := Spec.pure goneAG) rfl
      have hs := @goneAG.eq_1
      refine u_cp (hq := by (first | (exact ⟨hl, hok⟩) | exact sd_)) ?_
      refine lg_sem (by rfl) (sem_allocOne (by first | (simp only [wB, eq_self, Nat.reduceEqDiff, reduceIte, env_rules, tys, hT, tiAgg]; done) | (simp only [wB, eq_self, Nat.reduceEqDiff, reduceIte, env_rules, tys, hT, tiAgg]; rfl)) rwA_zero (by simp) (by decide) ?_)
      try simp only [wB, eq_self, Nat.reduceEqDiff, reduceIte, wL, Int.toNat_natCast, Int.reduceToNat, Nat.reduceAdd, Nat.reduceMul, Nat.reduceSub, Nat.reduceLeDiff, hx]
      refine u_st ?_
      refine lg_nil ?_
      refine h10 _ ?_; clear h10; try clear N10
      refine vc_seq_k fun N11 h11 => ?_
      refine u_reg ?_
      try refine lg_mk ?_
      refine u_mv ?_
      refine u_ln ?_
      refine u_ms ?_
      refine u_mv ?_
      refine lg_nil ?_
      refine h11 _ ?_; clear h11; try clear N11
      refine vc_seq_k fun N12 h12 => ?_
      refine u_reg ?_
      try refine lg_mk ?_
      refine u_mv ?_
      refine lg_nil ?_
      refine h12 _ ?_; clear h12; try clear N12
      refine vc_seq_k fun N13 h13 => ?_
      refine vc_seq_k fun N14 h14 => ?_
      refine u_reg ?_
      try refine lg_mk ?_
      refine u_mv ?_
      refine u_ln ?_
      refine u_mv ?_
      refine lg_nil ?_
      refine h14 _ ?_; clear h14; try clear N14
      refine vc_block ?_
      refine vc_loop_mk (σ := Nat) (fun s => (fun i => i ≤ C.length) s)
       (fun s => (fun i => [(0, .d (.sl (rows eM l))), (1, .d (.sl (rows eC C))), (5, .ptr 0 0 0), (8, .ptr 1 0 0), (9, .sl 2 0 C.length), (10, .sl 3 0 (lst i (orpB l C)).length), (34, .d (.sl (rows eC C))), (35, .d (.int .i64 (C.length : Nat))), (36, .d (.int .i64 (i : Nat)))]) s)
       (fun s => (fun i => [some (.one 25 [.d (.int .i64 0), .d (.int .i64 0)]), some (.one 64 (rwA fun j => goneK l (j : Int))), some (.vec 4 1 (rows eB (vec C.length (belV l C i 0)))), some (.vec 3 1 (rows eI (lst i (orpB l C))))]) s) (fun s => (fun i => C.length - i) s) hnp 0 ?_ [some 0, some 3, some 4, none] ?_ ?_
      ·dsimp only
       omega
      ·dsimp only
       refine ⟨by rfl, ?_, ?_⟩
       ·refine fin_ ?_
        (repeat' apply And.intro) <;> (first | (first | (with_reducible rfl) | exact True.intro | rfl | exact bel_start _ _) | exact cl_)
       ·refine fin_ ?_
        (repeat' apply And.intro) <;> (first | (first | (with_reducible rfl) | exact True.intro | rfl | exact bel_start _ _) | exact cl_)
      ·rintro i hinv N15 h15
       dsimp only at hinv ⊢
       have i1 := hinv
       refine vc_seq_k fun N16 h16 => ?_
       refine u_reg ?_
       try refine lg_mk ?_
       refine u_bn ?_
       refine lg_nil ?_
       refine h16 _ ?_; clear h16; try clear N16
       refine vc_seq_k fun N17 h17 => ?_
       refine u_cond (fun hb18 => ?_) (fun hb18 => ?_)
       ·obtain ⟨c, hce⟩ := getE (l := C) (i := i) (by omega)
        have hil : i < C.length := by omega
        have hc3 := hval.few hce
        have hll := lst_len i (orpB l C)
        refine vc_skip ?_
        try simp only [k_rules]
        refine h17 _ ?_; clear h17; try clear N17
        refine vc_seq_k fun N19 h19 => ?_
        refine vc_block ?_
        refine vc_seq_k fun N20 h20 => ?_
        have hx := And.intro @hce (And.intro @eC.eq_1 hx0)
        refine u_reg ?_
        try refine lg_mk ?_
        refine u_mv ?_
        refine u_pt ?_
        refine u_ld ?_
        refine u_al ?_
        refine u_mv ?_
        refine u_st ?_
        refine lg_nil ?_
        have hx := hx0
        refine h20 _ ?_; clear h20; try clear N20
        refine vc_seq_k fun N21 h21 => ?_
        refine vc_seq_k fun N22 h22 => ?_
        refine u_reg ?_
        try refine lg_mk ?_
        refine u_pt ?_
        refine u_ld ?_
        refine u_ln ?_
        refine u_mv ?_
        refine lg_nil ?_
        refine h22 _ ?_; clear h22; try clear N22
        refine vc_block ?_
        refine vc_loop_mk (σ := Nat) (fun s => (fun j => j ≤ c.par.length) s)
         (fun s => (fun j => [(0, .d (.sl (rows eM l))), (1, .d (.sl (rows eC C))), (5, .ptr 0 0 0), (8, .ptr 1 0 0), (9, .sl 2 0 C.length), (10, .sl 3 0 (lst i (orpB l C)).length), (11, .d (.int .i64 (i : Nat))), (34, .d (.sl (rows eC C))), (35, .d (.int .i64 (C.length : Nat))), (36, .d (.int .i64 (i : Nat))), (42, .d (.sl (rows eI c.par))), (43, .d (.int .i64 (c.par.length : Nat))), (44, .d (.int .i64 (j : Nat)))]) s)
         (fun s => (fun j => [some (.one 25 [.d (.int .i64 0), .d (.int .i64 0)]), some (.one 64 (rwA fun j => goneK l (j : Int))), some (.vec 4 1 (rows eB (vec C.length (belV l C i j)))), some (.vec 3 1 (rows eI (lst i (orpB l C))))]) s) (fun s => (fun j => c.par.length - j) s) hnp 0 ?_ [some 0, some 1, some 2, some 3] ?_ ?_
        ·dsimp only
         omega
        ·dsimp only
         refine ⟨by rfl, ?_, ?_⟩
         ·refine fin_ ?_
          (repeat' apply And.intro) <;> (first | (first | (with_reducible rfl) | exact True.intro) | exact cl_)
         ·refine fin_ ?_
          (repeat' apply And.intro) <;> (first | (first | (with_reducible rfl) | exact True.intro) | exact cl_)
        ·rintro j hinv N23 h23
         dsimp only at hinv ⊢
         have j1 := hinv
         refine vc_seq_k fun N24 h24 => ?_
         refine u_reg ?_
         try refine lg_mk ?_
         refine u_bn ?_
         refine lg_nil ?_
         refine h24 _ ?_; clear h24; try clear N24
         refine vc_seq_k fun N25 h25 => ?_
         refine u_cond (fun hb26 => ?_) (fun hb26 => ?_)
         ·obtain ⟨p, hpe⟩ := getE (l := c.par) (i := j) (by omega)
          have hpr := hval.par hce hpe
          have hg1 := bel_now (L := l) (j := j) hil
          have hg2 := bel_old (L := l) (j := j) (p := p.toNat) hil (by omega)
          have hg3 : (rwA fun j => goneK l (j : Int))[p.toNat * 1]? = some (.d (.bool (goneK l p))) := by rw [rwA_get1 (by omega), show ((p.toNat : Nat) : Int) = p by omega]
          refine vc_skip ?_
          try simp only [k_rules]
          refine h25 _ ?_; clear h25; try clear N25
          refine vc_seq_k fun N27 h27 => ?_
          refine vc_block ?_
          refine vc_seq_k fun N28 h28 => ?_
          have hx := And.intro @hpe (And.intro @eI.eq_1 hx0)
          refine u_reg ?_
          try refine lg_mk ?_
          refine u_pt ?_
          refine u_ld ?_
          refine u_mv ?_
          refine lg_nil ?_
          have hx := hx0
          refine h28 _ ?_; clear h28; try clear N28
          have hx := And.intro @hg1 (And.intro @hg2 (And.intro @hg3 (And.intro @eB.eq_1 hx0)))
          refine u_reg ?_
          try refine lg_mk ?_
          refine u_mv ?_
          refine u_mv ?_
          refine u_mv ?_
          refine u_mv ?_
          refine u_pt ?_
          refine u_ld ?_
          refine u_mv ?_
          refine g_mv ?_
          refine g_mv ?_
          refine g_pt ?_
          refine g_ld ?_
          refine u_pk ?_
          refine u_mv ?_
          refine g_mv ?_
          refine g_pt ?_
          refine g_ld ?_
          refine u_pk ?_
          refine u_pt ?_
          refine u_st ?_
          refine lg_nil ?_
          have hx := hx0
          refine h27 _ ?_; clear h27; try clear N27
          refine u_reg ?_
          try refine lg_mk ?_
          refine u_bn ?_
          refine u_mv ?_
          refine lg_nil ?_
          refine h23 _ ⟨j + 1, ?_, ?_, [some 0, some 1, some 2, some 3], ?_⟩
          ·dsimp only
           omega
          ·dsimp only
           omega
          ·dsimp only
           refine ⟨by rfl, ?_, ?_⟩
           ·refine fin_ ?_
            (repeat' apply And.intro) <;> (first | (first | (with_reducible rfl) | exact True.intro | exact bel_set hce hpe) | exact cl_)
           ·refine fin_ ?_
            (repeat' apply And.intro) <;> (first | (first | (with_reducible rfl) | exact True.intro | exact bel_set hce hpe) | exact cl_)
         ·obtain rfl : j = c.par.length := by omega
          have hg1 := bel_fin (L := l) hval hce
          have hg2 := rwA_get1 (f := fun j => goneK l (j : Int)) (k := i) (by omega)
          refine vc_exit ?_
          simp only [k_rules, Nat.reduceEqDiff, reduceIte, eq_self]
          refine h21 _ ?_; clear h21; try clear N21
          refine vc_seq_k fun N29 h29 => ?_
          have hx := And.intro @hg1 (And.intro @hg2 (And.intro @eB.eq_1 hx0))
          refine u_reg ?_
          try refine lg_mk ?_
          refine u_mv ?_
          refine u_mv ?_
          refine u_pt ?_
          refine u_ld ?_
          refine u_mv ?_
          refine g_mv ?_
          refine g_pt ?_
          refine g_ld ?_
          refine g_un ?_
          refine u_pk ?_
          refine lg_nil ?_
          have hx := hx0
          refine h29 _ ?_; clear h29; try clear N29
          refine u_cond (fun hb30 => ?_) (fun hb30 => ?_)
          ·refine u_reg ?_
           try refine lg_mk ?_
           refine u_mv ?_
           refine u_mv ?_
           refine u_bs ?_
           refine u_ap ?_
           refine u_mv ?_
           refine lg_nil ?_
           refine h19 _ ?_; clear h19; try clear N19
           refine u_reg ?_
           try refine lg_mk ?_
           refine u_bn ?_
           refine u_mv ?_
           refine lg_nil ?_
           have hls := lst_yes (f := orpB l C) (i := i) (by have := hb30; unfold orpB; simpa using this)
           refine h15 _ ⟨i + 1, ?_, ?_, [some 0, some 1, some 2, some 5], ?_⟩
           ·dsimp only
            omega
           ·dsimp only
            omega
           ·dsimp only
            refine ⟨by rfl, ?_, ?_⟩
            ·refine fin_ ?_
             (repeat' apply And.intro) <;> (first | (first | (with_reducible rfl) | exact True.intro | (rw [hls]; simp [rows, eI]; done) | (rw [belV_next hval hce]; done)) | exact cl_)
            ·refine fin_ ?_
             (repeat' apply And.intro) <;> (first | (first | (with_reducible rfl) | exact True.intro | (rw [hls]; simp [rows, eI]; done) | (rw [belV_next hval hce]; done)) | exact cl_)
          ·refine vc_skip ?_
           try simp only [k_rules]
           refine h19 _ ?_; clear h19; try clear N19
           refine u_reg ?_
           try refine lg_mk ?_
           refine u_bn ?_
           refine u_mv ?_
           refine lg_nil ?_
           have hls := lst_no (f := orpB l C) (i := i) (by have := hb30; unfold orpB; simpa using this)
           refine h15 _ ⟨i + 1, ?_, ?_, [some 0, some 1, some 2, some 3], ?_⟩
           ·dsimp only
            omega
           ·dsimp only
            omega
           ·dsimp only
            refine ⟨by rfl, ?_, ?_⟩
            ·refine fin_ ?_
             (repeat' apply And.intro) <;> (first | (first | (with_reducible rfl) | exact True.intro | (rw [hls]; done) | (rw [belV_next hval hce]; done)) | exact cl_)
            ·refine fin_ ?_
             (repeat' apply And.intro) <;> (first | (first | (with_reducible rfl) | exact True.intro | (rw [hls]; done) | (rw [belV_next hval hce]; done)) | exact cl_)
       ·refine vc_exit ?_
        simp only [k_rules, Nat.reduceEqDiff, reduceIte, eq_self]
        refine h13 _ ?_; clear h13; try clear N13
        refine vc_seq_k fun N31 h31 => ?_
        refine u_reg ?_
        try refine lg_mk ?_
        refine u_mv ?_
        refine u_bd ?_
        refine u_mv ?_
        refine u_st ?_
        refine lg_nil ?_
        refine h31 _ ?_; clear h31; try clear N31
        refine vc_ret ?_
        try simp only [k_rules]
        obtain rfl : i = C.length := by omega
        have hr : orpF l C = (0, 0) := by unfold orpF; rw [if_neg (by simp [hz1]), if_neg (by simp [hh])]
        have hr2 : orpR l C = lst C.length (orpB l C) := by unfold orpR; rw [hr, if_neg (by simp)]; rfl
        rw [hr, hr2]
        refine fin2_ ?_
        (repeat' apply And.intro) <;> (first | (first | rfl | exact Or.inl rfl | trivial | (simp; done)) | exact cl_)
    ·have hh2 := hh
     refine u_reg ?_
     try refine lg_mk ?_
     refine u_ld ?_
     refine u_bd ?_
     refine u_bn ?_
     refine lg_nil ?_
     refine h8 _ ?_; clear h8; try clear N8
     refine u_cond (fun hb32 => ?_) (fun hb32 => ?_)
     ·refine vc_seq_k fun N33 h33 => ?_
      refine u_reg ?_
      try refine lg_mk ?_
      refine u_pt ?_
      refine u_ld ?_
      refine u_bd ?_
      refine u_mv ?_
      refine u_st ?_
      refine lg_nil ?_
      refine h33 _ ?_; clear h33; try clear N33
      refine vc_ret ?_
      try simp only [k_rules]
      have hr : orpF l C = ((histF C).1, -2) := by unfold orpF; rw [if_neg (by simp [hz1]), if_pos hh]
      have hr2 : orpR l C = [] := by unfold orpR; rw [hr, if_pos hh]
      rw [hr, hr2]
      refine fin2_ ?_
      exact cl_
     ·exact absurd (show (histF C).1 = 0 by have := hb32; first | exact this.1 | exact (Classical.not_not.1 this).1 | (simp at this; exact this.1)) hh
  ·have hz1 := hz
   refine u_reg ?_
   try refine lg_mk ?_
   refine u_ld ?_
   refine u_bd ?_
   refine u_bn ?_
   refine lg_nil ?_
   refine h4 _ ?_; clear h4; try clear N4
   refine u_cond (fun hb34 => ?_) (fun hb34 => ?_)
   ·refine vc_seq_k fun N35 h35 => ?_
    refine u_reg ?_
    try refine lg_mk ?_
    refine u_ld ?_
    refine u_mv ?_
    refine u_st ?_
    refine lg_nil ?_
    refine h35 _ ?_; clear h35; try clear N35
    refine vc_ret ?_
    try simp only [k_rules]
    have hr : orpF l C = mkF l := by unfold orpF; rw [if_pos hz1]
    have hr2 : orpR l C = [] := by unfold orpR; rw [hr, if_pos hz1]
    rw [hr, hr2]
    refine fin2_ ?_
    exact cl_
   ·exact absurd (show (mkF l).1 = 0 by have := hb34; first | exact this.1 | exact (Classical.not_not.1 this).1 | (simp at this; exact this.1)) hz1
 ·cases hg

def E_orp : Env Try.prog := E_vis.add 25 (Spec.pure orpG) orp_meets (by kernel_rfl)
end Go.Proofs.Ytjpkgmmmmcgmeaa
