/- Walks, printed by wip/gen/walk.py. -/
import Derived.Test.YtmbjnkgpcbpclaaGreatT7
import Derived.Test.YtmbjnkgpcbpclaaGreatV5
set_option linter.all false
set_option maxRecDepth 100000
set_option maxHeartbeats 4000000
namespace Go.Proofs.YtmbjnkgpcbpclaaGreat
open Go Go.Vc Go.RowKit
def HU (n : Nat) : List Int := List.map (fun k : Nat => Int.ofNat k) (List.range n)
theorem D9 (n : Nat) : (HU n).length = n := by simp [HU]
theorem KA (n : Nat) : HU (n + 1) = HU n ++ [(n : Int)] := by simp [HU, List.range_succ]
theorem J3 {n : Nat} {x : Int} : x ∈ HU n ↔ 0 ≤ x ∧ x < n := by
  unfold HU
  rw [List.mem_map]
  constructor
  · rintro ⟨k, hk, rfl⟩
    have := List.mem_range.1 hk
    show 0 ≤ (k : Int) ∧ (k : Int) < n
    omega
  · intro h; exact ⟨x.toNat, List.mem_range.2 (by omega), (show ((x.toNat : Nat) : Int) = x by omega)⟩
theorem QV (n : Nat) : (HU n).Pairwise (· < ·) := by
  induction n with
  | zero => simp [HU]
  | succ n ih =>
    rw [KA, List.pairwise_append]
    exact ⟨ih, by simp, fun x hx y hy => by rw [List.mem_singleton] at hy; have := (J3.1 hx).2; omega⟩
theorem SZ (n : Nat) : JU (HU n) n = HU (n + 1) := by
  rw [SY (k := n) (fun h => by have := J3.1 h; omega) (fun x hx => (J3.1 (List.mem_of_mem_take hx)).2) (.inl (D9 n).symm), KA]
  rw [List.take_of_length_le (by rw [D9]; exact Nat.le_refl _), List.drop_of_length_le (by rw [D9]; exact Nat.le_refl _)]
def HT (ts : List Bs) : Nat → List AU
  | 0 => []
  | k + 1 => NX (HT ts k) k (ts.getD k [])
def Mw (s : Bs) : Bool := decide (400 < s.length)
def CS (ts : List Bs) : Int × Int := if 20 < ts.length then (2, -1) else if ts.any Mw = true then (10, (ts.findIdx Mw : Nat)) else (0, 0)
def Vs (ts : List Bs) : List Int := if (CS ts).1 = 0 then HU ts.length else []
def Vr (ts : List Bs) : List AU := if (CS ts).1 = 0 then HT ts ts.length else []
theorem K9 (ts : List Bs) : ∀ k, IY (HT ts k)
  | 0 => ⟨List.Pairwise.nil, fun p h => by cases h⟩
  | k + 1 => HH (K9 ts k) _
theorem MQ {ts : List Bs} (h : ∀ s ∈ ts, s.length ≤ 400) : ∀ k, (HT ts k).length ≤ 400 * k ∧ ∀ p ∈ HT ts k, p.2.length ≤ 400 * k + 1
  | 0 => ⟨by simp [HT], fun p h => by cases h⟩
  | k + 1 => by
    obtain ⟨h1, h2⟩ := MQ h k
    have h3 : (ts.getD k []).length ≤ 400 := by
      rw [List.getD_eq_getElem?_getD]
      cases hk : ts[k]? with
      | none => simp
      | some s => exact h s (List.mem_of_getElem? hk)
    have h4 := Je (P := HT ts k) (n := k) (s := ts.getD k []) ((ts.getD k []).length - 2)
    have h5 := Jf (P := HT ts k) (n := k) (s := ts.getD k []) (M := 400 * k + 1) (by omega) h2 ((ts.getD k []).length - 2)
    exact ⟨by show (NX _ _ _).length ≤ _; unfold NX; omega, fun p hp => by have := h5 p hp; omega⟩
def eT (s : Bs) : List D := [.str s]
def dT (xs : List (List D)) : List Bs := xs.map fun r => match r with
  | [.str s] => s
  | _ => []
theorem P2 (l : List Bs) : dT (rows eT l) = l := by
  induction l with
  | nil => rfl
  | cons p l ih => exact congrArg (p :: ·) ih
theorem F1 (l : List Bs) : C4 1 (rows eT l) = True := eq_true (fun x hx => by obtain ⟨a, _, rfl⟩ := List.mem_map.1 hx; rfl)
def Ez : List AV → Option (Prop × AV)
  | [.d (.sl xs)] => some (xs = rows eT (dT xs) ∧ (dT xs).length ≤ 9223372036854775807 ∧ ∀ s ∈ dT xs, s.length ≤ 9223372036854775807, .tup [.agg [.d (.sl (rows eI (Vs (dT xs)))), .d (.sl (rows eP (Vr (dT xs))))], .agg [.d (.int .i64 (CS (dT xs)).1), .d (.int .i64 (CS (dT xs)).2)]])
  | _ => none
theorem Vm {α : Type} {P : α → Bool} {l : List α} {i : Nat} {x : α} (h : l[i]? = some x) (hp : P x = true) (hn : ∀ y ∈ l.take i, P y = false) : l.any P = true ∧ l.findIdx P = i := by
  refine ⟨List.any_eq_true.2 ⟨x, List.mem_of_getElem? h, hp⟩, ?_⟩
  induction l generalizing i with
  | nil => simp at h
  | cons a l ih =>
    cases i with
    | zero => simp only [List.getElem?_cons_zero, Option.some.injEq] at h; subst h; rw [List.findIdx_cons, hp]; rfl
    | succ i =>
      have h1 := hn a (by simp)
      rw [List.findIdx_cons, h1, ih (by simpa using h) (fun y hy => hn y (by simp [hy]))]; rfl
theorem Sp {α : Type} {P : α → Bool} {l : List α} (hn : ∀ y ∈ l, P y = false) : l.any P = false := by
  rw [Bool.eq_false_iff]; intro h; obtain ⟨x, hx, hp⟩ := List.any_eq_true.1 h; rw [hn x hx] at hp; cases hp
theorem Rj {α : Type} {l : List α} {k : Nat} {x : α} {P : α → Bool} (h : ∀ y ∈ l.take k, P y = false) (hx : l[k]? = some x) (hp : P x = false) : ∀ y ∈ l.take (k + 1), P y = false := fun y hy => by
  rw [List.take_add_one, hx] at hy
  rcases List.mem_append.1 hy with hy | hy
  · exact h y hy
  · simp only [Option.toList_some, List.mem_singleton] at hy; rw [hy]; exact hp

theorem L1 : A1 Tryz.prog 25 (Spec.pure Ez) := by
 refine Az (KY.at_ 41) Tryz.func25 rfl rfl rfl ?_
 intro args p r hg hp
 unfold Ez at hg
 split at hg
 rename_i xs
 simp only [Option.some.injEq, Prod.mk.injEq] at hg
 obtain ⟨rfl, rfl⟩ := hg
 obtain ⟨he, hl, hsl⟩ := hp
 generalize dT xs = l at *
 subst he
 have hT : (KY).X = T := rfl
 have hx0 := And.intro @F1 (And.intro @eT.eq_1 @Tryz.results25)
 have hx := hx0
 refine ⟨by rfl, ?_⟩
 intro F W0 hnp hmk
 refine Aa fun N1 h1 => ?_
 refine Ad ?_
 try refine Ac ?_
 iterate 2 refine Bw ?_
 refine Ab ?_
 refine h1 _ ?_; clear h1
 refine Aa fun N2 h2 => ?_
 refine Aa fun N3 h3 => ?_
 refine Ad ?_
 try refine Ac ?_
 refine Ae ?_
 refine AZ ?_
 refine Al ?_
 refine Ab ?_
 refine h3 _ ?_; clear h3
 refine Ai (fun hb4 => ?_) (fun hb4 => ?_)
 refine Aa fun N5 h5 => ?_
 refine Ad ?_
 try refine Ac ?_
 iterate 2 refine BL ?_
 iterate 2 refine A4 ?_
 refine Ab ?_
 refine h5 _ ?_; clear h5
 refine An ?_
 try simp only [Af]
 have hle20 : 20 < l.length := by have := hb4; omega
 have hr : CS l = (2, -1) := by unfold CS; rw [if_pos hle20]
 unfold Vs Vr
 rw [hr]
 refine Ax ?_
 exact As
 refine Am ?_
 try simp only [Af]
 refine h2 _ ?_; clear h2
 refine Aa fun N6 h6 => ?_
 refine Aa fun N7 h7 => ?_
 refine Ad ?_
 try refine Ac ?_
 refine Ae ?_
 refine AZ ?_
 refine Ae ?_
 refine Ab ?_
 refine h7 _ ?_; clear h7
 refine Au ?_
 refine A0 (σ := Nat) (fun s => (fun i => i ≤ l.length ∧ ∀ y ∈ l.take i, Mw y = false) s)
  (fun s => (fun i => [(0, .d (.sl (rows eT l))), (2, .ptr 0 0 0), (3, .ptr 1 0 0), (14, .d (.sl (rows eT l))), (15, .d (.int .i64 (l.length : Nat))), (16, .d (.int .i64 (i : Nat)))]) s)
  (fun s => (fun i => [some (.one 49 [.d .nils, .d .nils]), some (.one 29 [.d (.int .i64 0), .d (.int .i64 0)])]) s) (fun s => (fun i => l.length - i) s) hnp 0 ?_ [some 0, some 1] ?_ ?_
 dsimp only
 simp
 dsimp only
 refine ⟨by rfl, ?_, ?_⟩
 refine Aj ?_
 exact As
 refine Aj ?_
 exact As
 rintro i hinv N8 h8
 dsimp only at hinv ⊢
 obtain ⟨i1, i2⟩ := hinv
 refine Aa fun N9 h9 => ?_
 refine Ad ?_
 try refine Ac ?_
 refine Al ?_
 refine Ab ?_
 refine h9 _ ?_; clear h9
 refine Aa fun N10 h10 => ?_
 refine Ai (fun hb11 => ?_) (fun hb11 => ?_)
 obtain ⟨x, hxe⟩ := BG (l := l) (i := i) (by omega)
 have hxl := hsl x (AE hxe)
 refine Am ?_
 try simp only [Af]
 refine h10 _ ?_; clear h10
 refine Aa fun N12 h12 => ?_
 refine Au ?_
 refine Aa fun N13 h13 => ?_
 have hx := And.intro @hxe hx0
 refine Ad ?_
 try refine Ac ?_
 refine Ae ?_
 refine At ?_
 refine Ap ?_
 iterate 2 refine Ae ?_
 refine Ab ?_
 have hx := hx0
 refine h13 _ ?_; clear h13
 refine Aa fun N14 h14 => ?_
 refine Ad ?_
 try refine Ac ?_
 refine Ae ?_
 refine AZ ?_
 refine Al ?_
 refine Ab ?_
 refine h14 _ ?_; clear h14
 refine Ai (fun hb15 => ?_) (fun hb15 => ?_)
 have hbad : Mw x = true := decide_eq_true (by have := hb15; omega)
 refine Aa fun N16 h16 => ?_
 refine Ad ?_
 try refine Ac ?_
 refine BL ?_
 refine Ae ?_
 refine BL ?_
 iterate 2 refine A4 ?_
 refine Ab ?_
 refine h16 _ ?_; clear h16
 refine An ?_
 try simp only [Af]
 have hle20 : ¬ 20 < l.length := by have := hb4; omega
 obtain ⟨ha, hf⟩ := Vm hxe hbad i2
 have hr : CS l = (10, (i : Int)) := by unfold CS; rw [if_neg hle20, if_pos ha, hf]
 unfold Vs Vr
 rw [hr]
 refine Ax ?_
 exact As
 have hbad : Mw x = false := decide_eq_false (by have := hb15; omega)
 refine Am ?_
 try simp only [Af]
 refine h12 _ ?_; clear h12
 refine Ad ?_
 try refine Ac ?_
 refine Al ?_
 refine Ae ?_
 refine Ab ?_
 refine h8 _ ⟨i + 1, ?_, ?_, [some 0, some 1], ?_⟩
 dsimp only
 exact ⟨by omega, Rj i2 hxe hbad⟩
 dsimp only
 omega
 dsimp only
 refine ⟨by rfl, ?_, ?_⟩
 refine Aj ?_
 exact As
 refine Aj ?_
 exact As
 refine AF ?_
 simp only [Af, Nat.reduceEqDiff, reduceIte, eq_self]
 refine h6 _ ?_; clear h6
 refine Aa fun N17 h17 => ?_
 refine Ad ?_
 try refine Ac ?_
 refine Bw ?_
 refine Ab ?_
 refine h17 _ ?_; clear h17
 refine Aa fun N18 h18 => ?_
 refine Aa fun N19 h19 => ?_
 refine IK 2 0 _ 1 (Ma 3 1) rfl rfl rfl ?_
 simp only [BS, List.set, List.cons_append, List.nil_append]
 refine IK 2 1 _ 2 (Xx 85 2 1 3 1) rfl rfl rfl ?_
 simp only [BS, List.set, List.cons_append, List.nil_append]
 refine Ad ?_
 try refine Ac ?_
 refine Ae ?_
 refine AZ ?_
 refine Ae ?_
 refine Ab ?_
 refine h19 _ ?_; clear h19
 refine Au ?_
 have hall : ∀ y ∈ l, Mw y = false := by rw [List.take_of_length_le (by omega)] at i2; exact i2
 have h400 : ∀ y ∈ l, y.length ≤ 400 := fun y hy => by have := of_decide_eq_false (hall y hy); omega
 refine A0 (σ := Nat) (fun s => (fun i => i ≤ l.length) s)
  (fun s => (fun i => [(0, .d (.sl (rows eT l))), (2, .ptr 0 0 0), (3, .ptr 1 0 0), (6, .ptr 2 0 0), (28, .d (.sl (rows eT l))), (29, .d (.int .i64 (l.length : Nat))), (30, .d (.int .i64 (i : Nat)))]) s)
  (fun s => (fun i => [some (.one 49 [.d .nils, .d .nils]), some (.one 29 [.d (.int .i64 0), .d (.int .i64 0)]), some (.one 49 [.sl 3 0 i, .sl 4 0 (HT l i).length]), some (.vec 3 1 (rows eI (HU i))), some (.ob (.uv 85 2 1 3 1 ((HT l i).map uP)))]) s) (fun s => (fun i => l.length - i) s) hnp 0 ?_ [some 0, some 1, some 2, some 3, some 4] ?_ ?_
 dsimp only
 omega
 dsimp only
 refine ⟨by rfl, ?_, ?_⟩
 refine Aj ?_
 exact As
 refine Aj ?_
 exact As
 rintro i hinv N20 h20
 dsimp only at hinv ⊢
 have hg := K9 l i
 obtain ⟨hb1, hb2⟩ := MQ h400 i
 refine Aa fun N21 h21 => ?_
 refine Ad ?_
 try refine Ac ?_
 refine Al ?_
 refine Ab ?_
 refine h21 _ ?_; clear h21
 refine Aa fun N22 h22 => ?_
 refine Ai (fun hb23 => ?_) (fun hb23 => ?_)
 obtain ⟨x, hxe⟩ := BG (l := l) (i := i) (by omega)
 have hxl := h400 x (AE hxe)
 have hle20 : ¬ 20 < l.length := by have := hb4; omega
 refine Am ?_
 try simp only [Af]
 refine h22 _ ?_; clear h22
 refine Aa fun N24 h24 => ?_
 refine Au ?_
 refine Aa fun N25 h25 => ?_
 have hx := And.intro @hxe hx0
 refine Ad ?_
 try refine Ac ?_
 refine Ae ?_
 refine At ?_
 refine Ap ?_
 iterate 2 refine Ae ?_
 refine Ab ?_
 have hx := hx0
 refine h25 _ ?_; clear h25
 refine Ad ?_
 try refine Ac ?_
 iterate 2 refine Ae ?_
 have hc := Ag (E := (KY.at_ 41)) (f := 53) (sp := Spec.gen Jg) rfl
 have hs := @Jg.eq_1
 refine B8 (hq := by (first | (exact ⟨HT l i, rfl, (D9 i).symm, QV i, (by rw [D9]; omega), (by rw [List.length_map]), hg, (by omega), (fun p hp => by have := hb2 p hp; omega), (by omega)⟩) | exact A3)) ?_
 refine Ab ?_
 rw [U5]
 refine h24 _ ?_; clear h24
 refine Ad ?_
 try refine Ac ?_
 refine Al ?_
 refine Ae ?_
 refine Ab ?_
 have hgd : l.getD i [] = x := by rw [List.getD_eq_getElem?_getD, hxe]; rfl
 have hp1 : NX (HT l i) i x = HT l (i + 1) := by rw [← hgd]; rfl
 rw [SZ, hp1]
 refine h20 _ ⟨i + 1, ?_, ?_, [some 0, some 1, some 2, some 5, some 6], ?_⟩
 dsimp only
 omega
 dsimp only
 omega
 dsimp only
 refine ⟨by rfl, ?_, ?_⟩
 refine Aj ?_
 ·(repeat' apply And.intro) <;> (first | (first | rfl | (rw [D9]; done) | (simp; done)) | exact As)
 refine Aj ?_
 ·(repeat' apply And.intro) <;> (first | (first | rfl | (rw [D9]; done) | (simp; done)) | exact As)
 refine AF ?_
 simp only [Af, Nat.reduceEqDiff, reduceIte, eq_self]
 refine h18 _ ?_; clear h18
 refine Aa fun N26 h26 => ?_
 have hie : i = l.length := by have := hb23; omega
 subst hie
 refine UB 2 1 rfl rfl rfl rfl (by rw [List.length_map]) ?_
 simp only [Bc, BS, List.set, List.cons_append, List.nil_append, List.mem_cons, List.not_mem_nil, or_false]
 rw [SA]
 refine Ad ?_
 try refine Ac ?_
 refine Ap ?_
 refine BL ?_
 iterate 2 refine A4 ?_
 refine Ab ?_
 refine h26 _ ?_; clear h26
 refine An ?_
 try simp only [Af]
 have hle20 : ¬ 20 < l.length := by have := hb4; omega
 have hr : CS l = (0, 0) := by unfold CS; rw [if_neg hle20, Sp hall]; rfl
 unfold Vs Vr
 rw [hr]
 refine Ax ?_
 ·(repeat' apply And.intro) <;> (first | (first | rfl | (rw [List.take_of_length_le (Nat.le_of_eq (D9 _))]; done) | (simp [D9]; done)) | exact As)
 cases hg

def IR : Bn Tryz.prog := KY.add 25 (Spec.pure Ez) L1 (by kernel_rfl)
end Go.Proofs.YtmbjnkgpcbpclaaGreat
