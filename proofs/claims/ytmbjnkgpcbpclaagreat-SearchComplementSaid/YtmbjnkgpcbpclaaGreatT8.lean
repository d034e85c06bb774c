/- Walks, printed by wip/gen/walk.py. -/
import Derived.Test.YtmbjnkgpcbpclaaGreatT7
import Derived.Test.YtmbjnkgpcbpclaaGreatV5
set_option linter.all false
set_option maxRecDepth 100000
set_option maxHeartbeats 4000000
namespace Go.Proofs.YtmbjnkgpcbpclaaGreat
open Go Go.Vc Go.RowKit
def Ek (n : Nat) : List Int := List.map (fun k : Nat => Int.ofNat k) (List.range n)
theorem CF (n : Nat) : (Ek n).length = n := by simp [Ek]
theorem Kh (n : Nat) : Ek (n + 1) = Ek n ++ [(n : Int)] := by simp [Ek, List.range_succ]
theorem E0 {n : Nat} {x : Int} : x ∈ Ek n ↔ 0 ≤ x ∧ x < n := by
  unfold Ek
  rw [List.mem_map]
  constructor
  · rintro ⟨k, hk, rfl⟩
    have := List.mem_range.1 hk
    show 0 ≤ (k : Int) ∧ (k : Int) < n
    omega
  · intro h; exact ⟨x.toNat, List.mem_range.2 (by omega), (show ((x.toNat : Nat) : Int) = x by omega)⟩
theorem Kg (n : Nat) : (Ek n).Pairwise (· < ·) := by
  induction n with
  | zero => simp [Ek]
  | succ n ih =>
    rw [Kh, List.pairwise_append]
    exact ⟨ih, by simp, fun x hx y hy => by rw [List.mem_singleton] at hy; have := (E0.1 hx).2; omega⟩
theorem Sd (n : Nat) : Hn (Ek n) n = Ek (n + 1) := by
  rw [Sc (k := n) (fun h => by have := E0.1 h; omega) (fun x hx => (E0.1 (List.mem_of_mem_take hx)).2) (.inl (CF n).symm), Kh]
  rw [List.take_of_length_le (by rw [CF]; exact Nat.le_refl _), List.drop_of_length_le (by rw [CF]; exact Nat.le_refl _)]
def D6 (ts : List Bs) : Nat → List AM
  | 0 => []
  | k + 1 => LI (D6 ts k) k (ts.getD k [])
def KK (s : Bs) : Bool := decide (400 < s.length)
def BV (ts : List Bs) : Int × Int := if 20 < ts.length then (2, -1) else if ts.any KK = true then (10, (ts.findIdx KK : Nat)) else (0, 0)
def KX (ts : List Bs) : List Int := if (BV ts).1 = 0 then Ek ts.length else []
def KW (ts : List Bs) : List AM := if (BV ts).1 = 0 then D6 ts ts.length else []
theorem ER (ts : List Bs) : ∀ k, GK (D6 ts k)
  | 0 => ⟨List.Pairwise.nil, fun p h => by cases h⟩
  | k + 1 => FX (ER ts k) _
theorem Ml {ts : List Bs} (h : ∀ s ∈ ts, s.length ≤ 400) : ∀ k, (D6 ts k).length ≤ 400 * k ∧ ∀ p ∈ D6 ts k, p.2.length ≤ 400 * k + 1
  | 0 => ⟨by simp [D6], fun p h => by cases h⟩
  | k + 1 => by
    obtain ⟨h1, h2⟩ := Ml h k
    have h3 : (ts.getD k []).length ≤ 400 := by
      rw [List.getD_eq_getElem?_getD]
      cases hk : ts[k]? with
      | none => simp
      | some s => exact h s (List.mem_of_getElem? hk)
    have h4 := ID (P := D6 ts k) (n := k) (s := ts.getD k []) ((ts.getD k []).length - 2)
    have h5 := IE (P := D6 ts k) (n := k) (s := ts.getD k []) (M := 400 * k + 1) (by omega) h2 ((ts.getD k []).length - 2)
    exact ⟨by show (LI _ _ _).length ≤ _; unfold LI; omega, fun p hp => by have := h5 p hp; omega⟩
def eT (s : Bs) : List D := [.str s]
def dT (xs : List (List D)) : List Bs := xs.map fun r => match r with
  | [.str s] => s
  | _ => []
theorem It (l : List Bs) : dT (rows eT l) = l := by
  induction l with
  | nil => rfl
  | cons p l ih => exact congrArg (p :: ·) ih
theorem EC (l : List Bs) : Cs 1 (rows eT l) = True := eq_true (fun x hx => by obtain ⟨a, _, rfl⟩ := List.mem_map.1 hx; rfl)
def Du : List AV → Option (Prop × AV)
  | [.d (.sl xs)] => some (xs = rows eT (dT xs) ∧ (dT xs).length ≤ 9223372036854775807 ∧ ∀ s ∈ dT xs, s.length ≤ 9223372036854775807, .tup [.agg [.d (.sl (rows eI (KX (dT xs)))), .d (.sl (rows eP (KW (dT xs))))], .agg [.d (.int .i64 (BV (dT xs)).1), .d (.int .i64 (BV (dT xs)).2)]])
  | _ => none
theorem Ut {α : Type} {P : α → Bool} {l : List α} {i : Nat} {x : α} (h : l[i]? = some x) (hp : P x = true) (hn : ∀ y ∈ l.take i, P y = false) : l.any P = true ∧ l.findIdx P = i := by
  refine ⟨List.any_eq_true.2 ⟨x, List.mem_of_getElem? h, hp⟩, ?_⟩
  induction l generalizing i with
  | nil => simp at h
  | cons a l ih =>
    cases i with
    | zero => simp only [List.getElem?_cons_zero, Option.some.injEq] at h; subst h; rw [List.findIdx_cons, hp]; rfl
    | succ i =>
      have h1 := hn a (by simp)
      rw [List.findIdx_cons, h1, ih (by simpa using h) (fun y hy => hn y (by simp [hy]))]; rfl
theorem Rs {α : Type} {P : α → Bool} {l : List α} (hn : ∀ y ∈ l, P y = false) : l.any P = false := by
  rw [Bool.eq_false_iff]; intro h; obtain ⟨x, hx, hp⟩ := List.any_eq_true.1 h; rw [hn x hx] at hp; cases hp
theorem Qt {α : Type} {l : List α} {k : Nat} {x : α} {P : α → Bool} (h : ∀ y ∈ l.take k, P y = false) (hx : l[k]? = some x) (hp : P x = false) : ∀ y ∈ l.take (k + 1), P y = false := fun y hy => by
  rw [List.take_add_one, hx] at hy
  rcases List.mem_append.1 hy with hy | hy
  · exact h y hy
  · simp only [Option.toList_some, List.mem_singleton] at hy; rw [hy]; exact hp

theorem KY : A5 Tryz.prog 25 (Spec.pure Du) := by
 refine A7 (K6.at_ 41) Tryz.func25 rfl rfl rfl ?_
 intro args p r hg hp
 unfold Du at hg
 split at hg
 rename_i xs
 simp only [Option.some.injEq, Prod.mk.injEq] at hg
 obtain ⟨rfl, rfl⟩ := hg
 obtain ⟨he, hl, hsl⟩ := hp
 generalize dT xs = l at *
 subst he
 have hT : (K6).X = T := rfl
 have hx0 := And.intro @EC (And.intro @eT.eq_1 @Tryz.results25)
 have hx := hx0
 refine ⟨by rfl, ?_⟩
 intro F W0 hnp hmk
 refine Aa fun N1 h1 => ?_
 refine Ad ?_
 try refine Ac ?_
 iterate 2 refine B8 ?_
 refine Ab ?_
 refine h1 _ ?_; clear h1
 refine Aa fun N2 h2 => ?_
 refine Aa fun N3 h3 => ?_
 refine Ad ?_
 try refine Ac ?_
 refine Ae ?_
 refine Bm ?_
 refine Am ?_
 refine Ab ?_
 refine h3 _ ?_; clear h3
 refine Al (fun hb4 => ?_) (fun hb4 => ?_)
 refine Aa fun N5 h5 => ?_
 refine Ad ?_
 try refine Ac ?_
 iterate 2 refine BC ?_
 iterate 2 refine A8 ?_
 refine Ab ?_
 refine h5 _ ?_; clear h5
 refine Ao ?_
 try simp only [Af]
 have hle20 : 20 < l.length := by have := hb4; omega
 have hr : BV l = (2, -1) := by unfold BV; rw [if_pos hle20]
 unfold KX KW
 rw [hr]
 refine A3 ?_
 exact At
 refine An ?_
 try simp only [Af]
 refine h2 _ ?_; clear h2
 refine Aa fun N6 h6 => ?_
 refine Aa fun N7 h7 => ?_
 refine Ad ?_
 try refine Ac ?_
 refine Ae ?_
 refine Bm ?_
 refine Ae ?_
 refine Ab ?_
 refine h7 _ ?_; clear h7
 refine Aw ?_
 refine A9 (σ := Nat) (fun s => (fun i => i ≤ l.length ∧ ∀ y ∈ l.take i, KK y = false) s)
  (fun s => (fun i => [(0, .d (.sl (rows eT l))), (2, .ptr 0 0 0), (3, .ptr 1 0 0), (14, .d (.sl (rows eT l))), (15, .d (.int .i64 (l.length : Nat))), (16, .d (.int .i64 (i : Nat)))]) s)
  (fun s => (fun i => [some (.one 49 [.d .nils, .d .nils]), some (.one 29 [.d (.int .i64 0), .d (.int .i64 0)])]) s) (fun s => (fun i => l.length - i) s) hnp 0 ?_ [some 0, some 1] ?_ ?_
 dsimp only
 simp
 dsimp only
 refine ⟨by rfl, ?_, ?_⟩
 refine Aj ?_
 exact At
 refine Aj ?_
 exact At
 rintro i hinv N8 h8
 dsimp only at hinv ⊢
 obtain ⟨i1, i2⟩ := hinv
 refine Aa fun N9 h9 => ?_
 refine Ad ?_
 try refine Ac ?_
 refine Am ?_
 refine Ab ?_
 refine h9 _ ?_; clear h9
 refine Aa fun N10 h10 => ?_
 refine Al (fun hb11 => ?_) (fun hb11 => ?_)
 obtain ⟨x, hxe⟩ := Cb (l := l) (i := i) (by omega)
 have hxl := hsl x (AF hxe)
 refine An ?_
 try simp only [Af]
 refine h10 _ ?_; clear h10
 refine Aa fun N12 h12 => ?_
 refine Aw ?_
 refine Aa fun N13 h13 => ?_
 have hx := And.intro @hxe hx0
 refine Ad ?_
 try refine Ac ?_
 refine Ae ?_
 refine Au ?_
 refine Ar ?_
 iterate 2 refine Ae ?_
 refine Ab ?_
 have hx := hx0
 refine h13 _ ?_; clear h13
 refine Aa fun N14 h14 => ?_
 refine Ad ?_
 try refine Ac ?_
 refine Ae ?_
 refine Bm ?_
 refine Am ?_
 refine Ab ?_
 refine h14 _ ?_; clear h14
 refine Al (fun hb15 => ?_) (fun hb15 => ?_)
 have hbad : KK x = true := decide_eq_true (by have := hb15; omega)
 refine Aa fun N16 h16 => ?_
 refine Ad ?_
 try refine Ac ?_
 refine BC ?_
 refine Ae ?_
 refine BC ?_
 iterate 2 refine A8 ?_
 refine Ab ?_
 refine h16 _ ?_; clear h16
 refine Ao ?_
 try simp only [Af]
 have hle20 : ¬ 20 < l.length := by have := hb4; omega
 obtain ⟨ha, hf⟩ := Ut hxe hbad i2
 have hr : BV l = (10, (i : Int)) := by unfold BV; rw [if_neg hle20, if_pos ha, hf]
 unfold KX KW
 rw [hr]
 refine A3 ?_
 exact At
 have hbad : KK x = false := decide_eq_false (by have := hb15; omega)
 refine An ?_
 try simp only [Af]
 refine h12 _ ?_; clear h12
 refine Ad ?_
 try refine Ac ?_
 refine Am ?_
 refine Ae ?_
 refine Ab ?_
 refine h8 _ ⟨i + 1, ?_, ?_, [some 0, some 1], ?_⟩
 dsimp only
 exact ⟨by omega, Qt i2 hxe hbad⟩
 dsimp only
 omega
 dsimp only
 refine ⟨by rfl, ?_, ?_⟩
 refine Aj ?_
 exact At
 refine Aj ?_
 exact At
 refine Be ?_
 simp only [Af, Nat.reduceEqDiff, reduceIte, eq_self]
 refine h6 _ ?_; clear h6
 refine Aa fun N17 h17 => ?_
 refine Ad ?_
 try refine Ac ?_
 refine B8 ?_
 refine Ab ?_
 refine h17 _ ?_; clear h17
 refine Aa fun N18 h18 => ?_
 refine Aa fun N19 h19 => ?_
 refine Iy 2 0 _ 1 (L0 3 1) rfl rfl rfl ?_
 simp only [BI, List.set, List.cons_append, List.nil_append]
 refine Iy 2 1 _ 2 (W7 85 2 1 3 1) rfl rfl rfl ?_
 simp only [BI, List.set, List.cons_append, List.nil_append]
 refine Ad ?_
 try refine Ac ?_
 refine Ae ?_
 refine Bm ?_
 refine Ae ?_
 refine Ab ?_
 refine h19 _ ?_; clear h19
 refine Aw ?_
 have hall : ∀ y ∈ l, KK y = false := by rw [List.take_of_length_le (by omega)] at i2; exact i2
 have h400 : ∀ y ∈ l, y.length ≤ 400 := fun y hy => by have := of_decide_eq_false (hall y hy); omega
 refine A9 (σ := Nat) (fun s => (fun i => i ≤ l.length) s)
  (fun s => (fun i => [(0, .d (.sl (rows eT l))), (2, .ptr 0 0 0), (3, .ptr 1 0 0), (6, .ptr 2 0 0), (28, .d (.sl (rows eT l))), (29, .d (.int .i64 (l.length : Nat))), (30, .d (.int .i64 (i : Nat)))]) s)
  (fun s => (fun i => [some (.one 49 [.d .nils, .d .nils]), some (.one 29 [.d (.int .i64 0), .d (.int .i64 0)]), some (.one 49 [.sl 3 0 i, .sl 4 0 (D6 l i).length]), some (.vec 3 1 (rows eI (Ek i))), some (.ob (.uv 85 2 1 3 1 ((D6 l i).map uP)))]) s) (fun s => (fun i => l.length - i) s) hnp 0 ?_ [some 0, some 1, some 2, some 3, some 4] ?_ ?_
 dsimp only
 omega
 dsimp only
 refine ⟨by rfl, ?_, ?_⟩
 refine Aj ?_
 exact At
 refine Aj ?_
 exact At
 rintro i hinv N20 h20
 dsimp only at hinv ⊢
 have hg := ER l i
 obtain ⟨hb1, hb2⟩ := Ml h400 i
 refine Aa fun N21 h21 => ?_
 refine Ad ?_
 try refine Ac ?_
 refine Am ?_
 refine Ab ?_
 refine h21 _ ?_; clear h21
 refine Aa fun N22 h22 => ?_
 refine Al (fun hb23 => ?_) (fun hb23 => ?_)
 obtain ⟨x, hxe⟩ := Cb (l := l) (i := i) (by omega)
 have hxl := h400 x (AF hxe)
 have hle20 : ¬ 20 < l.length := by have := hb4; omega
 refine An ?_
 try simp only [Af]
 refine h22 _ ?_; clear h22
 refine Aa fun N24 h24 => ?_
 refine Aw ?_
 refine Aa fun N25 h25 => ?_
 have hx := And.intro @hxe hx0
 refine Ad ?_
 try refine Ac ?_
 refine Ae ?_
 refine Au ?_
 refine Ar ?_
 iterate 2 refine Ae ?_
 refine Ab ?_
 have hx := hx0
 refine h25 _ ?_; clear h25
 refine Ad ?_
 try refine Ac ?_
 iterate 2 refine Ae ?_
 have hc := Ah (E := (K6.at_ 41)) (f := 53) (sp := Spec.gen IF) rfl
 have hs := @IF.eq_1
 refine BD (hq := by (first | (exact ⟨D6 l i, rfl, (CF i).symm, Kg i, (by rw [CF]; omega), (by rw [List.length_map]), hg, (by omega), (fun p hp => by have := hb2 p hp; omega), (by omega)⟩) | exact Ay)) ?_
 refine Ab ?_
 rw [TD]
 refine h24 _ ?_; clear h24
 refine Ad ?_
 try refine Ac ?_
 refine Am ?_
 refine Ae ?_
 refine Ab ?_
 have hgd : l.getD i [] = x := by rw [List.getD_eq_getElem?_getD, hxe]; rfl
 have hp1 : LI (D6 l i) i x = D6 l (i + 1) := by rw [← hgd]; rfl
 rw [Sd, hp1]
 refine h20 _ ⟨i + 1, ?_, ?_, [some 0, some 1, some 2, some 5, some 6], ?_⟩
 dsimp only
 omega
 dsimp only
 omega
 dsimp only
 refine ⟨by rfl, ?_, ?_⟩
 refine Aj ?_
 ·(repeat' apply And.intro) <;> (first | (first | rfl | (rw [CF]; done) | (simp; done)) | exact At)
 refine Aj ?_
 ·(repeat' apply And.intro) <;> (first | (first | rfl | (rw [CF]; done) | (simp; done)) | exact At)
 refine Be ?_
 simp only [Af, Nat.reduceEqDiff, reduceIte, eq_self]
 refine h18 _ ?_; clear h18
 refine Aa fun N26 h26 => ?_
 have hie : i = l.length := by have := hb23; omega
 subst hie
 refine TJ 2 1 rfl rfl rfl rfl (by rw [List.length_map]) ?_
 simp only [AS, BI, List.set, List.cons_append, List.nil_append, List.mem_cons, List.not_mem_nil, or_false]
 rw [RC]
 refine Ad ?_
 try refine Ac ?_
 refine Ar ?_
 refine BC ?_
 iterate 2 refine A8 ?_
 refine Ab ?_
 refine h26 _ ?_; clear h26
 refine Ao ?_
 try simp only [Af]
 have hle20 : ¬ 20 < l.length := by have := hb4; omega
 have hr : BV l = (0, 0) := by unfold BV; rw [if_neg hle20, Rs hall]; rfl
 unfold KX KW
 rw [hr]
 refine A3 ?_
 ·(repeat' apply And.intro) <;> (first | (first | rfl | (rw [List.take_of_length_le (Nat.le_of_eq (CF _))]; done) | (simp [CF]; done)) | exact At)
 cases hg

def I3 : Bo Tryz.prog := K6.add 25 (Spec.pure Du) KY (by kernel_rfl)
end Go.Proofs.YtmbjnkgpcbpclaaGreat
