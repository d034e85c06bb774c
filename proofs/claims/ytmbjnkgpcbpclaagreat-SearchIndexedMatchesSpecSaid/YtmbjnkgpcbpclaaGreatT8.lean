import Derived.Test.YtmbjnkgpcbpclaaGreatT7
set_option linter.all false
set_option maxRecDepth 100000
set_option maxHeartbeats 4000000
namespace Go.Proofs.YtmbjnkgpcbpclaaGreat
open Go Go.Vc Go.RowKit
def Cp (n : Nat) : List Int := List.map (fun k : Nat => Int.ofNat k) (List.range n)
theorem Bn (n : Nat) : (Cp n).length = n := by simp [Cp]
theorem FP (n : Nat) : Cp (n + 1) = Cp n ++ [(n : Int)] := by simp [Cp, List.range_succ]
theorem DT {n : Nat} {x : Int} : x ∈ Cp n ↔ 0 ≤ x ∧ x < n := by
  unfold Cp
  rw [List.mem_map]
  constructor
  · rintro ⟨k, hk, rfl⟩
    have := List.mem_range.1 hk
    show 0 ≤ (k : Int) ∧ (k : Int) < n
    omega
  · intro h; exact ⟨x.toNat, List.mem_range.2 (by omega), (show ((x.toNat : Nat) : Int) = x by omega)⟩
theorem L2 (n : Nat) : (Cp n).Pairwise (· < ·) := by
  induction n with
  | zero => simp [Cp]
  | succ n ih =>
    rw [FP, List.pairwise_append]
    exact ⟨ih, by simp, fun x hx y hy => by rw [List.mem_singleton] at hy; have := (DT.1 hx).2; omega⟩
theorem Fu (n : Nat) : Fh (Cp n) n = Cp (n + 1) := by
  rw [Dy (k := n) (fun h => by have := DT.1 h; omega) (fun x hx => (DT.1 (List.mem_of_mem_take hx)).2) (.inl (Bn n).symm), FP]
  rw [List.take_of_length_le (by rw [Bn]; exact Nat.le_refl _), List.drop_of_length_le (by rw [Bn]; exact Nat.le_refl _)]
def C2 (ts : List Bs) : Nat → List AR
  | 0 => []
  | k + 1 => KQ (C2 ts k) k (ts.getD k [])
def I6 (s : Bs) : Bool := decide (400 < s.length)
def BN (ts : List Bs) : Int × Int := if 20 < ts.length then (2, -1) else if ts.any I6 = true then (10, (ts.findIdx I6 : Nat)) else (0, 0)
def La (ts : List Bs) : List Int := if (BN ts).1 = 0 then Cp ts.length else []
def KZ (ts : List Bs) : List AR := if (BN ts).1 = 0 then C2 ts ts.length else []
theorem Fg (ts : List Bs) : ∀ k, HG (C2 ts k)
  | 0 => ⟨List.Pairwise.nil, fun p h => by cases h⟩
  | k + 1 => FK (Fg ts k) _
theorem Kk {ts : List Bs} (h : ∀ s ∈ ts, s.length ≤ 400) : ∀ k, (C2 ts k).length ≤ 400 * k ∧ ∀ p ∈ C2 ts k, p.2.length ≤ 400 * k + 1
  | 0 => ⟨by simp [C2], fun p h => by cases h⟩
  | k + 1 => by
    obtain ⟨h1, h2⟩ := Kk h k
    have h3 : (ts.getD k []).length ≤ 400 := by
      rw [List.getD_eq_getElem?_getD]
      cases hk : ts[k]? with
      | none => simp
      | some s => exact h s (List.mem_of_getElem? hk)
    have h4 := HK (P := C2 ts k) (n := k) (s := ts.getD k []) ((ts.getD k []).length - 2)
    have h5 := HL (P := C2 ts k) (n := k) (s := ts.getD k []) (M := 400 * k + 1) (by omega) h2 ((ts.getD k []).length - 2)
    exact ⟨by show (KQ _ _ _).length ≤ _; unfold KQ; omega, fun p hp => by have := h5 p hp; omega⟩
def eT (s : Bs) : List D := [.str s]
def dT (xs : List (List D)) : List Bs := xs.map fun r => match r with
  | [.str s] => s
  | _ => []
theorem De (l : List Bs) : dT (rows eT l) = l := by
  induction l with
  | nil => rfl
  | cons p l ih => exact congrArg (p :: ·) ih
theorem DG (l : List Bs) : CW 1 (rows eT l) = True := eq_true (fun x hx => by obtain ⟨a, _, rfl⟩ := List.mem_map.1 hx; rfl)
def Dr : List AV → Option (Prop × AV)
  | [.d (.sl xs)] => some (xs = rows eT (dT xs) ∧ (dT xs).length ≤ 9223372036854775807 ∧ ∀ s ∈ dT xs, s.length ≤ 9223372036854775807, .tup [.agg [.d (.sl (rows eI (La (dT xs)))), .d (.sl (rows eP (KZ (dT xs))))], .agg [.d (.int .i64 (BN (dT xs)).1), .d (.int .i64 (BN (dT xs)).2)]])
  | _ => none
theorem Rb {α : Type} {P : α → Bool} {l : List α} {i : Nat} {x : α} (h : l[i]? = some x) (hp : P x = true) (hn : ∀ y ∈ l.take i, P y = false) : l.any P = true ∧ l.findIdx P = i := by
  refine ⟨List.any_eq_true.2 ⟨x, List.mem_of_getElem? h, hp⟩, ?_⟩
  induction l generalizing i with
  | nil => simp at h
  | cons a l ih =>
    cases i with
    | zero => simp only [List.getElem?_cons_zero, Option.some.injEq] at h; subst h; rw [List.findIdx_cons, hp]; rfl
    | succ i =>
      have h1 := hn a (by simp)
      rw [List.findIdx_cons, h1, ih (by simpa using h) (fun y hy => hn y (by simp [hy]))]; rfl
theorem NA {α : Type} {P : α → Bool} {l : List α} (hn : ∀ y ∈ l, P y = false) : l.any P = false := by
  rw [Bool.eq_false_iff]; intro h; obtain ⟨x, hx, hp⟩ := List.any_eq_true.1 h; rw [hn x hx] at hp; cases hp
theorem LB {α : Type} {l : List α} {k : Nat} {x : α} {P : α → Bool} (h : ∀ y ∈ l.take k, P y = false) (hx : l[k]? = some x) (hp : P x = false) : ∀ y ∈ l.take (k + 1), P y = false := fun y hy => by
  rw [List.take_add_one, hx] at hy
  rcases List.mem_append.1 hy with hy | hy
  · exact h y hy
  · simp only [Option.toList_some, List.mem_singleton] at hy; rw [hy]; exact hp
theorem Jj {p : Prop} (h : p := by (repeat' apply And.intro) <;> (first | (first | rfl | (rw [Bn]; done) | (simp; done)) | exact Au)) : p := h
theorem M7 : A5 Tryz.prog 25 (Spec.pure Dr) := by
 refine A1 (LS.at_ 41) Tryz.func25 rfl rfl rfl ?_
 intro args p r hg hp
 unfold Dr at hg
 split at hg
 rename_i xs
 simp only [Option.some.injEq, Prod.mk.injEq] at hg
 obtain ⟨rfl, rfl⟩ := hg
 obtain ⟨he, hl, hsl⟩ := hp
 generalize dT xs = l at *
 subst he
 have hT : (LS).X = T := rfl
 have hx0 := And.intro @DG (And.intro @eT.eq_1 @Tryz.results25)
 have hx := hx0
 refine ⟨by rfl, ?_⟩
 intro F W0 hnp hmk
 refine Aa fun N1 h1 => Ac ?_
 refine Az ?_
 iterate 2 refine Bj ?_
 refine Ab (h1 _ (Aa fun N2 h2 => ?_)); clear h1
 refine Aa fun N3 h3 => Ac ?_
 refine Ad ?_
 refine AU ?_
 refine Ao ?_
 refine Ab (h3 _ (Ak (fun hb4 => ?_) (fun hb4 => ?_))); clear h3
 refine Aa fun N5 h5 => Ac ?_
 iterate 2 refine BD ?_
 iterate 2 refine A4 ?_
 refine Ab (h5 _ (Am ?_)); clear h5
 try simp only [Ae]
 have hle20 : 20 < l.length := by have := hb4; omega
 have hr : BN l = (2, -1) := by unfold BN; rw [if_pos hle20]
 unfold La KZ
 rw [hr]
 refine Aw ?_
 exact Au
 refine An ?_
 try simp only [Ae]
 refine h2 _ (Aa fun N6 h6 => ?_); clear h2
 refine Aa fun N7 h7 => Ac ?_
 refine Ad ?_
 refine AU ?_
 refine Ad ?_
 refine Ab (h7 _ (As ?_)); clear h7
 refine A3 (σ := Nat) (fun s => (fun i => i ≤ l.length ∧ ∀ y ∈ l.take i, I6 y = false) s)
  (fun s => (fun i => [(0, .d (.sl (rows eT l))), (2, .ptr 0 0 0), (3, .ptr 1 0 0), (14, .d (.sl (rows eT l))), (15, .d (.int .i64 (l.length : Nat))), (16, .d (.int .i64 (i : Nat)))]) s)
  (fun s => (fun i => [some (.one 49 [.d .nils, .d .nils]), some (.one 29 [.d (.int .i64 0), .d (.int .i64 0)])]) s) (fun s => (fun i => l.length - i) s) hnp 0 ?_ [some 0, some 1] ?_ ?_
 dsimp only
 simp
 dsimp only
 refine ⟨by rfl, ?_, ?_⟩
 refine Aj ?_
 exact Au
 refine Aj ?_
 exact Au
 rintro i hinv N8 h8
 dsimp only at hinv ⊢
 obtain ⟨i1, i2⟩ := hinv
 refine Aa fun N9 h9 => Ac ?_
 refine Az ?_
 refine Ao ?_
 refine Ab (h9 _ (Aa fun N10 h10 => Ak (fun hb11 => ?_) (fun hb11 => ?_))); clear h9
 obtain ⟨x, hxe⟩ := BA (l := l) (i := i) (by omega)
 have hxl := hsl x (AB hxe)
 refine An ?_
 try simp only [Ae]
 refine h10 _ (Aa fun N12 h12 => As ?_); clear h10
 have hx := And.intro @hxe hx0
 refine Aa fun N13 h13 => Ac ?_
 refine Ad ?_
 refine Ar ?_
 refine Aq ?_
 iterate 2 refine Ad ?_
 have hx := hx0
 refine Ab (h13 _ (Aa fun N14 h14 => Ac ?_)); clear h13
 refine Ad ?_
 refine AU ?_
 refine Ao ?_
 refine Ab (h14 _ (Ak (fun hb15 => ?_) (fun hb15 => ?_))); clear h14
 have hbad : I6 x = true := decide_eq_true (by have := hb15; omega)
 refine Aa fun N16 h16 => Ac ?_
 refine BD ?_
 refine Ad ?_
 refine BD ?_
 iterate 2 refine A4 ?_
 refine Ab (h16 _ (Am ?_)); clear h16
 try simp only [Ae]
 have hle20 : ¬ 20 < l.length := by have := hb4; omega
 obtain ⟨ha, hf⟩ := Rb hxe hbad i2
 have hr : BN l = (10, (i : Int)) := by unfold BN; rw [if_neg hle20, if_pos ha, hf]
 unfold La KZ
 rw [hr]
 refine Aw ?_
 exact Au
 have hbad : I6 x = false := decide_eq_false (by have := hb15; omega)
 refine An ?_
 try simp only [Ae]
 refine h12 _ (Ac ?_); clear h12
 refine Ao ?_
 refine Ad ?_
 refine Ab ?_
 refine h8 _ ⟨i + 1, ?_, ?_, [some 0, some 1], ?_⟩
 dsimp only
 exact ⟨by omega, LB i2 hxe hbad⟩
 dsimp only
 omega
 dsimp only
 refine ⟨by rfl, ?_, ?_⟩
 refine Aj ?_
 exact Au
 refine Aj ?_
 exact Au
 refine AJ ?_
 simp only [Ae, Nat.reduceEqDiff, reduceIte, eq_self]
 refine h6 _ (Aa fun N17 h17 => Ac ?_); clear h6
 refine Bj ?_
 refine Ab (h17 _ (Aa fun N18 h18 => Aa fun N19 h19 => ?_)); clear h17
 refine Iw 2 0 _ 1 (JG 3 1) rfl rfl rfl ?_
 simp only [Cc, List.set, List.cons_append, List.nil_append]
 refine Iw 2 1 _ 2 (YX 85 2 1 3 1) rfl rfl rfl ?_
 simp only [Cc, List.set, List.cons_append, List.nil_append]
 refine Ac ?_
 refine Ad ?_
 refine AU ?_
 refine Ad ?_
 refine Ab (h19 _ (As ?_)); clear h19
 have hall : ∀ y ∈ l, I6 y = false := by rw [List.take_of_length_le (by omega)] at i2; exact i2
 have h400 : ∀ y ∈ l, y.length ≤ 400 := fun y hy => by have := of_decide_eq_false (hall y hy); omega
 refine A3 (σ := Nat) (fun s => (fun i => i ≤ l.length) s)
  (fun s => (fun i => [(0, .d (.sl (rows eT l))), (2, .ptr 0 0 0), (3, .ptr 1 0 0), (6, .ptr 2 0 0), (28, .d (.sl (rows eT l))), (29, .d (.int .i64 (l.length : Nat))), (30, .d (.int .i64 (i : Nat)))]) s)
  (fun s => (fun i => [some (.one 49 [.d .nils, .d .nils]), some (.one 29 [.d (.int .i64 0), .d (.int .i64 0)]), some (.one 49 [.sl 3 0 i, .sl 4 0 (C2 l i).length]), some (.vec 3 1 (rows eI (Cp i))), some (.ob (.uv 85 2 1 3 1 ((C2 l i).map uP)))]) s) (fun s => (fun i => l.length - i) s) hnp 0 ?_ [some 0, some 1, some 2, some 3, some 4] ?_ ?_
 dsimp only
 omega
 dsimp only
 refine ⟨by rfl, ?_, ?_⟩
 refine Aj ?_
 exact Au
 refine Aj ?_
 exact Au
 rintro i hinv N20 h20
 dsimp only at hinv ⊢
 have hg := Fg l i
 obtain ⟨hb1, hb2⟩ := Kk h400 i
 refine Aa fun N21 h21 => Ac ?_
 refine Az ?_
 refine Ao ?_
 refine Ab (h21 _ (Aa fun N22 h22 => Ak (fun hb23 => ?_) (fun hb23 => ?_))); clear h21
 obtain ⟨x, hxe⟩ := BA (l := l) (i := i) (by omega)
 have hxl := h400 x (AB hxe)
 have hle20 : ¬ 20 < l.length := by have := hb4; omega
 refine An ?_
 try simp only [Ae]
 refine h22 _ (Aa fun N24 h24 => As ?_); clear h22
 have hx := And.intro @hxe hx0
 refine Aa fun N25 h25 => Ac ?_
 refine Ad ?_
 refine Ar ?_
 refine Aq ?_
 iterate 2 refine Ad ?_
 have hx := hx0
 refine Ab (h25 _ (Ac ?_)); clear h25
 iterate 2 refine Ad ?_
 have hc := Ag (E := (LS.at_ 41)) (f := 53) (sp := Spec.gen JX) rfl
 have hs := @JX.eq_1
 refine BM (hq := by (first | (exact ⟨C2 l i, rfl, (Bn i).symm, L2 i, (by rw [Bn]; omega), (by rw [List.length_map]), hg, (by omega), (fun p hp => by have := hb2 p hp; omega), (by omega)⟩) | exact AQ)) ?_
 refine Ab ?_
 rw [Wl]
 refine h24 _ (Ac ?_); clear h24
 refine Ao ?_
 refine Ad ?_
 refine Ab ?_
 have hgd : l.getD i [] = x := by rw [List.getD_eq_getElem?_getD, hxe]; rfl
 have hp1 : KQ (C2 l i) i x = C2 l (i + 1) := by rw [← hgd]; rfl
 rw [Fu, hp1]
 refine h20 _ ⟨i + 1, ?_, ?_, [some 0, some 1, some 2, some 5, some 6], ?_⟩
 dsimp only
 omega
 dsimp only
 omega
 dsimp only
 refine ⟨by rfl, ?_, ?_⟩
 refine Aj ?_
 exact Jj
 refine Aj ?_
 exact Jj
 refine AJ ?_
 simp only [Ae, Nat.reduceEqDiff, reduceIte, eq_self]
 refine h18 _ (Aa fun N26 h26 => ?_); clear h18
 have hie : i = l.length := by have := hb23; omega
 subst hie
 refine Wr 2 1 rfl rfl rfl rfl (by rw [List.length_map]) ?_
 simp only [Bk, Cc, List.set, List.cons_append, List.nil_append, List.mem_cons, List.not_mem_nil, or_false]
 rw [Us]
 refine Ac ?_
 refine Aq ?_
 refine BD ?_
 iterate 2 refine A4 ?_
 refine Ab (h26 _ (Am ?_)); clear h26
 try simp only [Ae]
 have hle20 : ¬ 20 < l.length := by have := hb4; omega
 have hr : BN l = (0, 0) := by unfold BN; rw [if_neg hle20, NA hall]; rfl
 unfold La KZ
 rw [hr]
 refine Aw ?_
 ·(repeat' apply And.intro) <;> (first | (first | rfl | (rw [List.take_of_length_le (Nat.le_of_eq (Bn _))]; done) | (simp [Bn]; done)) | exact Au)
 cases hg
def JM : Bq Tryz.prog := LS.add 25 (Spec.pure Dr) M7 (by kernel_rfl)
