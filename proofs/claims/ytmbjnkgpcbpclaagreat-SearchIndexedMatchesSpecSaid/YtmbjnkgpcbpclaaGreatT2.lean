import Derived.Test.YtmbjnkgpcbpclaaGreatTy
import Derived.Test.YtmbjnkgpcbpclaaGreatV5
set_option linter.all false
set_option maxRecDepth 100000
set_option maxHeartbeats 4000000
namespace Go.Proofs.YtmbjnkgpcbpclaaGreat
open Go Go.Vc Go.RowKit
theorem DF {a b : AV} (h : a = b := by first | (simp only [wB, eq_self, Nat.reduceEqDiff, reduceIte]; done) | (simp only [wB, eq_self, Nat.reduceEqDiff, reduceIte]; rfl)) : a = b := h
theorem DB {a b : Option TI} (h : a = b := by first | (simp only [wB, eq_self, Nat.reduceEqDiff, reduceIte, BI, LO, hT, CZ]; done) | (simp only [wB, eq_self, Nat.reduceEqDiff, reduceIte, BI, LO, hT, CZ]; rfl)) : a = b := h
theorem DE {p : Prop} (h : p := by first | trivial | simp only [wB, eq_self, Nat.reduceEqDiff, reduceIte]) : p := h
theorem CJ {a p : Prop} (hb : a) (h : a → p := by intro hb; first | omega | exact absurd trivial hb | contradiction | (simp_all; done)) : p := h hb
theorem ew_ {α : Type} {a b : α} (h : a = b := by simp only [BI, eq_self, Nat.reduceEqDiff, reduceIte]; rfl) : a = b := h
def B3 : List AV → Option (Prop × AV)
  | [.d (.int .i64 c), .d (.int .i64 i)] => some (True, .agg [.d (.int .i64 c), .d (.int .i64 i)])
  | _ => none
def SN : List AV → Option (Prop × AV)
  | [.d (.int .i64 n), .d (.int .i64 lo), .d (.int .i64 hi)] => some (True, .d (.bool (decide (lo ≤ n) && decide (n ≤ hi))))
  | _ => none
def U1 : List AV → Option (Prop × AV)
  | [.d (.sl xs), .d (.int .i64 n)] => some (xs = rows eI (dI xs) ∧ (dI xs).length ≤ 9223372036854775807, .d (.bool (decide (n ∈ dI xs))))
  | _ => none
def CP : List AV → Option (Prop × AV)
  | [.d (.sl xs), .d (.sl ys)] => some (xs = rows eI (dI xs) ∧ ys = rows eI (dI ys) ∧ (dI xs).length ≤ 9223372036854775807 ∧ (dI ys).length ≤ 9223372036854775807, .d (.bool (decide (dI xs = dI ys))))
  | _ => none
theorem BA {α : Type} {l : List α} {i : Nat} (h : i < l.length) : ∃ x, l[i]? = some x := ⟨_, List.getElem?_eq_getElem h⟩
theorem AB {α : Type} {l : List α} {i : Nat} {x : α} (h : l[i]? = some x) : x ∈ l := List.mem_of_getElem? h
theorem JE {α : Type} {l m : List α} {i : Nat} {a : α} (h1 : l[i]? = some a) (h2 : m[i]? = some a) (h : l.take i = m.take i) : l.take (i + 1) = m.take (i + 1) := by
  rw [List.take_add_one, List.take_add_one, h1, h2, h]
theorem Kz {α : Type} {l : List α} {i : Nat} {x n : α} (h : l[i]? = some x) (hn : n ∉ l.take i) (hx : x ≠ n) : n ∉ l.take (i + 1) := by
  rw [List.take_add_one, h]; simp only [Option.toList_some, List.mem_append, List.mem_singleton, not_or]
  exact ⟨hn, fun h => hx h.symm⟩
theorem O7 {α : Type} {l m : List α} {i : Nat} {a b : α} (h1 : l[i]? = some a) (h2 : m[i]? = some b) (h : a ≠ b) : l ≠ m := by
  rintro rfl; rw [h1] at h2; exact h (Option.some.inj h2)
theorem NT : A5 Tryz.prog 21 (Spec.pure B3) := by
 refine A1 ((Bq.empty T).at_ 8) Tryz.func21 rfl rfl rfl ?_
 intro args p r hg hp
 unfold B3 at hg
 split at hg
 rename_i c i
 simp only [Option.some.injEq, Prod.mk.injEq] at hg
 obtain ⟨rfl, rfl⟩ := hg
 have hT : ((Bq.empty T)).X = T := rfl
 have hx0 := @Tryz.results21
 have hx := hx0
 refine ⟨by rfl, ?_⟩
 intro F W0 hnp hmk
 refine Aa fun N1 h1 => Ac ?_
 refine Az ?_
 refine Bj ?_
 refine Ab (h1 _ (Aa fun N2 h2 => Ac ?_)); clear h1
 iterate 2 refine Ad ?_
 refine BD ?_
 refine A4 ?_
 refine Ab (h2 _ (Am ?_)); clear h2
 try simp only [Ae]
 refine Aw ?_
 exact Au
 cases hg
def LY : Bq Tryz.prog := (Bq.empty T).add 21 (Spec.pure B3) NT (by kernel_rfl)
theorem UB : A5 Tryz.prog 35 (Spec.pure SN) := by
 refine A1 (LY.at_ 15) Tryz.func35 rfl rfl rfl ?_
 intro args p r hg hp
 unfold SN at hg
 split at hg
 rename_i n lo hi
 simp only [Option.some.injEq, Prod.mk.injEq] at hg
 obtain ⟨rfl, rfl⟩ := hg
 have hT : (LY).X = T := rfl
 have hx0 := @Tryz.results35
 have hx := hx0
 refine ⟨by rfl, ?_⟩
 intro F W0 hnp hmk
 refine Aa fun N1 h1 => Ac ?_
 refine Az ?_
 refine Ad ?_
 refine Ab (h1 _ (Aa fun N2 h2 => Ac ?_)); clear h1
 iterate 2 refine Ad ?_
 refine Ao ?_
 refine Ad ?_
 iterate 2 refine Cw ?_
 refine CD ?_
 refine AH ?_
 refine Ad ?_
 refine Ab (h2 _ (Am ?_)); clear h2
 try simp only [Ae]
 refine Aw ?_
 exact Au
 cases hg
def Yd : Bq Tryz.prog := LY.add 35 (Spec.pure SN) UB (by kernel_rfl)
theorem SI : A5 Tryz.prog 26 (Spec.pure U1) := by
 refine A1 (Yd.at_ 18) Tryz.func26 rfl rfl rfl ?_
 intro args p r hg hp
 unfold U1 at hg
 split at hg
 rename_i xs n
 simp only [Option.some.injEq, Prod.mk.injEq] at hg
 obtain ⟨rfl, rfl⟩ := hg
 obtain ⟨hx, hl⟩ := hp
 generalize dI xs = l at *
 subst hx
 have hT : (Yd).X = T := rfl
 have hx0 := @Tryz.results26
 have hx := hx0
 refine ⟨by rfl, ?_⟩
 intro F W0 hnp hmk
 refine Aa fun N1 h1 => Ac ?_
 refine Az ?_
 refine Ad ?_
 refine Ab (h1 _ (Aa fun N2 h2 => ?_)); clear h1
 refine Aa fun N3 h3 => Ac ?_
 refine Ad ?_
 refine Ab (h3 _ (As ?_)); clear h3
 refine A3 (σ := Nat) (fun s => (fun i => i ≤ l.length ∧ n ∉ l.take i) s)
  (fun s => (fun i => [(0, .d (.sl (rows eI l))), (1, .d (.int .i64 n)), (5, .d (.int .i64 (i : Nat)))]) s)
  (fun s => (fun i => []) s) (fun s => (fun i => l.length - i) s) hnp 0 ?_ [] ?_ ?_
 dsimp only
 simp
 dsimp only
 refine ⟨by rfl, ?_, ?_⟩
 refine Aj ?_
 exact Au
 refine Aj ?_
 exact Au
 rintro i hinv N4 h4
 dsimp only at hinv ⊢
 obtain ⟨i1, i2⟩ := hinv
 refine Aa fun N5 h5 => ?_
 refine Aa fun N6 h6 => Ac ?_
 refine Az ?_
 iterate 2 refine Ad ?_
 refine AU ?_
 refine Ao ?_
 refine Ab (h6 _ (Ak (fun hb7 => ?_) (fun hb7 => ?_))); clear h6
 obtain ⟨x, hxe⟩ := BA (l := l) (i := i) (by omega)
 refine An ?_
 try simp only [Ae]
 refine h5 _ (Aa fun N8 h8 => As ?_); clear h5
 have hx := And.intro @hxe (And.intro @eI.eq_1 hx0)
 refine Aa fun N9 h9 => Ac ?_
 iterate 2 refine Ad ?_
 refine Ar ?_
 refine Aq ?_
 refine Ad ?_
 refine Ao ?_
 have hx := hx0
 refine Ab (h9 _ (Ak (fun hb10 => ?_) (fun hb10 => ?_))); clear h9
 have he := hb10
 refine Aa fun N11 h11 => Ac ?_
 refine Ad ?_
 refine Ab (h11 _ (Am ?_)); clear h11
 try simp only [Ae]
 have hr : decide (n ∈ l) = true := decide_eq_true (by rw [← he]; exact AB hxe)
 rw [hr]
 refine Aw ?_
 exact Au
 have he := hb10
 refine An ?_
 try simp only [Ae]
 refine h8 _ (Ac ?_); clear h8
 refine Ad ?_
 refine Ao ?_
 refine Ad ?_
 refine Ab ?_
 refine h4 _ ⟨i + 1, ?_, ?_, [], ?_⟩
 dsimp only
 exact ⟨by omega, Kz hxe i2 (by simpa using he)⟩
 dsimp only
 omega
 dsimp only
 refine ⟨by rfl, ?_, ?_⟩
 refine Aj ?_
 exact Au
 refine Aj ?_
 exact Au
 refine AJ ?_
 simp only [Ae, Nat.reduceEqDiff, reduceIte, eq_self]
 refine h2 _ (Aa fun N12 h12 => Ac ?_); clear h2
 refine Ad ?_
 refine Ab (h12 _ (Am ?_)); clear h12
 try simp only [Ae]
 have hr : decide (n ∈ l) = false := decide_eq_false (by rwa [List.take_of_length_le (by omega)] at i2)
 rw [hr]
 refine Aw ?_
 exact Au
 cases hg
def TQ : Bq Tryz.prog := Yd.add 26 (Spec.pure U1) SI (by kernel_rfl)
theorem PU : A5 Tryz.prog 14 (Spec.pure CP) := by
 refine A1 (TQ.at_ 26) Tryz.func14 rfl rfl rfl ?_
 intro args p r hg hp
 unfold CP at hg
 split at hg
 rename_i xs ys
 simp only [Option.some.injEq, Prod.mk.injEq] at hg
 obtain ⟨rfl, rfl⟩ := hg
 obtain ⟨hx, hy, hl, hm⟩ := hp
 generalize dI xs = l at *
 generalize dI ys = m at *
 subst hx hy
 have hT : (TQ).X = T := rfl
 have hx0 := @Tryz.results14
 have hx := hx0
 refine ⟨by rfl, ?_⟩
 intro F W0 hnp hmk
 refine Aa fun N1 h1 => Ac ?_
 refine Az ?_
 refine Ad ?_
 refine Ab (h1 _ (Aa fun N2 h2 => ?_)); clear h1
 refine Aa fun N3 h3 => Ac ?_
 refine Ad ?_
 refine AU ?_
 refine Ad ?_
 refine AU ?_
 refine Ao ?_
 refine Ab (h3 _ (Ak (fun hb4 => ?_) (fun hb4 => ?_))); clear h3
 refine Aa fun N5 h5 => Ac ?_
 refine Ad ?_
 refine Ab (h5 _ (Am ?_)); clear h5
 try simp only [Ae]
 have hr : decide (l = m) = false := decide_eq_false (fun h => by subst h; omega)
 rw [hr]
 refine Aw ?_
 exact Au
 refine An ?_
 try simp only [Ae]
 refine h2 _ (Aa fun N6 h6 => ?_); clear h2
 refine Aa fun N7 h7 => Ac ?_
 refine Ad ?_
 refine Ab (h7 _ (As ?_)); clear h7
 refine A3 (σ := Nat) (fun s => (fun i => l.length = m.length ∧ i ≤ l.length ∧ l.take i = m.take i) s)
  (fun s => (fun i => [(0, .d (.sl (rows eI l))), (1, .d (.sl (rows eI m))), (5, .d (.int .i64 (i : Nat)))]) s)
  (fun s => (fun i => []) s) (fun s => (fun i => l.length - i) s) hnp 0 ?_ [] ?_ ?_
 dsimp only
 refine ⟨by omega, by omega, rfl⟩
 dsimp only
 refine ⟨by rfl, ?_, ?_⟩
 refine Aj ?_
 exact Au
 refine Aj ?_
 exact Au
 rintro i hinv N8 h8
 dsimp only at hinv ⊢
 obtain ⟨i1, i2, i3⟩ := hinv
 refine Aa fun N9 h9 => ?_
 refine Aa fun N10 h10 => Ac ?_
 refine Az ?_
 iterate 2 refine Ad ?_
 refine AU ?_
 refine Ao ?_
 refine Ab (h10 _ (Ak (fun hb11 => ?_) (fun hb11 => ?_))); clear h10
 obtain ⟨a, ha⟩ := BA (l := l) (i := i) (by omega)
 obtain ⟨c, hc⟩ := BA (l := m) (i := i) (by omega)
 refine An ?_
 try simp only [Ae]
 refine h9 _ (Aa fun N12 h12 => As ?_); clear h9
 have hx := And.intro @ha (And.intro @hc (And.intro @eI.eq_1 hx0))
 refine Aa fun N13 h13 => Ac ?_
 iterate 2 refine Ad ?_
 refine Ar ?_
 refine Aq ?_
 iterate 2 refine Ad ?_
 refine Ar ?_
 refine Aq ?_
 refine Ao ?_
 have hx := hx0
 refine Ab (h13 _ (Ak (fun hb14 => ?_) (fun hb14 => ?_))); clear h13
 have hne := hb14
 refine Aa fun N15 h15 => Ac ?_
 refine Ad ?_
 refine Ab (h15 _ (Am ?_)); clear h15
 try simp only [Ae]
 have hr : decide (l = m) = false := decide_eq_false (O7 ha hc (by simpa using hne))
 rw [hr]
 refine Aw ?_
 exact Au
 have hne := hb14
 refine An ?_
 try simp only [Ae]
 refine h12 _ (Ac ?_); clear h12
 refine Ad ?_
 refine Ao ?_
 refine Ad ?_
 refine Ab ?_
 refine h8 _ ⟨i + 1, ?_, ?_, [], ?_⟩
 dsimp only
 refine ⟨i1, by omega, ?_⟩
 have he : a = c := by simpa using hne
 subst he
 exact JE ha hc i3
 dsimp only
 omega
 dsimp only
 refine ⟨by rfl, ?_, ?_⟩
 refine Aj ?_
 exact Au
 refine Aj ?_
 exact Au
 refine AJ ?_
 simp only [Ae, Nat.reduceEqDiff, reduceIte, eq_self]
 refine h6 _ (Aa fun N16 h16 => Ac ?_); clear h6
 refine Ad ?_
 refine Ab (h16 _ (Am ?_)); clear h16
 try simp only [Ae]
 have hr : decide (l = m) = true := decide_eq_true (by rw [List.take_of_length_le (by omega), List.take_of_length_le (by omega)] at i3; exact i3)
 rw [hr]
 refine Aw ?_
 exact Au
 cases hg
def Ma : Bq Tryz.prog := TQ.add 14 (Spec.pure CP) PU (by kernel_rfl)
def Ds (ty sz : Nat) : DP
  | [.sl 0 0 n, .d (.int .i64 i), .sl 1 0 m], [some (.vec t s xs), some (.vec t' s' vs)] =>
    some (t = ty ∧ s = sz ∧ t' = ty ∧ s' = sz ∧ CW sz xs ∧ CW sz vs ∧ xs.length = n ∧ vs.length = 1 ∧ m = 1 ∧ 0 ≤ i ∧ i ≤ n ∧ n ≤ 1000000000,
      .sl 2 0 (n + 1), [none, none, some (.vec ty sz (xs.take i.toNat ++ vs ++ xs.drop i.toNat))])
  | [.d .nils, .d (.int .i64 0), .sl 0 0 m], [some (.vec t' s' vs)] =>
    some (t' = ty ∧ s' = sz ∧ CW sz vs ∧ vs.length = 1 ∧ m = 1, .sl 1 0 1, [none, some (.vec ty sz vs)])
  | _, _ => none
theorem Xb {α : Type} {vs : List α} (h : vs.length = 1) : ∃ v, vs = [v] := by
  match vs, h with
  | [v], _ => exact ⟨v, rfl⟩
theorem Oj {α : Type} {xs : List α} {v z : α} {i a b c e d : Nat} (h : i < xs.length) (ha : a = xs.length + 1 - i) (hb : 1 ≤ b) (hc : c = i + 1) (hd : xs.length - i ≤ d) (he : xs.length - i ≤ e) :
    A6 (A6 (xs.take i ++ List.replicate a z) i (List.take b [v])) c (List.take d (List.take e (xs.drop i))) = xs.take i ++ [v] ++ xs.drop i := by
  subst ha hc
  have e1 : List.take b [v] = [v] := List.take_of_length_le (by simpa using hb)
  have e2 : List.take d (List.take e (xs.drop i)) = xs.drop i := by rw [List.take_of_length_le (l := xs.drop i) (by simp; omega), List.take_of_length_le (by simp; omega)]
  have e3 : (xs.take i).length = i := by rw [List.length_take]; omega
  have e4 : A6 (xs.take i ++ List.replicate (xs.length + 1 - i) z) i [v] = xs.take i ++ [v] ++ List.replicate (xs.length - i) z := by
    unfold A6
    rw [List.take_append_of_le_length (by omega), List.take_of_length_le (l := xs.take i) (by omega), List.drop_append, e3, List.drop_of_length_le (l := xs.take i) (by simp; omega)]
    simp; omega
  rw [e1, e2, e4]
  unfold A6
  have f1 : (xs.take i ++ [v] ++ List.replicate (xs.length - i) z).drop (i + 1 + (xs.drop i).length) = [] := List.drop_of_length_le (by simp; omega)
  have f2 : (xs.take i ++ [v] ++ List.replicate (xs.length - i) z).take (i + 1) = xs.take i ++ [v] := by rw [List.take_append_of_le_length (by simp; omega), List.take_of_length_le (by simp; omega)]
  rw [f1, f2, List.append_nil]
theorem Ok {α : Type} {xs : List α} {v : α} {i k b c : Nat} (h : i < xs.length) (hk : xs.length - i ≤ k) (hb : 1 ≤ b) (hc : c = i + 1) : A6 (A6 xs c (List.take k (xs.drop i))) i (List.take b [v]) = xs.take i ++ [v] ++ xs.drop i := by
  subst hc
  have e1 : List.take b [v] = [v] := List.take_of_length_le (by simpa using hb)
  have e2 : List.take k (xs.drop i) = xs.drop i := List.take_of_length_le (by simp; omega)
  rw [e1, e2]
  have e3 : A6 xs (i + 1) (xs.drop i) = xs.take (i + 1) ++ xs.drop i := by
    unfold A6
    have f1 : xs.drop (i + 1 + (xs.drop i).length) = [] := List.drop_of_length_le (by simp; omega)
    rw [f1, List.append_nil]
  rw [e3]
  unfold A6
  have e5 : (xs.take (i + 1)).length = i + 1 := by rw [List.length_take]; omega
  rw [List.take_append_of_le_length (by omega), List.take_take, Nat.min_eq_left (by omega), List.drop_append, e5, List.drop_of_length_le (l := xs.take (i + 1)) (by simp; omega)]
  simp
theorem M8 : A5 Tryz.prog 88 (Spec.gen (Ds 3 1)) := by
 refine Bm (Ma.at_ 95) Tryz.func88 rfl rfl rfl ?_
 intro args bl p r bf hg hp
 unfold Ds at hg
 split at hg
 rename_i n i m t s xs t' s' vs
 simp only [Option.some.injEq, Prod.mk.injEq] at hg
 obtain ⟨rfl, rfl, rfl⟩ := hg
 obtain ⟨rfl, rfl, rfl, rfl, hrx, hrv, rfl, hv1, rfl, h0, hi, hb⟩ := hp
 obtain ⟨i, rfl⟩ := Int.eq_ofNat_of_zero_le h0
 obtain ⟨v, rfl⟩ := Xb hv1
 have hv0 := hrv v (by simp)
 simp only [Int.toNat_natCast]
 have hT : (Ma).X = T := rfl
 have hx0 := @Tryz.results88
 have hx := hx0
 refine ⟨Nat.le_of_ble_eq_true rfl, ?_⟩
 intro F W0 M0 hnp hmk
 have hnp : Bl.np = 2 := hnp
 refine Aa fun N1 h1 => Ac ?_
 refine Az ?_
 refine Ad ?_
 refine Ab (h1 _ (Aa fun N2 h2 => Ac ?_)); clear h1
 iterate 2 refine Ad ?_
 refine BZ ?_
 refine Ab (h2 _ (Aa fun N3 h3 => Ac ?_)); clear h2
 refine Ad ?_
 refine AU ?_
 refine Ad ?_
 refine Ab (h3 _ (Aa fun N4 h4 => ?_)); clear h3
 refine Aa fun N5 h5 => Ac ?_
 refine Ad ?_
 refine Ao ?_
 refine Ab (h5 _ (Ak (fun hb6 => ?_) (fun hb6 => ?_))); clear h5
 exact CJ hb6
 refine An ?_
 try simp only [Ae]
 refine h4 _ (Aa fun N7 h7 => Ac ?_); clear h4
 refine Ad ?_
 refine AU ?_
 refine Ad ?_
 refine Ab (h7 _ (Aa fun N8 h8 => ?_)); clear h7
 refine Aa fun N9 h9 => Ac ?_
 iterate 2 refine Ad ?_
 refine Ao ?_
 refine Ab (h9 _ (Ak (fun hb10 => ?_) (fun hb10 => ?_))); clear h9
 refine Aa fun N11 h11 => Ac ?_
 iterate 2 refine Ad ?_
 refine Bf ?_
 refine Ad ?_
 refine Ab (h11 _ (Am ?_)); clear h11
 try simp only [Ae]
 obtain rfl : i = xs.length := by have := hb10; omega
 have hr : xs.take xs.length ++ [v] ++ xs.drop xs.length = xs.take xs.length ++ [v] := by simp
 rw [hr]
 refine Aj ?_
 refine ⟨[some 0, some 1, some 2], by rfl, ?_, ?_⟩
 refine Aj ?_
 exact Au
 refine Aj ?_
 exact Au
 refine An ?_
 try simp only [Ae]
 refine h8 _ (Aa fun N12 h12 => ?_); clear h8
 refine Aa fun N13 h13 => Ac ?_
 iterate 2 refine Ad ?_
 refine Ao ?_
 refine Ad ?_
 refine AS (by rfl) (OP (by exact DF) (by exact DE) (by simp only [wB, eq_self, Nat.reduceEqDiff, reduceIte]; rfl) (by exact DB) fun z_r8_4 hz_r8_4 hz_r8_4' => ?_)
 try simp only [wB, eq_self, Nat.reduceEqDiff, reduceIte, wL, Int.toNat_natCast, Int.reduceToNat, Nat.reduceAdd, Nat.reduceMul, Nat.reduceSub, Nat.reduceLeDiff, hx]
 refine Ao ?_
 refine Ab (h13 _ (Ak (fun hb14 => ?_) (fun hb14 => ?_))); clear h13
 refine Aa fun N15 h15 => Ac ?_
 iterate 2 refine Ad ?_
 refine AS (by rfl) (Gi (by exact DF) (by exact DE) (by simp only [wB, eq_self, Nat.reduceEqDiff, reduceIte]; rfl) (by exact DB) (by exact DB) (by exact DF) (by exact DE) (by exact AQ) ?_)
 try simp only [wB, eq_self, Nat.reduceEqDiff, reduceIte, wL, Int.toNat_natCast, Int.reduceToNat, Nat.reduceAdd, Nat.reduceMul, Nat.reduceSub, Nat.reduceLeDiff, hx]
 iterate 2 refine Ad ?_
 refine Ao ?_
 refine Ad ?_
 refine Ao ?_
 refine AS (by rfl) (Jk (by exact DF) (by exact DE) (by simp only [wB, eq_self, Nat.reduceEqDiff, reduceIte]; rfl) (by exact DB) (by exact DB) (by exact DB) (by exact DF) (by exact DE) (by exact AQ) (by exact AQ) (by exact AQ) (by exact AQ) (by exact AQ) ?_)
 try simp only [wB, eq_self, Nat.reduceEqDiff, reduceIte, wL, Int.toNat_natCast, Int.reduceToNat, Nat.reduceAdd, Nat.reduceMul, Nat.reduceSub, Nat.reduceLeDiff, hx]
 refine Ad ?_
 refine Ab (h15 _ (Aa fun N16 h16 => ?_)); clear h15
 refine Gn 0 rfl ?_
 simp only [Cc]
 refine Ac ?_
 iterate 2 refine Ad ?_
 refine BZ ?_
 refine Ad ?_
 refine AS (by rfl) (Em (by exact DF) (by exact DE) (by simp only [wB, eq_self, Nat.reduceEqDiff, reduceIte]; rfl) (by exact DB) (by exact DB) rfl (by exact DF) (by exact DE) (by simp only [C7, wB, eq_self, Nat.reduceEqDiff, reduceIte, wL, Int.toNat_natCast, Int.reduceToNat, Nat.reduceAdd, Nat.reduceMul, Nat.reduceSub, Nat.reduceLeDiff, hx]; rfl) (by exact AQ) (by exact AQ) (by exact AQ) ?_)
 try simp only [wB, eq_self, Nat.reduceEqDiff, reduceIte, wL, Int.toNat_natCast, Int.reduceToNat, Nat.reduceAdd, Nat.reduceMul, Nat.reduceSub, Nat.reduceLeDiff, hx]
 refine Ab (h16 _ (Aa fun N17 h17 => Ac ?_)); clear h16
 iterate 3 refine Ad ?_
 refine Ao ?_
 refine BZ ?_
 iterate 2 refine Ad ?_
 refine BZ ?_
 refine AS (by rfl) (Em (by exact DF) (by exact DE) (by simp only [wB, eq_self, Nat.reduceEqDiff, reduceIte]; rfl) (by exact DB) (by exact DB) rfl (by exact DF) (by exact DE) (by simp only [C7, wB, eq_self, Nat.reduceEqDiff, reduceIte, wL, Int.toNat_natCast, Int.reduceToNat, Nat.reduceAdd, Nat.reduceMul, Nat.reduceSub, Nat.reduceLeDiff, hx]; rfl) (by (first | (first | exact fun y hy => hrx y (List.mem_of_mem_drop (List.mem_of_mem_take hy)) | (simp [A6]; omega)) | exact AQ)) (by (first | (first | exact fun y hy => hrx y (List.mem_of_mem_drop (List.mem_of_mem_take hy)) | (simp [A6]; omega)) | exact AQ)) (by (first | (first | exact fun y hy => hrx y (List.mem_of_mem_drop (List.mem_of_mem_take hy)) | (simp [A6]; omega)) | exact AQ)) ?_)
 try simp only [wB, eq_self, Nat.reduceEqDiff, reduceIte, wL, Int.toNat_natCast, Int.reduceToNat, Nat.reduceAdd, Nat.reduceMul, Nat.reduceSub, Nat.reduceLeDiff, hx]
 refine Ab (h17 _ (Aa fun N18 h18 => Ac ?_)); clear h17
 iterate 2 refine Ad ?_
 refine Ab (h18 _ (Am ?_)); clear h18
 try simp only [Ae]
 have hr := fun a b c d e h1 h2 h3 h4 h5 => Oj (xs := xs) (v := v) (z := [.int .i64 0]) (i := i) (a := a) (b := b) (c := c) (e := e) (d := d) (by have := hb10; omega) h1 h2 h3 h4 h5
 refine Aj ?_
 refine ⟨[some 0, some 1, some 2], by rfl, ?_, ?_⟩
 refine Aj ?_
 ·(repeat' apply And.intro) <;> (first | (first | rfl | (exact hr _ _ _ _ _ (by omega) (by omega) (by omega) (by omega) (by omega)) | (simp; omega) | (simp; done)) | exact Au)
 refine Aj ?_
 ·(repeat' apply And.intro) <;> (first | (first | rfl | (exact hr _ _ _ _ _ (by omega) (by omega) (by omega) (by omega) (by omega)) | (simp; omega) | (simp; done)) | exact Au)
 refine An ?_
 try simp only [Ae]
 refine h12 _ (Aa fun N19 h19 => Ac ?_); clear h12
 iterate 3 refine Ad ?_
 refine Ao ?_
 refine AS (by rfl) (Gi (by exact DF) (by exact DE) (by simp only [wB, eq_self, Nat.reduceEqDiff, reduceIte]; rfl) (by exact DB) (by exact DB) (by exact DF) (by exact DE) (by exact AQ) ?_)
 try simp only [wB, eq_self, Nat.reduceEqDiff, reduceIte, wL, Int.toNat_natCast, Int.reduceToNat, Nat.reduceAdd, Nat.reduceMul, Nat.reduceSub, Nat.reduceLeDiff, hx]
 refine Ad ?_
 refine Ab (h19 _ (Aa fun N20 h20 => Aa fun N21 h21 => ?_)); clear h19
 refine Gn 0 rfl ?_
 simp only [Cc]
 refine Ac ?_
 iterate 4 refine Ad ?_
 refine Ao ?_
 refine BZ ?_
 refine AS (by rfl) (Iq (e := 3) (t := 27) (tR := 4) (fn := Tryz.f102) Tryz.func102 (by kernel_rfl) (by kernel_rfl) (by kernel_rfl) (by kernel_rfl) (by exact DF) (by exact DE) (by exact DF) (by exact DE) (by decide) (by simp only [wB, eq_self, Nat.reduceEqDiff, reduceIte]; rfl) (by simp only [wB, eq_self, Nat.reduceEqDiff, reduceIte]; rfl) (by omega) (by exact AQ) (by exact DB) (by exact DB) ?_)
 try simp only [wB, eq_self, Nat.reduceEqDiff, reduceIte, wL, Int.toNat_natCast, Int.reduceToNat, Nat.reduceAdd, Nat.reduceMul, Nat.reduceSub, Nat.reduceLeDiff, hx]
 refine EL ?_
 refine Ab (h21 _ (Ak (fun hb22 => ?_) (fun hb22 => ?_))); clear h21
 refine Aa fun N23 h23 => Ac ?_
 iterate 3 refine Ad ?_
 refine Ao ?_
 refine BZ ?_
 iterate 2 refine Ad ?_
 refine BZ ?_
 refine AS (by rfl) (LL (by exact DF) (by exact DE) (by simp only [wB, eq_self, Nat.reduceEqDiff, reduceIte]; rfl) (by exact DB) (by exact DB) rfl (by exact DF) (by exact DE) (by exact AQ) ?_)
 try simp only [wB, eq_self, Nat.reduceEqDiff, reduceIte, wL, Int.toNat_natCast, Int.reduceToNat, Nat.reduceAdd, Nat.reduceMul, Nat.reduceSub, Nat.reduceLeDiff, hx]
 refine Ab (h23 _ (Aa fun N24 h24 => Ac ?_)); clear h23
 iterate 2 refine Ad ?_
 refine BZ ?_
 refine Ad ?_
 refine AS (by rfl) (Em (by exact DF) (by exact DE) (by simp only [wB, eq_self, Nat.reduceEqDiff, reduceIte]; rfl) (by exact DB) (by exact DB) rfl (by exact DF) (by exact DE) (by simp only [C7, wB, eq_self, Nat.reduceEqDiff, reduceIte, wL, Int.toNat_natCast, Int.reduceToNat, Nat.reduceAdd, Nat.reduceMul, Nat.reduceSub, Nat.reduceLeDiff, hx]; rfl) (by (first | (first | assumption | (simp [A6]; omega)) | exact AQ)) (by (first | (first | assumption | (simp [A6]; omega)) | exact AQ)) (by (first | (first | assumption | (simp [A6]; omega)) | exact AQ)) ?_)
 try simp only [wB, eq_self, Nat.reduceEqDiff, reduceIte, wL, Int.toNat_natCast, Int.reduceToNat, Nat.reduceAdd, Nat.reduceMul, Nat.reduceSub, Nat.reduceLeDiff, hx]
 refine Ab (h24 _ (Aa fun N25 h25 => ?_)); clear h24
 refine Gm 0 0 rfl (by decide) rfl rfl ?_
 simp only [Bk, List.cons_append, List.nil_append]
 refine Ac ?_
 iterate 2 refine Ad ?_
 refine Ab (h25 _ (Am ?_)); clear h25
 try simp only [Ae]
 have hr := fun k b c h2 h3 h4 => Ok (xs := xs) (v := v) (i := i) (k := k) (b := b) (c := c) (by have := hb10; omega) h2 h3 h4
 refine Aj ?_
 refine ⟨[some 0, some 1, some 2], by rfl, ?_, ?_⟩
 refine Aj ?_
 ·(repeat' apply And.intro) <;> (first | (first | rfl | (exact hr _ _ _ (by omega) (by omega) (by omega)) | (simp; omega) | (simp; done)) | exact Au)
 refine Aj ?_
 ·(repeat' apply And.intro) <;> (first | (first | rfl | (exact hr _ _ _ (by omega) (by omega) (by omega)) | (simp; omega) | (simp; done)) | exact Au)
 exact absurd hb22 (by simp)
 rename_i m t' s' vs
 simp only [Option.some.injEq, Prod.mk.injEq] at hg
 obtain ⟨rfl, rfl, rfl⟩ := hg
 obtain ⟨rfl, rfl, hrv, hv1, rfl⟩ := hp
 obtain ⟨v, rfl⟩ := Xb hv1
 have hv0 := hrv v (by simp)
 have hT : (Ma).X = T := rfl
 have hx0 := @Tryz.results88
 have hx := hx0
 refine ⟨Nat.le_of_ble_eq_true rfl, ?_⟩
 intro F W0 M0 hnp hmk
 have hnp : Bl.np = 1 := hnp
 refine Aa fun N1 h1 => Ac ?_
 refine Az ?_
 refine Ad ?_
 refine Ab (h1 _ (Aa fun N2 h2 => Ac ?_)); clear h1
 iterate 2 refine Ad ?_
 refine BZ ?_
 refine Ab (h2 _ (Aa fun N3 h3 => Ac ?_)); clear h2
 refine Ad ?_
 refine AU ?_
 refine Ad ?_
 refine Ab (h3 _ (Aa fun N4 h4 => ?_)); clear h3
 refine Aa fun N5 h5 => Ac ?_
 refine Ad ?_
 refine Ao ?_
 refine Ab (h5 _ (Ak (fun hb6 => ?_) (fun hb6 => ?_))); clear h5
 exact CJ hb6
 refine An ?_
 try simp only [Ae]
 refine h4 _ (Aa fun N7 h7 => Ac ?_); clear h4
 refine Ad ?_
 refine AU ?_
 refine Ad ?_
 refine Ab (h7 _ (Aa fun N8 h8 => ?_)); clear h7
 refine Aa fun N9 h9 => Ac ?_
 iterate 2 refine Ad ?_
 refine Ao ?_
 refine Ab (h9 _ (Ak (fun hb10 => ?_) (fun hb10 => ?_))); clear h9
 refine Aa fun N11 h11 => Ac ?_
 iterate 2 refine Ad ?_
 refine Bf ?_
 refine Ad ?_
 refine Ab (h11 _ (Am ?_)); clear h11
 try simp only [Ae]
 refine Aj ?_
 refine ⟨[some 0, some 1], by rfl, ?_, ?_⟩
 refine Aj ?_
 exact Au
 refine Aj ?_
 exact Au
 exact absurd (by simp) hb10
 cases hg
def HE : Bq Tryz.prog := Ma.add 88 (Spec.gen (Ds 3 1)) M8 (by kernel_rfl)
theorem Lb : A5 Tryz.prog 79 (Spec.gen (Ds 85 2)) := by
 refine Bm (HE.at_ 95) Tryz.func79 rfl rfl rfl ?_
 intro args bl p r bf hg hp
 unfold Ds at hg
 split at hg
 rename_i n i m t s xs t' s' vs
 simp only [Option.some.injEq, Prod.mk.injEq] at hg
 obtain ⟨rfl, rfl, rfl⟩ := hg
 obtain ⟨rfl, rfl, rfl, rfl, hrx, hrv, rfl, hv1, rfl, h0, hi, hb⟩ := hp
 obtain ⟨i, rfl⟩ := Int.eq_ofNat_of_zero_le h0
 obtain ⟨v, rfl⟩ := Xb hv1
 have hv0 := hrv v (by simp)
 simp only [Int.toNat_natCast]
 have hT : (HE).X = T := rfl
 have hx0 := @Tryz.results79
 have hx := hx0
 refine ⟨Nat.le_of_ble_eq_true rfl, ?_⟩
 intro F W0 M0 hnp hmk
 have hnp : Bl.np = 2 := hnp
 refine Aa fun N1 h1 => Ac ?_
 refine Az ?_
 refine Ad ?_
 refine Ab (h1 _ (Aa fun N2 h2 => Ac ?_)); clear h1
 iterate 2 refine Ad ?_
 refine BZ ?_
 refine Ab (h2 _ (Aa fun N3 h3 => Ac ?_)); clear h2
 refine Ad ?_
 refine AU ?_
 refine Ad ?_
 refine Ab (h3 _ (Aa fun N4 h4 => ?_)); clear h3
 refine Aa fun N5 h5 => Ac ?_
 refine Ad ?_
 refine Ao ?_
 refine Ab (h5 _ (Ak (fun hb6 => ?_) (fun hb6 => ?_))); clear h5
 exact CJ hb6
 refine An ?_
 try simp only [Ae]
 refine h4 _ (Aa fun N7 h7 => Ac ?_); clear h4
 refine Ad ?_
 refine AU ?_
 refine Ad ?_
 refine Ab (h7 _ (Aa fun N8 h8 => ?_)); clear h7
 refine Aa fun N9 h9 => Ac ?_
 iterate 2 refine Ad ?_
 refine Ao ?_
 refine Ab (h9 _ (Ak (fun hb10 => ?_) (fun hb10 => ?_))); clear h9
 refine Aa fun N11 h11 => Ac ?_
 iterate 2 refine Ad ?_
 refine Bf ?_
 refine Ad ?_
 refine Ab (h11 _ (Am ?_)); clear h11
 try simp only [Ae]
 obtain rfl : i = xs.length := by have := hb10; omega
 have hr : xs.take xs.length ++ [v] ++ xs.drop xs.length = xs.take xs.length ++ [v] := by simp
 rw [hr]
 refine Aj ?_
 refine ⟨[some 0, some 1, some 2], by rfl, ?_, ?_⟩
 refine Aj ?_
 exact Au
 refine Aj ?_
 exact Au
 refine An ?_
 try simp only [Ae]
 refine h8 _ (Aa fun N12 h12 => ?_); clear h8
 refine Aa fun N13 h13 => Ac ?_
 iterate 2 refine Ad ?_
 refine Ao ?_
 refine Ad ?_
 refine AS (by rfl) (OP (by exact DF) (by exact DE) (by simp only [wB, eq_self, Nat.reduceEqDiff, reduceIte]; rfl) (by exact DB) fun z_r8_4 hz_r8_4 hz_r8_4' => ?_)
 try simp only [wB, eq_self, Nat.reduceEqDiff, reduceIte, wL, Int.toNat_natCast, Int.reduceToNat, Nat.reduceAdd, Nat.reduceMul, Nat.reduceSub, Nat.reduceLeDiff, hx]
 refine Ao ?_
 refine Ab (h13 _ (Ak (fun hb14 => ?_) (fun hb14 => ?_))); clear h13
 refine Aa fun N15 h15 => Ac ?_
 iterate 2 refine Ad ?_
 refine AS (by rfl) (Gi (by exact DF) (by exact DE) (by simp only [wB, eq_self, Nat.reduceEqDiff, reduceIte]; rfl) (by exact DB) (by exact DB) (by exact DF) (by exact DE) (by exact AQ) ?_)
 try simp only [wB, eq_self, Nat.reduceEqDiff, reduceIte, wL, Int.toNat_natCast, Int.reduceToNat, Nat.reduceAdd, Nat.reduceMul, Nat.reduceSub, Nat.reduceLeDiff, hx]
 iterate 2 refine Ad ?_
 refine Ao ?_
 refine Ad ?_
 refine Ao ?_
 refine AS (by rfl) (Jk (by exact DF) (by exact DE) (by simp only [wB, eq_self, Nat.reduceEqDiff, reduceIte]; rfl) (by exact DB) (by exact DB) (by exact DB) (by exact DF) (by exact DE) (by exact AQ) (by exact AQ) (by exact AQ) (by exact AQ) (by exact AQ) ?_)
 try simp only [wB, eq_self, Nat.reduceEqDiff, reduceIte, wL, Int.toNat_natCast, Int.reduceToNat, Nat.reduceAdd, Nat.reduceMul, Nat.reduceSub, Nat.reduceLeDiff, hx]
 refine Ad ?_
 refine Ab (h15 _ (Aa fun N16 h16 => ?_)); clear h15
 refine Gn 0 rfl ?_
 simp only [Cc]
 refine Ac ?_
 iterate 2 refine Ad ?_
 refine BZ ?_
 refine Ad ?_
 refine AS (by rfl) (Em (by exact DF) (by exact DE) (by simp only [wB, eq_self, Nat.reduceEqDiff, reduceIte]; rfl) (by exact DB) (by exact DB) rfl (by exact DF) (by exact DE) (by simp only [C7, wB, eq_self, Nat.reduceEqDiff, reduceIte, wL, Int.toNat_natCast, Int.reduceToNat, Nat.reduceAdd, Nat.reduceMul, Nat.reduceSub, Nat.reduceLeDiff, hx]; rfl) (by exact AQ) (by exact AQ) (by exact AQ) ?_)
 try simp only [wB, eq_self, Nat.reduceEqDiff, reduceIte, wL, Int.toNat_natCast, Int.reduceToNat, Nat.reduceAdd, Nat.reduceMul, Nat.reduceSub, Nat.reduceLeDiff, hx]
 refine Ab (h16 _ (Aa fun N17 h17 => Ac ?_)); clear h16
 iterate 3 refine Ad ?_
 refine Ao ?_
 refine BZ ?_
 iterate 2 refine Ad ?_
 refine BZ ?_
 refine AS (by rfl) (Em (by exact DF) (by exact DE) (by simp only [wB, eq_self, Nat.reduceEqDiff, reduceIte]; rfl) (by exact DB) (by exact DB) rfl (by exact DF) (by exact DE) (by simp only [C7, wB, eq_self, Nat.reduceEqDiff, reduceIte, wL, Int.toNat_natCast, Int.reduceToNat, Nat.reduceAdd, Nat.reduceMul, Nat.reduceSub, Nat.reduceLeDiff, hx]; rfl) (by (first | (first | exact fun y hy => hrx y (List.mem_of_mem_drop (List.mem_of_mem_take hy)) | (simp [A6]; omega)) | exact AQ)) (by (first | (first | exact fun y hy => hrx y (List.mem_of_mem_drop (List.mem_of_mem_take hy)) | (simp [A6]; omega)) | exact AQ)) (by (first | (first | exact fun y hy => hrx y (List.mem_of_mem_drop (List.mem_of_mem_take hy)) | (simp [A6]; omega)) | exact AQ)) ?_)
 try simp only [wB, eq_self, Nat.reduceEqDiff, reduceIte, wL, Int.toNat_natCast, Int.reduceToNat, Nat.reduceAdd, Nat.reduceMul, Nat.reduceSub, Nat.reduceLeDiff, hx]
 refine Ab (h17 _ (Aa fun N18 h18 => Ac ?_)); clear h17
 iterate 2 refine Ad ?_
 refine Ab (h18 _ (Am ?_)); clear h18
 try simp only [Ae]
 have hr := fun a b c d e h1 h2 h3 h4 h5 => Oj (xs := xs) (v := v) (z := [.str [], .sl []]) (i := i) (a := a) (b := b) (c := c) (e := e) (d := d) (by have := hb10; omega) h1 h2 h3 h4 h5
 refine Aj ?_
 refine ⟨[some 0, some 1, some 2], by rfl, ?_, ?_⟩
 refine Aj ?_
 ·(repeat' apply And.intro) <;> (first | (first | rfl | (exact hr _ _ _ _ _ (by omega) (by omega) (by omega) (by omega) (by omega)) | (simp; omega) | (simp; done)) | exact Au)
 refine Aj ?_
 ·(repeat' apply And.intro) <;> (first | (first | rfl | (exact hr _ _ _ _ _ (by omega) (by omega) (by omega) (by omega) (by omega)) | (simp; omega) | (simp; done)) | exact Au)
 refine An ?_
 try simp only [Ae]
 refine h12 _ (Aa fun N19 h19 => Ac ?_); clear h12
 iterate 3 refine Ad ?_
 refine Ao ?_
 refine AS (by rfl) (Gi (by exact DF) (by exact DE) (by simp only [wB, eq_self, Nat.reduceEqDiff, reduceIte]; rfl) (by exact DB) (by exact DB) (by exact DF) (by exact DE) (by exact AQ) ?_)
 try simp only [wB, eq_self, Nat.reduceEqDiff, reduceIte, wL, Int.toNat_natCast, Int.reduceToNat, Nat.reduceAdd, Nat.reduceMul, Nat.reduceSub, Nat.reduceLeDiff, hx]
 refine Ad ?_
 refine Ab (h19 _ (Aa fun N20 h20 => Aa fun N21 h21 => ?_)); clear h19
 refine Gn 0 rfl ?_
 simp only [Cc]
 refine Ac ?_
 iterate 4 refine Ad ?_
 refine Ao ?_
 refine BZ ?_
 refine AS (by rfl) (Iq (e := 85) (t := 47) (tR := 4) (fn := Tryz.f92) Tryz.func92 (by kernel_rfl) (by kernel_rfl) (by kernel_rfl) (by kernel_rfl) (by exact DF) (by exact DE) (by exact DF) (by exact DE) (by decide) (by simp only [wB, eq_self, Nat.reduceEqDiff, reduceIte]; rfl) (by simp only [wB, eq_self, Nat.reduceEqDiff, reduceIte]; rfl) (by omega) (by exact AQ) (by exact DB) (by exact DB) ?_)
 try simp only [wB, eq_self, Nat.reduceEqDiff, reduceIte, wL, Int.toNat_natCast, Int.reduceToNat, Nat.reduceAdd, Nat.reduceMul, Nat.reduceSub, Nat.reduceLeDiff, hx]
 refine EL ?_
 refine Ab (h21 _ (Ak (fun hb22 => ?_) (fun hb22 => ?_))); clear h21
 refine Aa fun N23 h23 => Ac ?_
 iterate 3 refine Ad ?_
 refine Ao ?_
 refine BZ ?_
 iterate 2 refine Ad ?_
 refine BZ ?_
 refine AS (by rfl) (LL (by exact DF) (by exact DE) (by simp only [wB, eq_self, Nat.reduceEqDiff, reduceIte]; rfl) (by exact DB) (by exact DB) rfl (by exact DF) (by exact DE) (by exact AQ) ?_)
 try simp only [wB, eq_self, Nat.reduceEqDiff, reduceIte, wL, Int.toNat_natCast, Int.reduceToNat, Nat.reduceAdd, Nat.reduceMul, Nat.reduceSub, Nat.reduceLeDiff, hx]
 refine Ab (h23 _ (Aa fun N24 h24 => Ac ?_)); clear h23
 iterate 2 refine Ad ?_
 refine BZ ?_
 refine Ad ?_
 refine AS (by rfl) (Em (by exact DF) (by exact DE) (by simp only [wB, eq_self, Nat.reduceEqDiff, reduceIte]; rfl) (by exact DB) (by exact DB) rfl (by exact DF) (by exact DE) (by simp only [C7, wB, eq_self, Nat.reduceEqDiff, reduceIte, wL, Int.toNat_natCast, Int.reduceToNat, Nat.reduceAdd, Nat.reduceMul, Nat.reduceSub, Nat.reduceLeDiff, hx]; rfl) (by (first | (first | assumption | (simp [A6]; omega)) | exact AQ)) (by (first | (first | assumption | (simp [A6]; omega)) | exact AQ)) (by (first | (first | assumption | (simp [A6]; omega)) | exact AQ)) ?_)
 try simp only [wB, eq_self, Nat.reduceEqDiff, reduceIte, wL, Int.toNat_natCast, Int.reduceToNat, Nat.reduceAdd, Nat.reduceMul, Nat.reduceSub, Nat.reduceLeDiff, hx]
 refine Ab (h24 _ (Aa fun N25 h25 => ?_)); clear h24
 refine Gm 0 0 rfl (by decide) rfl rfl ?_
 simp only [Bk, List.cons_append, List.nil_append]
 refine Ac ?_
 iterate 2 refine Ad ?_
 refine Ab (h25 _ (Am ?_)); clear h25
 try simp only [Ae]
 have hr := fun k b c h2 h3 h4 => Ok (xs := xs) (v := v) (i := i) (k := k) (b := b) (c := c) (by have := hb10; omega) h2 h3 h4
 refine Aj ?_
 refine ⟨[some 0, some 1, some 2], by rfl, ?_, ?_⟩
 refine Aj ?_
 ·(repeat' apply And.intro) <;> (first | (first | rfl | (exact hr _ _ _ (by omega) (by omega) (by omega)) | (simp; omega) | (simp; done)) | exact Au)
 refine Aj ?_
 ·(repeat' apply And.intro) <;> (first | (first | rfl | (exact hr _ _ _ (by omega) (by omega) (by omega)) | (simp; omega) | (simp; done)) | exact Au)
 exact absurd hb22 (by simp)
 rename_i m t' s' vs
 simp only [Option.some.injEq, Prod.mk.injEq] at hg
 obtain ⟨rfl, rfl, rfl⟩ := hg
 obtain ⟨rfl, rfl, hrv, hv1, rfl⟩ := hp
 obtain ⟨v, rfl⟩ := Xb hv1
 have hv0 := hrv v (by simp)
 have hT : (HE).X = T := rfl
 have hx0 := @Tryz.results79
 have hx := hx0
 refine ⟨Nat.le_of_ble_eq_true rfl, ?_⟩
 intro F W0 M0 hnp hmk
 have hnp : Bl.np = 1 := hnp
 refine Aa fun N1 h1 => Ac ?_
 refine Az ?_
 refine Ad ?_
 refine Ab (h1 _ (Aa fun N2 h2 => Ac ?_)); clear h1
 iterate 2 refine Ad ?_
 refine BZ ?_
 refine Ab (h2 _ (Aa fun N3 h3 => Ac ?_)); clear h2
 refine Ad ?_
 refine AU ?_
 refine Ad ?_
 refine Ab (h3 _ (Aa fun N4 h4 => ?_)); clear h3
 refine Aa fun N5 h5 => Ac ?_
 refine Ad ?_
 refine Ao ?_
 refine Ab (h5 _ (Ak (fun hb6 => ?_) (fun hb6 => ?_))); clear h5
 exact CJ hb6
 refine An ?_
 try simp only [Ae]
 refine h4 _ (Aa fun N7 h7 => Ac ?_); clear h4
 refine Ad ?_
 refine AU ?_
 refine Ad ?_
 refine Ab (h7 _ (Aa fun N8 h8 => ?_)); clear h7
 refine Aa fun N9 h9 => Ac ?_
 iterate 2 refine Ad ?_
 refine Ao ?_
 refine Ab (h9 _ (Ak (fun hb10 => ?_) (fun hb10 => ?_))); clear h9
 refine Aa fun N11 h11 => Ac ?_
 iterate 2 refine Ad ?_
 refine Bf ?_
 refine Ad ?_
 refine Ab (h11 _ (Am ?_)); clear h11
 try simp only [Ae]
 refine Aj ?_
 refine ⟨[some 0, some 1], by rfl, ?_, ?_⟩
 refine Aj ?_
 exact Au
 refine Aj ?_
 exact Au
 exact absurd (by simp) hb10
 cases hg
def GO : Bq Tryz.prog := HE.add 79 (Spec.gen (Ds 85 2)) Lb (by kernel_rfl)
