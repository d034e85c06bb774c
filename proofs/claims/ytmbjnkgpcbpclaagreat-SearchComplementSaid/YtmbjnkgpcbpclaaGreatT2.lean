/- Walks, printed by wip/gen/walk.py. -/
import Derived.Test.YtmbjnkgpcbpclaaGreatTy
import Derived.Test.YtmbjnkgpcbpclaaGreatV5
set_option linter.all false
set_option maxRecDepth 100000
set_option maxHeartbeats 4000000
namespace Go.Proofs.YtmbjnkgpcbpclaaGreat
open Go Go.Vc Go.RowKit
theorem Da {a b : AV} (h : a = b := by first | (simp only [wB, eq_self, Nat.reduceEqDiff, reduceIte]; done) | (simp only [wB, eq_self, Nat.reduceEqDiff, reduceIte]; rfl)) : a = b := h
theorem CZ {a b : Option TI} (h : a = b := by first | (simp only [wB, eq_self, Nat.reduceEqDiff, reduceIte, Bv, K3, hT, Cw]; done) | (simp only [wB, eq_self, Nat.reduceEqDiff, reduceIte, Bv, K3, hT, Cw]; rfl)) : a = b := h
theorem CY {p : Prop} (h : p := by first | trivial | simp only [wB, eq_self, Nat.reduceEqDiff, reduceIte]) : p := h
def FF : List AV → Option (Prop × AV)
  | [.d (.sl xs), .d (.int .i64 n)] => some (xs = rows eI (dI xs) ∧ (dI xs).length ≤ 9223372036854775807, .d (.bool (decide (n ∈ dI xs))))
  | _ => none
def Mq : List AV → Option (Prop × AV)
  | [.d (.sl xs), .d (.sl ys)] => some (xs = rows eI (dI xs) ∧ ys = rows eI (dI ys) ∧ (dI xs).length ≤ 9223372036854775807 ∧ (dI ys).length ≤ 9223372036854775807, .d (.bool (decide (dI xs = dI ys))))
  | _ => none
theorem Cb {α : Type} {l : List α} {i : Nat} (h : i < l.length) : ∃ x, l[i]? = some x := ⟨_, List.getElem?_eq_getElem h⟩
theorem AF {α : Type} {l : List α} {i : Nat} {x : α} (h : l[i]? = some x) : x ∈ l := List.mem_of_getElem? h
theorem Vb {α : Type} {l m : List α} {i : Nat} {a : α} (h1 : l[i]? = some a) (h2 : m[i]? = some a) (h : l.take i = m.take i) : l.take (i + 1) = m.take (i + 1) := by
  rw [List.take_add_one, List.take_add_one, h1, h2, h]
theorem Jf {α : Type} {l : List α} {i : Nat} {x n : α} (h : l[i]? = some x) (hn : n ∉ l.take i) (hx : x ≠ n) : n ∉ l.take (i + 1) := by
  rw [List.take_add_one, h]; simp only [Option.toList_some, List.mem_append, List.mem_singleton, not_or]
  exact ⟨hn, fun h => hx h.symm⟩
theorem Xn {α : Type} {l m : List α} {i : Nat} {a b : α} (h1 : l[i]? = some a) (h2 : m[i]? = some b) (h : a ≠ b) : l ≠ m := by
  rintro rfl; rw [h1] at h2; exact h (Option.some.inj h2)

theorem Qa : A5 Tryz.prog 26 (Spec.pure FF) := by
 refine A7 ((Bo.empty T).at_ 18) Tryz.func26 rfl rfl rfl ?_
 intro args p r hg hp
 unfold FF at hg
 split at hg
 rename_i xs n
 simp only [Option.some.injEq, Prod.mk.injEq] at hg
 obtain ⟨rfl, rfl⟩ := hg
 obtain ⟨hx, hl⟩ := hp
 generalize dI xs = l at *
 subst hx
 have hT : ((Bo.empty T)).X = T := rfl
 have hx0 := @Tryz.results26
 have hx := hx0
 refine ⟨by rfl, ?_⟩
 intro F W0 hnp hmk
 refine Aa fun N1 h1 => ?_
 refine Ad ?_
 try refine Ac ?_
 refine Ae ?_
 refine Ab ?_
 refine h1 _ ?_; clear h1
 refine Aa fun N2 h2 => ?_
 refine Aa fun N3 h3 => ?_
 refine Ad ?_
 try refine Ac ?_
 refine Ae ?_
 refine Ab ?_
 refine h3 _ ?_; clear h3
 refine Aw ?_
 refine A9 (σ := Nat) (fun s => (fun i => i ≤ l.length ∧ n ∉ l.take i) s)
  (fun s => (fun i => [(0, .d (.sl (rows eI l))), (1, .d (.int .i64 n)), (5, .d (.int .i64 (i : Nat)))]) s)
  (fun s => (fun i => []) s) (fun s => (fun i => l.length - i) s) hnp 0 ?_ [] ?_ ?_
 dsimp only
 simp
 dsimp only
 refine ⟨by rfl, ?_, ?_⟩
 refine Aj ?_
 exact At
 refine Aj ?_
 exact At
 rintro i hinv N4 h4
 dsimp only at hinv ⊢
 obtain ⟨i1, i2⟩ := hinv
 refine Aa fun N5 h5 => ?_
 refine Aa fun N6 h6 => ?_
 refine Ad ?_
 try refine Ac ?_
 iterate 2 refine Ae ?_
 refine Bm ?_
 refine Am ?_
 refine Ab ?_
 refine h6 _ ?_; clear h6
 refine Al (fun hb7 => ?_) (fun hb7 => ?_)
 obtain ⟨x, hxe⟩ := Cb (l := l) (i := i) (by omega)
 refine An ?_
 try simp only [Af]
 refine h5 _ ?_; clear h5
 refine Aa fun N8 h8 => ?_
 refine Aw ?_
 refine Aa fun N9 h9 => ?_
 have hx := And.intro @hxe (And.intro @eI.eq_1 hx0)
 refine Ad ?_
 try refine Ac ?_
 iterate 2 refine Ae ?_
 refine Au ?_
 refine Ar ?_
 refine Ae ?_
 refine Am ?_
 refine Ab ?_
 have hx := hx0
 refine h9 _ ?_; clear h9
 refine Al (fun hb10 => ?_) (fun hb10 => ?_)
 have he := hb10
 refine Aa fun N11 h11 => ?_
 refine Ad ?_
 try refine Ac ?_
 refine Ae ?_
 refine Ab ?_
 refine h11 _ ?_; clear h11
 refine Ao ?_
 try simp only [Af]
 have hr : decide (n ∈ l) = true := decide_eq_true (by rw [← he]; exact AF hxe)
 rw [hr]
 refine A3 ?_
 exact At
 have he := hb10
 refine An ?_
 try simp only [Af]
 refine h8 _ ?_; clear h8
 refine Ad ?_
 try refine Ac ?_
 refine Ae ?_
 refine Am ?_
 refine Ae ?_
 refine Ab ?_
 refine h4 _ ⟨i + 1, ?_, ?_, [], ?_⟩
 dsimp only
 exact ⟨by omega, Jf hxe i2 (by simpa using he)⟩
 dsimp only
 omega
 dsimp only
 refine ⟨by rfl, ?_, ?_⟩
 refine Aj ?_
 exact At
 refine Aj ?_
 exact At
 refine Be ?_
 simp only [Af, Nat.reduceEqDiff, reduceIte, eq_self]
 refine h2 _ ?_; clear h2
 refine Aa fun N12 h12 => ?_
 refine Ad ?_
 try refine Ac ?_
 refine Ae ?_
 refine Ab ?_
 refine h12 _ ?_; clear h12
 refine Ao ?_
 try simp only [Af]
 have hr : decide (n ∈ l) = false := decide_eq_false (by rwa [List.take_of_length_le (by omega)] at i2)
 rw [hr]
 refine A3 ?_
 exact At
 cases hg

def Ri : Bo Tryz.prog := (Bo.empty T).add 26 (Spec.pure FF) Qa (by kernel_rfl)

theorem NK : A5 Tryz.prog 14 (Spec.pure Mq) := by
 refine A7 (Ri.at_ 26) Tryz.func14 rfl rfl rfl ?_
 intro args p r hg hp
 unfold Mq at hg
 split at hg
 rename_i xs ys
 simp only [Option.some.injEq, Prod.mk.injEq] at hg
 obtain ⟨rfl, rfl⟩ := hg
 obtain ⟨hx, hy, hl, hm⟩ := hp
 generalize dI xs = l at *
 generalize dI ys = m at *
 subst hx hy
 have hT : (Ri).X = T := rfl
 have hx0 := @Tryz.results14
 have hx := hx0
 refine ⟨by rfl, ?_⟩
 intro F W0 hnp hmk
 refine Aa fun N1 h1 => ?_
 refine Ad ?_
 try refine Ac ?_
 refine Ae ?_
 refine Ab ?_
 refine h1 _ ?_; clear h1
 refine Aa fun N2 h2 => ?_
 refine Aa fun N3 h3 => ?_
 refine Ad ?_
 try refine Ac ?_
 refine Ae ?_
 refine Bm ?_
 refine Ae ?_
 refine Bm ?_
 refine Am ?_
 refine Ab ?_
 refine h3 _ ?_; clear h3
 refine Al (fun hb4 => ?_) (fun hb4 => ?_)
 refine Aa fun N5 h5 => ?_
 refine Ad ?_
 try refine Ac ?_
 refine Ae ?_
 refine Ab ?_
 refine h5 _ ?_; clear h5
 refine Ao ?_
 try simp only [Af]
 have hr : decide (l = m) = false := decide_eq_false (fun h => by subst h; omega)
 rw [hr]
 refine A3 ?_
 exact At
 refine An ?_
 try simp only [Af]
 refine h2 _ ?_; clear h2
 refine Aa fun N6 h6 => ?_
 refine Aa fun N7 h7 => ?_
 refine Ad ?_
 try refine Ac ?_
 refine Ae ?_
 refine Ab ?_
 refine h7 _ ?_; clear h7
 refine Aw ?_
 refine A9 (σ := Nat) (fun s => (fun i => l.length = m.length ∧ i ≤ l.length ∧ l.take i = m.take i) s)
  (fun s => (fun i => [(0, .d (.sl (rows eI l))), (1, .d (.sl (rows eI m))), (5, .d (.int .i64 (i : Nat)))]) s)
  (fun s => (fun i => []) s) (fun s => (fun i => l.length - i) s) hnp 0 ?_ [] ?_ ?_
 dsimp only
 refine ⟨by omega, by omega, rfl⟩
 dsimp only
 refine ⟨by rfl, ?_, ?_⟩
 refine Aj ?_
 exact At
 refine Aj ?_
 exact At
 rintro i hinv N8 h8
 dsimp only at hinv ⊢
 obtain ⟨i1, i2, i3⟩ := hinv
 refine Aa fun N9 h9 => ?_
 refine Aa fun N10 h10 => ?_
 refine Ad ?_
 try refine Ac ?_
 iterate 2 refine Ae ?_
 refine Bm ?_
 refine Am ?_
 refine Ab ?_
 refine h10 _ ?_; clear h10
 refine Al (fun hb11 => ?_) (fun hb11 => ?_)
 obtain ⟨a, ha⟩ := Cb (l := l) (i := i) (by omega)
 obtain ⟨c, hc⟩ := Cb (l := m) (i := i) (by omega)
 refine An ?_
 try simp only [Af]
 refine h9 _ ?_; clear h9
 refine Aa fun N12 h12 => ?_
 refine Aw ?_
 refine Aa fun N13 h13 => ?_
 have hx := And.intro @ha (And.intro @hc (And.intro @eI.eq_1 hx0))
 refine Ad ?_
 try refine Ac ?_
 iterate 2 refine Ae ?_
 refine Au ?_
 refine Ar ?_
 iterate 2 refine Ae ?_
 refine Au ?_
 refine Ar ?_
 refine Am ?_
 refine Ab ?_
 have hx := hx0
 refine h13 _ ?_; clear h13
 refine Al (fun hb14 => ?_) (fun hb14 => ?_)
 have hne := hb14
 refine Aa fun N15 h15 => ?_
 refine Ad ?_
 try refine Ac ?_
 refine Ae ?_
 refine Ab ?_
 refine h15 _ ?_; clear h15
 refine Ao ?_
 try simp only [Af]
 have hr : decide (l = m) = false := decide_eq_false (Xn ha hc (by simpa using hne))
 rw [hr]
 refine A3 ?_
 exact At
 have hne := hb14
 refine An ?_
 try simp only [Af]
 refine h12 _ ?_; clear h12
 refine Ad ?_
 try refine Ac ?_
 refine Ae ?_
 refine Am ?_
 refine Ae ?_
 refine Ab ?_
 refine h8 _ ⟨i + 1, ?_, ?_, [], ?_⟩
 dsimp only
 refine ⟨i1, by omega, ?_⟩
 have he : a = c := by simpa using hne
 subst he
 exact Vb ha hc i3
 dsimp only
 omega
 dsimp only
 refine ⟨by rfl, ?_, ?_⟩
 refine Aj ?_
 exact At
 refine Aj ?_
 exact At
 refine Be ?_
 simp only [Af, Nat.reduceEqDiff, reduceIte, eq_self]
 refine h6 _ ?_; clear h6
 refine Aa fun N16 h16 => ?_
 refine Ad ?_
 try refine Ac ?_
 refine Ae ?_
 refine Ab ?_
 refine h16 _ ?_; clear h16
 refine Ao ?_
 try simp only [Af]
 have hr : decide (l = m) = true := decide_eq_true (by rw [List.take_of_length_le (by omega), List.take_of_length_le (by omega)] at i3; exact i3)
 rw [hr]
 refine A3 ?_
 exact At
 cases hg

def KA : Bo Tryz.prog := Ri.add 14 (Spec.pure Mq) NK (by kernel_rfl)

def CD (ty sz : Nat) : Dr
  | [.sl 0 0 n, .d (.int .i64 i), .sl 1 0 m], [some (.vec t s xs), some (.vec t' s' vs)] =>
    some (t = ty ∧ s = sz ∧ t' = ty ∧ s' = sz ∧ Cs sz xs ∧ Cs sz vs ∧ xs.length = n ∧ vs.length = 1 ∧ m = 1 ∧ 0 ≤ i ∧ i ≤ n ∧ n ≤ 1000000000,
      .sl 2 0 (n + 1), [none, none, some (.vec ty sz (xs.take i.toNat ++ vs ++ xs.drop i.toNat))])
  | [.d .nils, .d (.int .i64 0), .sl 0 0 m], [some (.vec t' s' vs)] =>
    some (t' = ty ∧ s' = sz ∧ Cs sz vs ∧ vs.length = 1 ∧ m = 1, .sl 1 0 1, [none, some (.vec ty sz vs)])
  | _, _ => none
theorem U5 {α : Type} {vs : List α} (h : vs.length = 1) : ∃ v, vs = [v] := by
  match vs, h with
  | [v], _ => exact ⟨v, rfl⟩

theorem Mo {α : Type} {xs : List α} {v z : α} {i a b c e d : Nat} (h : i < xs.length) (ha : a = xs.length + 1 - i) (hb : 1 ≤ b) (hc : c = i + 1) (hd : xs.length - i ≤ d) (he : xs.length - i ≤ e) :
    Az (Az (xs.take i ++ List.replicate a z) i (List.take b [v])) c (List.take d (List.take e (xs.drop i))) = xs.take i ++ [v] ++ xs.drop i := by
  subst ha hc
  have e1 : List.take b [v] = [v] := List.take_of_length_le (by simpa using hb)
  have e2 : List.take d (List.take e (xs.drop i)) = xs.drop i := by rw [List.take_of_length_le (l := xs.drop i) (by simp; omega), List.take_of_length_le (by simp; omega)]
  have e3 : (xs.take i).length = i := by rw [List.length_take]; omega
  have e4 : Az (xs.take i ++ List.replicate (xs.length + 1 - i) z) i [v] = xs.take i ++ [v] ++ List.replicate (xs.length - i) z := by
    unfold Az
    rw [List.take_append_of_le_length (by omega), List.take_of_length_le (l := xs.take i) (by omega), List.drop_append, e3, List.drop_of_length_le (l := xs.take i) (by simp; omega)]
    simp; omega
  rw [e1, e2, e4]
  unfold Az
  have f1 : (xs.take i ++ [v] ++ List.replicate (xs.length - i) z).drop (i + 1 + (xs.drop i).length) = [] := List.drop_of_length_le (by simp; omega)
  have f2 : (xs.take i ++ [v] ++ List.replicate (xs.length - i) z).take (i + 1) = xs.take i ++ [v] := by rw [List.take_append_of_le_length (by simp; omega), List.take_of_length_le (by simp; omega)]
  rw [f1, f2, List.append_nil]
theorem Mp {α : Type} {xs : List α} {v : α} {i k b c : Nat} (h : i < xs.length) (hk : xs.length - i ≤ k) (hb : 1 ≤ b) (hc : c = i + 1) : Az (Az xs c (List.take k (xs.drop i))) i (List.take b [v]) = xs.take i ++ [v] ++ xs.drop i := by
  subst hc
  have e1 : List.take b [v] = [v] := List.take_of_length_le (by simpa using hb)
  have e2 : List.take k (xs.drop i) = xs.drop i := List.take_of_length_le (by simp; omega)
  rw [e1, e2]
  have e3 : Az xs (i + 1) (xs.drop i) = xs.take (i + 1) ++ xs.drop i := by
    unfold Az
    have f1 : xs.drop (i + 1 + (xs.drop i).length) = [] := List.drop_of_length_le (by simp; omega)
    rw [f1, List.append_nil]
  rw [e3]
  unfold Az
  have e5 : (xs.take (i + 1)).length = i + 1 := by rw [List.length_take]; omega
  rw [List.take_append_of_le_length (by omega), List.take_take, Nat.min_eq_left (by omega), List.drop_append, e5, List.drop_of_length_le (l := xs.take (i + 1)) (by simp; omega)]
  simp

theorem KZ : A5 Tryz.prog 88 (Spec.gen (CD 3 1)) := by
 refine Bt (KA.at_ 95) Tryz.func88 rfl rfl rfl ?_
 intro args bl p r bf hg hp
 unfold CD at hg
 split at hg
 rename_i n i m t s xs t' s' vs
 simp only [Option.some.injEq, Prod.mk.injEq] at hg
 obtain ⟨rfl, rfl, rfl⟩ := hg
 obtain ⟨rfl, rfl, rfl, rfl, hrx, hrv, rfl, hv1, rfl, h0, hi, hb⟩ := hp
 obtain ⟨i, rfl⟩ := Int.eq_ofNat_of_zero_le h0
 obtain ⟨v, rfl⟩ := U5 hv1
 have hv0 := hrv v (by simp)
 simp only [Int.toNat_natCast]
 have hT : (KA).X = T := rfl
 have hx0 := @Tryz.results88
 have hx := hx0
 refine ⟨Nat.le_of_ble_eq_true rfl, ?_⟩
 intro F W0 M0 hnp hmk
 have hnp : AU.np = 2 := hnp
 refine Aa fun N1 h1 => ?_
 refine Ad ?_
 try refine Ac ?_
 refine Ae ?_
 refine Ab ?_
 refine h1 _ ?_; clear h1
 refine Aa fun N2 h2 => ?_
 refine Ad ?_
 try refine Ac ?_
 iterate 2 refine Ae ?_
 refine DI ?_
 refine Ab ?_
 refine h2 _ ?_; clear h2
 refine Aa fun N3 h3 => ?_
 refine Ad ?_
 try refine Ac ?_
 refine Ae ?_
 refine Bm ?_
 refine Ae ?_
 refine Ab ?_
 refine h3 _ ?_; clear h3
 refine Aa fun N4 h4 => ?_
 refine Aa fun N5 h5 => ?_
 refine Ad ?_
 try refine Ac ?_
 refine Ae ?_
 refine Am ?_
 refine Ab ?_
 refine h5 _ ?_; clear h5
 refine Al (fun hb6 => ?_) (fun hb6 => ?_)
 ·first | omega | exact absurd trivial hb6 | contradiction | (simp_all; done)
 refine An ?_
 try simp only [Af]
 refine h4 _ ?_; clear h4
 refine Aa fun N7 h7 => ?_
 refine Ad ?_
 try refine Ac ?_
 refine Ae ?_
 refine Bm ?_
 refine Ae ?_
 refine Ab ?_
 refine h7 _ ?_; clear h7
 refine Aa fun N8 h8 => ?_
 refine Aa fun N9 h9 => ?_
 refine Ad ?_
 try refine Ac ?_
 iterate 2 refine Ae ?_
 refine Am ?_
 refine Ab ?_
 refine h9 _ ?_; clear h9
 refine Al (fun hb10 => ?_) (fun hb10 => ?_)
 refine Aa fun N11 h11 => ?_
 refine Ad ?_
 try refine Ac ?_
 iterate 2 refine Ae ?_
 refine Ij ?_
 refine Ae ?_
 refine Ab ?_
 refine h11 _ ?_; clear h11
 refine Ao ?_
 try simp only [Af]
 obtain rfl : i = xs.length := by have := hb10; omega
 have hr : xs.take xs.length ++ [v] ++ xs.drop xs.length = xs.take xs.length ++ [v] := by simp
 rw [hr]
 refine Aj ?_
 refine ⟨[some 0, some 1, some 2], by rfl, ?_, ?_⟩
 refine Aj ?_
 exact At
 refine Aj ?_
 exact At
 refine An ?_
 try simp only [Af]
 refine h8 _ ?_; clear h8
 refine Aa fun N12 h12 => ?_
 refine Aa fun N13 h13 => ?_
 refine Ad ?_
 try refine Ac ?_
 iterate 2 refine Ae ?_
 refine Am ?_
 refine Ae ?_
 refine AE (by rfl) (MI (by exact Da) (by exact CY) (by simp only [wB, eq_self, Nat.reduceEqDiff, reduceIte]; rfl) (by exact CZ) fun z_r8_4 hz_r8_4 hz_r8_4' => ?_)
 try simp only [wB, eq_self, Nat.reduceEqDiff, reduceIte, wL, Int.toNat_natCast, Int.reduceToNat, Nat.reduceAdd, Nat.reduceMul, Nat.reduceSub, Nat.reduceLeDiff, hx]
 refine Am ?_
 refine Ab ?_
 refine h13 _ ?_; clear h13
 refine Al (fun hb14 => ?_) (fun hb14 => ?_)
 refine Aa fun N15 h15 => ?_
 refine Ad ?_
 try refine Ac ?_
 iterate 2 refine Ae ?_
 refine AE (by rfl) (Fm (by exact Da) (by exact CY) (by simp only [wB, eq_self, Nat.reduceEqDiff, reduceIte]; rfl) (by exact CZ) (by exact CZ) (by exact Da) (by exact CY) (by exact Ay) ?_)
 try simp only [wB, eq_self, Nat.reduceEqDiff, reduceIte, wL, Int.toNat_natCast, Int.reduceToNat, Nat.reduceAdd, Nat.reduceMul, Nat.reduceSub, Nat.reduceLeDiff, hx]
 iterate 2 refine Ae ?_
 refine Am ?_
 refine Ae ?_
 refine Am ?_
 refine AE (by rfl) (HT (by exact Da) (by exact CY) (by simp only [wB, eq_self, Nat.reduceEqDiff, reduceIte]; rfl) (by exact CZ) (by exact CZ) (by exact CZ) (by exact Da) (by exact CY) (by exact Ay) (by exact Ay) (by exact Ay) (by exact Ay) (by exact Ay) ?_)
 try simp only [wB, eq_self, Nat.reduceEqDiff, reduceIte, wL, Int.toNat_natCast, Int.reduceToNat, Nat.reduceAdd, Nat.reduceMul, Nat.reduceSub, Nat.reduceLeDiff, hx]
 refine Ae ?_
 refine Ab ?_
 refine h15 _ ?_; clear h15
 refine Aa fun N16 h16 => ?_
 refine Ft 0 rfl ?_
 simp only [BI]
 refine Ad ?_
 try refine Ac ?_
 iterate 2 refine Ae ?_
 refine DI ?_
 refine Ae ?_
 refine AE (by rfl) (D1 (by exact Da) (by exact CY) (by simp only [wB, eq_self, Nat.reduceEqDiff, reduceIte]; rfl) (by exact CZ) (by exact CZ) rfl (by exact Da) (by exact CY) (by simp only [BX, wB, eq_self, Nat.reduceEqDiff, reduceIte, wL, Int.toNat_natCast, Int.reduceToNat, Nat.reduceAdd, Nat.reduceMul, Nat.reduceSub, Nat.reduceLeDiff, hx]; rfl) (by exact Ay) (by exact Ay) (by exact Ay) ?_)
 try simp only [wB, eq_self, Nat.reduceEqDiff, reduceIte, wL, Int.toNat_natCast, Int.reduceToNat, Nat.reduceAdd, Nat.reduceMul, Nat.reduceSub, Nat.reduceLeDiff, hx]
 refine Ab ?_
 refine h16 _ ?_; clear h16
 refine Aa fun N17 h17 => ?_
 refine Ad ?_
 try refine Ac ?_
 iterate 3 refine Ae ?_
 refine Am ?_
 refine DI ?_
 iterate 2 refine Ae ?_
 refine DI ?_
 refine AE (by rfl) (D1 (by exact Da) (by exact CY) (by simp only [wB, eq_self, Nat.reduceEqDiff, reduceIte]; rfl) (by exact CZ) (by exact CZ) rfl (by exact Da) (by exact CY) (by simp only [BX, wB, eq_self, Nat.reduceEqDiff, reduceIte, wL, Int.toNat_natCast, Int.reduceToNat, Nat.reduceAdd, Nat.reduceMul, Nat.reduceSub, Nat.reduceLeDiff, hx]; rfl) (by (first | (first | exact fun y hy => hrx y (List.mem_of_mem_drop (List.mem_of_mem_take hy)) | (simp [Az]; omega)) | exact Ay)) (by (first | (first | exact fun y hy => hrx y (List.mem_of_mem_drop (List.mem_of_mem_take hy)) | (simp [Az]; omega)) | exact Ay)) (by (first | (first | exact fun y hy => hrx y (List.mem_of_mem_drop (List.mem_of_mem_take hy)) | (simp [Az]; omega)) | exact Ay)) ?_)
 try simp only [wB, eq_self, Nat.reduceEqDiff, reduceIte, wL, Int.toNat_natCast, Int.reduceToNat, Nat.reduceAdd, Nat.reduceMul, Nat.reduceSub, Nat.reduceLeDiff, hx]
 refine Ab ?_
 refine h17 _ ?_; clear h17
 refine Aa fun N18 h18 => ?_
 refine Ad ?_
 try refine Ac ?_
 iterate 2 refine Ae ?_
 refine Ab ?_
 refine h18 _ ?_; clear h18
 refine Ao ?_
 try simp only [Af]
 have hr := fun a b c d e h1 h2 h3 h4 h5 => Mo (xs := xs) (v := v) (z := [.int .i64 0]) (i := i) (a := a) (b := b) (c := c) (e := e) (d := d) (by have := hb10; omega) h1 h2 h3 h4 h5
 refine Aj ?_
 refine ⟨[some 0, some 1, some 2], by rfl, ?_, ?_⟩
 refine Aj ?_
 ·(repeat' apply And.intro) <;> (first | (first | rfl | (exact hr _ _ _ _ _ (by omega) (by omega) (by omega) (by omega) (by omega)) | (simp; omega) | (simp; done)) | exact At)
 refine Aj ?_
 ·(repeat' apply And.intro) <;> (first | (first | rfl | (exact hr _ _ _ _ _ (by omega) (by omega) (by omega) (by omega) (by omega)) | (simp; omega) | (simp; done)) | exact At)
 refine An ?_
 try simp only [Af]
 refine h12 _ ?_; clear h12
 refine Aa fun N19 h19 => ?_
 refine Ad ?_
 try refine Ac ?_
 iterate 3 refine Ae ?_
 refine Am ?_
 refine AE (by rfl) (Fm (by exact Da) (by exact CY) (by simp only [wB, eq_self, Nat.reduceEqDiff, reduceIte]; rfl) (by exact CZ) (by exact CZ) (by exact Da) (by exact CY) (by exact Ay) ?_)
 try simp only [wB, eq_self, Nat.reduceEqDiff, reduceIte, wL, Int.toNat_natCast, Int.reduceToNat, Nat.reduceAdd, Nat.reduceMul, Nat.reduceSub, Nat.reduceLeDiff, hx]
 refine Ae ?_
 refine Ab ?_
 refine h19 _ ?_; clear h19
 refine Aa fun N20 h20 => ?_
 refine Aa fun N21 h21 => ?_
 refine Ft 0 rfl ?_
 simp only [BI]
 refine Ad ?_
 try refine Ac ?_
 iterate 4 refine Ae ?_
 refine Am ?_
 refine DI ?_
 refine AE (by rfl) (Hg (e := 3) (t := 27) (tR := 4) (fn := Tryz.f102) Tryz.func102 (by kernel_rfl) (by kernel_rfl) (by kernel_rfl) (by kernel_rfl) (by exact Da) (by exact CY) (by exact Da) (by exact CY) (by decide) (by simp only [wB, eq_self, Nat.reduceEqDiff, reduceIte]; rfl) (by simp only [wB, eq_self, Nat.reduceEqDiff, reduceIte]; rfl) (by omega) (by exact Ay) (by exact CZ) (by exact CZ) ?_)
 try simp only [wB, eq_self, Nat.reduceEqDiff, reduceIte, wL, Int.toNat_natCast, Int.reduceToNat, Nat.reduceAdd, Nat.reduceMul, Nat.reduceSub, Nat.reduceLeDiff, hx]
 refine Ik ?_
 refine Ab ?_
 refine h21 _ ?_; clear h21
 refine Al (fun hb22 => ?_) (fun hb22 => ?_)
 refine Aa fun N23 h23 => ?_
 refine Ad ?_
 try refine Ac ?_
 iterate 3 refine Ae ?_
 refine Am ?_
 refine DI ?_
 iterate 2 refine Ae ?_
 refine DI ?_
 refine AE (by rfl) (Kz (by exact Da) (by exact CY) (by simp only [wB, eq_self, Nat.reduceEqDiff, reduceIte]; rfl) (by exact CZ) (by exact CZ) rfl (by exact Da) (by exact CY) (by exact Ay) ?_)
 try simp only [wB, eq_self, Nat.reduceEqDiff, reduceIte, wL, Int.toNat_natCast, Int.reduceToNat, Nat.reduceAdd, Nat.reduceMul, Nat.reduceSub, Nat.reduceLeDiff, hx]
 refine Ab ?_
 refine h23 _ ?_; clear h23
 refine Aa fun N24 h24 => ?_
 refine Ad ?_
 try refine Ac ?_
 iterate 2 refine Ae ?_
 refine DI ?_
 refine Ae ?_
 refine AE (by rfl) (D1 (by exact Da) (by exact CY) (by simp only [wB, eq_self, Nat.reduceEqDiff, reduceIte]; rfl) (by exact CZ) (by exact CZ) rfl (by exact Da) (by exact CY) (by simp only [BX, wB, eq_self, Nat.reduceEqDiff, reduceIte, wL, Int.toNat_natCast, Int.reduceToNat, Nat.reduceAdd, Nat.reduceMul, Nat.reduceSub, Nat.reduceLeDiff, hx]; rfl) (by (first | (first | assumption | (simp [Az]; omega)) | exact Ay)) (by (first | (first | assumption | (simp [Az]; omega)) | exact Ay)) (by (first | (first | assumption | (simp [Az]; omega)) | exact Ay)) ?_)
 try simp only [wB, eq_self, Nat.reduceEqDiff, reduceIte, wL, Int.toNat_natCast, Int.reduceToNat, Nat.reduceAdd, Nat.reduceMul, Nat.reduceSub, Nat.reduceLeDiff, hx]
 refine Ab ?_
 refine h24 _ ?_; clear h24
 refine Aa fun N25 h25 => ?_
 refine GG 0 0 rfl (by decide) rfl rfl ?_
 simp only [AS, List.cons_append, List.nil_append]
 refine Ad ?_
 try refine Ac ?_
 iterate 2 refine Ae ?_
 refine Ab ?_
 refine h25 _ ?_; clear h25
 refine Ao ?_
 try simp only [Af]
 have hr := fun k b c h2 h3 h4 => Mp (xs := xs) (v := v) (i := i) (k := k) (b := b) (c := c) (by have := hb10; omega) h2 h3 h4
 refine Aj ?_
 refine ⟨[some 0, some 1, some 2], by rfl, ?_, ?_⟩
 refine Aj ?_
 ·(repeat' apply And.intro) <;> (first | (first | rfl | (exact hr _ _ _ (by omega) (by omega) (by omega)) | (simp; omega) | (simp; done)) | exact At)
 refine Aj ?_
 ·(repeat' apply And.intro) <;> (first | (first | rfl | (exact hr _ _ _ (by omega) (by omega) (by omega)) | (simp; omega) | (simp; done)) | exact At)
 exact absurd hb22 (by simp)
 rename_i m t' s' vs
 simp only [Option.some.injEq, Prod.mk.injEq] at hg
 obtain ⟨rfl, rfl, rfl⟩ := hg
 obtain ⟨rfl, rfl, hrv, hv1, rfl⟩ := hp
 obtain ⟨v, rfl⟩ := U5 hv1
 have hv0 := hrv v (by simp)
 have hT : (KA).X = T := rfl
 have hx0 := @Tryz.results88
 have hx := hx0
 refine ⟨Nat.le_of_ble_eq_true rfl, ?_⟩
 intro F W0 M0 hnp hmk
 have hnp : AU.np = 1 := hnp
 refine Aa fun N1 h1 => ?_
 refine Ad ?_
 try refine Ac ?_
 refine Ae ?_
 refine Ab ?_
 refine h1 _ ?_; clear h1
 refine Aa fun N2 h2 => ?_
 refine Ad ?_
 try refine Ac ?_
 iterate 2 refine Ae ?_
 refine DI ?_
 refine Ab ?_
 refine h2 _ ?_; clear h2
 refine Aa fun N3 h3 => ?_
 refine Ad ?_
 try refine Ac ?_
 refine Ae ?_
 refine Bm ?_
 refine Ae ?_
 refine Ab ?_
 refine h3 _ ?_; clear h3
 refine Aa fun N4 h4 => ?_
 refine Aa fun N5 h5 => ?_
 refine Ad ?_
 try refine Ac ?_
 refine Ae ?_
 refine Am ?_
 refine Ab ?_
 refine h5 _ ?_; clear h5
 refine Al (fun hb6 => ?_) (fun hb6 => ?_)
 ·first | omega | exact absurd trivial hb6 | contradiction | (simp_all; done)
 refine An ?_
 try simp only [Af]
 refine h4 _ ?_; clear h4
 refine Aa fun N7 h7 => ?_
 refine Ad ?_
 try refine Ac ?_
 refine Ae ?_
 refine Bm ?_
 refine Ae ?_
 refine Ab ?_
 refine h7 _ ?_; clear h7
 refine Aa fun N8 h8 => ?_
 refine Aa fun N9 h9 => ?_
 refine Ad ?_
 try refine Ac ?_
 iterate 2 refine Ae ?_
 refine Am ?_
 refine Ab ?_
 refine h9 _ ?_; clear h9
 refine Al (fun hb10 => ?_) (fun hb10 => ?_)
 refine Aa fun N11 h11 => ?_
 refine Ad ?_
 try refine Ac ?_
 iterate 2 refine Ae ?_
 refine Ij ?_
 refine Ae ?_
 refine Ab ?_
 refine h11 _ ?_; clear h11
 refine Ao ?_
 try simp only [Af]
 refine Aj ?_
 refine ⟨[some 0, some 1], by rfl, ?_, ?_⟩
 refine Aj ?_
 exact At
 refine Aj ?_
 exact At
 exact absurd (by simp) hb10
 cases hg

def GI : Bo Tryz.prog := KA.add 88 (Spec.gen (CD 3 1)) KZ (by kernel_rfl)

theorem JC : A5 Tryz.prog 79 (Spec.gen (CD 85 2)) := by
 refine Bt (GI.at_ 95) Tryz.func79 rfl rfl rfl ?_
 intro args bl p r bf hg hp
 unfold CD at hg
 split at hg
 rename_i n i m t s xs t' s' vs
 simp only [Option.some.injEq, Prod.mk.injEq] at hg
 obtain ⟨rfl, rfl, rfl⟩ := hg
 obtain ⟨rfl, rfl, rfl, rfl, hrx, hrv, rfl, hv1, rfl, h0, hi, hb⟩ := hp
 obtain ⟨i, rfl⟩ := Int.eq_ofNat_of_zero_le h0
 obtain ⟨v, rfl⟩ := U5 hv1
 have hv0 := hrv v (by simp)
 simp only [Int.toNat_natCast]
 have hT : (GI).X = T := rfl
 have hx0 := @Tryz.results79
 have hx := hx0
 refine ⟨Nat.le_of_ble_eq_true rfl, ?_⟩
 intro F W0 M0 hnp hmk
 have hnp : AU.np = 2 := hnp
 refine Aa fun N1 h1 => ?_
 refine Ad ?_
 try refine Ac ?_
 refine Ae ?_
 refine Ab ?_
 refine h1 _ ?_; clear h1
 refine Aa fun N2 h2 => ?_
 refine Ad ?_
 try refine Ac ?_
 iterate 2 refine Ae ?_
 refine DI ?_
 refine Ab ?_
 refine h2 _ ?_; clear h2
 refine Aa fun N3 h3 => ?_
 refine Ad ?_
 try refine Ac ?_
 refine Ae ?_
 refine Bm ?_
 refine Ae ?_
 refine Ab ?_
 refine h3 _ ?_; clear h3
 refine Aa fun N4 h4 => ?_
 refine Aa fun N5 h5 => ?_
 refine Ad ?_
 try refine Ac ?_
 refine Ae ?_
 refine Am ?_
 refine Ab ?_
 refine h5 _ ?_; clear h5
 refine Al (fun hb6 => ?_) (fun hb6 => ?_)
 ·first | omega | exact absurd trivial hb6 | contradiction | (simp_all; done)
 refine An ?_
 try simp only [Af]
 refine h4 _ ?_; clear h4
 refine Aa fun N7 h7 => ?_
 refine Ad ?_
 try refine Ac ?_
 refine Ae ?_
 refine Bm ?_
 refine Ae ?_
 refine Ab ?_
 refine h7 _ ?_; clear h7
 refine Aa fun N8 h8 => ?_
 refine Aa fun N9 h9 => ?_
 refine Ad ?_
 try refine Ac ?_
 iterate 2 refine Ae ?_
 refine Am ?_
 refine Ab ?_
 refine h9 _ ?_; clear h9
 refine Al (fun hb10 => ?_) (fun hb10 => ?_)
 refine Aa fun N11 h11 => ?_
 refine Ad ?_
 try refine Ac ?_
 iterate 2 refine Ae ?_
 refine Ij ?_
 refine Ae ?_
 refine Ab ?_
 refine h11 _ ?_; clear h11
 refine Ao ?_
 try simp only [Af]
 obtain rfl : i = xs.length := by have := hb10; omega
 have hr : xs.take xs.length ++ [v] ++ xs.drop xs.length = xs.take xs.length ++ [v] := by simp
 rw [hr]
 refine Aj ?_
 refine ⟨[some 0, some 1, some 2], by rfl, ?_, ?_⟩
 refine Aj ?_
 exact At
 refine Aj ?_
 exact At
 refine An ?_
 try simp only [Af]
 refine h8 _ ?_; clear h8
 refine Aa fun N12 h12 => ?_
 refine Aa fun N13 h13 => ?_
 refine Ad ?_
 try refine Ac ?_
 iterate 2 refine Ae ?_
 refine Am ?_
 refine Ae ?_
 refine AE (by rfl) (MI (by exact Da) (by exact CY) (by simp only [wB, eq_self, Nat.reduceEqDiff, reduceIte]; rfl) (by exact CZ) fun z_r8_4 hz_r8_4 hz_r8_4' => ?_)
 try simp only [wB, eq_self, Nat.reduceEqDiff, reduceIte, wL, Int.toNat_natCast, Int.reduceToNat, Nat.reduceAdd, Nat.reduceMul, Nat.reduceSub, Nat.reduceLeDiff, hx]
 refine Am ?_
 refine Ab ?_
 refine h13 _ ?_; clear h13
 refine Al (fun hb14 => ?_) (fun hb14 => ?_)
 refine Aa fun N15 h15 => ?_
 refine Ad ?_
 try refine Ac ?_
 iterate 2 refine Ae ?_
 refine AE (by rfl) (Fm (by exact Da) (by exact CY) (by simp only [wB, eq_self, Nat.reduceEqDiff, reduceIte]; rfl) (by exact CZ) (by exact CZ) (by exact Da) (by exact CY) (by exact Ay) ?_)
 try simp only [wB, eq_self, Nat.reduceEqDiff, reduceIte, wL, Int.toNat_natCast, Int.reduceToNat, Nat.reduceAdd, Nat.reduceMul, Nat.reduceSub, Nat.reduceLeDiff, hx]
 iterate 2 refine Ae ?_
 refine Am ?_
 refine Ae ?_
 refine Am ?_
 refine AE (by rfl) (HT (by exact Da) (by exact CY) (by simp only [wB, eq_self, Nat.reduceEqDiff, reduceIte]; rfl) (by exact CZ) (by exact CZ) (by exact CZ) (by exact Da) (by exact CY) (by exact Ay) (by exact Ay) (by exact Ay) (by exact Ay) (by exact Ay) ?_)
 try simp only [wB, eq_self, Nat.reduceEqDiff, reduceIte, wL, Int.toNat_natCast, Int.reduceToNat, Nat.reduceAdd, Nat.reduceMul, Nat.reduceSub, Nat.reduceLeDiff, hx]
 refine Ae ?_
 refine Ab ?_
 refine h15 _ ?_; clear h15
 refine Aa fun N16 h16 => ?_
 refine Ft 0 rfl ?_
 simp only [BI]
 refine Ad ?_
 try refine Ac ?_
 iterate 2 refine Ae ?_
 refine DI ?_
 refine Ae ?_
 refine AE (by rfl) (D1 (by exact Da) (by exact CY) (by simp only [wB, eq_self, Nat.reduceEqDiff, reduceIte]; rfl) (by exact CZ) (by exact CZ) rfl (by exact Da) (by exact CY) (by simp only [BX, wB, eq_self, Nat.reduceEqDiff, reduceIte, wL, Int.toNat_natCast, Int.reduceToNat, Nat.reduceAdd, Nat.reduceMul, Nat.reduceSub, Nat.reduceLeDiff, hx]; rfl) (by exact Ay) (by exact Ay) (by exact Ay) ?_)
 try simp only [wB, eq_self, Nat.reduceEqDiff, reduceIte, wL, Int.toNat_natCast, Int.reduceToNat, Nat.reduceAdd, Nat.reduceMul, Nat.reduceSub, Nat.reduceLeDiff, hx]
 refine Ab ?_
 refine h16 _ ?_; clear h16
 refine Aa fun N17 h17 => ?_
 refine Ad ?_
 try refine Ac ?_
 iterate 3 refine Ae ?_
 refine Am ?_
 refine DI ?_
 iterate 2 refine Ae ?_
 refine DI ?_
 refine AE (by rfl) (D1 (by exact Da) (by exact CY) (by simp only [wB, eq_self, Nat.reduceEqDiff, reduceIte]; rfl) (by exact CZ) (by exact CZ) rfl (by exact Da) (by exact CY) (by simp only [BX, wB, eq_self, Nat.reduceEqDiff, reduceIte, wL, Int.toNat_natCast, Int.reduceToNat, Nat.reduceAdd, Nat.reduceMul, Nat.reduceSub, Nat.reduceLeDiff, hx]; rfl) (by (first | (first | exact fun y hy => hrx y (List.mem_of_mem_drop (List.mem_of_mem_take hy)) | (simp [Az]; omega)) | exact Ay)) (by (first | (first | exact fun y hy => hrx y (List.mem_of_mem_drop (List.mem_of_mem_take hy)) | (simp [Az]; omega)) | exact Ay)) (by (first | (first | exact fun y hy => hrx y (List.mem_of_mem_drop (List.mem_of_mem_take hy)) | (simp [Az]; omega)) | exact Ay)) ?_)
 try simp only [wB, eq_self, Nat.reduceEqDiff, reduceIte, wL, Int.toNat_natCast, Int.reduceToNat, Nat.reduceAdd, Nat.reduceMul, Nat.reduceSub, Nat.reduceLeDiff, hx]
 refine Ab ?_
 refine h17 _ ?_; clear h17
 refine Aa fun N18 h18 => ?_
 refine Ad ?_
 try refine Ac ?_
 iterate 2 refine Ae ?_
 refine Ab ?_
 refine h18 _ ?_; clear h18
 refine Ao ?_
 try simp only [Af]
 have hr := fun a b c d e h1 h2 h3 h4 h5 => Mo (xs := xs) (v := v) (z := [.str [], .sl []]) (i := i) (a := a) (b := b) (c := c) (e := e) (d := d) (by have := hb10; omega) h1 h2 h3 h4 h5
 refine Aj ?_
 refine ⟨[some 0, some 1, some 2], by rfl, ?_, ?_⟩
 refine Aj ?_
 ·(repeat' apply And.intro) <;> (first | (first | rfl | (exact hr _ _ _ _ _ (by omega) (by omega) (by omega) (by omega) (by omega)) | (simp; omega) | (simp; done)) | exact At)
 refine Aj ?_
 ·(repeat' apply And.intro) <;> (first | (first | rfl | (exact hr _ _ _ _ _ (by omega) (by omega) (by omega) (by omega) (by omega)) | (simp; omega) | (simp; done)) | exact At)
 refine An ?_
 try simp only [Af]
 refine h12 _ ?_; clear h12
 refine Aa fun N19 h19 => ?_
 refine Ad ?_
 try refine Ac ?_
 iterate 3 refine Ae ?_
 refine Am ?_
 refine AE (by rfl) (Fm (by exact Da) (by exact CY) (by simp only [wB, eq_self, Nat.reduceEqDiff, reduceIte]; rfl) (by exact CZ) (by exact CZ) (by exact Da) (by exact CY) (by exact Ay) ?_)
 try simp only [wB, eq_self, Nat.reduceEqDiff, reduceIte, wL, Int.toNat_natCast, Int.reduceToNat, Nat.reduceAdd, Nat.reduceMul, Nat.reduceSub, Nat.reduceLeDiff, hx]
 refine Ae ?_
 refine Ab ?_
 refine h19 _ ?_; clear h19
 refine Aa fun N20 h20 => ?_
 refine Aa fun N21 h21 => ?_
 refine Ft 0 rfl ?_
 simp only [BI]
 refine Ad ?_
 try refine Ac ?_
 iterate 4 refine Ae ?_
 refine Am ?_
 refine DI ?_
 refine AE (by rfl) (Hg (e := 85) (t := 47) (tR := 4) (fn := Tryz.f92) Tryz.func92 (by kernel_rfl) (by kernel_rfl) (by kernel_rfl) (by kernel_rfl) (by exact Da) (by exact CY) (by exact Da) (by exact CY) (by decide) (by simp only [wB, eq_self, Nat.reduceEqDiff, reduceIte]; rfl) (by simp only [wB, eq_self, Nat.reduceEqDiff, reduceIte]; rfl) (by omega) (by exact Ay) (by exact CZ) (by exact CZ) ?_)
 try simp only [wB, eq_self, Nat.reduceEqDiff, reduceIte, wL, Int.toNat_natCast, Int.reduceToNat, Nat.reduceAdd, Nat.reduceMul, Nat.reduceSub, Nat.reduceLeDiff, hx]
 refine Ik ?_
 refine Ab ?_
 refine h21 _ ?_; clear h21
 refine Al (fun hb22 => ?_) (fun hb22 => ?_)
 refine Aa fun N23 h23 => ?_
 refine Ad ?_
 try refine Ac ?_
 iterate 3 refine Ae ?_
 refine Am ?_
 refine DI ?_
 iterate 2 refine Ae ?_
 refine DI ?_
 refine AE (by rfl) (Kz (by exact Da) (by exact CY) (by simp only [wB, eq_self, Nat.reduceEqDiff, reduceIte]; rfl) (by exact CZ) (by exact CZ) rfl (by exact Da) (by exact CY) (by exact Ay) ?_)
 try simp only [wB, eq_self, Nat.reduceEqDiff, reduceIte, wL, Int.toNat_natCast, Int.reduceToNat, Nat.reduceAdd, Nat.reduceMul, Nat.reduceSub, Nat.reduceLeDiff, hx]
 refine Ab ?_
 refine h23 _ ?_; clear h23
 refine Aa fun N24 h24 => ?_
 refine Ad ?_
 try refine Ac ?_
 iterate 2 refine Ae ?_
 refine DI ?_
 refine Ae ?_
 refine AE (by rfl) (D1 (by exact Da) (by exact CY) (by simp only [wB, eq_self, Nat.reduceEqDiff, reduceIte]; rfl) (by exact CZ) (by exact CZ) rfl (by exact Da) (by exact CY) (by simp only [BX, wB, eq_self, Nat.reduceEqDiff, reduceIte, wL, Int.toNat_natCast, Int.reduceToNat, Nat.reduceAdd, Nat.reduceMul, Nat.reduceSub, Nat.reduceLeDiff, hx]; rfl) (by (first | (first | assumption | (simp [Az]; omega)) | exact Ay)) (by (first | (first | assumption | (simp [Az]; omega)) | exact Ay)) (by (first | (first | assumption | (simp [Az]; omega)) | exact Ay)) ?_)
 try simp only [wB, eq_self, Nat.reduceEqDiff, reduceIte, wL, Int.toNat_natCast, Int.reduceToNat, Nat.reduceAdd, Nat.reduceMul, Nat.reduceSub, Nat.reduceLeDiff, hx]
 refine Ab ?_
 refine h24 _ ?_; clear h24
 refine Aa fun N25 h25 => ?_
 refine GG 0 0 rfl (by decide) rfl rfl ?_
 simp only [AS, List.cons_append, List.nil_append]
 refine Ad ?_
 try refine Ac ?_
 iterate 2 refine Ae ?_
 refine Ab ?_
 refine h25 _ ?_; clear h25
 refine Ao ?_
 try simp only [Af]
 have hr := fun k b c h2 h3 h4 => Mp (xs := xs) (v := v) (i := i) (k := k) (b := b) (c := c) (by have := hb10; omega) h2 h3 h4
 refine Aj ?_
 refine ⟨[some 0, some 1, some 2], by rfl, ?_, ?_⟩
 refine Aj ?_
 ·(repeat' apply And.intro) <;> (first | (first | rfl | (exact hr _ _ _ (by omega) (by omega) (by omega)) | (simp; omega) | (simp; done)) | exact At)
 refine Aj ?_
 ·(repeat' apply And.intro) <;> (first | (first | rfl | (exact hr _ _ _ (by omega) (by omega) (by omega)) | (simp; omega) | (simp; done)) | exact At)
 exact absurd hb22 (by simp)
 rename_i m t' s' vs
 simp only [Option.some.injEq, Prod.mk.injEq] at hg
 obtain ⟨rfl, rfl, rfl⟩ := hg
 obtain ⟨rfl, rfl, hrv, hv1, rfl⟩ := hp
 obtain ⟨v, rfl⟩ := U5 hv1
 have hv0 := hrv v (by simp)
 have hT : (GI).X = T := rfl
 have hx0 := @Tryz.results79
 have hx := hx0
 refine ⟨Nat.le_of_ble_eq_true rfl, ?_⟩
 intro F W0 M0 hnp hmk
 have hnp : AU.np = 1 := hnp
 refine Aa fun N1 h1 => ?_
 refine Ad ?_
 try refine Ac ?_
 refine Ae ?_
 refine Ab ?_
 refine h1 _ ?_; clear h1
 refine Aa fun N2 h2 => ?_
 refine Ad ?_
 try refine Ac ?_
 iterate 2 refine Ae ?_
 refine DI ?_
 refine Ab ?_
 refine h2 _ ?_; clear h2
 refine Aa fun N3 h3 => ?_
 refine Ad ?_
 try refine Ac ?_
 refine Ae ?_
 refine Bm ?_
 refine Ae ?_
 refine Ab ?_
 refine h3 _ ?_; clear h3
 refine Aa fun N4 h4 => ?_
 refine Aa fun N5 h5 => ?_
 refine Ad ?_
 try refine Ac ?_
 refine Ae ?_
 refine Am ?_
 refine Ab ?_
 refine h5 _ ?_; clear h5
 refine Al (fun hb6 => ?_) (fun hb6 => ?_)
 ·first | omega | exact absurd trivial hb6 | contradiction | (simp_all; done)
 refine An ?_
 try simp only [Af]
 refine h4 _ ?_; clear h4
 refine Aa fun N7 h7 => ?_
 refine Ad ?_
 try refine Ac ?_
 refine Ae ?_
 refine Bm ?_
 refine Ae ?_
 refine Ab ?_
 refine h7 _ ?_; clear h7
 refine Aa fun N8 h8 => ?_
 refine Aa fun N9 h9 => ?_
 refine Ad ?_
 try refine Ac ?_
 iterate 2 refine Ae ?_
 refine Am ?_
 refine Ab ?_
 refine h9 _ ?_; clear h9
 refine Al (fun hb10 => ?_) (fun hb10 => ?_)
 refine Aa fun N11 h11 => ?_
 refine Ad ?_
 try refine Ac ?_
 iterate 2 refine Ae ?_
 refine Ij ?_
 refine Ae ?_
 refine Ab ?_
 refine h11 _ ?_; clear h11
 refine Ao ?_
 try simp only [Af]
 refine Aj ?_
 refine ⟨[some 0, some 1], by rfl, ?_, ?_⟩
 refine Aj ?_
 exact At
 refine Aj ?_
 exact At
 exact absurd (by simp) hb10
 cases hg

def Hq : Bo Tryz.prog := GI.add 79 (Spec.gen (CD 85 2)) JC (by kernel_rfl)
end Go.Proofs.YtmbjnkgpcbpclaaGreat
