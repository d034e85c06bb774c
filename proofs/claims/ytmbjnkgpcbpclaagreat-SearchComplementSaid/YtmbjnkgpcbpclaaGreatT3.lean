/- Walks, printed by wip/gen/walk.py. -/
import Derived.Test.YtmbjnkgpcbpclaaGreatT2
import Derived.Test.YtmbjnkgpcbpclaaGreatV5
set_option linter.all false
set_option maxRecDepth 100000
set_option maxHeartbeats 4000000
namespace Go.Proofs.YtmbjnkgpcbpclaaGreat
open Go Go.Vc Go.RowKit
def Hn (l : List Int) (n : Int) : List Int := if n ∈ l then l else l.takeWhile (fun x => decide (x < n)) ++ n :: l.dropWhile (fun x => decide (x < n))
theorem Sc {l : List Int} {n : Int} {k : Nat} (hn : n ∉ l) (h : ∀ x ∈ l.take k, x < n) (hk : k = l.length ∨ ∃ x, l[k]? = some x ∧ ¬x < n) : Hn l n = l.take k ++ n :: l.drop k := by
  have key : l.takeWhile (fun x => decide (x < n)) = l.take k ∧ l.dropWhile (fun x => decide (x < n)) = l.drop k := by
    clear hn
    induction l generalizing k with
    | nil => simp
    | cons a l ih =>
      cases k with
      | zero =>
        rcases hk with hk | ⟨x, hx, hxn⟩
        · simp at hk
        · simp only [List.getElem?_cons_zero, Option.some.injEq] at hx
          subst hx
          simp [List.takeWhile_cons, List.dropWhile_cons, hxn]
      | succ k =>
        have ha : a < n := h a (by simp)
        have := ih (k := k) (fun x hx => h x (by simp [hx])) (by simpa using hk)
        simp [List.takeWhile_cons, List.dropWhile_cons, ha, this.1, this.2]
  unfold Hn; rw [if_neg hn, key.1, key.2]
theorem Iv {l : List Int} {n x : Int} : x ∈ Hn l n ↔ x = n ∨ x ∈ l := by
  unfold Hn
  split
  · rename_i h
    exact ⟨.inr, fun h' => by rcases h' with rfl | h'; exact h; exact h'⟩
  · rw [List.mem_append, List.mem_cons]
    have := List.takeWhile_append_dropWhile (p := fun x => decide (x < n)) (l := l)
    conv => rhs; rw [← this, List.mem_append]
    constructor
    · rintro (h | h | h)
      · exact .inr (.inl h)
      · exact .inl h
      · exact .inr (.inr h)
    · rintro (h | h | h)
      · exact .inr (.inl h)
      · exact .inl h
      · exact .inr (.inr h)
theorem NJ {l : List Int} {n : Int} (h : l.Pairwise (· < ·)) : (Hn l n).Pairwise (· < ·) := by
  unfold Hn
  split
  · exact h
  · rename_i hn
    induction l with
    | nil => simp
    | cons a l ih =>
      have ha := List.pairwise_cons.1 h
      simp only [List.mem_cons, not_or] at hn
      by_cases hlt : a < n
      · simp only [List.takeWhile_cons, List.dropWhile_cons, hlt, decide_true, if_true, List.cons_append]
        refine List.pairwise_cons.2 ⟨fun x hx => ?_, ih ha.2 hn.2⟩
        rcases List.mem_append.1 hx with hx | hx
        · exact ha.1 x ((List.takeWhile_sublist _).subset hx)
        · rcases List.mem_cons.1 hx with rfl | hx
          · exact hlt
          · exact ha.1 x ((List.dropWhile_sublist _).subset hx)
      · simp only [List.takeWhile_cons, List.dropWhile_cons, hlt, decide_false, List.nil_append, Bool.false_eq_true, if_false]
        refine List.pairwise_cons.2 ⟨fun x hx => ?_, h⟩
        rcases List.mem_cons.1 hx with rfl | hx
        · omega
        · have := ha.1 x hx; omega
theorem U0 {l : List Int} {n : Int} : (Hn l n).length ≤ l.length + 1 := by
  unfold Hn
  split
  · omega
  · rw [List.length_append, List.length_cons]
    have := congrArg List.length (List.takeWhile_append_dropWhile (p := fun x => decide (x < n)) (l := l))
    rw [List.length_append] at this; omega

theorem Rq {l : List Int} {k : Nat} {x : Int} {P : Int → Prop} (h : ∀ y ∈ l.take k, P y) (hx : l[k]? = some x) (hp : P x) : ∀ y ∈ l.take (k + 1), P y := fun y hy => by
  rw [List.take_add_one, hx] at hy
  rcases List.mem_append.1 hy with hy | hy
  · exact h y hy
  · simp only [Option.toList_some, List.mem_singleton] at hy; rw [hy]; exact hp
def IY : List AV → Option (Prop × AV)
  | [.d (.sl xs), .d (.int .i64 n)] => some (xs = rows eI (dI xs) ∧ (dI xs).length ≤ 9223372036854775807, .d (.int .i64 (if n ∈ dI xs then ((dI xs).idxOf n : Nat) else -1)))
  | _ => none
theorem Sb {l : List Int} {i : Nat} {n : Int} (h : l[i]? = some n) (hn : n ∉ l.take i) : l.idxOf n = i := by
  induction l generalizing i with
  | nil => simp at h
  | cons a l ih =>
    cases i with
    | zero => simp only [List.getElem?_cons_zero, Option.some.injEq] at h; subst h; exact List.idxOf_cons_self
    | succ i =>
      simp only [List.take_succ_cons, List.mem_cons, not_or] at hn
      rw [List.idxOf_cons, ih (by simpa using h) hn.2, show (a == n) = false by simpa using fun h => hn.1 h.symm]; rfl
def C2 : List AV → Option (Prop × AV)
  | [.d (.sl xs), .d (.int .i64 n)] => some (xs = rows eI (dI xs) ∧ (dI xs).length ≤ 9223372036854775807, .d (.bool (decide (n ∈ dI xs))))
  | _ => none

theorem Mn : A5 Tryz.prog 85 (Spec.pure IY) := by
 refine A7 (Hq.at_ 19) Tryz.func85 rfl rfl rfl ?_
 intro args p r hg hp
 unfold IY at hg
 split at hg
 rename_i xs n
 simp only [Option.some.injEq, Prod.mk.injEq] at hg
 obtain ⟨rfl, rfl⟩ := hg
 obtain ⟨he, hl⟩ := hp
 generalize dI xs = l at *
 subst he
 have hT : (Hq).X = T := rfl
 have hx0 := @Tryz.results85
 have hx := hx0
 refine ⟨by rfl, ?_⟩
 intro F W0 hnp hmk
 refine Aa fun N1 h1 => ?_
 refine Ad ?_
 try refine Ac ?_
 refine Ae ?_
 refine Ab ?_
 refine h1 _ ?_; clear h1
 refine Aa fun N2 h2 => ?_
 refine Aa fun N3 h3 => ?_
 refine Ad ?_
 try refine Ac ?_
 refine Ae ?_
 refine Bm ?_
 refine Ae ?_
 refine Ab ?_
 refine h3 _ ?_; clear h3
 refine Aw ?_
 refine A9 (σ := Nat) (fun s => (fun k => k ≤ l.length ∧ n ∉ l.take k) s)
  (fun s => (fun k => [(0, .d (.sl (rows eI l))), (1, .d (.int .i64 n)), (6, .d (.sl (rows eI l))), (7, .d (.int .i64 (l.length : Nat))), (8, .d (.int .i64 (k : Nat)))]) s)
  (fun s => (fun k => []) s) (fun s => (fun k => l.length - k) s) hnp 0 ?_ [] ?_ ?_
 dsimp only
 simp
 dsimp only
 refine ⟨by rfl, ?_, ?_⟩
 refine Aj ?_
 exact At
 refine Aj ?_
 exact At
 rintro k hinv N4 h4
 dsimp only at hinv ⊢
 obtain ⟨k1, k2⟩ := hinv
 refine Aa fun N5 h5 => ?_
 refine Ad ?_
 try refine Ac ?_
 refine Am ?_
 refine Ab ?_
 refine h5 _ ?_; clear h5
 refine Aa fun N6 h6 => ?_
 refine Al (fun hb7 => ?_) (fun hb7 => ?_)
 obtain ⟨x, hxe⟩ := Cb (l := l) (i := k) (by omega)
 refine An ?_
 try simp only [Af]
 refine h6 _ ?_; clear h6
 refine Aa fun N8 h8 => ?_
 refine Aw ?_
 refine Aa fun N9 h9 => ?_
 refine Ad ?_
 try refine Ac ?_
 iterate 2 refine Ae ?_
 refine Ab ?_
 refine h9 _ ?_; clear h9
 refine Aa fun N10 h10 => ?_
 have hx := And.intro @hxe (And.intro @eI.eq_1 hx0)
 refine Ad ?_
 try refine Ac ?_
 iterate 3 refine Ae ?_
 refine Au ?_
 refine Ar ?_
 refine Am ?_
 refine Ab ?_
 have hx := hx0
 refine h10 _ ?_; clear h10
 refine Al (fun hb11 => ?_) (fun hb11 => ?_)
 refine Aa fun N12 h12 => ?_
 refine Ad ?_
 try refine Ac ?_
 iterate 2 refine Ae ?_
 refine Ab ?_
 refine h12 _ ?_; clear h12
 refine Ao ?_
 try simp only [Af]
 have hx2 : l[k]? = some n := by rw [hxe, hb11]
 have hr : (if n ∈ l then ((l.idxOf n : Nat) : Int) else -1) = (k : Int) := by rw [if_pos (AF hx2), Sb hx2 k2]
 rw [hr]
 refine A3 ?_
 exact At
 refine An ?_
 try simp only [Af]
 refine h8 _ ?_; clear h8
 refine Ad ?_
 try refine Ac ?_
 refine Am ?_
 refine Ae ?_
 refine Ab ?_
 refine h4 _ ⟨k + 1, ?_, ?_, [], ?_⟩
 dsimp only
 exact ⟨by omega, Jf hxe k2 (by have := hb11; omega)⟩
 dsimp only
 omega
 dsimp only
 refine ⟨by rfl, ?_, ?_⟩
 refine Aj ?_
 exact At
 refine Aj ?_
 exact At
 refine Be ?_
 simp only [Af, Nat.reduceEqDiff, reduceIte, eq_self]
 refine h2 _ ?_; clear h2
 refine Aa fun N13 h13 => ?_
 refine Ad ?_
 try refine Ac ?_
 refine Ae ?_
 refine Ab ?_
 refine h13 _ ?_; clear h13
 refine Ao ?_
 try simp only [Af]
 have hr : (if n ∈ l then ((l.idxOf n : Nat) : Int) else -1) = -1 := by
  rw [List.take_of_length_le (by omega)] at k2; exact if_neg k2
 rw [hr]
 refine A3 ?_
 exact At
 cases hg

def In : Bo Tryz.prog := Hq.add 85 (Spec.pure IY) Mn (by kernel_rfl)

theorem IQ : A5 Tryz.prog 73 (Spec.pure C2) := by
 refine A7 (In.at_ 9) Tryz.func73 rfl rfl rfl ?_
 intro args p r hg hp
 unfold C2 at hg
 split at hg
 rename_i xs n
 simp only [Option.some.injEq, Prod.mk.injEq] at hg
 obtain ⟨rfl, rfl⟩ := hg
 obtain ⟨he, hl⟩ := hp
 generalize dI xs = l at *
 subst he
 have hT : (In).X = T := rfl
 have hx0 := @Tryz.results73
 have hx := hx0
 refine ⟨by rfl, ?_⟩
 intro F W0 hnp hmk
 refine Aa fun N1 h1 => ?_
 refine Ad ?_
 try refine Ac ?_
 refine Ae ?_
 refine Ab ?_
 refine h1 _ ?_; clear h1
 refine Aa fun N2 h2 => ?_
 have hx := And.intro @AJ hx0
 refine Ad ?_
 try refine Ac ?_
 iterate 2 refine Ae ?_
 have hc := Ah (E := (In.at_ 9)) (f := 85) (sp := Spec.pure IY) rfl
 have hs := @IY.eq_1
 refine BF ?_
 refine Am ?_
 refine Ae ?_
 refine Ab ?_
 have hx := hx0
 refine h2 _ ?_; clear h2
 refine Ao ?_
 try simp only [Af]
 have hr : decide (0 ≤ (if n ∈ l then ((l.idxOf n : Nat) : Int) else -1)) = decide (n ∈ l) := by split <;> simp_all
 refine A3 ?_
 ·(repeat' apply And.intro) <;> (first | (first | rfl | (left; rw [← hr]; done) | (rw [← hr]; simp; done) | (simp [← hr]; done)) | exact At)
 cases hg

def Gz : Bo Tryz.prog := In.add 73 (Spec.pure C2) IQ (by kernel_rfl)

def Mx : List AV → Option (Prop × AV)
  | [.d (.int .i64 a), .d (.int .i64 b)] => some (True, .d (.bool (decide (a < b))))
  | _ => none
def Fx : List AV → Option (Prop × AV)
  | [.d (.int .i64 _)] => some (True, .d (.bool false))
  | _ => none
def Qi (l : List Int) (n : Int) : Nat := (l.filter fun x => decide (x < n)).length
theorem Vz {l : List Int} {n : Int} {k : Nat} (h1 : ∀ x ∈ l.take k, x < n) (h2 : ∀ x ∈ l.drop k, n ≤ x) (hk : k ≤ l.length) : Qi l n = k := by
  unfold Qi
  conv => lhs; rw [← List.take_append_drop k l]
  rw [List.filter_append, List.filter_eq_self.2 (fun x hx => by simpa using h1 x hx), List.filter_eq_nil_iff.2 (fun x hx => by simpa using h2 x hx), List.append_nil, List.length_take]; omega
theorem S8 {l : List Int} {n : Int} {k : Nat} (h1 : ∀ x ∈ l.take k, x < n) : n ∈ l ↔ n ∈ l.drop k := by
  conv => lhs; rw [← List.take_append_drop k l]
  rw [List.mem_append]
  exact ⟨fun h => by rcases h with h | h; exact absurd (h1 n h) (by omega); exact h, .inr⟩
def VI : List AV → Option (Prop × AV)
  | [.d (.sl xs), .d (.int .i64 n)] => some (xs = rows eI (dI xs) ∧ (dI xs).Pairwise (· < ·) ∧ (dI xs).length ≤ 1000000000, .tup [.d (.int .i64 (Qi (dI xs) n : Nat)), .d (.bool (decide (n ∈ dI xs)))])
  | _ => none
theorem Vd {l : List Int} {n x : Int} {m : Nat} (hs : l.Pairwise (· < ·)) (hx : l[m]? = some x) (hxn : x < n) : ∀ y ∈ l.take (m + 1), y < n := by
  intro y hy
  rw [List.take_add_one, hx, List.mem_append] at hy
  rcases hy with hy | hy
  · obtain ⟨h1, h2⟩ := List.getElem?_eq_some_iff.1 hx
    have := List.take_append_drop m l
    rw [← this, List.pairwise_append] at hs
    have := hs.2.2 y hy x (by rw [List.drop_eq_getElem_cons h1, h2]; simp)
    omega
  · simp only [Option.toList_some, List.mem_singleton] at hy; omega
theorem Un {l : List Int} {n x : Int} {m : Nat} (hs : l.Pairwise (· < ·)) (hx : l[m]? = some x) (hxn : n ≤ x) : ∀ y ∈ l.drop m, n ≤ y := by
  obtain ⟨h1, h2⟩ := List.getElem?_eq_some_iff.1 hx
  intro y hy
  have := List.take_append_drop m l
  rw [← this, List.pairwise_append, List.drop_eq_getElem_cons h1, h2] at hs
  rw [List.drop_eq_getElem_cons h1, h2] at hy
  rcases List.mem_cons.1 hy with rfl | hy
  · exact hxn
  · have := (List.pairwise_cons.1 hs.2.1).1 y hy; omega
theorem OS {lo hi : Nat} (h : lo + hi ≤ 1000000000000) : (IntKind.u64.wrap ((lo : Int) + (hi : Int))).fdiv (2 ^ min 1 IntKind.u64.bits) = (((lo + hi) / 2 : Nat) : Int) := by
  have e : IntKind.u64.wrap ((lo : Int) + (hi : Int)) = ((lo + hi : Nat) : Int) := by
    rw [show (lo : Int) + (hi : Int) = ((lo + hi : Nat) : Int) by omega]
    simp [IntKind.wrap, IntKind.bits, IntKind.signed]; omega
  rw [e]
  have : min 1 IntKind.u64.bits = 1 := by decide
  rw [this, show (2 : Int) ^ 1 = 2 from rfl, Int.fdiv_eq_ediv_of_nonneg _ (by omega)]; omega
theorem WP {l : List Int} {n x : Int} {k : Nat} (hs : l.Pairwise (· < ·)) (h1 : ∀ y ∈ l.take k, y < n) (h2 : ∀ y ∈ l.drop k, n ≤ y) (hx : l[k]? = some x) : decide (n ∈ l) = decide (x = n) := by
  apply decide_eq_decide.2
  obtain ⟨g1, g2⟩ := List.getElem?_eq_some_iff.1 hx
  rw [S8 h1, List.drop_eq_getElem_cons g1, g2]
  constructor
  · intro h
    rcases List.mem_cons.1 h with h | h
    · exact h.symm
    · have h3 := h2 x (by rw [List.drop_eq_getElem_cons g1, g2]; simp)
      have hd := List.take_append_drop k l
      rw [← hd, List.pairwise_append, List.drop_eq_getElem_cons g1, g2] at hs
      have := (List.pairwise_cons.1 hs.2.1).1 n h
      omega
  · rintro rfl; simp
theorem VJ {l : List Int} {n : Int} {k : Nat} (h1 : ∀ y ∈ l.take k, y < n) (hk : l.length ≤ k) : decide (n ∈ l) = false := by
  apply decide_eq_false
  rw [S8 h1, List.drop_eq_nil_of_le hk]; simp

theorem NY : A5 Tryz.prog 101 (Spec.pure Fx) := by
 refine A7 (Gz.at_ 6) Tryz.func101 rfl rfl rfl ?_
 intro args p r hg hp
 unfold Fx at hg
 split at hg
 rename_i n
 simp only [Option.some.injEq, Prod.mk.injEq] at hg
 obtain ⟨rfl, rfl⟩ := hg
 have hT : (Gz).X = T := rfl
 have hx0 := @Tryz.results101
 have hx := hx0
 refine ⟨by rfl, ?_⟩
 intro F W0 hnp hmk
 refine Aa fun N1 h1 => ?_
 refine Ad ?_
 try refine Ac ?_
 refine Ae ?_
 refine Ab ?_
 refine h1 _ ?_; clear h1
 refine Aa fun N2 h2 => ?_
 refine Ad ?_
 try refine Ac ?_
 iterate 2 refine Ae ?_
 refine Am ?_
 refine Ae ?_
 refine Ab ?_
 refine h2 _ ?_; clear h2
 refine Ao ?_
 try simp only [Af]
 refine A3 ?_
 ·(repeat' apply And.intro) <;> (first | (first | rfl | (simp; done)) | exact At)
 cases hg

def Nc : Bo Tryz.prog := Gz.add 101 (Spec.pure Fx) NY (by kernel_rfl)

theorem NX : A5 Tryz.prog 117 (Spec.pure Fx) := by
 refine A7 (Nc.at_ 6) Tryz.func117 rfl rfl rfl ?_
 intro args p r hg hp
 unfold Fx at hg
 split at hg
 rename_i n
 simp only [Option.some.injEq, Prod.mk.injEq] at hg
 obtain ⟨rfl, rfl⟩ := hg
 have hT : (Nc).X = T := rfl
 have hx0 := @Tryz.results117
 have hx := hx0
 refine ⟨by rfl, ?_⟩
 intro F W0 hnp hmk
 refine Aa fun N1 h1 => ?_
 refine Ad ?_
 try refine Ac ?_
 refine Ae ?_
 refine Ab ?_
 refine h1 _ ?_; clear h1
 refine Aa fun N2 h2 => ?_
 refine Ad ?_
 try refine Ac ?_
 iterate 2 refine Ae ?_
 refine Am ?_
 refine Ae ?_
 refine Ab ?_
 refine h2 _ ?_; clear h2
 refine Ao ?_
 try simp only [Af]
 refine A3 ?_
 ·(repeat' apply And.intro) <;> (first | (first | rfl | (simp; done)) | exact At)
 cases hg

def I5 : Bo Tryz.prog := Nc.add 117 (Spec.pure Fx) NX (by kernel_rfl)

theorem NP : A5 Tryz.prog 100 (Spec.pure Mx) := by
 refine A7 (I5.at_ 17) Tryz.func100 rfl rfl rfl ?_
 intro args p r hg hp
 unfold Mx at hg
 split at hg
 rename_i a b
 simp only [Option.some.injEq, Prod.mk.injEq] at hg
 obtain ⟨rfl, rfl⟩ := hg
 have hT : (I5).X = T := rfl
 have hx0 := @Tryz.results100
 have hx := hx0
 refine ⟨by rfl, ?_⟩
 intro F W0 hnp hmk
 refine Aa fun N1 h1 => ?_
 refine Ad ?_
 try refine Ac ?_
 refine Ae ?_
 refine Ab ?_
 refine h1 _ ?_; clear h1
 refine Aa fun N2 h2 => ?_
 refine Ad ?_
 try refine Ac ?_
 refine Ae ?_
 have hc := Ah (E := (I5.at_ 17)) (f := 117) (sp := Spec.pure Fx) rfl
 have hs := @Fx.eq_1
 refine BF ?_
 refine Ae ?_
 refine Dp ?_
 have hc := Ah (E := (I5.at_ 17)) (f := 117) (sp := Spec.pure Fx) rfl
 have hs := @Fx.eq_1
 refine H3 ?_
 refine Mh ?_
 refine AQ ?_
 refine Ae ?_
 iterate 2 refine Dp ?_
 refine CU ?_
 refine AQ ?_
 refine Ae ?_
 refine Ab ?_
 refine h2 _ ?_; clear h2
 refine Ao ?_
 try simp only [Af]
 refine A3 ?_
 exact At
 cases hg

def F3 : Bo Tryz.prog := I5.add 100 (Spec.pure Mx) NP (by kernel_rfl)

theorem Ry : A5 Tryz.prog 87 (Spec.pure VI) := by
 refine A7 (F3.at_ 54) Tryz.func87 rfl rfl rfl ?_
 intro args p r hg hp
 unfold VI at hg
 split at hg
 rename_i xs n
 simp only [Option.some.injEq, Prod.mk.injEq] at hg
 obtain ⟨rfl, rfl⟩ := hg
 obtain ⟨he, hso, hl⟩ := hp
 generalize dI xs = l at *
 subst he
 have hT : (F3).X = T := rfl
 have hx0 := And.intro @Cu (And.intro @Ct @Tryz.results87)
 have hx := hx0
 refine ⟨by rfl, ?_⟩
 intro F W0 hnp hmk
 refine Aa fun N1 h1 => ?_
 refine Ad ?_
 try refine Ac ?_
 iterate 2 refine Ae ?_
 refine Ab ?_
 refine h1 _ ?_; clear h1
 refine Aa fun N2 h2 => ?_
 refine Ad ?_
 try refine Ac ?_
 refine Ae ?_
 refine Bm ?_
 refine Ae ?_
 refine Ab ?_
 refine h2 _ ?_; clear h2
 refine Aa fun N3 h3 => ?_
 refine Ad ?_
 try refine Ac ?_
 iterate 3 refine Ae ?_
 refine Ab ?_
 refine h3 _ ?_; clear h3
 refine Aa fun N4 h4 => ?_
 refine Aw ?_
 refine A9 (σ := Nat × Nat) (fun s => (fun lo hi => lo ≤ hi ∧ hi ≤ l.length ∧ (∀ x ∈ l.take lo, x < n) ∧ ∀ x ∈ l.drop hi, n ≤ x) (s.1) (s.2))
  (fun s => (fun lo hi => [(0, .d (.sl (rows eI l))), (1, .d (.int .i64 n)), (6, .d (.int .i64 (l.length : Nat))), (7, .d (.int .i64 (lo : Nat))), (8, .d (.int .i64 (hi : Nat)))]) (s.1) (s.2))
  (fun s => (fun lo hi => []) (s.1) (s.2)) (fun s => (fun lo hi => hi - lo) (s.1) (s.2)) hnp (0, l.length) ?_ [] ?_ ?_
 dsimp only
 simp
 dsimp only
 refine ⟨by rfl, ?_, ?_⟩
 refine Aj ?_
 exact At
 refine Aj ?_
 exact At
 rintro ⟨lo, hi⟩ hinv N5 h5
 dsimp only at hinv ⊢
 obtain ⟨i1, i2, i3, i4⟩ := hinv
 refine Aa fun N6 h6 => ?_
 refine Aa fun N7 h7 => ?_
 refine Ad ?_
 try refine Ac ?_
 iterate 2 refine Ae ?_
 refine Am ?_
 refine Ab ?_
 refine h7 _ ?_; clear h7
 refine Al (fun hb8 => ?_) (fun hb8 => ?_)
 have hmid := OS (lo := lo) (hi := hi) (by omega)
 obtain ⟨x, hxe⟩ := Cb (l := l) (i := (lo + hi) / 2) (by omega)
 refine An ?_
 try simp only [Af]
 refine h6 _ ?_; clear h6
 refine Aw ?_
 refine Aa fun N9 h9 => ?_
 have hx := And.intro @hmid hx0
 refine Ad ?_
 try refine Ac ?_
 iterate 2 refine Ae ?_
 refine Am ?_
 refine TC ?_
 refine Am ?_
 refine TC ?_
 refine Ae ?_
 refine Ab ?_
 have hx := hx0
 refine h9 _ ?_; clear h9
 refine Aa fun N10 h10 => ?_
 have hx := And.intro @hxe (And.intro @eI.eq_1 hx0)
 refine Ad ?_
 try refine Ac ?_
 iterate 2 refine Ae ?_
 refine Au ?_
 refine Ar ?_
 refine Ae ?_
 have hc := Ah (E := (F3.at_ 54)) (f := 100) (sp := Spec.pure Mx) rfl
 have hs := @Mx.eq_1
 refine BF ?_
 refine Ab ?_
 have hx := hx0
 refine h10 _ ?_; clear h10
 refine Al (fun hb11 => ?_) (fun hb11 => ?_)
 refine Ad ?_
 try refine Ac ?_
 refine Ae ?_
 refine Am ?_
 refine Ae ?_
 refine Ab ?_
 refine h5 _ ⟨((lo + hi) / 2 + 1, hi), ?_, ?_, [], ?_⟩
 dsimp only
 exact ⟨by omega, by omega, Vd hso hxe hb11, i4⟩
 dsimp only
 omega
 dsimp only
 refine ⟨by rfl, ?_, ?_⟩
 refine Aj ?_
 exact At
 refine Aj ?_
 exact At
 refine Ad ?_
 try refine Ac ?_
 iterate 2 refine Ae ?_
 refine Ab ?_
 refine h5 _ ⟨(lo, (lo + hi) / 2), ?_, ?_, [], ?_⟩
 dsimp only
 exact ⟨by omega, by omega, i3, Un hso hxe (by have := hb11; omega)⟩
 dsimp only
 omega
 dsimp only
 refine ⟨by rfl, ?_, ?_⟩
 refine Aj ?_
 exact At
 refine Aj ?_
 exact At
 have hlh : lo = hi := by omega
 subst hlh
 refine Be ?_
 simp only [Af, Nat.reduceEqDiff, reduceIte, eq_self]
 refine h4 _ ?_; clear h4
 refine Aa fun N12 h12 => ?_
 rcases Nat.lt_or_ge lo l.length with hk | hk
 obtain ⟨x, hxe⟩ := Cb hk
 have hk' : decide ((lo : Int) < (l.length : Int)) = true := by simp; omega
 have hx := And.intro @hxe (And.intro @hk' (And.intro @eI.eq_1 hx0))
 refine Ad ?_
 try refine Ac ?_
 iterate 3 refine Ae ?_
 refine Am ?_
 refine Ae ?_
 iterate 2 refine Dp ?_
 refine Cn ?_
 refine Cm ?_
 refine Dp ?_
 refine CU ?_
 iterate 3 refine Dp ?_
 refine Cn ?_
 refine Cm ?_
 have hc := Ah (E := (F3.at_ 54)) (f := 101) (sp := Spec.pure Fx) rfl
 have hs := @Fx.eq_1
 refine H3 ?_
 iterate 2 refine Dp ?_
 have hc := Ah (E := (F3.at_ 54)) (f := 101) (sp := Spec.pure Fx) rfl
 have hs := @Fx.eq_1
 refine H3 ?_
 iterate 2 refine Xc ?_
 refine AQ ?_
 iterate 2 refine Ae ?_
 refine Ab ?_
 have hx := hx0
 refine h12 _ ?_; clear h12
 refine Ao ?_
 try simp only [Af]
 have hr := WP hso i3 i4 hxe
 have hr2 := Vz i3 i4 i2
 rw [hr, hr2]
 refine A3 ?_
 exact At
 have hxe : l[lo]? = none := List.getElem?_eq_none hk
 have hk' : decide ((lo : Int) < (l.length : Int)) = false := by simp; omega
 have hx := And.intro @hxe (And.intro @hk' (And.intro @eI.eq_1 hx0))
 refine Ad ?_
 try refine Ac ?_
 iterate 3 refine Ae ?_
 refine Am ?_
 refine Ae ?_
 iterate 2 refine Dp ?_
 refine Cn ?_
 refine Cm ?_
 refine Dp ?_
 refine CU ?_
 iterate 3 refine Dp ?_
 refine Cn ?_
 refine Cm ?_
 have hc := Ah (E := (F3.at_ 54)) (f := 101) (sp := Spec.pure Fx) rfl
 have hs := @Fx.eq_1
 refine H3 ?_
 iterate 2 refine Dp ?_
 have hc := Ah (E := (F3.at_ 54)) (f := 101) (sp := Spec.pure Fx) rfl
 have hs := @Fx.eq_1
 refine H3 ?_
 iterate 2 refine Xc ?_
 refine AQ ?_
 iterate 2 refine Ae ?_
 refine Ab ?_
 have hx := hx0
 refine h12 _ ?_; clear h12
 refine Ao ?_
 try simp only [Af]
 have hr := VJ i3 hk
 have hr2 := Vz i3 i4 i2
 rw [hr, hr2]
 refine A3 ?_
 exact At
 cases hg

def VB : Bo Tryz.prog := F3.add 87 (Spec.pure VI) Ry (by kernel_rfl)
end Go.Proofs.YtmbjnkgpcbpclaaGreat
