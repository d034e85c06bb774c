/- Walks, printed by wip/gen/walk.py. -/
import Derived.Test.YtmbjnkgpcbpclaaGreatT3
import Derived.Test.YtmbjnkgpcbpclaaGreatV5
set_option linter.all false
set_option maxRecDepth 100000
set_option maxHeartbeats 4000000
namespace Go.Proofs.YtmbjnkgpcbpclaaGreat
open Go Go.Vc Go.RowKit
abbrev Bs := List UInt8
abbrev Dc (a b : Bs) : Bool := Op.bytesLess a b
theorem DC : ∀ a : Bs, Dc a a = false
  | [] => rfl
  | a :: x => by simp [Dc, Op.bytesLess, show Op.bytesLess x x = false from DC x]
theorem Eo : ∀ {a b c : Bs}, Dc a b = true → Dc b c = true → Dc a c = true
  | _, [], _ => by intro h; simp [Dc, Op.bytesLess] at h
  | _, _ :: _, [] => by intro _ h; simp [Dc, Op.bytesLess] at h
  | [], _ :: _, _ :: _ => fun _ _ => rfl
  | a :: x, b :: y, c :: z => by
    intro h1 h2
    simp only [Dc, Op.bytesLess, Bool.or_eq_true, Bool.and_eq_true, decide_eq_true_eq, beq_iff_eq] at *
    rcases h1 with h1 | ⟨rfl, h1⟩
    · rcases h2 with h2 | ⟨rfl, h2⟩
      · exact .inl (UInt8.lt_trans h1 h2)
      · exact .inl h1
    · rcases h2 with h2 | ⟨rfl, h2⟩
      · exact .inl h2
      · exact .inr ⟨rfl, Eo h1 h2⟩
theorem JV {a b : Bs} (h : Dc a b = true) : Dc b a = false := by
  cases h' : Dc b a with
  | false => rfl
  | true => have := Eo h h'; rw [DC] at this; cases this
theorem Hv : ∀ {a b : Bs}, Dc a b = false → Dc b a = false → a = b
  | [], [] => fun _ _ => rfl
  | [], _ :: _ => by intro h; simp [Dc, Op.bytesLess] at h
  | _ :: _, [] => by intro _ h; simp [Dc, Op.bytesLess] at h
  | a :: x, b :: y => by
    intro h1 h2
    simp only [Dc, Op.bytesLess, Bool.or_eq_false_iff, Bool.and_eq_false_imp, decide_eq_false_iff_not, beq_iff_eq] at *
    have hab : a = b := UInt8.le_antisymm (UInt8.not_lt.1 h2.1) (UInt8.not_lt.1 h1.1)
    subst hab
    rw [Hv (h1.2 rfl) (h2.2 rfl)]
theorem Np {a b : Bs} (h : Dc a b = true) : a ≠ b := by rintro rfl; rw [DC] at h; cases h
theorem LV : ∀ {a b : Bs}, Lib.compareBytes a b = 0 ↔ a = b
  | [], [] => by simp [Lib.compareBytes]
  | [], _ :: _ => by simp [Lib.compareBytes]
  | _ :: _, [] => by simp [Lib.compareBytes]
  | a :: x, b :: y => by
    unfold Lib.compareBytes
    split
    · rename_i h
      constructor
      · intro h; simp at h
      · intro h'; cases h'; exact absurd h (UInt8.lt_irrefl _)
    · split
      · rename_i h
        constructor
        · intro h; simp at h
        · intro h'; cases h'; exact absurd h (UInt8.lt_irrefl _)
      · rename_i h1 h2
        have hab : a = b := UInt8.le_antisymm (UInt8.not_lt.1 h2) (UInt8.not_lt.1 h1)
        subst hab
        rw [LV]; simp
theorem KR : ∀ {a b : Bs}, Lib.compareBytes a b < 0 ↔ Dc a b = true
  | [], [] => by simp [Lib.compareBytes, Dc, Op.bytesLess]
  | [], _ :: _ => by simp [Lib.compareBytes, Dc, Op.bytesLess]
  | _ :: _, [] => by simp [Lib.compareBytes, Dc, Op.bytesLess]
  | a :: x, b :: y => by
    unfold Lib.compareBytes
    simp only [Dc, Op.bytesLess, Bool.or_eq_true, Bool.and_eq_true, decide_eq_true_eq, beq_iff_eq]
    split
    · rename_i h; simp [h]
    · split
      · rename_i h1 h
        constructor
        · intro h; simp at h
        · rintro (h' | ⟨rfl, _⟩)
          · exact absurd h' h1
          · exact absurd h (UInt8.lt_irrefl _)
      · rename_i h1 h2
        have hab : a = b := UInt8.le_antisymm (UInt8.not_lt.1 h2) (UInt8.not_lt.1 h1)
        subst hab
        rw [KR]; simp [h1]
def eG (p : Bs × D) : List D := [.str p.1, p.2]
def dG (xs : List (List D)) : List (Bs × D) := xs.map fun r => match r with
  | [.str g, x] => (g, x)
  | _ => ([], .nils)
theorem KS (l : List (Bs × D)) : dG (rows eG l) = l := by
  induction l with
  | nil => rfl
  | cons p l ih => exact congrArg (p :: ·) ih
theorem Pf (l : List (Bs × D)) : Cs 2 (rows eG l) = True := eq_true (fun x hx => by obtain ⟨a, _, rfl⟩ := List.mem_map.1 hx; rfl)
def vP (p : Bs × List Int) : Bs × D := (p.1, .sl (rows eI p.2))
def eP (p : Bs × List Int) : List D := eG (vP p)
def dP (xs : List (List D)) : List (Bs × List Int) := xs.map fun r => match r with
  | [.str g, .sl ts] => (g, dI ts)
  | _ => ([], [])
theorem B6 (l : List (Bs × List Int)) : dP (rows eP l) = l := by
  induction l with
  | nil => rfl
  | cons p l ih =>
    have h : (p.1, dI (rows eI p.2)) = p := by rw [AJ]
    show (p.1, dI (rows eI p.2)) :: dP (rows eP l) = p :: l
    rw [h, ih]
theorem EB (l : List (Bs × List Int)) : Cs 2 (rows eP l) = True := eq_true (fun x hx => by obtain ⟨a, _, rfl⟩ := List.mem_map.1 hx; rfl)
theorem Dy (l : List (Bs × List Int)) : rows eP l = rows eG (l.map vP) := by simp [rows, eP]
def C7 {α : Type} (l : List (Bs × α)) : Prop := l.Pairwise fun p q => Dc p.1 q.1 = true
def Ck {α : Type} (l : List (Bs × α)) (q : Bs) : Nat := (l.filter fun p => Dc p.1 q).length
theorem NO {α : Type} {l : List (Bs × α)} {q : Bs} {k : Nat} (h1 : ∀ p ∈ l.take k, Dc p.1 q = true) (h2 : ∀ p ∈ l.drop k, Dc p.1 q = false) (hk : k ≤ l.length) : Ck l q = k := by
  unfold Ck
  conv => lhs; rw [← List.take_append_drop k l]
  rw [List.filter_append, List.filter_eq_self.2 (fun x hx => h1 x hx), List.filter_eq_nil_iff.2 (fun x hx => by rw [h2 x hx]; simp), List.append_nil, List.length_take]; omega
theorem U4 {α β : Type} (f : α → β) (l : List (Bs × α)) (q : Bs) : Ck (l.map fun p => (p.1, f p.2)) q = Ck l q := by
  unfold Ck; rw [List.filter_map, List.length_map]; rfl
def Db {α : Type} (l : List (Bs × α)) (q : Bs) : Bool := decide (q ∈ l.map (·.1))
theorem TA {α : Type} {l : List (Bs × α)} {q : Bs} {x : Bs × α} {m : Nat} (hs : C7 l) (hx : l[m]? = some x) (hxq : Dc x.1 q = true) : ∀ y ∈ l.take (m + 1), Dc y.1 q = true := by
  intro y hy
  rw [List.take_add_one, hx, List.mem_append] at hy
  rcases hy with hy | hy
  · obtain ⟨h1, h2⟩ := List.getElem?_eq_some_iff.1 hx
    have := List.take_append_drop m l
    unfold C7 at hs
    rw [← this, List.pairwise_append] at hs
    exact Eo (hs.2.2 y hy x (by rw [List.drop_eq_getElem_cons h1, h2]; simp)) hxq
  · simp only [Option.toList_some, List.mem_singleton] at hy; rw [hy]; exact hxq
theorem RE {α : Type} {l : List (Bs × α)} {q : Bs} {x : Bs × α} {m : Nat} (hs : C7 l) (hx : l[m]? = some x) (hxq : Dc x.1 q = false) : ∀ y ∈ l.drop m, Dc y.1 q = false := by
  obtain ⟨h1, h2⟩ := List.getElem?_eq_some_iff.1 hx
  intro y hy
  have := List.take_append_drop m l
  unfold C7 at hs
  rw [← this, List.pairwise_append, List.drop_eq_getElem_cons h1, h2] at hs
  rw [List.drop_eq_getElem_cons h1, h2] at hy
  rcases List.mem_cons.1 hy with rfl | hy
  · exact hxq
  · have h3 := (List.pairwise_cons.1 hs.2.1).1 y hy
    cases h4 : Dc y.1 q with
    | false => rfl
    | true => rw [Eo h3 h4] at hxq; cases hxq
theorem Ux {α : Type} {l : List (Bs × α)} {q : Bs} {x : Bs × α} {k : Nat} (hs : C7 l) (h1 : ∀ p ∈ l.take k, Dc p.1 q = true) (hx : l[k]? = some x) (h2 : ∀ p ∈ l.drop k, Dc p.1 q = false) : Db l q = decide (x.1 = q) := by
  apply decide_eq_decide.2
  obtain ⟨g1, g2⟩ := List.getElem?_eq_some_iff.1 hx
  constructor
  · intro h
    obtain ⟨p, hp, rfl⟩ := List.mem_map.1 h
    have hd := List.take_append_drop k l
    unfold C7 at hs
    rw [← hd] at hp
    rcases List.mem_append.1 hp with hp | hp
    · have := h1 p hp; rw [DC] at this; cases this
    · rw [List.drop_eq_getElem_cons g1, g2] at hp
      rcases List.mem_cons.1 hp with rfl | hp
      · rfl
      · rw [← hd, List.pairwise_append, List.drop_eq_getElem_cons g1, g2] at hs
        have h3 := (List.pairwise_cons.1 hs.2.1).1 p hp
        have h4 := h2 x (by rw [List.drop_eq_getElem_cons g1, g2]; simp)
        rw [h3] at h4; cases h4
  · rintro rfl; exact List.mem_map.2 ⟨x, List.mem_of_getElem? hx, rfl⟩
theorem RT {α : Type} {l : List (Bs × α)} {q : Bs} {k : Nat} (h1 : ∀ p ∈ l.take k, Dc p.1 q = true) (hk : l.length ≤ k) : Db l q = false := by
  apply decide_eq_false
  intro h
  obtain ⟨p, hp, rfl⟩ := List.mem_map.1 h
  have := h1 p (by rw [List.take_of_length_le hk]; exact hp)
  rw [DC] at this; cases this

def J6 : List AV → Option (Prop × AV)
  | [.d (.str a), .d (.str b)] => some (True, .d (.int .i64 (Lib.compareBytes a b)))
  | _ => none
def GS : List AV → Option (Prop × AV)
  | [.agg [.d (.str a), .d _], .d (.str b)] => some (True, .d (.int .i64 (Lib.compareBytes a b)))
  | _ => none
def Rz : List AV → Option (Prop × AV)
  | [.d (.sl xs), .d (.str q), .clo (.func 90) []] => some (xs = rows eG (dG xs) ∧ C7 (dG xs) ∧ (dG xs).length ≤ 1000000000, .tup [.d (.int .i64 (Ck (dG xs) q : Nat)), .d (.bool (Db (dG xs) q))])
  | _ => none
def CE : List AV → Option (Prop × AV)
  | [.agg [.d _, .d (.sl xs)], .d (.str q)] => some (xs = rows eG (dG xs) ∧ C7 (dG xs) ∧ (dG xs).length ≤ 1000000000, .tup [.d (.int .i64 (Ck (dG xs) q : Nat)), .d (.bool (Db (dG xs) q))])
  | _ => none

theorem Nu : A5 Tryz.prog 104 (Spec.pure J6) := by
 refine A7 (VB.at_ 8) Tryz.func104 rfl rfl rfl ?_
 intro args p r hg hp
 unfold J6 at hg
 split at hg
 rename_i a b
 simp only [Option.some.injEq, Prod.mk.injEq] at hg
 obtain ⟨rfl, rfl⟩ := hg
 have hT : (VB).X = T := rfl
 have hx0 := @Tryz.results104
 have hx := hx0
 refine ⟨by rfl, ?_⟩
 intro F W0 hnp hmk
 refine Aa fun N1 h1 => ?_
 refine Ad ?_
 try refine Ac ?_
 refine Ae ?_
 refine Ab ?_
 refine h1 _ ?_; clear h1
 refine Aa fun N2 h2 => ?_
 refine Ad ?_
 try refine Ac ?_
 iterate 2 refine Ae ?_
 refine AE (by rfl) (Ok (fn := Tryz.f119) Tryz.func119 (by kernel_rfl) (by kernel_rfl) (by kernel_rfl) (by kernel_rfl) (by exact Da) (by exact CY) (by exact Da) (by exact CY) ?_)
 refine Ae ?_
 refine Ab ?_
 refine h2 _ ?_; clear h2
 refine Ao ?_
 try simp only [Af]
 refine A3 ?_
 exact At
 cases hg

def K8 : Bo Tryz.prog := VB.add 104 (Spec.pure J6) Nu (by kernel_rfl)

theorem Nw : A5 Tryz.prog 91 (Spec.pure J6) := by
 refine A7 (K8.at_ 8) Tryz.func91 rfl rfl rfl ?_
 intro args p r hg hp
 unfold J6 at hg
 split at hg
 rename_i a b
 simp only [Option.some.injEq, Prod.mk.injEq] at hg
 obtain ⟨rfl, rfl⟩ := hg
 have hT : (K8).X = T := rfl
 have hx0 := @Tryz.results91
 have hx := hx0
 refine ⟨by rfl, ?_⟩
 intro F W0 hnp hmk
 refine Aa fun N1 h1 => ?_
 refine Ad ?_
 try refine Ac ?_
 refine Ae ?_
 refine Ab ?_
 refine h1 _ ?_; clear h1
 refine Aa fun N2 h2 => ?_
 refine Ad ?_
 try refine Ac ?_
 iterate 2 refine Ae ?_
 have hc := Ah (E := (K8.at_ 8)) (f := 104) (sp := Spec.pure J6) rfl
 have hs := @J6.eq_1
 refine BF ?_
 refine Ae ?_
 refine Ab ?_
 refine h2 _ ?_; clear h2
 refine Ao ?_
 try simp only [Af]
 refine A3 ?_
 exact At
 cases hg

def K9 : Bo Tryz.prog := K8.add 91 (Spec.pure J6) Nw (by kernel_rfl)

theorem Nv : A5 Tryz.prog 90 (Spec.pure GS) := by
 refine A7 (K9.at_ 9) Tryz.func90 rfl rfl rfl ?_
 intro args p r hg hp
 unfold GS at hg
 split at hg
 rename_i a x b
 simp only [Option.some.injEq, Prod.mk.injEq] at hg
 obtain ⟨rfl, rfl⟩ := hg
 have hT : (K9).X = T := rfl
 have hx0 := @Tryz.results90
 have hx := hx0
 refine ⟨by rfl, ?_⟩
 intro F W0 hnp hmk
 refine Aa fun N1 h1 => ?_
 refine Ad ?_
 try refine Ac ?_
 refine FU ?_
 refine Ae ?_
 refine Ab ?_
 refine h1 _ ?_; clear h1
 refine Aa fun N2 h2 => ?_
 refine Ad ?_
 try refine Ac ?_
 refine Au ?_
 refine Ar ?_
 refine Ae ?_
 have hc := Ah (E := (K9.at_ 9)) (f := 91) (sp := Spec.pure J6) rfl
 have hs := @J6.eq_1
 refine BF ?_
 refine Ae ?_
 refine Ab ?_
 refine h2 _ ?_; clear h2
 refine Ao ?_
 try simp only [Af]
 refine A3 ?_
 exact At
 cases hg

def Ho : Bo Tryz.prog := K9.add 90 (Spec.pure GS) Nv (by kernel_rfl)

theorem PE : A5 Tryz.prog 89 (Spec.pure Rz) := by
 refine A7 (Ho.at_ 49) Tryz.func89 rfl rfl rfl ?_
 intro args p r hg hp
 unfold Rz at hg
 split at hg
 rename_i xs q
 simp only [Option.some.injEq, Prod.mk.injEq] at hg
 obtain ⟨rfl, rfl⟩ := hg
 obtain ⟨he, hso, hl⟩ := hp
 generalize dG xs = l at *
 subst he
 have hT : (Ho).X = T := rfl
 have hx0 := And.intro @Cu (And.intro @Ct (And.intro @Pf @Tryz.results89))
 have hx := hx0
 refine ⟨by rfl, ?_⟩
 intro F W0 hnp hmk
 refine Aa fun N1 h1 => ?_
 refine Ad ?_
 try refine Ac ?_
 iterate 2 refine Ae ?_
 refine Ab ?_
 refine h1 _ ?_; clear h1
 refine Aa fun N2 h2 => ?_
 refine Ad ?_
 try refine Ac ?_
 refine Ae ?_
 refine Bm ?_
 refine Ae ?_
 refine Ab ?_
 refine h2 _ ?_; clear h2
 refine Aa fun N3 h3 => ?_
 refine Ad ?_
 try refine Ac ?_
 iterate 3 refine Ae ?_
 refine Ab ?_
 refine h3 _ ?_; clear h3
 refine Aa fun N4 h4 => ?_
 refine Aw ?_
 refine A9 (σ := Nat × Nat) (fun s => (fun lo hi => lo ≤ hi ∧ hi ≤ l.length ∧ (∀ x ∈ l.take lo, Dc x.1 q = true) ∧ ∀ x ∈ l.drop hi, Dc x.1 q = false) (s.1) (s.2))
  (fun s => (fun lo hi => [(0, .d (.sl (rows eG l))), (1, .d (.str q)), (2, .clo (.func 90) []), (8, .d (.int .i64 (l.length : Nat))), (9, .d (.int .i64 (lo : Nat))), (10, .d (.int .i64 (hi : Nat)))]) (s.1) (s.2))
  (fun s => (fun lo hi => []) (s.1) (s.2)) (fun s => (fun lo hi => hi - lo) (s.1) (s.2)) hnp (0, l.length) ?_ [] ?_ ?_
 dsimp only
 simp
 dsimp only
 refine ⟨by rfl, ?_, ?_⟩
 refine Aj ?_
 exact At
 refine Aj ?_
 exact At
 rintro ⟨lo, hi⟩ hinv N5 h5
 dsimp only at hinv ⊢
 obtain ⟨i1, i2, i3, i4⟩ := hinv
 refine Aa fun N6 h6 => ?_
 refine Aa fun N7 h7 => ?_
 refine Ad ?_
 try refine Ac ?_
 iterate 2 refine Ae ?_
 refine Am ?_
 refine Ab ?_
 refine h7 _ ?_; clear h7
 refine Al (fun hb8 => ?_) (fun hb8 => ?_)
 have hmid := OS (lo := lo) (hi := hi) (by omega)
 obtain ⟨x, hxe⟩ := Cb (l := l) (i := (lo + hi) / 2) (by omega)
 refine An ?_
 try simp only [Af]
 refine h6 _ ?_; clear h6
 refine Aw ?_
 refine Aa fun N9 h9 => ?_
 have hx := And.intro @hmid hx0
 refine Ad ?_
 try refine Ac ?_
 iterate 2 refine Ae ?_
 refine Am ?_
 refine TC ?_
 refine Am ?_
 refine TC ?_
 refine Ae ?_
 refine Ab ?_
 have hx := hx0
 refine h9 _ ?_; clear h9
 refine Aa fun N10 h10 => ?_
 have hx := And.intro @hxe (And.intro @eG.eq_1 hx0)
 refine Ad ?_
 try refine Ac ?_
 iterate 3 refine Ae ?_
 refine Au ?_
 refine Ar ?_
 refine Ae ?_
 have hc := (rfl : ((Ho.at_ 49)).Γ 90 = some (Spec.pure GS))
 have hs := (@GS.eq_1)
 refine Ve ?_
 refine Am ?_
 refine Ab ?_
 have hx := hx0
 refine h10 _ ?_; clear h10
 refine Al (fun hb11 => ?_) (fun hb11 => ?_)
 have hlt : Dc x.1 q = true := KR.1 hb11
 refine Ad ?_
 try refine Ac ?_
 refine Ae ?_
 refine Am ?_
 refine Ae ?_
 refine Ab ?_
 refine h5 _ ⟨((lo + hi) / 2 + 1, hi), ?_, ?_, [], ?_⟩
 dsimp only
 exact ⟨by omega, by omega, TA hso hxe hlt, i4⟩
 dsimp only
 omega
 dsimp only
 refine ⟨by rfl, ?_, ?_⟩
 refine Aj ?_
 exact At
 refine Aj ?_
 exact At
 have hge : Dc x.1 q = false := by
  cases h : Dc x.1 q with
  | false => rfl
  | true => exact absurd (KR.2 h) (by have := hb11; omega)
 refine Ad ?_
 try refine Ac ?_
 iterate 2 refine Ae ?_
 refine Ab ?_
 refine h5 _ ⟨(lo, (lo + hi) / 2), ?_, ?_, [], ?_⟩
 dsimp only
 exact ⟨by omega, by omega, i3, RE hso hxe hge⟩
 dsimp only
 omega
 dsimp only
 refine ⟨by rfl, ?_, ?_⟩
 refine Aj ?_
 exact At
 refine Aj ?_
 exact At
 have hlh : lo = hi := by omega
 subst hlh
 refine Be ?_
 simp only [Af, Nat.reduceEqDiff, reduceIte, eq_self]
 refine h4 _ ?_; clear h4
 refine Aa fun N12 h12 => ?_
 rcases Nat.lt_or_ge lo l.length with hk | hk
 obtain ⟨x, hxe⟩ := Cb hk
 have hk' : decide ((lo : Int) < (l.length : Int)) = true := by simp; omega
 have hx := And.intro @hxe (And.intro @hk' (And.intro @eG.eq_1 hx0))
 refine Ad ?_
 try refine Ac ?_
 iterate 3 refine Ae ?_
 refine Am ?_
 refine Ae ?_
 iterate 3 refine Dp ?_
 refine Cn ?_
 refine Cm ?_
 refine Dp ?_
 have hc := (rfl : ((Ho.at_ 49)).Γ 90 = some (Spec.pure GS))
 have hs := (@GS.eq_1)
 refine Xb ?_
 refine CU ?_
 refine AQ ?_
 iterate 2 refine Ae ?_
 refine Ab ?_
 have hx := hx0
 refine h12 _ ?_; clear h12
 refine Ao ?_
 try simp only [Af]
 have hr : Db l q = decide (Lib.compareBytes x.1 q = 0) := by rw [Ux hso i3 hxe i4]; exact decide_eq_decide.2 LV.symm
 have hr2 := NO i3 i4 i2
 rw [hr, hr2]
 refine A3 ?_
 exact At
 have hxe : l[lo]? = none := List.getElem?_eq_none hk
 have hk' : decide ((lo : Int) < (l.length : Int)) = false := by simp; omega
 have hx := And.intro @hxe (And.intro @hk' (And.intro @eG.eq_1 hx0))
 refine Ad ?_
 try refine Ac ?_
 iterate 3 refine Ae ?_
 refine Am ?_
 refine Ae ?_
 iterate 3 refine Dp ?_
 refine Cn ?_
 refine Cm ?_
 refine Dp ?_
 have hc := (rfl : ((Ho.at_ 49)).Γ 90 = some (Spec.pure GS))
 have hs := (@GS.eq_1)
 refine Xb ?_
 refine CU ?_
 refine AQ ?_
 iterate 2 refine Ae ?_
 refine Ab ?_
 have hx := hx0
 refine h12 _ ?_; clear h12
 refine Ao ?_
 try simp only [Af]
 have hr := RT i3 hk
 have hr2 := NO i3 i4 i2
 rw [hr, hr2]
 refine A3 ?_
 exact At
 cases hg

def O3 : Bo Tryz.prog := Ho.add 89 (Spec.pure Rz) PE (by kernel_rfl)

theorem NE : A5 Tryz.prog 78 (Spec.pure CE) := by
 refine A7 (O3.at_ 12) Tryz.func78 rfl rfl rfl ?_
 intro args p r hg hp
 unfold CE at hg
 split at hg
 rename_i ts xs q
 simp only [Option.some.injEq, Prod.mk.injEq] at hg
 obtain ⟨rfl, rfl⟩ := hg
 obtain ⟨he, hso, hl⟩ := hp
 generalize dG xs = l at *
 subst he
 have hT : (O3).X = T := rfl
 have hx0 := @Tryz.results78
 have hx := hx0
 refine ⟨by rfl, ?_⟩
 intro F W0 hnp hmk
 refine Aa fun N1 h1 => ?_
 refine Ad ?_
 try refine Ac ?_
 refine FU ?_
 iterate 2 refine Ae ?_
 refine Ab ?_
 refine h1 _ ?_; clear h1
 refine Aa fun N2 h2 => ?_
 have hx := And.intro @KS hx0
 refine Ad ?_
 try refine Ac ?_
 refine Au ?_
 refine Ar ?_
 refine Ae ?_
 have hc := Ah (E := (O3.at_ 12)) (f := 89) (sp := Spec.pure Rz) rfl
 have hs := @Rz.eq_1
 refine BF ?_
 iterate 2 refine DH ?_
 iterate 2 refine Ae ?_
 refine Ab ?_
 have hx := hx0
 refine h2 _ ?_; clear h2
 refine Ao ?_
 try simp only [Af]
 refine A3 ?_
 exact At
 cases hg

def G0 : Bo Tryz.prog := O3.add 78 (Spec.pure CE) NE (by kernel_rfl)
end Go.Proofs.YtmbjnkgpcbpclaaGreat
