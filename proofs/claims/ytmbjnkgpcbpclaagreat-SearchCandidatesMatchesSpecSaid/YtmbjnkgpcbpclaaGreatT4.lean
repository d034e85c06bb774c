/- Walks, printed by wip/gen/walk.py. -/
import Derived.Test.YtmbjnkgpcbpclaaGreatT3
import Derived.Test.YtmbjnkgpcbpclaaGreatV5
set_option linter.all false
set_option maxRecDepth 100000
set_option maxHeartbeats 4000000
namespace Go.Proofs.YtmbjnkgpcbpclaaGreat
open Go Go.Vc Go.RowKit
abbrev Bs := List UInt8
abbrev Dj (a b : Bs) : Bool := Op.bytesLess a b
theorem DP : ∀ a : Bs, Dj a a = false
  | [] => rfl
  | a :: x => by simp [Dj, Op.bytesLess, show Op.bytesLess x x = false from DP x]
theorem E4 : ∀ {a b c : Bs}, Dj a b = true → Dj b c = true → Dj a c = true
  | _, [], _ => by intro h; simp [Dj, Op.bytesLess] at h
  | _, _ :: _, [] => by intro _ h; simp [Dj, Op.bytesLess] at h
  | [], _ :: _, _ :: _ => fun _ _ => rfl
  | a :: x, b :: y, c :: z => by
    intro h1 h2
    simp only [Dj, Op.bytesLess, Bool.or_eq_true, Bool.and_eq_true, decide_eq_true_eq, beq_iff_eq] at *
    rcases h1 with h1 | ⟨rfl, h1⟩
    · rcases h2 with h2 | ⟨rfl, h2⟩
      · exact .inl (UInt8.lt_trans h1 h2)
      · exact .inl h1
    · rcases h2 with h2 | ⟨rfl, h2⟩
      · exact .inl h2
      · exact .inr ⟨rfl, E4 h1 h2⟩
theorem Kz {a b : Bs} (h : Dj a b = true) : Dj b a = false := by
  cases h' : Dj b a with
  | false => rfl
  | true => have := E4 h h'; rw [DP] at this; cases this
theorem HK : ∀ {a b : Bs}, Dj a b = false → Dj b a = false → a = b
  | [], [] => fun _ _ => rfl
  | [], _ :: _ => by intro h; simp [Dj, Op.bytesLess] at h
  | _ :: _, [] => by intro _ h; simp [Dj, Op.bytesLess] at h
  | a :: x, b :: y => by
    intro h1 h2
    simp only [Dj, Op.bytesLess, Bool.or_eq_false_iff, Bool.and_eq_false_imp, decide_eq_false_iff_not, beq_iff_eq] at *
    have hab : a = b := UInt8.le_antisymm (UInt8.not_lt.1 h2.1) (UInt8.not_lt.1 h1.1)
    subst hab
    rw [HK (h1.2 rfl) (h2.2 rfl)]
theorem Od {a b : Bs} (h : Dj a b = true) : a ≠ b := by rintro rfl; rw [DP] at h; cases h
theorem MA : ∀ {a b : Bs}, Lib.compareBytes a b = 0 ↔ a = b
  | [], [] => by simp [Lib.compareBytes]
  | [], _ :: _ => by simp [Lib.compareBytes]
  | _ :: _, [] => by simp [Lib.compareBytes]
  | a :: x, b :: y => by
    unfold Lib.compareBytes
    split
    · rename_i h
      constructor
      · intro h; simp at h
      · intro h'; cases h'; exact absurd h (UInt8.lt_irrefl _)
    · split
      · rename_i h
        constructor
        · intro h; simp at h
        · intro h'; cases h'; exact absurd h (UInt8.lt_irrefl _)
      · rename_i h1 h2
        have hab : a = b := UInt8.le_antisymm (UInt8.not_lt.1 h2) (UInt8.not_lt.1 h1)
        subst hab
        rw [MA]; simp
theorem Lu : ∀ {a b : Bs}, Lib.compareBytes a b < 0 ↔ Dj a b = true
  | [], [] => by simp [Lib.compareBytes, Dj, Op.bytesLess]
  | [], _ :: _ => by simp [Lib.compareBytes, Dj, Op.bytesLess]
  | _ :: _, [] => by simp [Lib.compareBytes, Dj, Op.bytesLess]
  | a :: x, b :: y => by
    unfold Lib.compareBytes
    simp only [Dj, Op.bytesLess, Bool.or_eq_true, Bool.and_eq_true, decide_eq_true_eq, beq_iff_eq]
    split
    · rename_i h; simp [h]
    · split
      · rename_i h1 h
        constructor
        · intro h; simp at h
        · rintro (h' | ⟨rfl, _⟩)
          · exact absurd h' h1
          · exact absurd h (UInt8.lt_irrefl _)
      · rename_i h1 h2
        have hab : a = b := UInt8.le_antisymm (UInt8.not_lt.1 h2) (UInt8.not_lt.1 h1)
        subst hab
        rw [Lu]; simp [h1]
def eG (p : Bs × D) : List D := [.str p.1, p.2]
def dG (xs : List (List D)) : List (Bs × D) := xs.map fun r => match r with
  | [.str g, x] => (g, x)
  | _ => ([], .nils)
theorem Lv (l : List (Bs × D)) : dG (rows eG l) = l := by
  induction l with
  | nil => rfl
  | cons p l ih => exact congrArg (p :: ·) ih
theorem PO (l : List (Bs × D)) : C4 2 (rows eG l) = True := eq_true (fun x hx => by obtain ⟨a, _, rfl⟩ := List.mem_map.1 hx; rfl)
def vP (p : Bs × List Int) : Bs × D := (p.1, .sl (rows eI p.2))
def eP (p : Bs × List Int) : List D := eG (vP p)
def dP (xs : List (List D)) : List (Bs × List Int) := xs.map fun r => match r with
  | [.str g, .sl ts] => (g, dI ts)
  | _ => ([], [])
theorem B4 (l : List (Bs × List Int)) : dP (rows eP l) = l := by
  induction l with
  | nil => rfl
  | cons p l ih =>
    have h : (p.1, dI (rows eI p.2)) = p := by rw [AA]
    show (p.1, dI (rows eI p.2)) :: dP (rows eP l) = p :: l
    rw [h, ih]
theorem DB (l : List (Bs × List Int)) : C4 2 (rows eP l) = True := eq_true (fun x hx => by obtain ⟨a, _, rfl⟩ := List.mem_map.1 hx; rfl)
theorem DD (l : List (Bs × List Int)) : rows eP l = rows eG (l.map vP) := by simp [rows, eP]
def CJ {α : Type} (l : List (Bs × α)) : Prop := l.Pairwise fun p q => Dj p.1 q.1 = true
def C5 {α : Type} (l : List (Bs × α)) (q : Bs) : Nat := (l.filter fun p => Dj p.1 q).length
theorem O9 {α : Type} {l : List (Bs × α)} {q : Bs} {k : Nat} (h1 : ∀ p ∈ l.take k, Dj p.1 q = true) (h2 : ∀ p ∈ l.drop k, Dj p.1 q = false) (hk : k ≤ l.length) : C5 l q = k := by
  unfold C5
  conv => lhs; rw [← List.take_append_drop k l]
  rw [List.filter_append, List.filter_eq_self.2 (fun x hx => h1 x hx), List.filter_eq_nil_iff.2 (fun x hx => by rw [h2 x hx]; simp), List.append_nil, List.length_take]; omega
theorem Vz {α β : Type} (f : α → β) (l : List (Bs × α)) (q : Bs) : C5 (l.map fun p => (p.1, f p.2)) q = C5 l q := by
  unfold C5; rw [List.filter_map, List.length_map]; rfl
def Ds {α : Type} (l : List (Bs × α)) (q : Bs) : Bool := decide (q ∈ l.map (·.1))
theorem U2 {α : Type} {l : List (Bs × α)} {q : Bs} {x : Bs × α} {m : Nat} (hs : CJ l) (hx : l[m]? = some x) (hxq : Dj x.1 q = true) : ∀ y ∈ l.take (m + 1), Dj y.1 q = true := by
  intro y hy
  rw [List.take_add_one, hx, List.mem_append] at hy
  rcases hy with hy | hy
  · obtain ⟨h1, h2⟩ := List.getElem?_eq_some_iff.1 hx
    have := List.take_append_drop m l
    unfold CJ at hs
    rw [← this, List.pairwise_append] at hs
    exact E4 (hs.2.2 y hy x (by rw [List.drop_eq_getElem_cons h1, h2]; simp)) hxq
  · simp only [Option.toList_some, List.mem_singleton] at hy; rw [hy]; exact hxq
theorem SB {α : Type} {l : List (Bs × α)} {q : Bs} {x : Bs × α} {m : Nat} (hs : CJ l) (hx : l[m]? = some x) (hxq : Dj x.1 q = false) : ∀ y ∈ l.drop m, Dj y.1 q = false := by
  obtain ⟨h1, h2⟩ := List.getElem?_eq_some_iff.1 hx
  intro y hy
  have := List.take_append_drop m l
  unfold CJ at hs
  rw [← this, List.pairwise_append, List.drop_eq_getElem_cons h1, h2] at hs
  rw [List.drop_eq_getElem_cons h1, h2] at hy
  rcases List.mem_cons.1 hy with rfl | hy
  · exact hxq
  · have h3 := (List.pairwise_cons.1 hs.2.1).1 y hy
    cases h4 : Dj y.1 q with
    | false => rfl
    | true => rw [E4 h3 h4] at hxq; cases hxq
theorem Vq {α : Type} {l : List (Bs × α)} {q : Bs} {x : Bs × α} {k : Nat} (hs : CJ l) (h1 : ∀ p ∈ l.take k, Dj p.1 q = true) (hx : l[k]? = some x) (h2 : ∀ p ∈ l.drop k, Dj p.1 q = false) : Ds l q = decide (x.1 = q) := by
  apply decide_eq_decide.2
  obtain ⟨g1, g2⟩ := List.getElem?_eq_some_iff.1 hx
  constructor
  · intro h
    obtain ⟨p, hp, rfl⟩ := List.mem_map.1 h
    have hd := List.take_append_drop k l
    unfold CJ at hs
    rw [← hd] at hp
    rcases List.mem_append.1 hp with hp | hp
    · have := h1 p hp; rw [DP] at this; cases this
    · rw [List.drop_eq_getElem_cons g1, g2] at hp
      rcases List.mem_cons.1 hp with rfl | hp
      · rfl
      · rw [← hd, List.pairwise_append, List.drop_eq_getElem_cons g1, g2] at hs
        have h3 := (List.pairwise_cons.1 hs.2.1).1 p hp
        have h4 := h2 x (by rw [List.drop_eq_getElem_cons g1, g2]; simp)
        rw [h3] at h4; cases h4
  · rintro rfl; exact List.mem_map.2 ⟨x, List.mem_of_getElem? hx, rfl⟩
theorem SN {α : Type} {l : List (Bs × α)} {q : Bs} {k : Nat} (h1 : ∀ p ∈ l.take k, Dj p.1 q = true) (hk : l.length ≤ k) : Ds l q = false := by
  apply decide_eq_false
  intro h
  obtain ⟨p, hp, rfl⟩ := List.mem_map.1 h
  have := h1 p (by rw [List.take_of_length_le hk]; exact hp)
  rw [DP] at this; cases this

def Kb : List AV → Option (Prop × AV)
  | [.d (.str a), .d (.str b)] => some (True, .d (.int .i64 (Lib.compareBytes a b)))
  | _ => none
def Hj : List AV → Option (Prop × AV)
  | [.agg [.d (.str a), .d _], .d (.str b)] => some (True, .d (.int .i64 (Lib.compareBytes a b)))
  | _ => none
def Sy : List AV → Option (Prop × AV)
  | [.d (.sl xs), .d (.str q), .clo (.func 90) []] => some (xs = rows eG (dG xs) ∧ CJ (dG xs) ∧ (dG xs).length ≤ 1000000000, .tup [.d (.int .i64 (C5 (dG xs) q : Nat)), .d (.bool (Ds (dG xs) q))])
  | _ => none
def CT : List AV → Option (Prop × AV)
  | [.agg [.d _, .d (.sl xs)], .d (.str q)] => some (xs = rows eG (dG xs) ∧ CJ (dG xs) ∧ (dG xs).length ≤ 1000000000, .tup [.d (.int .i64 (C5 (dG xs) q : Nat)), .d (.bool (Ds (dG xs) q))])
  | _ => none

theorem Oj : A1 Tryz.prog 104 (Spec.pure Kb) := by
 refine Az (W6.at_ 8) Tryz.func104 rfl rfl rfl ?_
 intro args p r hg hp
 unfold Kb at hg
 split at hg
 rename_i a b
 simp only [Option.some.injEq, Prod.mk.injEq] at hg
 obtain ⟨rfl, rfl⟩ := hg
 have hT : (W6).X = T := rfl
 have hx0 := @Tryz.results104
 have hx := hx0
 refine ⟨by rfl, ?_⟩
 intro F W0 hnp hmk
 refine Aa fun N1 h1 => ?_
 refine Ad ?_
 try refine Ac ?_
 refine Ae ?_
 refine Ab ?_
 refine h1 _ ?_; clear h1
 refine Aa fun N2 h2 => ?_
 refine Ad ?_
 try refine Ac ?_
 iterate 2 refine Ae ?_
 refine AN (by rfl) (OZ (fn := Tryz.f119) Tryz.func119 (by kernel_rfl) (by kernel_rfl) (by kernel_rfl) (by kernel_rfl) (by exact Dq) (by exact Dn) (by exact Dq) (by exact Dn) ?_)
 refine Ae ?_
 refine Ab ?_
 refine h2 _ ?_; clear h2
 refine An ?_
 try simp only [Af]
 refine Ax ?_
 exact As
 cases hg

def La : Bn Tryz.prog := W6.add 104 (Spec.pure Kb) Oj (by kernel_rfl)

theorem Ol : A1 Tryz.prog 91 (Spec.pure Kb) := by
 refine Az (La.at_ 8) Tryz.func91 rfl rfl rfl ?_
 intro args p r hg hp
 unfold Kb at hg
 split at hg
 rename_i a b
 simp only [Option.some.injEq, Prod.mk.injEq] at hg
 obtain ⟨rfl, rfl⟩ := hg
 have hT : (La).X = T := rfl
 have hx0 := @Tryz.results91
 have hx := hx0
 refine ⟨by rfl, ?_⟩
 intro F W0 hnp hmk
 refine Aa fun N1 h1 => ?_
 refine Ad ?_
 try refine Ac ?_
 refine Ae ?_
 refine Ab ?_
 refine h1 _ ?_; clear h1
 refine Aa fun N2 h2 => ?_
 refine Ad ?_
 try refine Ac ?_
 iterate 2 refine Ae ?_
 have hc := Ag (E := (La.at_ 8)) (f := 104) (sp := Spec.pure Kb) rfl
 have hs := @Kb.eq_1
 refine AS ?_
 refine Ae ?_
 refine Ab ?_
 refine h2 _ ?_; clear h2
 refine An ?_
 try simp only [Af]
 refine Ax ?_
 exact As
 cases hg

def Lb : Bn Tryz.prog := La.add 91 (Spec.pure Kb) Ol (by kernel_rfl)

theorem Ok : A1 Tryz.prog 90 (Spec.pure Hj) := by
 refine Az (Lb.at_ 9) Tryz.func90 rfl rfl rfl ?_
 intro args p r hg hp
 unfold Hj at hg
 split at hg
 rename_i a x b
 simp only [Option.some.injEq, Prod.mk.injEq] at hg
 obtain ⟨rfl, rfl⟩ := hg
 have hT : (Lb).X = T := rfl
 have hx0 := @Tryz.results90
 have hx := hx0
 refine ⟨by rfl, ?_⟩
 intro F W0 hnp hmk
 refine Aa fun N1 h1 => ?_
 refine Ad ?_
 try refine Ac ?_
 refine EX ?_
 refine Ae ?_
 refine Ab ?_
 refine h1 _ ?_; clear h1
 refine Aa fun N2 h2 => ?_
 refine Ad ?_
 try refine Ac ?_
 refine At ?_
 refine Ap ?_
 refine Ae ?_
 have hc := Ag (E := (Lb.at_ 9)) (f := 91) (sp := Spec.pure Kb) rfl
 have hs := @Kb.eq_1
 refine AS ?_
 refine Ae ?_
 refine Ab ?_
 refine h2 _ ?_; clear h2
 refine An ?_
 try simp only [Af]
 refine Ax ?_
 exact As
 cases hg

def HB : Bn Tryz.prog := Lb.add 90 (Spec.pure Hj) Ok (by kernel_rfl)

theorem Q5 : A1 Tryz.prog 89 (Spec.pure Sy) := by
 refine Az (HB.at_ 49) Tryz.func89 rfl rfl rfl ?_
 intro args p r hg hp
 unfold Sy at hg
 split at hg
 rename_i xs q
 simp only [Option.some.injEq, Prod.mk.injEq] at hg
 obtain ⟨rfl, rfl⟩ := hg
 obtain ⟨he, hso, hl⟩ := hp
 generalize dG xs = l at *
 subst he
 have hT : (HB).X = T := rfl
 have hx0 := And.intro @Ci (And.intro @Ch (And.intro @PO @Tryz.results89))
 have hx := hx0
 refine ⟨by rfl, ?_⟩
 intro F W0 hnp hmk
 refine Aa fun N1 h1 => ?_
 refine Ad ?_
 try refine Ac ?_
 iterate 2 refine Ae ?_
 refine Ab ?_
 refine h1 _ ?_; clear h1
 refine Aa fun N2 h2 => ?_
 refine Ad ?_
 try refine Ac ?_
 refine Ae ?_
 refine AZ ?_
 refine Ae ?_
 refine Ab ?_
 refine h2 _ ?_; clear h2
 refine Aa fun N3 h3 => ?_
 refine Ad ?_
 try refine Ac ?_
 iterate 3 refine Ae ?_
 refine Ab ?_
 refine h3 _ ?_; clear h3
 refine Aa fun N4 h4 => ?_
 refine Au ?_
 refine A0 (σ := Nat × Nat) (fun s => (fun lo hi => lo ≤ hi ∧ hi ≤ l.length ∧ (∀ x ∈ l.take lo, Dj x.1 q = true) ∧ ∀ x ∈ l.drop hi, Dj x.1 q = false) (s.1) (s.2))
  (fun s => (fun lo hi => [(0, .d (.sl (rows eG l))), (1, .d (.str q)), (2, .clo (.func 90) []), (8, .d (.int .i64 (l.length : Nat))), (9, .d (.int .i64 (lo : Nat))), (10, .d (.int .i64 (hi : Nat)))]) (s.1) (s.2))
  (fun s => (fun lo hi => []) (s.1) (s.2)) (fun s => (fun lo hi => hi - lo) (s.1) (s.2)) hnp (0, l.length) ?_ [] ?_ ?_
 dsimp only
 simp
 dsimp only
 refine ⟨by rfl, ?_, ?_⟩
 refine Aj ?_
 exact As
 refine Aj ?_
 exact As
 rintro ⟨lo, hi⟩ hinv N5 h5
 dsimp only at hinv ⊢
 obtain ⟨i1, i2, i3, i4⟩ := hinv
 refine Aa fun N6 h6 => ?_
 refine Aa fun N7 h7 => ?_
 refine Ad ?_
 try refine Ac ?_
 iterate 2 refine Ae ?_
 refine Al ?_
 refine Ab ?_
 refine h7 _ ?_; clear h7
 refine Ai (fun hb8 => ?_) (fun hb8 => ?_)
 have hmid := PA (lo := lo) (hi := hi) (by omega)
 obtain ⟨x, hxe⟩ := BG (l := l) (i := (lo + hi) / 2) (by omega)
 refine Am ?_
 try simp only [Af]
 refine h6 _ ?_; clear h6
 refine Au ?_
 refine Aa fun N9 h9 => ?_
 have hx := And.intro @hmid hx0
 refine Ad ?_
 try refine Ac ?_
 iterate 2 refine Ae ?_
 refine Al ?_
 refine U4 ?_
 refine Al ?_
 refine U4 ?_
 refine Ae ?_
 refine Ab ?_
 have hx := hx0
 refine h9 _ ?_; clear h9
 refine Aa fun N10 h10 => ?_
 have hx := And.intro @hxe (And.intro @eG.eq_1 hx0)
 refine Ad ?_
 try refine Ac ?_
 iterate 3 refine Ae ?_
 refine At ?_
 refine Ap ?_
 refine Ae ?_
 have hc := (rfl : ((HB.at_ 49)).Γ 90 = some (Spec.pure Hj))
 have hs := (@Hj.eq_1)
 refine Wb ?_
 refine Al ?_
 refine Ab ?_
 have hx := hx0
 refine h10 _ ?_; clear h10
 refine Ai (fun hb11 => ?_) (fun hb11 => ?_)
 have hlt : Dj x.1 q = true := Lu.1 hb11
 refine Ad ?_
 try refine Ac ?_
 refine Ae ?_
 refine Al ?_
 refine Ae ?_
 refine Ab ?_
 refine h5 _ ⟨((lo + hi) / 2 + 1, hi), ?_, ?_, [], ?_⟩
 dsimp only
 exact ⟨by omega, by omega, U2 hso hxe hlt, i4⟩
 dsimp only
 omega
 dsimp only
 refine ⟨by rfl, ?_, ?_⟩
 refine Aj ?_
 exact As
 refine Aj ?_
 exact As
 have hge : Dj x.1 q = false := by
  cases h : Dj x.1 q with
  | false => rfl
  | true => exact absurd (Lu.2 h) (by have := hb11; omega)
 refine Ad ?_
 try refine Ac ?_
 iterate 2 refine Ae ?_
 refine Ab ?_
 refine h5 _ ⟨(lo, (lo + hi) / 2), ?_, ?_, [], ?_⟩
 dsimp only
 exact ⟨by omega, by omega, i3, SB hso hxe hge⟩
 dsimp only
 omega
 dsimp only
 refine ⟨by rfl, ?_, ?_⟩
 refine Aj ?_
 exact As
 refine Aj ?_
 exact As
 have hlh : lo = hi := by omega
 subst hlh
 refine AF ?_
 simp only [Af, Nat.reduceEqDiff, reduceIte, eq_self]
 refine h4 _ ?_; clear h4
 refine Aa fun N12 h12 => ?_
 rcases Nat.lt_or_ge lo l.length with hk | hk
 obtain ⟨x, hxe⟩ := BG hk
 have hk' : decide ((lo : Int) < (l.length : Int)) = true := by simp; omega
 have hx := And.intro @hxe (And.intro @hk' (And.intro @eG.eq_1 hx0))
 refine Ad ?_
 try refine Ac ?_
 iterate 3 refine Ae ?_
 refine Al ?_
 refine Ae ?_
 iterate 3 refine BI ?_
 refine AK ?_
 refine AJ ?_
 refine BI ?_
 have hc := (rfl : ((HB.at_ 49)).Γ 90 = some (Spec.pure Hj))
 have hs := (@Hj.eq_1)
 refine XR ?_
 refine B7 ?_
 refine A7 ?_
 iterate 2 refine Ae ?_
 refine Ab ?_
 have hx := hx0
 refine h12 _ ?_; clear h12
 refine An ?_
 try simp only [Af]
 have hr : Ds l q = decide (Lib.compareBytes x.1 q = 0) := by rw [Vq hso i3 hxe i4]; exact decide_eq_decide.2 MA.symm
 have hr2 := O9 i3 i4 i2
 rw [hr, hr2]
 refine Ax ?_
 exact As
 have hxe : l[lo]? = none := List.getElem?_eq_none hk
 have hk' : decide ((lo : Int) < (l.length : Int)) = false := by simp; omega
 have hx := And.intro @hxe (And.intro @hk' (And.intro @eG.eq_1 hx0))
 refine Ad ?_
 try refine Ac ?_
 iterate 3 refine Ae ?_
 refine Al ?_
 refine Ae ?_
 iterate 3 refine BI ?_
 refine AK ?_
 refine AJ ?_
 refine BI ?_
 have hc := (rfl : ((HB.at_ 49)).Γ 90 = some (Spec.pure Hj))
 have hs := (@Hj.eq_1)
 refine XR ?_
 refine B7 ?_
 refine A7 ?_
 iterate 2 refine Ae ?_
 refine Ab ?_
 have hx := hx0
 refine h12 _ ?_; clear h12
 refine An ?_
 try simp only [Af]
 have hr := SN i3 hk
 have hr2 := O9 i3 i4 i2
 rw [hr, hr2]
 refine Ax ?_
 exact As
 cases hg

def Ps : Bn Tryz.prog := HB.add 89 (Spec.pure Sy) Q5 (by kernel_rfl)

theorem Oy : A1 Tryz.prog 78 (Spec.pure CT) := by
 refine Az (Ps.at_ 12) Tryz.func78 rfl rfl rfl ?_
 intro args p r hg hp
 unfold CT at hg
 split at hg
 rename_i ts xs q
 simp only [Option.some.injEq, Prod.mk.injEq] at hg
 obtain ⟨rfl, rfl⟩ := hg
 obtain ⟨he, hso, hl⟩ := hp
 generalize dG xs = l at *
 subst he
 have hT : (Ps).X = T := rfl
 have hx0 := @Tryz.results78
 have hx := hx0
 refine ⟨by rfl, ?_⟩
 intro F W0 hnp hmk
 refine Aa fun N1 h1 => ?_
 refine Ad ?_
 try refine Ac ?_
 refine EX ?_
 iterate 2 refine Ae ?_
 refine Ab ?_
 refine h1 _ ?_; clear h1
 refine Aa fun N2 h2 => ?_
 have hx := And.intro @Lv hx0
 refine Ad ?_
 try refine Ac ?_
 refine At ?_
 refine Ap ?_
 refine Ae ?_
 have hc := Ag (E := (Ps.at_ 12)) (f := 89) (sp := Spec.pure Sy) rfl
 have hs := @Sy.eq_1
 refine AS ?_
 iterate 2 refine Dz ?_
 iterate 2 refine Ae ?_
 refine Ab ?_
 have hx := hx0
 refine h2 _ ?_; clear h2
 refine An ?_
 try simp only [Af]
 refine Ax ?_
 exact As
 cases hg

def GJ : Bn Tryz.prog := Ps.add 78 (Spec.pure CT) Oy (by kernel_rfl)
end Go.Proofs.YtmbjnkgpcbpclaaGreat
