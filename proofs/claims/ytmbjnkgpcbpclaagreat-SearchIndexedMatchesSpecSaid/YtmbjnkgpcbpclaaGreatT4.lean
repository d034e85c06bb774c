import Derived.Test.YtmbjnkgpcbpclaaGreatT3
set_option linter.all false
set_option maxRecDepth 100000
set_option maxHeartbeats 4000000
namespace Go.Proofs.YtmbjnkgpcbpclaaGreat
open Go Go.Vc Go.RowKit
abbrev Bs := List UInt8
abbrev D3 (a b : Bs) : Bool := Op.bytesLess a b
theorem DX : ∀ a : Bs, D3 a a = false
  | [] => rfl
  | a :: x => by simp [D3, Op.bytesLess, show Op.bytesLess x x = false from DX x]
theorem Ff : ∀ {a b c : Bs}, D3 a b = true → D3 b c = true → D3 a c = true
  | _, [], _ => by intro h; simp [D3, Op.bytesLess] at h
  | _, _ :: _, [] => by intro _ h; simp [D3, Op.bytesLess] at h
  | [], _ :: _, _ :: _ => fun _ _ => rfl
  | a :: x, b :: y, c :: z => by
    intro h1 h2
    simp only [D3, Op.bytesLess, Bool.or_eq_true, Bool.and_eq_true, decide_eq_true_eq, beq_iff_eq] at *
    rcases h1 with h1 | ⟨rfl, h1⟩
    · rcases h2 with h2 | ⟨rfl, h2⟩
      · exact .inl (UInt8.lt_trans h1 h2)
      · exact .inl h1
    · rcases h2 with h2 | ⟨rfl, h2⟩
      · exact .inl h2
      · exact .inr ⟨rfl, Ff h1 h2⟩
theorem Lt {a b : Bs} (h : D3 a b = true) : D3 b a = false := by
  cases h' : D3 b a with
  | false => rfl
  | true => have := Ff h h'; rw [DX] at this; cases this
theorem I8 : ∀ {a b : Bs}, D3 a b = false → D3 b a = false → a = b
  | [], [] => fun _ _ => rfl
  | [], _ :: _ => by intro h; simp [D3, Op.bytesLess] at h
  | _ :: _, [] => by intro _ h; simp [D3, Op.bytesLess] at h
  | a :: x, b :: y => by
    intro h1 h2
    simp only [D3, Op.bytesLess, Bool.or_eq_false_iff, Bool.and_eq_false_imp, decide_eq_false_iff_not, beq_iff_eq] at *
    have hab : a = b := UInt8.le_antisymm (UInt8.not_lt.1 h2.1) (UInt8.not_lt.1 h1.1)
    subst hab
    rw [I8 (h1.2 rfl) (h2.2 rfl)]
theorem P1 {a b : Bs} (h : D3 a b = true) : a ≠ b := by rintro rfl; rw [DX] at h; cases h
theorem NM : ∀ {a b : Bs}, Lib.compareBytes a b = 0 ↔ a = b
  | [], [] => by simp [Lib.compareBytes]
  | [], _ :: _ => by simp [Lib.compareBytes]
  | _ :: _, [] => by simp [Lib.compareBytes]
  | a :: x, b :: y => by
    unfold Lib.compareBytes
    split
    · rename_i h
      constructor
      · intro h; simp at h
      · intro h'; cases h'; exact absurd h (UInt8.lt_irrefl _)
    · split
      · rename_i h
        constructor
        · intro h; simp at h
        · intro h'; cases h'; exact absurd h (UInt8.lt_irrefl _)
      · rename_i h1 h2
        have hab : a = b := UInt8.le_antisymm (UInt8.not_lt.1 h2) (UInt8.not_lt.1 h1)
        subst hab
        rw [NM]; simp
theorem Mv : ∀ {a b : Bs}, Lib.compareBytes a b < 0 ↔ D3 a b = true
  | [], [] => by simp [Lib.compareBytes, D3, Op.bytesLess]
  | [], _ :: _ => by simp [Lib.compareBytes, D3, Op.bytesLess]
  | _ :: _, [] => by simp [Lib.compareBytes, D3, Op.bytesLess]
  | a :: x, b :: y => by
    unfold Lib.compareBytes
    simp only [D3, Op.bytesLess, Bool.or_eq_true, Bool.and_eq_true, decide_eq_true_eq, beq_iff_eq]
    split
    · rename_i h; simp [h]
    · split
      · rename_i h1 h
        constructor
        · intro h; simp at h
        · rintro (h' | ⟨rfl, _⟩)
          · exact absurd h' h1
          · exact absurd h (UInt8.lt_irrefl _)
      · rename_i h1 h2
        have hab : a = b := UInt8.le_antisymm (UInt8.not_lt.1 h2) (UInt8.not_lt.1 h1)
        subst hab
        rw [Mv]; simp [h1]
def eG (p : Bs × D) : List D := [.str p.1, p.2]
def dG (xs : List (List D)) : List (Bs × D) := xs.map fun r => match r with
  | [.str g, x] => (g, x)
  | _ => ([], .nils)
theorem Mw (l : List (Bs × D)) : dG (rows eG l) = l := by
  induction l with
  | nil => rfl
  | cons p l ih => exact congrArg (p :: ·) ih
theorem R2 (l : List (Bs × D)) : CW 2 (rows eG l) = True := eq_true (fun x hx => by obtain ⟨a, _, rfl⟩ := List.mem_map.1 hx; rfl)
def vP (p : Bs × List Int) : Bs × D := (p.1, .sl (rows eI p.2))
def eP (p : Bs × List Int) : List D := eG (vP p)
def dP (xs : List (List D)) : List (Bs × List Int) := xs.map fun r => match r with
  | [.str g, .sl ts] => (g, dI ts)
  | _ => ([], [])
theorem BH (l : List (Bs × List Int)) : dP (rows eP l) = l := by
  induction l with
  | nil => rfl
  | cons p l ih =>
    have h : (p.1, dI (rows eI p.2)) = p := by rw [AE]
    show (p.1, dI (rows eI p.2)) :: dP (rows eP l) = p :: l
    rw [h, ih]
theorem DW (l : List (Bs × List Int)) : CW 2 (rows eP l) = True := eq_true (fun x hx => by obtain ⟨a, _, rfl⟩ := List.mem_map.1 hx; rfl)
theorem Ek (l : List (Bs × List Int)) : rows eP l = rows eG (l.map vP) := by simp [rows, eP]
def Db {α : Type} (l : List (Bs × α)) : Prop := l.Pairwise fun p q => D3 p.1 q.1 = true
def Cq {α : Type} (l : List (Bs × α)) (q : Bs) : Nat := (l.filter fun p => D3 p.1 q).length
theorem Kp {α : Type} {l : List (Bs × α)} {q : Bs} {k : Nat} (h1 : ∀ p ∈ l.take k, D3 p.1 q = true) (h2 : ∀ p ∈ l.drop k, D3 p.1 q = false) (hk : k ≤ l.length) : Cq l q = k := by
  unfold Cq
  conv => lhs; rw [← List.take_append_drop k l]
  rw [List.filter_append, List.filter_eq_self.2 (fun x hx => h1 x hx), List.filter_eq_nil_iff.2 (fun x hx => by rw [h2 x hx]; simp), List.append_nil, List.length_take]; omega
theorem Xa {α β : Type} (f : α → β) (l : List (Bs × α)) (q : Bs) : Cq (l.map fun p => (p.1, f p.2)) q = Cq l q := by
  unfold Cq; rw [List.filter_map, List.length_map]; rfl
def Ce {α : Type} (l : List (Bs × α)) (q : Bs) : Bool := decide (q ∈ l.map (·.1))
theorem Wi {α : Type} {l : List (Bs × α)} {q : Bs} {x : Bs × α} {m : Nat} (hs : Db l) (hx : l[m]? = some x) (hxq : D3 x.1 q = true) : ∀ y ∈ l.take (m + 1), D3 y.1 q = true := by
  intro y hy
  rw [List.take_add_one, hx, List.mem_append] at hy
  rcases hy with hy | hy
  · obtain ⟨h1, h2⟩ := List.getElem?_eq_some_iff.1 hx
    have := List.take_append_drop m l
    unfold Db at hs
    rw [← this, List.pairwise_append] at hs
    exact Ff (hs.2.2 y hy x (by rw [List.drop_eq_getElem_cons h1, h2]; simp)) hxq
  · simp only [Option.toList_some, List.mem_singleton] at hy; rw [hy]; exact hxq
theorem Cm {α : Type} {l : List (Bs × α)} {q : Bs} {x : Bs × α} {m : Nat} (hs : Db l) (hx : l[m]? = some x) (hxq : D3 x.1 q = false) : ∀ y ∈ l.drop m, D3 y.1 q = false := by
  obtain ⟨h1, h2⟩ := List.getElem?_eq_some_iff.1 hx
  intro y hy
  have := List.take_append_drop m l
  unfold Db at hs
  rw [← this, List.pairwise_append, List.drop_eq_getElem_cons h1, h2] at hs
  rw [List.drop_eq_getElem_cons h1, h2] at hy
  rcases List.mem_cons.1 hy with rfl | hy
  · exact hxq
  · have h3 := (List.pairwise_cons.1 hs.2.1).1 y hy
    cases h4 : D3 y.1 q with
    | false => rfl
    | true => rw [Ff h3 h4] at hxq; cases hxq
theorem CX {α : Type} {l : List (Bs × α)} {q : Bs} {x : Bs × α} {k : Nat} (hs : Db l) (h1 : ∀ p ∈ l.take k, D3 p.1 q = true) (hx : l[k]? = some x) (h2 : ∀ p ∈ l.drop k, D3 p.1 q = false) : Ce l q = decide (x.1 = q) := by
  apply decide_eq_decide.2
  obtain ⟨g1, g2⟩ := List.getElem?_eq_some_iff.1 hx
  constructor
  · intro h
    obtain ⟨p, hp, rfl⟩ := List.mem_map.1 h
    have hd := List.take_append_drop k l
    unfold Db at hs
    rw [← hd] at hp
    rcases List.mem_append.1 hp with hp | hp
    · have := h1 p hp; rw [DX] at this; cases this
    · rw [List.drop_eq_getElem_cons g1, g2] at hp
      rcases List.mem_cons.1 hp with rfl | hp
      · rfl
      · rw [← hd, List.pairwise_append, List.drop_eq_getElem_cons g1, g2] at hs
        have h3 := (List.pairwise_cons.1 hs.2.1).1 p hp
        have h4 := h2 x (by rw [List.drop_eq_getElem_cons g1, g2]; simp)
        rw [h3] at h4; cases h4
  · rintro rfl; exact List.mem_map.2 ⟨x, List.mem_of_getElem? hx, rfl⟩
theorem Cx {α : Type} {l : List (Bs × α)} {q : Bs} {k : Nat} (h1 : ∀ p ∈ l.take k, D3 p.1 q = true) (hk : l.length ≤ k) : Ce l q = false := by
  apply decide_eq_false
  intro h
  obtain ⟨p, hp, rfl⟩ := List.mem_map.1 h
  have := h1 p (by rw [List.take_of_length_le hk]; exact hp)
  rw [DX] at this; cases this
def KT : List AV → Option (Prop × AV)
  | [.d (.str a), .d (.str b)] => some (True, .d (.int .i64 (Lib.compareBytes a b)))
  | _ => none
def HP : List AV → Option (Prop × AV)
  | [.agg [.d (.str a), .d _], .d (.str b)] => some (True, .d (.int .i64 (Lib.compareBytes a b)))
  | _ => none
def Ui : List AV → Option (Prop × AV)
  | [.d (.sl xs), .d (.str q), .clo (.func 90) []] => some (xs = rows eG (dG xs) ∧ Db (dG xs) ∧ (dG xs).length ≤ 1000000000, .tup [.d (.int .i64 (Cq (dG xs) q : Nat)), .d (.bool (Ce (dG xs) q))])
  | _ => none
def Du : List AV → Option (Prop × AV)
  | [.agg [.d _, .d (.sl xs)], .d (.str q)] => some (xs = rows eG (dG xs) ∧ Db (dG xs) ∧ (dG xs).length ≤ 1000000000, .tup [.d (.int .i64 (Cq (dG xs) q : Nat)), .d (.bool (Ce (dG xs) q))])
  | _ => none
theorem P6 : A5 Tryz.prog 104 (Spec.pure KT) := by
 refine A1 (Yc.at_ 8) Tryz.func104 rfl rfl rfl ?_
 intro args p r hg hp
 unfold KT at hg
 split at hg
 rename_i a b
 simp only [Option.some.injEq, Prod.mk.injEq] at hg
 obtain ⟨rfl, rfl⟩ := hg
 have hT : (Yc).X = T := rfl
 have hx0 := @Tryz.results104
 have hx := hx0
 refine ⟨by rfl, ?_⟩
 intro F W0 hnp hmk
 refine Aa fun N1 h1 => Ac ?_
 refine Az ?_
 refine Ad ?_
 refine Ab (h1 _ (Aa fun N2 h2 => Ac ?_)); clear h1
 iterate 2 refine Ad ?_
 refine AS (by rfl) (Qw (fn := Tryz.f119) Tryz.func119 (by kernel_rfl) (by kernel_rfl) (by kernel_rfl) (by kernel_rfl) (by exact DF) (by exact DE) (by exact DF) (by exact DE) ?_)
 refine Ad ?_
 refine Ab (h2 _ (Am ?_)); clear h2
 try simp only [Ae]
 refine Aw ?_
 exact Au
 cases hg
def LV : Bq Tryz.prog := Yc.add 104 (Spec.pure KT) P6 (by kernel_rfl)
theorem P8 : A5 Tryz.prog 91 (Spec.pure KT) := by
 refine A1 (LV.at_ 8) Tryz.func91 rfl rfl rfl ?_
 intro args p r hg hp
 unfold KT at hg
 split at hg
 rename_i a b
 simp only [Option.some.injEq, Prod.mk.injEq] at hg
 obtain ⟨rfl, rfl⟩ := hg
 have hT : (LV).X = T := rfl
 have hx0 := @Tryz.results91
 have hx := hx0
 refine ⟨by rfl, ?_⟩
 intro F W0 hnp hmk
 refine Aa fun N1 h1 => Ac ?_
 refine Az ?_
 refine Ad ?_
 refine Ab (h1 _ (Aa fun N2 h2 => Ac ?_)); clear h1
 iterate 2 refine Ad ?_
 have hc := Ag (E := (LV.at_ 8)) (f := 104) (sp := Spec.pure KT) rfl
 have hs := @KT.eq_1
 refine Ba ?_
 refine Ad ?_
 refine Ab (h2 _ (Am ?_)); clear h2
 try simp only [Ae]
 refine Aw ?_
 exact Au
 cases hg
def LW : Bq Tryz.prog := LV.add 91 (Spec.pure KT) P8 (by kernel_rfl)
theorem P7 : A5 Tryz.prog 90 (Spec.pure HP) := by
 refine A1 (LW.at_ 9) Tryz.func90 rfl rfl rfl ?_
 intro args p r hg hp
 unfold HP at hg
 split at hg
 rename_i a x b
 simp only [Option.some.injEq, Prod.mk.injEq] at hg
 obtain ⟨rfl, rfl⟩ := hg
 have hT : (LW).X = T := rfl
 have hx0 := @Tryz.results90
 have hx := hx0
 refine ⟨by rfl, ?_⟩
 intro F W0 hnp hmk
 refine Aa fun N1 h1 => Ac ?_
 refine Az ?_
 refine Fz ?_
 refine Ad ?_
 refine Ab (h1 _ (Aa fun N2 h2 => Ac ?_)); clear h1
 refine Ar ?_
 refine Aq ?_
 refine Ad ?_
 have hc := Ag (E := (LW.at_ 9)) (f := 91) (sp := Spec.pure KT) rfl
 have hs := @KT.eq_1
 refine Ba ?_
 refine Ad ?_
 refine Ab (h2 _ (Am ?_)); clear h2
 try simp only [Ae]
 refine Aw ?_
 exact Au
 cases hg
def I1 : Bq Tryz.prog := LW.add 90 (Spec.pure HP) P7 (by kernel_rfl)
theorem Sq : A5 Tryz.prog 89 (Spec.pure Ui) := by
 refine A1 (I1.at_ 49) Tryz.func89 rfl rfl rfl ?_
 intro args p r hg hp
 unfold Ui at hg
 split at hg
 rename_i xs q
 simp only [Option.some.injEq, Prod.mk.injEq] at hg
 obtain ⟨rfl, rfl⟩ := hg
 obtain ⟨he, hso, hl⟩ := hp
 generalize dG xs = l at *
 subst he
 have hT : (I1).X = T := rfl
 have hx0 := And.intro @Ci (And.intro @Ch (And.intro @R2 @Tryz.results89))
 have hx := hx0
 refine ⟨by rfl, ?_⟩
 intro F W0 hnp hmk
 refine Aa fun N1 h1 => Ac ?_
 refine Az ?_
 iterate 2 refine Ad ?_
 refine Ab (h1 _ (Aa fun N2 h2 => Ac ?_)); clear h1
 refine Ad ?_
 refine AU ?_
 refine Ad ?_
 refine Ab (h2 _ (Aa fun N3 h3 => Ac ?_)); clear h2
 iterate 3 refine Ad ?_
 refine Ab (h3 _ (Aa fun N4 h4 => As ?_)); clear h3
 refine A3 (σ := Nat × Nat) (fun s => (fun lo hi => lo ≤ hi ∧ hi ≤ l.length ∧ (∀ x ∈ l.take lo, D3 x.1 q = true) ∧ ∀ x ∈ l.drop hi, D3 x.1 q = false) (s.1) (s.2))
  (fun s => (fun lo hi => [(0, .d (.sl (rows eG l))), (1, .d (.str q)), (2, .clo (.func 90) []), (8, .d (.int .i64 (l.length : Nat))), (9, .d (.int .i64 (lo : Nat))), (10, .d (.int .i64 (hi : Nat)))]) (s.1) (s.2))
  (fun s => (fun lo hi => []) (s.1) (s.2)) (fun s => (fun lo hi => hi - lo) (s.1) (s.2)) hnp (0, l.length) ?_ [] ?_ ?_
 dsimp only
 simp
 dsimp only
 refine ⟨by rfl, ?_, ?_⟩
 refine Aj ?_
 exact Au
 refine Aj ?_
 exact Au
 rintro ⟨lo, hi⟩ hinv N5 h5
 dsimp only at hinv ⊢
 obtain ⟨i1, i2, i3, i4⟩ := hinv
 refine Aa fun N6 h6 => ?_
 refine Aa fun N7 h7 => Ac ?_
 refine Az ?_
 iterate 2 refine Ad ?_
 refine Ao ?_
 refine Ab (h7 _ (Ak (fun hb8 => ?_) (fun hb8 => ?_))); clear h7
 have hmid := Rl (lo := lo) (hi := hi) (by omega)
 obtain ⟨x, hxe⟩ := BA (l := l) (i := (lo + hi) / 2) (by omega)
 refine An ?_
 try simp only [Ae]
 refine h6 _ (As ?_); clear h6
 have hx := And.intro @hmid hx0
 refine Aa fun N9 h9 => Ac ?_
 iterate 2 refine Ad ?_
 refine Ao ?_
 refine Wk ?_
 refine Ao ?_
 refine Wk ?_
 refine Ad ?_
 have hx := And.intro @hxe (And.intro @eG.eq_1 hx0)
 refine Ab (h9 _ (Aa fun N10 h10 => Ac ?_)); clear h9
 iterate 3 refine Ad ?_
 refine Ar ?_
 refine Aq ?_
 refine Ad ?_
 have hc := (rfl : ((I1.at_ 49)).Γ 90 = some (Spec.pure HP))
 have hs := (@HP.eq_1)
 refine Q6 ?_
 refine Ao ?_
 have hx := hx0
 refine Ab (h10 _ (Ak (fun hb11 => ?_) (fun hb11 => ?_))); clear h10
 have hlt : D3 x.1 q = true := Mv.1 hb11
 refine Ac ?_
 refine Ad ?_
 refine Ao ?_
 refine Ad ?_
 refine Ab ?_
 refine h5 _ ⟨((lo + hi) / 2 + 1, hi), ?_, ?_, [], ?_⟩
 dsimp only
 exact ⟨by omega, by omega, Wi hso hxe hlt, i4⟩
 dsimp only
 omega
 dsimp only
 refine ⟨by rfl, ?_, ?_⟩
 refine Aj ?_
 exact Au
 refine Aj ?_
 exact Au
 have hge : D3 x.1 q = false := by
  cases h : D3 x.1 q with
  | false => rfl
  | true => exact absurd (Mv.2 h) (by have := hb11; omega)
 refine Ac ?_
 iterate 2 refine Ad ?_
 refine Ab ?_
 refine h5 _ ⟨(lo, (lo + hi) / 2), ?_, ?_, [], ?_⟩
 dsimp only
 exact ⟨by omega, by omega, i3, Cm hso hxe hge⟩
 dsimp only
 omega
 dsimp only
 refine ⟨by rfl, ?_, ?_⟩
 refine Aj ?_
 exact Au
 refine Aj ?_
 exact Au
 have hlh : lo = hi := by omega
 subst hlh
 refine AJ ?_
 simp only [Ae, Nat.reduceEqDiff, reduceIte, eq_self]
 refine h4 _ (Aa fun N12 h12 => ?_); clear h4
 rcases Nat.lt_or_ge lo l.length with hk | hk
 obtain ⟨x, hxe⟩ := BA hk
 have hk' : decide ((lo : Int) < (l.length : Int)) = true := by simp; omega
 have hx := And.intro @hxe (And.intro @hk' (And.intro @eG.eq_1 hx0))
 refine Ac ?_
 iterate 3 refine Ad ?_
 refine Ao ?_
 refine Ad ?_
 iterate 3 refine Cw ?_
 refine B9 ?_
 refine B8 ?_
 refine Cw ?_
 have hc := (rfl : ((I1.at_ 49)).Γ 90 = some (Spec.pure HP))
 have hs := (@HP.eq_1)
 refine Zz ?_
 refine CD ?_
 refine AH ?_
 iterate 2 refine Ad ?_
 have hx := hx0
 refine Ab (h12 _ (Am ?_)); clear h12
 try simp only [Ae]
 have hr : Ce l q = decide (Lib.compareBytes x.1 q = 0) := by rw [CX hso i3 hxe i4]; exact decide_eq_decide.2 NM.symm
 have hr2 := Kp i3 i4 i2
 rw [hr, hr2]
 refine Aw ?_
 exact Au
 have hxe : l[lo]? = none := List.getElem?_eq_none hk
 have hk' : decide ((lo : Int) < (l.length : Int)) = false := by simp; omega
 have hx := And.intro @hxe (And.intro @hk' (And.intro @eG.eq_1 hx0))
 refine Ac ?_
 iterate 3 refine Ad ?_
 refine Ao ?_
 refine Ad ?_
 iterate 3 refine Cw ?_
 refine B9 ?_
 refine B8 ?_
 refine Cw ?_
 have hc := (rfl : ((I1.at_ 49)).Γ 90 = some (Spec.pure HP))
 have hs := (@HP.eq_1)
 refine Zz ?_
 refine CD ?_
 refine AH ?_
 iterate 2 refine Ad ?_
 have hx := hx0
 refine Ab (h12 _ (Am ?_)); clear h12
 try simp only [Ae]
 have hr := Cx i3 hk
 have hr2 := Kp i3 i4 i2
 rw [hr, hr2]
 refine Aw ?_
 exact Au
 cases hg
def QK : Bq Tryz.prog := I1.add 89 (Spec.pure Ui) Sq (by kernel_rfl)
theorem PK : A5 Tryz.prog 78 (Spec.pure Du) := by
 refine A1 (QK.at_ 12) Tryz.func78 rfl rfl rfl ?_
 intro args p r hg hp
 unfold Du at hg
 split at hg
 rename_i ts xs q
 simp only [Option.some.injEq, Prod.mk.injEq] at hg
 obtain ⟨rfl, rfl⟩ := hg
 obtain ⟨he, hso, hl⟩ := hp
 generalize dG xs = l at *
 subst he
 have hT : (QK).X = T := rfl
 have hx0 := @Tryz.results78
 have hx := hx0
 refine ⟨by rfl, ?_⟩
 intro F W0 hnp hmk
 refine Aa fun N1 h1 => Ac ?_
 refine Az ?_
 refine Fz ?_
 iterate 2 refine Ad ?_
 have hx := And.intro @Mw hx0
 refine Ab (h1 _ (Aa fun N2 h2 => Ac ?_)); clear h1
 refine Ar ?_
 refine Aq ?_
 refine Ad ?_
 have hc := Ag (E := (QK.at_ 12)) (f := 89) (sp := Spec.pure Ui) rfl
 have hs := @Ui.eq_1
 refine Ba ?_
 iterate 2 refine Dt ?_
 iterate 2 refine Ad ?_
 have hx := hx0
 refine Ab (h2 _ (Am ?_)); clear h2
 try simp only [Ae]
 refine Aw ?_
 exact Au
 cases hg
def Hu : Bq Tryz.prog := QK.add 78 (Spec.pure Du) PK (by kernel_rfl)
