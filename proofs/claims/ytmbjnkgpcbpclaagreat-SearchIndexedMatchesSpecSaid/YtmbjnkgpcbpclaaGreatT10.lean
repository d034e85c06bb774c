import Derived.Test.YtmbjnkgpcbpclaaGreatT9
set_option linter.all false
set_option maxRecDepth 100000
set_option maxHeartbeats 4000000
namespace Go.Proofs.YtmbjnkgpcbpclaaGreat
open Go Go.Vc Go.RowKit
def Js (P : Int → Bool) (l : List Int) : Int := if l.any P then (l.findIdx P : Nat) else -1
theorem Mz {P : Int → Bool} {l : List Int} {i : Nat} {x : Int} (h : l[i]? = some x) (hp : P x = true) (hn : ∀ y ∈ l.take i, P y = false) : Js P l = i := by
  have ha : l.any P = true := List.any_eq_true.2 ⟨x, List.mem_of_getElem? h, hp⟩
  unfold Js; rw [if_pos ha]
  congr 1
  clear ha
  induction l generalizing i with
  | nil => simp at h
  | cons a l ih =>
    cases i with
    | zero => simp only [List.getElem?_cons_zero, Option.some.injEq] at h; subst h; rw [List.findIdx_cons, hp]; rfl
    | succ i =>
      have h1 := hn a (by simp)
      rw [List.findIdx_cons, h1, ih (by simpa using h) (fun y hy => hn y (by simp [hy]))]; rfl
theorem IF {P : Int → Bool} {l : List Int} (hn : ∀ y ∈ l, P y = false) : Js P l = -1 := by
  unfold Js; rw [if_neg]
  rw [List.any_eq_true]; rintro ⟨x, hx, h⟩; rw [hn x hx] at h; cases h
theorem Uv (P : Int → Bool) (l : List Int) : decide (0 ≤ Js P l) = l.any P := by
  unfold Js; split
  · rename_i h; rw [h]; exact decide_eq_true (by omega)
  · rename_i h; rw [Bool.not_eq_true] at h; rw [h]; exact decide_eq_false (by omega)
def MN (ns : List Int) (p : Int) : Bool := !decide (p ∈ ns)
def Pe : List AV → Option (Prop × AV)
  | [.d (.int .i64 p), .d (.ptr [.sl ns, _])] => some (ns = rows eI (dI ns) ∧ (dI ns).length ≤ 9223372036854775807, .d (.bool (MN (dI ns) p)))
  | _ => none
def UJ : List AV → Option (Prop × AV)
  | [.d (.sl xs), .clo (.func 72) [.d (.ptr [.sl ns, z])]] => some (xs = rows eI (dI xs) ∧ (dI xs).length ≤ 9223372036854775807 ∧ ns = rows eI (dI ns) ∧ (dI ns).length ≤ 9223372036854775807, .d (.int .i64 (Js (MN (dI ns)) (dI xs))))
  | _ => none
def Kd : List AV → Option (Prop × AV)
  | [.d (.sl xs), .clo (.func 72) [.d (.ptr [.sl ns, z])]] => some (xs = rows eI (dI xs) ∧ (dI xs).length ≤ 9223372036854775807 ∧ ns = rows eI (dI ns) ∧ (dI ns).length ≤ 9223372036854775807, .d (.bool ((dI xs).any (MN (dI ns)))))
  | _ => none
theorem Fo {l : List Int} {k : Nat} {x : Int} {P : Int → Bool} (h : ∀ y ∈ l.take k, P y = false) (hx : l[k]? = some x) (hp : P x = false) : ∀ y ∈ l.take (k + 1), P y = false := N0 h hx hp
def JB (ts : List Int) (P : List AR) (i : Nat) : Int :=
  if (P.getD i ([], [])).1.length ≠ 3 then 9 else if (0 < i ∧ D3 (P.getD (i - 1) ([], [])).1 (P.getD i ([], [])).1 = false) ∨ (P.getD i ([], [])).2 = [] ∨ F1 (P.getD i ([], [])).2 = false then 5 else if (P.getD i ([], [])).2.any (MN ts) = true then 6 else 0
def Dj (ts : List Int) (P : List AR) : Int × Int := if (KN ts).1 ≠ 0 then KN ts else Co (JB ts P) (fun i => (i : Int)) P.length
theorem Lx (f g : Nat → Int) : ∀ n, Co f g n = (0, 0) ∨ (Co f g n).1 ≠ 0
  | 0 => .inl rfl
  | n + 1 => by
    unfold Co
    split
    · exact .inr (by assumption)
    · split
      · exact .inr (by assumption)
      · exact .inl rfl
theorem YV (l : List Int) : KN l = (0, 0) ∨ (KN l).1 ≠ 0 := by
  unfold KN; split
  · exact .inr (by decide)
  · exact Lx _ _ _
def DN (P : List AR) : Prop := ∀ p ∈ P, p.1.length ≤ 9223372036854775807 ∧ p.2.length ≤ 9223372036854775807
def KJ : List AV → Option (Prop × AV)
  | [.agg [.d (.sl xs), .d (.sl ps)]] => some (xs = rows eI (dI xs) ∧ (dI xs).length ≤ 9223372036854775807 ∧ ps = rows eP (dP ps) ∧ (dP ps).length ≤ 9223372036854775807 ∧ DN (dP ps), .agg [.d (.int .i64 (Dj (dI xs) (dP ps)).1), .d (.int .i64 (Dj (dI xs) (dP ps)).2)])
  | _ => none
theorem five (P : List AR) (i : Nat) (g : Bs) (t : List Int) : (0 < i ∧ D3 (P.getD (i - 1) ([], [])).1 g = false) ∨ (i = 0 ∧ t = []) ∨ (i = 0 ∧ t ≠ []) ∨ (0 < i ∧ D3 (P.getD (i - 1) ([], [])).1 g = true ∧ t = []) ∨ (0 < i ∧ D3 (P.getD (i - 1) ([], [])).1 g = true ∧ t ≠ []) := by
  rcases Nat.eq_zero_or_pos i with h | h <;> by_cases ht : t = [] <;> cases hb : D3 (P.getD (i - 1) ([], [])).1 g <;> simp [h, ht, hb] <;> omega
theorem Z2 {a b : Bs} (h : D3 b a = false) : (Op.bytesLess a b || decide (a = b)) = true := by
  cases h' : Op.bytesLess a b with
  | true => rfl
  | false => simp [I8 (a := a) (b := b) h' h]
theorem LC {a b : Bs} (h : D3 b a = true) : (Op.bytesLess a b || decide (a = b)) = false := by
  have h1 : Op.bytesLess a b = false := Lt h
  rw [h1, decide_eq_false (fun e => P1 h e.symm)]; rfl
theorem NR (g : Bs) (t : List Int) : eP (g, t) = [.str g, .sl (rows eI t)] := rfl
theorem Q7 : A5 Tryz.prog 72 (Spec.pure Pe) := by
 refine A1 (HD.at_ 9) Tryz.func72 rfl rfl rfl ?_
 intro args p r hg hp
 unfold Pe at hg
 split at hg
 rename_i p ns z
 simp only [Option.some.injEq, Prod.mk.injEq] at hg
 obtain ⟨rfl, rfl⟩ := hg
 obtain ⟨he, hl⟩ := hp
 generalize dI ns = l at *
 subst he
 have hT : (HD).X = T := rfl
 have hx0 := And.intro @AE (And.intro @MN.eq_1 @Tryz.results72)
 have hx := hx0
 refine ⟨by rfl, ?_⟩
 intro F W0 hnp hmk
 refine Aa fun N1 h1 => Ac ?_
 refine Az ?_
 refine Ad ?_
 refine Ab (h1 _ (Aa fun N2 h2 => Ac ?_)); clear h1
 refine Ar ?_
 refine Aq ?_
 refine Ad ?_
 have hc := Ag (E := (HD.at_ 9)) (f := 73) (sp := Spec.pure Dg) rfl
 have hs := @Dg.eq_1
 refine Ba ?_
 refine EL ?_
 refine Ad ?_
 refine Ab (h2 _ (Am ?_)); clear h2
 try simp only [Ae]
 refine Aw ?_
 exact Au
 cases hg
def Md : Bq Tryz.prog := HD.add 72 (Spec.pure Pe) Q7 (by kernel_rfl)
theorem SP : A5 Tryz.prog 80 (Spec.pure UJ) := by
 refine A1 (Md.at_ 19) Tryz.func80 rfl rfl rfl ?_
 intro args p r hg hp
 unfold UJ at hg
 split at hg
 rename_i xs ns z
 simp only [Option.some.injEq, Prod.mk.injEq] at hg
 obtain ⟨rfl, rfl⟩ := hg
 obtain ⟨he, hl, hf, hm⟩ := hp
 generalize dI xs = l at *
 generalize dI ns = ns at *
 subst he hf
 have hT : (Md).X = T := rfl
 have hx0 := @Tryz.results80
 have hx := hx0
 refine ⟨by rfl, ?_⟩
 intro F W0 hnp hmk
 refine Aa fun N1 h1 => Ac ?_
 refine Az ?_
 refine Ad ?_
 refine Ab (h1 _ (Aa fun N2 h2 => ?_)); clear h1
 refine Aa fun N3 h3 => Ac ?_
 refine Ad ?_
 refine AU ?_
 refine Ad ?_
 refine Ab (h3 _ (As ?_)); clear h3
 refine A3 (σ := Nat) (fun s => (fun k => k ≤ l.length ∧ ∀ y ∈ l.take k, MN ns y = false) s)
  (fun s => (fun k => [(0, .d (.sl (rows eI l))), (1, .clo (.func 72) [.d (.ptr [.sl (rows eI ns), z])]), (6, .d (.sl (rows eI l))), (7, .d (.int .i64 (l.length : Nat))), (8, .d (.int .i64 (k : Nat)))]) s)
  (fun s => (fun k => []) s) (fun s => (fun k => l.length - k) s) hnp 0 ?_ [] ?_ ?_
 dsimp only
 simp
 dsimp only
 refine ⟨by rfl, ?_, ?_⟩
 refine Aj ?_
 exact Au
 refine Aj ?_
 exact Au
 rintro k hinv N4 h4
 dsimp only at hinv ⊢
 obtain ⟨k1, k2⟩ := hinv
 refine Aa fun N5 h5 => Ac ?_
 refine Az ?_
 refine Ao ?_
 refine Ab (h5 _ (Aa fun N6 h6 => Ak (fun hb7 => ?_) (fun hb7 => ?_))); clear h5
 obtain ⟨x, hxe⟩ := BA (l := l) (i := k) (by omega)
 refine An ?_
 try simp only [Ae]
 refine h6 _ (Aa fun N8 h8 => As ?_); clear h6
 refine Aa fun N9 h9 => Ac ?_
 iterate 2 refine Ad ?_
 have hx := And.intro @hxe (And.intro @eI.eq_1 hx0)
 refine Ab (h9 _ (Aa fun N10 h10 => Ac ?_)); clear h9
 iterate 3 refine Ad ?_
 refine Ar ?_
 refine Aq ?_
 have hc := (rfl : ((Md.at_ 19)).Γ 72 = some (Spec.pure Pe))
 have hs := (@Pe.eq_1)
 refine Q6 (hq := by (first | (rw [AE]; exact ⟨rfl, hm⟩) | exact AQ)) ?_
 have hx := hx0
 refine Ab (h10 _ (Ak (fun hb11 => ?_) (fun hb11 => ?_))); clear h10
 have ht := hb11
 simp only [AE] at ht
 refine Aa fun N12 h12 => Ac ?_
 iterate 2 refine Ad ?_
 refine Ab (h12 _ (Am ?_)); clear h12
 try simp only [Ae]
 rw [Mz hxe (by simpa using ht) k2]
 refine Aw ?_
 exact Au
 have ht := hb11
 simp only [AE] at ht
 refine An ?_
 try simp only [Ae]
 refine h8 _ (Ac ?_); clear h8
 refine Ao ?_
 refine Ad ?_
 refine Ab ?_
 refine h4 _ ⟨k + 1, ?_, ?_, [], ?_⟩
 dsimp only
 exact ⟨by omega, Fo k2 hxe (by simpa using ht)⟩
 dsimp only
 omega
 dsimp only
 refine ⟨by rfl, ?_, ?_⟩
 refine Aj ?_
 exact Au
 refine Aj ?_
 exact Au
 refine AJ ?_
 simp only [Ae, Nat.reduceEqDiff, reduceIte, eq_self]
 refine h2 _ (Aa fun N13 h13 => Ac ?_); clear h2
 refine Ad ?_
 refine Ab (h13 _ (Am ?_)); clear h13
 try simp only [Ae]
 rw [IF (by rw [List.take_of_length_le (by omega)] at k2; exact k2)]
 refine Aw ?_
 exact Au
 cases hg
def QP : Bq Tryz.prog := Md.add 80 (Spec.pure UJ) SP (by kernel_rfl)
theorem PA : A5 Tryz.prog 71 (Spec.pure Kd) := by
 refine A1 (QP.at_ 9) Tryz.func71 rfl rfl rfl ?_
 intro args p r hg hp
 unfold Kd at hg
 split at hg
 rename_i xs ns z
 simp only [Option.some.injEq, Prod.mk.injEq] at hg
 obtain ⟨rfl, rfl⟩ := hg
 obtain ⟨he, hl, hf, hm⟩ := hp
 generalize dI xs = l at *
 generalize dI ns = ns at *
 subst he hf
 have hT : (QP).X = T := rfl
 have hx0 := @Tryz.results71
 have hx := hx0
 refine ⟨by rfl, ?_⟩
 intro F W0 hnp hmk
 refine Aa fun N1 h1 => Ac ?_
 refine Az ?_
 refine Ad ?_
 have hx := And.intro @AE hx0
 refine Ab (h1 _ (Aa fun N2 h2 => Ac ?_)); clear h1
 iterate 2 refine Ad ?_
 have hc := Ag (E := (QP.at_ 9)) (f := 80) (sp := Spec.pure UJ) rfl
 have hs := @UJ.eq_1
 refine Ba ?_
 refine Ao ?_
 refine Ad ?_
 have hx := hx0
 refine Ab (h2 _ (Am ?_)); clear h2
 try simp only [Ae]
 rw [← Uv]
 refine Aw ?_
 exact Au
 cases hg
def Fl : Bq Tryz.prog := QP.add 71 (Spec.pure Kd) PA (by kernel_rfl)
theorem Q9 : A5 Tryz.prog 49 (Spec.pure KJ) := by
 refine A1 (Fl.at_ 66) Tryz.func49 rfl rfl rfl ?_
 intro args p r hg hp
 unfold KJ at hg
 split at hg
 rename_i xs ps
 simp only [Option.some.injEq, Prod.mk.injEq] at hg
 obtain ⟨rfl, rfl⟩ := hg
 obtain ⟨he, hl, he2, hl2, hsm⟩ := hp
 generalize dI xs = l at *
 generalize dP ps = P at *
 subst he he2
 have hT : (Fl).X = T := rfl
 have hx0 := And.intro @Ci (And.intro @Ch (And.intro @DW (And.intro @NR (And.intro @Bool.not_true (And.intro @Bool.not_false (And.intro @AE @Tryz.results49))))))
 have hx := hx0
 refine ⟨by rfl, ?_⟩
 intro F W0 hnp hmk
 refine Aa fun N1 h1 => Ac ?_
 refine Az ?_
 refine Fz ?_
 refine Bj ?_
 refine Ab (h1 _ (Aa fun N2 h2 => ?_)); clear h1
 refine Aa fun N3 h3 => Ac ?_
 refine Ar ?_
 refine Aq ?_
 have hc := Ag (E := (Fl.at_ 66)) (f := 69) (sp := Spec.pure HO) rfl
 have hs := @HO.eq_1
 refine Ba ?_
 refine Bj ?_
 refine A4 ?_
 refine Ab (h3 _ (Aa fun N4 h4 => ?_)); clear h3
 rcases YV l with htx | htx
 have hz1 : (KN l).1 = 0 := by rw [htx]
 have hz2 : (KN l).2 = 0 := by rw [htx]
 refine Ac ?_
 refine Aq ?_
 refine BD ?_
 refine Ao ?_
 refine Ab (h4 _ (Ak (fun hb5 => ?_) (fun hb5 => ?_))); clear h4
 exact absurd (And.intro hz1 hz2) (by have := hb5; simpa using this)
 refine An ?_
 try simp only [Ae]
 refine h2 _ (Aa fun N6 h6 => ?_); clear h2
 refine Aa fun N7 h7 => Ac ?_
 refine Ar ?_
 refine Aq ?_
 refine AU ?_
 refine Ad ?_
 refine Ab (h7 _ (As ?_)); clear h7
 refine A3 (σ := Nat) (fun s => (fun i => i ≤ P.length ∧ ∀ j, j < i → JB l P j = 0) s)
  (fun s => (fun i => [(1, .ptr 0 0 0), (2, .ptr 1 0 0), (15, .d (.sl (rows eP P))), (16, .d (.int .i64 (P.length : Nat))), (17, .d (.int .i64 (i : Nat)))]) s)
  (fun s => (fun i => [some (.one 49 [.d (.sl (rows eI l)), .d (.sl (rows eP P))]), some (.one 29 [.d (.int .i64 0), .d (.int .i64 0)])]) s) (fun s => (fun i => P.length - i) s) hnp 0 ?_ [some 0, some 1] ?_ ?_
 dsimp only
 exact ⟨by omega, fun j hj => by omega⟩
 dsimp only
 refine ⟨by rfl, ?_, ?_⟩
 refine Aj ?_
 exact Au
 refine Aj ?_
 exact Au
 rintro i hinv N8 h8
 dsimp only at hinv ⊢
 obtain ⟨i1, i2⟩ := hinv
 refine Aa fun N9 h9 => Ac ?_
 refine Az ?_
 refine Ao ?_
 refine Ab (h9 _ (Aa fun N10 h10 => Ak (fun hb11 => ?_) (fun hb11 => ?_))); clear h9
 obtain ⟨p, hpe⟩ := BA (l := P) (i := i) (by omega)
 obtain ⟨g, t⟩ := p
 have hxe : P[i]? = some (g, t) := hpe
 have hxd : P.getD i ([], []) = (g, t) := B5 hxe
 obtain ⟨hgl, htl⟩ := hsm _ (AB hxe)
 refine An ?_
 try simp only [Ae]
 refine h10 _ (Aa fun N12 h12 => As ?_); clear h10
 have hx := And.intro @hxe hx0
 refine Aa fun N13 h13 => Ac ?_
 refine Ad ?_
 refine Ar ?_
 refine Aq ?_
 refine Bj ?_
 refine Ad ?_
 refine A4 ?_
 have hx := hx0
 refine Ab (h13 _ (Aa fun N14 h14 => Ac ?_)); clear h13
 refine Ad ?_
 refine Ab (h14 _ (Aa fun N15 h15 => As ?_)); clear h14
 refine Aa fun N16 h16 => Ac ?_
 refine Ar ?_
 refine Aq ?_
 refine AU ?_
 refine Ao ?_
 refine Ad ?_
 refine Ab (h16 _ (Ak (fun hb17 => ?_) (fun hb17 => ?_))); clear h16
 refine Ac ?_
 refine Ad ?_
 refine Ab (h15 _ (Aa fun N18 h18 => Ac ?_)); clear h15
 refine Ad ?_
 refine Ao ?_
 refine Ab (h18 _ (Ak (fun hb19 => ?_) (fun hb19 => ?_))); clear h18
 refine Aa fun N20 h20 => Ac ?_
 iterate 2 refine Ad ?_
 refine BD ?_
 refine A4 ?_
 refine Ab (h20 _ (Am ?_)); clear h20
 try simp only [Ae]
 have hf : JB l P i = 9 := by unfold JB; rw [hxd, if_pos (by show g.length ≠ 3; have := hb17; omega)]
 have hr : Dj l P = (9, (i : Int)) := by unfold Dj; rw [if_neg (by rw [hz1]; simp), CS (i := i) (by rw [hf]; decide) i2 (by omega), hf]
 rw [hr]
 refine Aw ?_
 exact Au
 exact CJ hb19
 refine Aa fun N21 h21 => ?_
 rcases five P i g t with hc5 | hc5 | hc5 | hc5 | hc5
 obtain ⟨hi0, hlt⟩ := hc5
 obtain ⟨q, hqe⟩ := BA (l := P) (i := i - 1) (by omega)
 obtain ⟨gy, ty⟩ := q
 have hye : P[i - 1]? = some (gy, ty) := hqe
 have hyd : P.getD (i - 1) ([], []) = (gy, ty) := B5 hye
 have hpm : ((i : Int) - 1).toNat = i - 1 := by omega
 have hgt : decide ((0 : Int) < (i : Int)) = true := decide_eq_true (by omega)
 rw [hyd] at hlt
 have hle := Z2 hlt
 have hln := hxe
 have hx := And.intro @hye (And.intro @hgt (And.intro @hpm (And.intro @hle (And.intro @hln hx0))))
 refine Ac ?_
 refine Ad ?_
 refine Ao ?_
 refine Ad ?_
 refine B9 ?_
 refine B8 ?_
 refine B9 ?_
 refine B8 ?_
 refine Cw ?_
 refine CD ?_
 iterate 2 refine B9 ?_
 refine B8 ?_
 refine CD ?_
 refine AH ?_
 refine Ad ?_
 refine B9 ?_
 refine B8 ?_
 refine Kj ?_
 refine CD ?_
 refine AH ?_
 refine Ad ?_
 refine B9 ?_
 refine B8 ?_
 have hc := Ag (E := (Fl.at_ 66)) (f := 70) (sp := Spec.pure FO) rfl
 have hs := @FO.eq_1
 refine H3 ?_
 refine KW ?_
 refine AH ?_
 refine Ad ?_
 have hx := hx0
 refine Ab (h21 _ (Ak (fun hb22 => ?_) (fun hb22 => ?_))); clear h21
 refine Ac ?_
 refine Ad ?_
 refine Ab (h15 _ (Aa fun N23 h23 => Ac ?_)); clear h15
 refine Ad ?_
 refine Ao ?_
 refine Ab (h23 _ (Ak (fun hb24 => ?_) (fun hb24 => ?_))); clear h23
 refine Aa fun N25 h25 => Ac ?_
 iterate 2 refine Ad ?_
 refine BD ?_
 refine A4 ?_
 refine Ab (h25 _ (Am ?_)); clear h25
 try simp only [Ae]
 have hg3 : g.length = 3 := by have := hb17; omega
 have hf : JB l P i = 5 := by unfold JB; rw [hxd, if_neg (by show ¬ g.length ≠ 3; omega), if_pos (by first | exact Or.inl ⟨hi0, by rw [hyd]; exact hlt⟩ | exact Or.inr (Or.inl rfl) | exact Or.inr (Or.inr (by have := hb22; simpa using this)))]
 have hr : Dj l P = (5, (i : Int)) := by unfold Dj; rw [if_neg (by rw [hz1]; simp), CS (i := i) (by rw [hf]; decide) i2 (by omega), hf]
 rw [hr]
 refine Aw ?_
 exact Au
 exact CJ hb24
 exact CJ hb22
 obtain ⟨hi0, hte⟩ := hc5
 have hgt : decide ((0 : Int) < (i : Int)) = false := decide_eq_false (by omega)
 have hye := hxe
 have hpm := hxe
 have hle := hxe
 subst hte
 have hln : decide ((([] : List Int).length : Int) = 0) = true := rfl
 have hln2 := hxe
 have hx := And.intro @hye (And.intro @hgt (And.intro @hpm (And.intro @hle (And.intro @hln hx0))))
 refine Ac ?_
 refine Ad ?_
 refine Ao ?_
 refine Ad ?_
 refine B9 ?_
 refine B8 ?_
 refine B9 ?_
 refine B8 ?_
 refine Cw ?_
 refine CD ?_
 iterate 2 refine B9 ?_
 refine B8 ?_
 refine CD ?_
 refine AH ?_
 refine Ad ?_
 refine B9 ?_
 refine B8 ?_
 refine Kj ?_
 refine CD ?_
 refine AH ?_
 refine Ad ?_
 refine B9 ?_
 refine B8 ?_
 have hc := Ag (E := (Fl.at_ 66)) (f := 70) (sp := Spec.pure FO) rfl
 have hs := @FO.eq_1
 refine H3 ?_
 refine KW ?_
 refine AH ?_
 refine Ad ?_
 have hx := hx0
 refine Ab (h21 _ (Ak (fun hb26 => ?_) (fun hb26 => ?_))); clear h21
 refine Ac ?_
 refine Ad ?_
 refine Ab (h15 _ (Aa fun N27 h27 => Ac ?_)); clear h15
 refine Ad ?_
 refine Ao ?_
 refine Ab (h27 _ (Ak (fun hb28 => ?_) (fun hb28 => ?_))); clear h27
 refine Aa fun N29 h29 => Ac ?_
 iterate 2 refine Ad ?_
 refine BD ?_
 refine A4 ?_
 refine Ab (h29 _ (Am ?_)); clear h29
 try simp only [Ae]
 have hg3 : g.length = 3 := by have := hb17; omega
 have hf : JB l P i = 5 := by unfold JB; rw [hxd, if_neg (by show ¬ g.length ≠ 3; omega), if_pos (by first | exact Or.inl ⟨hi0, by rw [hyd]; exact hlt⟩ | exact Or.inr (Or.inl rfl) | exact Or.inr (Or.inr (by have := hb26; simpa using this)))]
 have hr : Dj l P = (5, (i : Int)) := by unfold Dj; rw [if_neg (by rw [hz1]; simp), CS (i := i) (by rw [hf]; decide) i2 (by omega), hf]
 rw [hr]
 refine Aw ?_
 exact Au
 exact CJ hb28
 exact CJ hb26
 obtain ⟨hi0, hte⟩ := hc5
 have hgt : decide ((0 : Int) < (i : Int)) = false := decide_eq_false (by omega)
 have hye := hxe
 have hpm := hxe
 have hle := hxe
 have hln : decide ((t.length : Int) = 0) = false := decide_eq_false (fun h => hte (List.eq_nil_of_length_eq_zero (by omega)))
 have hln2 := hxe
 have hx := And.intro @hye (And.intro @hgt (And.intro @hpm (And.intro @hle (And.intro @hln hx0))))
 refine Ac ?_
 refine Ad ?_
 refine Ao ?_
 refine Ad ?_
 refine B9 ?_
 refine B8 ?_
 refine B9 ?_
 refine B8 ?_
 refine Cw ?_
 refine CD ?_
 iterate 2 refine B9 ?_
 refine B8 ?_
 refine CD ?_
 refine AH ?_
 refine Ad ?_
 refine B9 ?_
 refine B8 ?_
 refine Kj ?_
 refine CD ?_
 refine AH ?_
 refine Ad ?_
 refine B9 ?_
 refine B8 ?_
 have hc := Ag (E := (Fl.at_ 66)) (f := 70) (sp := Spec.pure FO) rfl
 have hs := @FO.eq_1
 refine H3 ?_
 refine KW ?_
 refine AH ?_
 refine Ad ?_
 have hx := hx0
 refine Ab (h21 _ (Ak (fun hb30 => ?_) (fun hb30 => ?_))); clear h21
 refine Ac ?_
 refine Ad ?_
 refine Ab (h15 _ (Aa fun N31 h31 => Ac ?_)); clear h15
 refine Ad ?_
 refine Ao ?_
 refine Ab (h31 _ (Ak (fun hb32 => ?_) (fun hb32 => ?_))); clear h31
 refine Aa fun N33 h33 => Ac ?_
 iterate 2 refine Ad ?_
 refine BD ?_
 refine A4 ?_
 refine Ab (h33 _ (Am ?_)); clear h33
 try simp only [Ae]
 have hg3 : g.length = 3 := by have := hb17; omega
 have hf : JB l P i = 5 := by unfold JB; rw [hxd, if_neg (by show ¬ g.length ≠ 3; omega), if_pos (by first | exact Or.inl ⟨hi0, by rw [hyd]; exact hlt⟩ | exact Or.inr (Or.inl rfl) | exact Or.inr (Or.inr (by have := hb30; simpa using this)))]
 have hr : Dj l P = (5, (i : Int)) := by unfold Dj; rw [if_neg (by rw [hz1]; simp), CS (i := i) (by rw [hf]; decide) i2 (by omega), hf]
 rw [hr]
 refine Aw ?_
 exact Au
 exact CJ hb32
 have hx := And.intro @AE hx0
 refine Aa fun N34 h34 => Ac ?_
 refine Ar ?_
 refine Aq ?_
 refine Hh ?_
 have hc := Ag (E := (Fl.at_ 66)) (f := 71) (sp := Spec.pure Kd) rfl
 have hs := @Kd.eq_1
 refine Ba ?_
 refine Ad ?_
 have hx := hx0
 refine Ab (h34 _ (Ak (fun hb35 => ?_) (fun hb35 => ?_))); clear h34
 refine Ac ?_
 refine Ad ?_
 refine Ab (h15 _ (Aa fun N36 h36 => Ac ?_)); clear h15
 refine Ad ?_
 refine Ao ?_
 refine Ab (h36 _ (Ak (fun hb37 => ?_) (fun hb37 => ?_))); clear h36
 refine Aa fun N38 h38 => Ac ?_
 iterate 2 refine Ad ?_
 refine BD ?_
 refine A4 ?_
 refine Ab (h38 _ (Am ?_)); clear h38
 try simp only [Ae]
 have hg3 : g.length = 3 := by have := hb17; omega
 have h5 : ¬ ((0 < i ∧ D3 (P.getD (i - 1) ([], [])).1 g = false) ∨ t = [] ∨ F1 t = false) := by
  have hinc : F1 t = true := by have := hb30; simpa using this
  rintro (⟨h1, h2⟩ | h | h)
  ·first | omega | (rw [hyd] at h2; rw [hlt] at h2; cases h2)
  ·exact hte h
  ·rw [hinc] at h; cases h
 have hf : JB l P i = 6 := by unfold JB; rw [hxd, if_neg (by show ¬ g.length ≠ 3; omega), if_neg h5, if_pos (by have := hb35; simpa using this)]
 have hr : Dj l P = (6, (i : Int)) := by unfold Dj; rw [if_neg (by rw [hz1]; simp), CS (i := i) (by rw [hf]; decide) i2 (by omega), hf]
 rw [hr]
 refine Aw ?_
 exact Au
 exact CJ hb37
 refine An ?_
 try simp only [Ae]
 refine h15 _ (Aa fun N39 h39 => Ac ?_); clear h15
 refine Ad ?_
 refine Ao ?_
 refine Ab (h39 _ (Ak (fun hb40 => ?_) (fun hb40 => ?_))); clear h39
 exact CJ hb40
 refine An ?_
 try simp only [Ae]
 refine h12 _ (Ac ?_); clear h12
 refine Ao ?_
 refine Ad ?_
 refine Ab ?_
 have hg3 : g.length = 3 := by have := hb17; omega
 have h5 : ¬ ((0 < i ∧ D3 (P.getD (i - 1) ([], [])).1 g = false) ∨ t = [] ∨ F1 t = false) := by
  have hinc : F1 t = true := by have := hb30; simpa using this
  rintro (⟨h1, h2⟩ | h | h)
  ·first | omega | (rw [hyd] at h2; rw [hlt] at h2; cases h2)
  ·exact hte h
  ·rw [hinc] at h; cases h
 have hf : JB l P i = 0 := by unfold JB; rw [hxd, if_neg (by show ¬ g.length ≠ 3; omega), if_neg h5, if_neg (by have := hb35; simpa using this)]
 refine h8 _ ⟨i + 1, ?_, ?_, [some 0, some 1], ?_⟩
 dsimp only
 exact ⟨by omega, Fv i2 hf⟩
 dsimp only
 omega
 dsimp only
 refine ⟨by rfl, ?_, ?_⟩
 refine Aj ?_
 exact Au
 refine Aj ?_
 exact Au
 obtain ⟨hi0, hlt, hte⟩ := hc5
 obtain ⟨q, hqe⟩ := BA (l := P) (i := i - 1) (by omega)
 obtain ⟨gy, ty⟩ := q
 have hye : P[i - 1]? = some (gy, ty) := hqe
 have hyd : P.getD (i - 1) ([], []) = (gy, ty) := B5 hye
 have hpm : ((i : Int) - 1).toNat = i - 1 := by omega
 have hgt : decide ((0 : Int) < (i : Int)) = true := decide_eq_true (by omega)
 rw [hyd] at hlt
 have hle := LC hlt
 subst hte
 have hln : decide ((([] : List Int).length : Int) = 0) = true := rfl
 have hln2 := hxe
 have hx := And.intro @hye (And.intro @hgt (And.intro @hpm (And.intro @hle (And.intro @hln hx0))))
 refine Ac ?_
 refine Ad ?_
 refine Ao ?_
 refine Ad ?_
 refine B9 ?_
 refine B8 ?_
 refine B9 ?_
 refine B8 ?_
 refine Cw ?_
 refine CD ?_
 iterate 2 refine B9 ?_
 refine B8 ?_
 refine CD ?_
 refine AH ?_
 refine Ad ?_
 refine B9 ?_
 refine B8 ?_
 refine Kj ?_
 refine CD ?_
 refine AH ?_
 refine Ad ?_
 refine B9 ?_
 refine B8 ?_
 have hc := Ag (E := (Fl.at_ 66)) (f := 70) (sp := Spec.pure FO) rfl
 have hs := @FO.eq_1
 refine H3 ?_
 refine KW ?_
 refine AH ?_
 refine Ad ?_
 have hx := hx0
 refine Ab (h21 _ (Ak (fun hb41 => ?_) (fun hb41 => ?_))); clear h21
 refine Ac ?_
 refine Ad ?_
 refine Ab (h15 _ (Aa fun N42 h42 => Ac ?_)); clear h15
 refine Ad ?_
 refine Ao ?_
 refine Ab (h42 _ (Ak (fun hb43 => ?_) (fun hb43 => ?_))); clear h42
 refine Aa fun N44 h44 => Ac ?_
 iterate 2 refine Ad ?_
 refine BD ?_
 refine A4 ?_
 refine Ab (h44 _ (Am ?_)); clear h44
 try simp only [Ae]
 have hg3 : g.length = 3 := by have := hb17; omega
 have hf : JB l P i = 5 := by unfold JB; rw [hxd, if_neg (by show ¬ g.length ≠ 3; omega), if_pos (by first | exact Or.inl ⟨hi0, by rw [hyd]; exact hlt⟩ | exact Or.inr (Or.inl rfl) | exact Or.inr (Or.inr (by have := hb41; simpa using this)))]
 have hr : Dj l P = (5, (i : Int)) := by unfold Dj; rw [if_neg (by rw [hz1]; simp), CS (i := i) (by rw [hf]; decide) i2 (by omega), hf]
 rw [hr]
 refine Aw ?_
 exact Au
 exact CJ hb43
 exact CJ hb41
 obtain ⟨hi0, hlt, hte⟩ := hc5
 obtain ⟨q, hqe⟩ := BA (l := P) (i := i - 1) (by omega)
 obtain ⟨gy, ty⟩ := q
 have hye : P[i - 1]? = some (gy, ty) := hqe
 have hyd : P.getD (i - 1) ([], []) = (gy, ty) := B5 hye
 have hpm : ((i : Int) - 1).toNat = i - 1 := by omega
 have hgt : decide ((0 : Int) < (i : Int)) = true := decide_eq_true (by omega)
 rw [hyd] at hlt
 have hle := LC hlt
 have hln : decide ((t.length : Int) = 0) = false := decide_eq_false (fun h => hte (List.eq_nil_of_length_eq_zero (by omega)))
 have hln2 := hxe
 have hx := And.intro @hye (And.intro @hgt (And.intro @hpm (And.intro @hle (And.intro @hln hx0))))
 refine Ac ?_
 refine Ad ?_
 refine Ao ?_
 refine Ad ?_
 refine B9 ?_
 refine B8 ?_
 refine B9 ?_
 refine B8 ?_
 refine Cw ?_
 refine CD ?_
 iterate 2 refine B9 ?_
 refine B8 ?_
 refine CD ?_
 refine AH ?_
 refine Ad ?_
 refine B9 ?_
 refine B8 ?_
 refine Kj ?_
 refine CD ?_
 refine AH ?_
 refine Ad ?_
 refine B9 ?_
 refine B8 ?_
 have hc := Ag (E := (Fl.at_ 66)) (f := 70) (sp := Spec.pure FO) rfl
 have hs := @FO.eq_1
 refine H3 ?_
 refine KW ?_
 refine AH ?_
 refine Ad ?_
 have hx := hx0
 refine Ab (h21 _ (Ak (fun hb45 => ?_) (fun hb45 => ?_))); clear h21
 refine Ac ?_
 refine Ad ?_
 refine Ab (h15 _ (Aa fun N46 h46 => Ac ?_)); clear h15
 refine Ad ?_
 refine Ao ?_
 refine Ab (h46 _ (Ak (fun hb47 => ?_) (fun hb47 => ?_))); clear h46
 refine Aa fun N48 h48 => Ac ?_
 iterate 2 refine Ad ?_
 refine BD ?_
 refine A4 ?_
 refine Ab (h48 _ (Am ?_)); clear h48
 try simp only [Ae]
 have hg3 : g.length = 3 := by have := hb17; omega
 have hf : JB l P i = 5 := by unfold JB; rw [hxd, if_neg (by show ¬ g.length ≠ 3; omega), if_pos (by first | exact Or.inl ⟨hi0, by rw [hyd]; exact hlt⟩ | exact Or.inr (Or.inl rfl) | exact Or.inr (Or.inr (by have := hb45; simpa using this)))]
 have hr : Dj l P = (5, (i : Int)) := by unfold Dj; rw [if_neg (by rw [hz1]; simp), CS (i := i) (by rw [hf]; decide) i2 (by omega), hf]
 rw [hr]
 refine Aw ?_
 exact Au
 exact CJ hb47
 have hx := And.intro @AE hx0
 refine Aa fun N49 h49 => Ac ?_
 refine Ar ?_
 refine Aq ?_
 refine Hh ?_
 have hc := Ag (E := (Fl.at_ 66)) (f := 71) (sp := Spec.pure Kd) rfl
 have hs := @Kd.eq_1
 refine Ba ?_
 refine Ad ?_
 have hx := hx0
 refine Ab (h49 _ (Ak (fun hb50 => ?_) (fun hb50 => ?_))); clear h49
 refine Ac ?_
 refine Ad ?_
 refine Ab (h15 _ (Aa fun N51 h51 => Ac ?_)); clear h15
 refine Ad ?_
 refine Ao ?_
 refine Ab (h51 _ (Ak (fun hb52 => ?_) (fun hb52 => ?_))); clear h51
 refine Aa fun N53 h53 => Ac ?_
 iterate 2 refine Ad ?_
 refine BD ?_
 refine A4 ?_
 refine Ab (h53 _ (Am ?_)); clear h53
 try simp only [Ae]
 have hg3 : g.length = 3 := by have := hb17; omega
 have h5 : ¬ ((0 < i ∧ D3 (P.getD (i - 1) ([], [])).1 g = false) ∨ t = [] ∨ F1 t = false) := by
  have hinc : F1 t = true := by have := hb45; simpa using this
  rintro (⟨h1, h2⟩ | h | h)
  ·first | omega | (rw [hyd] at h2; rw [hlt] at h2; cases h2)
  ·exact hte h
  ·rw [hinc] at h; cases h
 have hf : JB l P i = 6 := by unfold JB; rw [hxd, if_neg (by show ¬ g.length ≠ 3; omega), if_neg h5, if_pos (by have := hb50; simpa using this)]
 have hr : Dj l P = (6, (i : Int)) := by unfold Dj; rw [if_neg (by rw [hz1]; simp), CS (i := i) (by rw [hf]; decide) i2 (by omega), hf]
 rw [hr]
 refine Aw ?_
 exact Au
 exact CJ hb52
 refine An ?_
 try simp only [Ae]
 refine h15 _ (Aa fun N54 h54 => Ac ?_); clear h15
 refine Ad ?_
 refine Ao ?_
 refine Ab (h54 _ (Ak (fun hb55 => ?_) (fun hb55 => ?_))); clear h54
 exact CJ hb55
 refine An ?_
 try simp only [Ae]
 refine h12 _ (Ac ?_); clear h12
 refine Ao ?_
 refine Ad ?_
 refine Ab ?_
 have hg3 : g.length = 3 := by have := hb17; omega
 have h5 : ¬ ((0 < i ∧ D3 (P.getD (i - 1) ([], [])).1 g = false) ∨ t = [] ∨ F1 t = false) := by
  have hinc : F1 t = true := by have := hb45; simpa using this
  rintro (⟨h1, h2⟩ | h | h)
  ·first | omega | (rw [hyd] at h2; rw [hlt] at h2; cases h2)
  ·exact hte h
  ·rw [hinc] at h; cases h
 have hf : JB l P i = 0 := by unfold JB; rw [hxd, if_neg (by show ¬ g.length ≠ 3; omega), if_neg h5, if_neg (by have := hb50; simpa using this)]
 refine h8 _ ⟨i + 1, ?_, ?_, [some 0, some 1], ?_⟩
 dsimp only
 exact ⟨by omega, Fv i2 hf⟩
 dsimp only
 omega
 dsimp only
 refine ⟨by rfl, ?_, ?_⟩
 refine Aj ?_
 exact Au
 refine Aj ?_
 exact Au
 refine AJ ?_
 simp only [Ae, Nat.reduceEqDiff, reduceIte, eq_self]
 refine h6 _ (Aa fun N56 h56 => Ac ?_); clear h6
 refine BD ?_
 refine A4 ?_
 refine Ab (h56 _ (Am ?_)); clear h56
 try simp only [Ae]
 have hr : Dj l P = (0, 0) := by unfold Dj; rw [if_neg (by rw [hz1]; simp), Cv (fun j hj => i2 j (by omega))]
 rw [hr]
 refine Aw ?_
 exact Au
 have hz1 := htx
 have hz2 := htx
 refine Ac ?_
 refine Aq ?_
 refine BD ?_
 refine Ao ?_
 refine Ab (h4 _ (Ak (fun hb57 => ?_) (fun hb57 => ?_))); clear h4
 refine Aa fun N58 h58 => Ac ?_
 refine Aq ?_
 refine A4 ?_
 refine Ab (h58 _ (Am ?_)); clear h58
 try simp only [Ae]
 have hr : Dj l P = KN l := by unfold Dj; rw [if_pos hz1]
 rw [hr]
 refine Aw ?_
 exact Au
 exact absurd (show (KN l).1 = 0 by have := hb57; first | exact this.1 | exact (Classical.not_not.1 this).1 | (simp at this; exact this.1)) hz1
 cases hg
def Me : Bq Tryz.prog := Fl.add 49 (Spec.pure KJ) Q9 (by kernel_rfl)
