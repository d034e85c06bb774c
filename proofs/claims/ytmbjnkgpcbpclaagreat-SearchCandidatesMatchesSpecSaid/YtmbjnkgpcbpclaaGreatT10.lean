/- Walks, printed by wip/gen/walk.py. -/
import Derived.Test.YtmbjnkgpcbpclaaGreatT9
import Derived.Test.YtmbjnkgpcbpclaaGreatV5
set_option linter.all false
set_option maxRecDepth 100000
set_option maxHeartbeats 4000000
namespace Go.Proofs.YtmbjnkgpcbpclaaGreat
open Go Go.Vc Go.RowKit
def Ju (P : Int → Bool) (l : List Int) : Int := if l.any P then (l.findIdx P : Nat) else -1
theorem P4 {P : Int → Bool} {l : List Int} {i : Nat} {x : Int} (h : l[i]? = some x) (hp : P x = true) (hn : ∀ y ∈ l.take i, P y = false) : Ju P l = i := by
  have ha : l.any P = true := List.any_eq_true.2 ⟨x, List.mem_of_getElem? h, hp⟩
  unfold Ju; rw [if_pos ha]
  congr 1
  clear ha
  induction l generalizing i with
  | nil => simp at h
  | cons a l ih =>
    cases i with
    | zero => simp only [List.getElem?_cons_zero, Option.some.injEq] at h; subst h; rw [List.findIdx_cons, hp]; rfl
    | succ i =>
      have h1 := hn a (by simp)
      rw [List.findIdx_cons, h1, ih (by simpa using h) (fun y hy => hn y (by simp [hy]))]; rfl
theorem K4 {P : Int → Bool} {l : List Int} (hn : ∀ y ∈ l, P y = false) : Ju P l = -1 := by
  unfold Ju; rw [if_neg]
  rw [List.any_eq_true]; rintro ⟨x, hx, h⟩; rw [hn x hx] at h; cases h
theorem SH (P : Int → Bool) (l : List Int) : decide (0 ≤ Ju P l) = l.any P := by
  unfold Ju; split
  · rename_i h; rw [h]; exact decide_eq_true (by omega)
  · rename_i h; rw [Bool.not_eq_true] at h; rw [h]; exact decide_eq_false (by omega)

def FF (ns : List Int) (p : Int) : Bool := !decide (p ∈ ns)
def NG : List AV → Option (Prop × AV)
  | [.d (.int .i64 p), .d (.ptr [.sl ns, _])] => some (ns = rows eI (dI ns) ∧ (dI ns).length ≤ 9223372036854775807, .d (.bool (FF (dI ns) p)))
  | _ => none
def Tg : List AV → Option (Prop × AV)
  | [.d (.sl xs), .clo (.func 72) [.d (.ptr [.sl ns, z])]] => some (xs = rows eI (dI xs) ∧ (dI xs).length ≤ 9223372036854775807 ∧ ns = rows eI (dI ns) ∧ (dI ns).length ≤ 9223372036854775807, .d (.int .i64 (Ju (FF (dI ns)) (dI xs))))
  | _ => none
def Jn : List AV → Option (Prop × AV)
  | [.d (.sl xs), .clo (.func 72) [.d (.ptr [.sl ns, z])]] => some (xs = rows eI (dI xs) ∧ (dI xs).length ≤ 9223372036854775807 ∧ ns = rows eI (dI ns) ∧ (dI ns).length ≤ 9223372036854775807, .d (.bool ((dI xs).any (FF (dI ns)))))
  | _ => none
theorem D7 {l : List Int} {k : Nat} {x : Int} {P : Int → Bool} (h : ∀ y ∈ l.take k, P y = false) (hx : l[k]? = some x) (hp : P x = false) : ∀ y ∈ l.take (k + 1), P y = false := So h hx hp
def EO (ts : List Int) (P : List AU) (i : Nat) : Int :=
  if (P.getD i ([], [])).1.length ≠ 3 then 9 else if (0 < i ∧ Dj (P.getD (i - 1) ([], [])).1 (P.getD i ([], [])).1 = false) ∨ (P.getD i ([], [])).2 = [] ∨ Dv (P.getD i ([], [])).2 = false then 5 else if (P.getD i ([], [])).2.any (FF ts) = true then 6 else 0
def Br (ts : List Int) (P : List AU) : Int × Int := if (HA ts).1 ≠ 0 then HA ts else BW (EO ts P) (fun i => (i : Int)) P.length
theorem K5 (f g : Nat → Int) : ∀ n, BW f g n = (0, 0) ∨ (BW f g n).1 ≠ 0
  | 0 => .inl rfl
  | n + 1 => by
    unfold BW
    split
    · exact .inr (by assumption)
    · split
      · exact .inr (by assumption)
      · exact .inl rfl
theorem Xv (l : List Int) : HA l = (0, 0) ∨ (HA l).1 ≠ 0 := by
  unfold HA; split
  · exact .inr (by decide)
  · exact K5 _ _ _
def EE (P : List AU) : Prop := ∀ p ∈ P, p.1.length ≤ 9223372036854775807 ∧ p.2.length ≤ 9223372036854775807
def Dt : List AV → Option (Prop × AV)
  | [.agg [.d (.sl xs), .d (.sl ps)]] => some (xs = rows eI (dI xs) ∧ (dI xs).length ≤ 9223372036854775807 ∧ ps = rows eP (dP ps) ∧ (dP ps).length ≤ 9223372036854775807 ∧ EE (dP ps), .agg [.d (.int .i64 (Br (dI xs) (dP ps)).1), .d (.int .i64 (Br (dI xs) (dP ps)).2)])
  | _ => none
theorem XO (P : List AU) (i : Nat) (g : Bs) (t : List Int) : (0 < i ∧ Dj (P.getD (i - 1) ([], [])).1 g = false) ∨ (i = 0 ∧ t = []) ∨ (i = 0 ∧ t ≠ []) ∨ (0 < i ∧ Dj (P.getD (i - 1) ([], [])).1 g = true ∧ t = []) ∨ (0 < i ∧ Dj (P.getD (i - 1) ([], [])).1 g = true ∧ t ≠ []) := by
  rcases Nat.eq_zero_or_pos i with h | h <;> by_cases ht : t = [] <;> cases hb : Dj (P.getD (i - 1) ([], [])).1 g <;> simp [h, ht, hb] <;> omega
theorem XT {a b : Bs} (h : Dj b a = false) : (Op.bytesLess a b || decide (a = b)) = true := by
  cases h' : Op.bytesLess a b with
  | true => rfl
  | false => simp [HK (a := a) (b := b) h' h]
theorem KK {a b : Bs} (h : Dj b a = true) : (Op.bytesLess a b || decide (a = b)) = false := by
  have h1 : Op.bytesLess a b = false := Kz h
  rw [h1, decide_eq_false (fun e => Od h e.symm)]; rfl
theorem P3 (g : Bs) (t : List Int) : eP (g, t) = [.str g, .sl (rows eI t)] := rfl

theorem Pi : A1 Tryz.prog 72 (Spec.pure NG) := by
 refine Az (GY.at_ 9) Tryz.func72 rfl rfl rfl ?_
 intro args p r hg hp
 unfold NG at hg
 split at hg
 rename_i p ns z
 simp only [Option.some.injEq, Prod.mk.injEq] at hg
 obtain ⟨rfl, rfl⟩ := hg
 obtain ⟨he, hl⟩ := hp
 generalize dI ns = l at *
 subst he
 have hT : (GY).X = T := rfl
 have hx0 := And.intro @AA (And.intro @FF.eq_1 @Tryz.results72)
 have hx := hx0
 refine ⟨by rfl, ?_⟩
 intro F W0 hnp hmk
 refine Aa fun N1 h1 => ?_
 refine Ad ?_
 try refine Ac ?_
 refine Ae ?_
 refine Ab ?_
 refine h1 _ ?_; clear h1
 refine Aa fun N2 h2 => ?_
 refine Ad ?_
 try refine Ac ?_
 refine At ?_
 refine Ap ?_
 refine Ae ?_
 have hc := Ag (E := (GY.at_ 9)) (f := 73) (sp := Spec.pure CD) rfl
 have hs := @CD.eq_1
 refine AS ?_
 refine Gl ?_
 refine Ae ?_
 refine Ab ?_
 refine h2 _ ?_; clear h2
 refine An ?_
 try simp only [Af]
 refine Ax ?_
 exact As
 cases hg

def Le : Bn Tryz.prog := GY.add 72 (Spec.pure NG) Pi (by kernel_rfl)

theorem QY : A1 Tryz.prog 80 (Spec.pure Tg) := by
 refine Az (Le.at_ 19) Tryz.func80 rfl rfl rfl ?_
 intro args p r hg hp
 unfold Tg at hg
 split at hg
 rename_i xs ns z
 simp only [Option.some.injEq, Prod.mk.injEq] at hg
 obtain ⟨rfl, rfl⟩ := hg
 obtain ⟨he, hl, hf, hm⟩ := hp
 generalize dI xs = l at *
 generalize dI ns = ns at *
 subst he hf
 have hT : (Le).X = T := rfl
 have hx0 := @Tryz.results80
 have hx := hx0
 refine ⟨by rfl, ?_⟩
 intro F W0 hnp hmk
 refine Aa fun N1 h1 => ?_
 refine Ad ?_
 try refine Ac ?_
 refine Ae ?_
 refine Ab ?_
 refine h1 _ ?_; clear h1
 refine Aa fun N2 h2 => ?_
 refine Aa fun N3 h3 => ?_
 refine Ad ?_
 try refine Ac ?_
 refine Ae ?_
 refine AZ ?_
 refine Ae ?_
 refine Ab ?_
 refine h3 _ ?_; clear h3
 refine Au ?_
 refine A0 (σ := Nat) (fun s => (fun k => k ≤ l.length ∧ ∀ y ∈ l.take k, FF ns y = false) s)
  (fun s => (fun k => [(0, .d (.sl (rows eI l))), (1, .clo (.func 72) [.d (.ptr [.sl (rows eI ns), z])]), (6, .d (.sl (rows eI l))), (7, .d (.int .i64 (l.length : Nat))), (8, .d (.int .i64 (k : Nat)))]) s)
  (fun s => (fun k => []) s) (fun s => (fun k => l.length - k) s) hnp 0 ?_ [] ?_ ?_
 dsimp only
 simp
 dsimp only
 refine ⟨by rfl, ?_, ?_⟩
 refine Aj ?_
 exact As
 refine Aj ?_
 exact As
 rintro k hinv N4 h4
 dsimp only at hinv ⊢
 obtain ⟨k1, k2⟩ := hinv
 refine Aa fun N5 h5 => ?_
 refine Ad ?_
 try refine Ac ?_
 refine Al ?_
 refine Ab ?_
 refine h5 _ ?_; clear h5
 refine Aa fun N6 h6 => ?_
 refine Ai (fun hb7 => ?_) (fun hb7 => ?_)
 obtain ⟨x, hxe⟩ := BG (l := l) (i := k) (by omega)
 refine Am ?_
 try simp only [Af]
 refine h6 _ ?_; clear h6
 refine Aa fun N8 h8 => ?_
 refine Au ?_
 refine Aa fun N9 h9 => ?_
 refine Ad ?_
 try refine Ac ?_
 iterate 2 refine Ae ?_
 refine Ab ?_
 refine h9 _ ?_; clear h9
 refine Aa fun N10 h10 => ?_
 have hx := And.intro @hxe (And.intro @eI.eq_1 hx0)
 refine Ad ?_
 try refine Ac ?_
 iterate 3 refine Ae ?_
 refine At ?_
 refine Ap ?_
 have hc := (rfl : ((Le.at_ 19)).Γ 72 = some (Spec.pure NG))
 have hs := (@NG.eq_1)
 refine Wb (hq := by (first | (rw [AA]; exact ⟨rfl, hm⟩) | exact A3)) ?_
 refine Ab ?_
 have hx := hx0
 refine h10 _ ?_; clear h10
 refine Ai (fun hb11 => ?_) (fun hb11 => ?_)
 have ht := hb11
 simp only [AA] at ht
 refine Aa fun N12 h12 => ?_
 refine Ad ?_
 try refine Ac ?_
 iterate 2 refine Ae ?_
 refine Ab ?_
 refine h12 _ ?_; clear h12
 refine An ?_
 try simp only [Af]
 rw [P4 hxe (by simpa using ht) k2]
 refine Ax ?_
 exact As
 have ht := hb11
 simp only [AA] at ht
 refine Am ?_
 try simp only [Af]
 refine h8 _ ?_; clear h8
 refine Ad ?_
 try refine Ac ?_
 refine Al ?_
 refine Ae ?_
 refine Ab ?_
 refine h4 _ ⟨k + 1, ?_, ?_, [], ?_⟩
 dsimp only
 exact ⟨by omega, D7 k2 hxe (by simpa using ht)⟩
 dsimp only
 omega
 dsimp only
 refine ⟨by rfl, ?_, ?_⟩
 refine Aj ?_
 exact As
 refine Aj ?_
 exact As
 refine AF ?_
 simp only [Af, Nat.reduceEqDiff, reduceIte, eq_self]
 refine h2 _ ?_; clear h2
 refine Aa fun N13 h13 => ?_
 refine Ad ?_
 try refine Ac ?_
 refine Ae ?_
 refine Ab ?_
 refine h13 _ ?_; clear h13
 refine An ?_
 try simp only [Af]
 rw [K4 (by rw [List.take_of_length_le (by omega)] at k2; exact k2)]
 refine Ax ?_
 exact As
 cases hg

def Pv : Bn Tryz.prog := Le.add 80 (Spec.pure Tg) QY (by kernel_rfl)

theorem On : A1 Tryz.prog 71 (Spec.pure Jn) := by
 refine Az (Pv.at_ 9) Tryz.func71 rfl rfl rfl ?_
 intro args p r hg hp
 unfold Jn at hg
 split at hg
 rename_i xs ns z
 simp only [Option.some.injEq, Prod.mk.injEq] at hg
 obtain ⟨rfl, rfl⟩ := hg
 obtain ⟨he, hl, hf, hm⟩ := hp
 generalize dI xs = l at *
 generalize dI ns = ns at *
 subst he hf
 have hT : (Pv).X = T := rfl
 have hx0 := @Tryz.results71
 have hx := hx0
 refine ⟨by rfl, ?_⟩
 intro F W0 hnp hmk
 refine Aa fun N1 h1 => ?_
 refine Ad ?_
 try refine Ac ?_
 refine Ae ?_
 refine Ab ?_
 refine h1 _ ?_; clear h1
 refine Aa fun N2 h2 => ?_
 have hx := And.intro @AA hx0
 refine Ad ?_
 try refine Ac ?_
 iterate 2 refine Ae ?_
 have hc := Ag (E := (Pv.at_ 9)) (f := 80) (sp := Spec.pure Tg) rfl
 have hs := @Tg.eq_1
 refine AS ?_
 refine Al ?_
 refine Ae ?_
 refine Ab ?_
 have hx := hx0
 refine h2 _ ?_; clear h2
 refine An ?_
 try simp only [Af]
 rw [← SH]
 refine Ax ?_
 exact As
 cases hg

def E6 : Bn Tryz.prog := Pv.add 71 (Spec.pure Jn) On (by kernel_rfl)

theorem Pk : A1 Tryz.prog 49 (Spec.pure Dt) := by
 refine Az (E6.at_ 66) Tryz.func49 rfl rfl rfl ?_
 intro args p r hg hp
 unfold Dt at hg
 split at hg
 rename_i xs ps
 simp only [Option.some.injEq, Prod.mk.injEq] at hg
 obtain ⟨rfl, rfl⟩ := hg
 obtain ⟨he, hl, he2, hl2, hsm⟩ := hp
 generalize dI xs = l at *
 generalize dP ps = P at *
 subst he he2
 have hT : (E6).X = T := rfl
 have hx0 := And.intro @Ci (And.intro @Ch (And.intro @DB (And.intro @P3 (And.intro @Bool.not_true (And.intro @Bool.not_false (And.intro @AA @Tryz.results49))))))
 have hx := hx0
 refine ⟨by rfl, ?_⟩
 intro F W0 hnp hmk
 refine Aa fun N1 h1 => ?_
 refine Ad ?_
 try refine Ac ?_
 refine EX ?_
 refine Bw ?_
 refine Ab ?_
 refine h1 _ ?_; clear h1
 refine Aa fun N2 h2 => ?_
 refine Aa fun N3 h3 => ?_
 refine Ad ?_
 try refine Ac ?_
 refine At ?_
 refine Ap ?_
 have hc := Ag (E := (E6.at_ 66)) (f := 69) (sp := Spec.pure Hi) rfl
 have hs := @Hi.eq_1
 refine AS ?_
 refine Bw ?_
 refine A4 ?_
 refine Ab ?_
 refine h3 _ ?_; clear h3
 refine Aa fun N4 h4 => ?_
 rcases Xv l with htx | htx
 have hz1 : (HA l).1 = 0 := by rw [htx]
 have hz2 : (HA l).2 = 0 := by rw [htx]
 refine Ad ?_
 try refine Ac ?_
 refine Ap ?_
 refine BL ?_
 refine Al ?_
 refine Ab ?_
 refine h4 _ ?_; clear h4
 refine Ai (fun hb5 => ?_) (fun hb5 => ?_)
 exact absurd (And.intro hz1 hz2) (by have := hb5; simpa using this)
 refine Am ?_
 try simp only [Af]
 refine h2 _ ?_; clear h2
 refine Aa fun N6 h6 => ?_
 refine Aa fun N7 h7 => ?_
 refine Ad ?_
 try refine Ac ?_
 refine At ?_
 refine Ap ?_
 refine AZ ?_
 refine Ae ?_
 refine Ab ?_
 refine h7 _ ?_; clear h7
 refine Au ?_
 refine A0 (σ := Nat) (fun s => (fun i => i ≤ P.length ∧ ∀ j, j < i → EO l P j = 0) s)
  (fun s => (fun i => [(1, .ptr 0 0 0), (2, .ptr 1 0 0), (15, .d (.sl (rows eP P))), (16, .d (.int .i64 (P.length : Nat))), (17, .d (.int .i64 (i : Nat)))]) s)
  (fun s => (fun i => [some (.one 49 [.d (.sl (rows eI l)), .d (.sl (rows eP P))]), some (.one 29 [.d (.int .i64 0), .d (.int .i64 0)])]) s) (fun s => (fun i => P.length - i) s) hnp 0 ?_ [some 0, some 1] ?_ ?_
 dsimp only
 exact ⟨by omega, fun j hj => by omega⟩
 dsimp only
 refine ⟨by rfl, ?_, ?_⟩
 refine Aj ?_
 exact As
 refine Aj ?_
 exact As
 rintro i hinv N8 h8
 dsimp only at hinv ⊢
 obtain ⟨i1, i2⟩ := hinv
 refine Aa fun N9 h9 => ?_
 refine Ad ?_
 try refine Ac ?_
 refine Al ?_
 refine Ab ?_
 refine h9 _ ?_; clear h9
 refine Aa fun N10 h10 => ?_
 refine Ai (fun hb11 => ?_) (fun hb11 => ?_)
 obtain ⟨p, hpe⟩ := BG (l := P) (i := i) (by omega)
 obtain ⟨g, t⟩ := p
 have hxe : P[i]? = some (g, t) := hpe
 have hxd : P.getD i ([], []) = (g, t) := B5 hxe
 obtain ⟨hgl, htl⟩ := hsm _ (AE hxe)
 refine Am ?_
 try simp only [Af]
 refine h10 _ ?_; clear h10
 refine Aa fun N12 h12 => ?_
 refine Au ?_
 refine Aa fun N13 h13 => ?_
 have hx := And.intro @hxe hx0
 refine Ad ?_
 try refine Ac ?_
 refine Ae ?_
 refine At ?_
 refine Ap ?_
 refine Bw ?_
 refine Ae ?_
 refine A4 ?_
 refine Ab ?_
 have hx := hx0
 refine h13 _ ?_; clear h13
 refine Aa fun N14 h14 => ?_
 refine Ad ?_
 try refine Ac ?_
 refine Ae ?_
 refine Ab ?_
 refine h14 _ ?_; clear h14
 refine Aa fun N15 h15 => ?_
 refine Au ?_
 refine Aa fun N16 h16 => ?_
 refine Ad ?_
 try refine Ac ?_
 refine At ?_
 refine Ap ?_
 refine AZ ?_
 refine Al ?_
 refine Ae ?_
 refine Ab ?_
 refine h16 _ ?_; clear h16
 refine Ai (fun hb17 => ?_) (fun hb17 => ?_)
 refine Ad ?_
 try refine Ac ?_
 refine Ae ?_
 refine Ab ?_
 refine h15 _ ?_; clear h15
 refine Aa fun N18 h18 => ?_
 refine Ad ?_
 try refine Ac ?_
 refine Ae ?_
 refine Al ?_
 refine Ab ?_
 refine h18 _ ?_; clear h18
 refine Ai (fun hb19 => ?_) (fun hb19 => ?_)
 refine Aa fun N20 h20 => ?_
 refine Ad ?_
 try refine Ac ?_
 iterate 2 refine Ae ?_
 refine BL ?_
 refine A4 ?_
 refine Ab ?_
 refine h20 _ ?_; clear h20
 refine An ?_
 try simp only [Af]
 have hf : EO l P i = 9 := by unfold EO; rw [hxd, if_pos (by show g.length ≠ 3; have := hb17; omega)]
 have hr : Br l P = (9, (i : Int)) := by unfold Br; rw [if_neg (by rw [hz1]; simp), Bh (i := i) (by rw [hf]; decide) i2 (by omega), hf]
 rw [hr]
 refine Ax ?_
 exact As
 ·first | omega | exact absurd trivial hb19 | contradiction | (simp_all; done)
 refine Aa fun N21 h21 => ?_
 rcases XO P i g t with hc5 | hc5 | hc5 | hc5 | hc5
 obtain ⟨hi0, hlt⟩ := hc5
 obtain ⟨q, hqe⟩ := BG (l := P) (i := i - 1) (by omega)
 obtain ⟨gy, ty⟩ := q
 have hye : P[i - 1]? = some (gy, ty) := hqe
 have hyd : P.getD (i - 1) ([], []) = (gy, ty) := B5 hye
 have hpm : ((i : Int) - 1).toNat = i - 1 := by omega
 have hgt : decide ((0 : Int) < (i : Int)) = true := decide_eq_true (by omega)
 rw [hyd] at hlt
 have hle := XT hlt
 have hln := hxe
 have hx := And.intro @hye (And.intro @hgt (And.intro @hpm (And.intro @hle (And.intro @hln hx0))))
 refine Ad ?_
 try refine Ac ?_
 refine Ae ?_
 refine Al ?_
 refine Ae ?_
 refine AK ?_
 refine AJ ?_
 refine AK ?_
 refine AJ ?_
 refine BI ?_
 refine B7 ?_
 iterate 2 refine AK ?_
 refine AJ ?_
 refine B7 ?_
 refine A7 ?_
 refine Ae ?_
 refine AK ?_
 refine AJ ?_
 refine I3 ?_
 refine B7 ?_
 refine A7 ?_
 refine Ae ?_
 refine AK ?_
 refine AJ ?_
 have hc := Ag (E := (E6.at_ 66)) (f := 70) (sp := Spec.pure CM) rfl
 have hs := @CM.eq_1
 refine ER ?_
 refine HP ?_
 refine A7 ?_
 refine Ae ?_
 refine Ab ?_
 have hx := hx0
 refine h21 _ ?_; clear h21
 refine Ai (fun hb22 => ?_) (fun hb22 => ?_)
 refine Ad ?_
 try refine Ac ?_
 refine Ae ?_
 refine Ab ?_
 refine h15 _ ?_; clear h15
 refine Aa fun N23 h23 => ?_
 refine Ad ?_
 try refine Ac ?_
 refine Ae ?_
 refine Al ?_
 refine Ab ?_
 refine h23 _ ?_; clear h23
 refine Ai (fun hb24 => ?_) (fun hb24 => ?_)
 refine Aa fun N25 h25 => ?_
 refine Ad ?_
 try refine Ac ?_
 iterate 2 refine Ae ?_
 refine BL ?_
 refine A4 ?_
 refine Ab ?_
 refine h25 _ ?_; clear h25
 refine An ?_
 try simp only [Af]
 have hg3 : g.length = 3 := by have := hb17; omega
 have hf : EO l P i = 5 := by unfold EO; rw [hxd, if_neg (by show ¬ g.length ≠ 3; omega), if_pos (by first | exact Or.inl ⟨hi0, by rw [hyd]; exact hlt⟩ | exact Or.inr (Or.inl rfl) | exact Or.inr (Or.inr (by have := hb22; simpa using this)))]
 have hr : Br l P = (5, (i : Int)) := by unfold Br; rw [if_neg (by rw [hz1]; simp), Bh (i := i) (by rw [hf]; decide) i2 (by omega), hf]
 rw [hr]
 refine Ax ?_
 exact As
 ·first | omega | exact absurd trivial hb24 | contradiction | (simp_all; done)
 ·first | omega | exact absurd trivial hb22 | contradiction | (simp_all; done)
 obtain ⟨hi0, hte⟩ := hc5
 have hgt : decide ((0 : Int) < (i : Int)) = false := decide_eq_false (by omega)
 have hye := hxe
 have hpm := hxe
 have hle := hxe
 subst hte
 have hln : decide ((([] : List Int).length : Int) = 0) = true := rfl
 have hln2 := hxe
 have hx := And.intro @hye (And.intro @hgt (And.intro @hpm (And.intro @hle (And.intro @hln hx0))))
 refine Ad ?_
 try refine Ac ?_
 refine Ae ?_
 refine Al ?_
 refine Ae ?_
 refine AK ?_
 refine AJ ?_
 refine AK ?_
 refine AJ ?_
 refine BI ?_
 refine B7 ?_
 iterate 2 refine AK ?_
 refine AJ ?_
 refine B7 ?_
 refine A7 ?_
 refine Ae ?_
 refine AK ?_
 refine AJ ?_
 refine I3 ?_
 refine B7 ?_
 refine A7 ?_
 refine Ae ?_
 refine AK ?_
 refine AJ ?_
 have hc := Ag (E := (E6.at_ 66)) (f := 70) (sp := Spec.pure CM) rfl
 have hs := @CM.eq_1
 refine ER ?_
 refine HP ?_
 refine A7 ?_
 refine Ae ?_
 refine Ab ?_
 have hx := hx0
 refine h21 _ ?_; clear h21
 refine Ai (fun hb26 => ?_) (fun hb26 => ?_)
 refine Ad ?_
 try refine Ac ?_
 refine Ae ?_
 refine Ab ?_
 refine h15 _ ?_; clear h15
 refine Aa fun N27 h27 => ?_
 refine Ad ?_
 try refine Ac ?_
 refine Ae ?_
 refine Al ?_
 refine Ab ?_
 refine h27 _ ?_; clear h27
 refine Ai (fun hb28 => ?_) (fun hb28 => ?_)
 refine Aa fun N29 h29 => ?_
 refine Ad ?_
 try refine Ac ?_
 iterate 2 refine Ae ?_
 refine BL ?_
 refine A4 ?_
 refine Ab ?_
 refine h29 _ ?_; clear h29
 refine An ?_
 try simp only [Af]
 have hg3 : g.length = 3 := by have := hb17; omega
 have hf : EO l P i = 5 := by unfold EO; rw [hxd, if_neg (by show ¬ g.length ≠ 3; omega), if_pos (by first | exact Or.inl ⟨hi0, by rw [hyd]; exact hlt⟩ | exact Or.inr (Or.inl rfl) | exact Or.inr (Or.inr (by have := hb26; simpa using this)))]
 have hr : Br l P = (5, (i : Int)) := by unfold Br; rw [if_neg (by rw [hz1]; simp), Bh (i := i) (by rw [hf]; decide) i2 (by omega), hf]
 rw [hr]
 refine Ax ?_
 exact As
 ·first | omega | exact absurd trivial hb28 | contradiction | (simp_all; done)
 ·first | omega | exact absurd trivial hb26 | contradiction | (simp_all; done)
 obtain ⟨hi0, hte⟩ := hc5
 have hgt : decide ((0 : Int) < (i : Int)) = false := decide_eq_false (by omega)
 have hye := hxe
 have hpm := hxe
 have hle := hxe
 have hln : decide ((t.length : Int) = 0) = false := decide_eq_false (fun h => hte (List.eq_nil_of_length_eq_zero (by omega)))
 have hln2 := hxe
 have hx := And.intro @hye (And.intro @hgt (And.intro @hpm (And.intro @hle (And.intro @hln hx0))))
 refine Ad ?_
 try refine Ac ?_
 refine Ae ?_
 refine Al ?_
 refine Ae ?_
 refine AK ?_
 refine AJ ?_
 refine AK ?_
 refine AJ ?_
 refine BI ?_
 refine B7 ?_
 iterate 2 refine AK ?_
 refine AJ ?_
 refine B7 ?_
 refine A7 ?_
 refine Ae ?_
 refine AK ?_
 refine AJ ?_
 refine I3 ?_
 refine B7 ?_
 refine A7 ?_
 refine Ae ?_
 refine AK ?_
 refine AJ ?_
 have hc := Ag (E := (E6.at_ 66)) (f := 70) (sp := Spec.pure CM) rfl
 have hs := @CM.eq_1
 refine ER ?_
 refine HP ?_
 refine A7 ?_
 refine Ae ?_
 refine Ab ?_
 have hx := hx0
 refine h21 _ ?_; clear h21
 refine Ai (fun hb30 => ?_) (fun hb30 => ?_)
 refine Ad ?_
 try refine Ac ?_
 refine Ae ?_
 refine Ab ?_
 refine h15 _ ?_; clear h15
 refine Aa fun N31 h31 => ?_
 refine Ad ?_
 try refine Ac ?_
 refine Ae ?_
 refine Al ?_
 refine Ab ?_
 refine h31 _ ?_; clear h31
 refine Ai (fun hb32 => ?_) (fun hb32 => ?_)
 refine Aa fun N33 h33 => ?_
 refine Ad ?_
 try refine Ac ?_
 iterate 2 refine Ae ?_
 refine BL ?_
 refine A4 ?_
 refine Ab ?_
 refine h33 _ ?_; clear h33
 refine An ?_
 try simp only [Af]
 have hg3 : g.length = 3 := by have := hb17; omega
 have hf : EO l P i = 5 := by unfold EO; rw [hxd, if_neg (by show ¬ g.length ≠ 3; omega), if_pos (by first | exact Or.inl ⟨hi0, by rw [hyd]; exact hlt⟩ | exact Or.inr (Or.inl rfl) | exact Or.inr (Or.inr (by have := hb30; simpa using this)))]
 have hr : Br l P = (5, (i : Int)) := by unfold Br; rw [if_neg (by rw [hz1]; simp), Bh (i := i) (by rw [hf]; decide) i2 (by omega), hf]
 rw [hr]
 refine Ax ?_
 exact As
 ·first | omega | exact absurd trivial hb32 | contradiction | (simp_all; done)
 refine Aa fun N34 h34 => ?_
 have hx := And.intro @AA hx0
 refine Ad ?_
 try refine Ac ?_
 refine At ?_
 refine Ap ?_
 refine GW ?_
 have hc := Ag (E := (E6.at_ 66)) (f := 71) (sp := Spec.pure Jn) rfl
 have hs := @Jn.eq_1
 refine AS ?_
 refine Ae ?_
 refine Ab ?_
 have hx := hx0
 refine h34 _ ?_; clear h34
 refine Ai (fun hb35 => ?_) (fun hb35 => ?_)
 refine Ad ?_
 try refine Ac ?_
 refine Ae ?_
 refine Ab ?_
 refine h15 _ ?_; clear h15
 refine Aa fun N36 h36 => ?_
 refine Ad ?_
 try refine Ac ?_
 refine Ae ?_
 refine Al ?_
 refine Ab ?_
 refine h36 _ ?_; clear h36
 refine Ai (fun hb37 => ?_) (fun hb37 => ?_)
 refine Aa fun N38 h38 => ?_
 refine Ad ?_
 try refine Ac ?_
 iterate 2 refine Ae ?_
 refine BL ?_
 refine A4 ?_
 refine Ab ?_
 refine h38 _ ?_; clear h38
 refine An ?_
 try simp only [Af]
 have hg3 : g.length = 3 := by have := hb17; omega
 have h5 : ¬ ((0 < i ∧ Dj (P.getD (i - 1) ([], [])).1 g = false) ∨ t = [] ∨ Dv t = false) := by
  have hinc : Dv t = true := by have := hb30; simpa using this
  rintro (⟨h1, h2⟩ | h | h)
  ·first | omega | (rw [hyd] at h2; rw [hlt] at h2; cases h2)
  ·exact hte h
  ·rw [hinc] at h; cases h
 have hf : EO l P i = 6 := by unfold EO; rw [hxd, if_neg (by show ¬ g.length ≠ 3; omega), if_neg h5, if_pos (by have := hb35; simpa using this)]
 have hr : Br l P = (6, (i : Int)) := by unfold Br; rw [if_neg (by rw [hz1]; simp), Bh (i := i) (by rw [hf]; decide) i2 (by omega), hf]
 rw [hr]
 refine Ax ?_
 exact As
 ·first | omega | exact absurd trivial hb37 | contradiction | (simp_all; done)
 refine Am ?_
 try simp only [Af]
 refine h15 _ ?_; clear h15
 refine Aa fun N39 h39 => ?_
 refine Ad ?_
 try refine Ac ?_
 refine Ae ?_
 refine Al ?_
 refine Ab ?_
 refine h39 _ ?_; clear h39
 refine Ai (fun hb40 => ?_) (fun hb40 => ?_)
 ·first | omega | exact absurd trivial hb40 | contradiction | (simp_all; done)
 refine Am ?_
 try simp only [Af]
 refine h12 _ ?_; clear h12
 refine Ad ?_
 try refine Ac ?_
 refine Al ?_
 refine Ae ?_
 refine Ab ?_
 have hg3 : g.length = 3 := by have := hb17; omega
 have h5 : ¬ ((0 < i ∧ Dj (P.getD (i - 1) ([], [])).1 g = false) ∨ t = [] ∨ Dv t = false) := by
  have hinc : Dv t = true := by have := hb30; simpa using this
  rintro (⟨h1, h2⟩ | h | h)
  ·first | omega | (rw [hyd] at h2; rw [hlt] at h2; cases h2)
  ·exact hte h
  ·rw [hinc] at h; cases h
 have hf : EO l P i = 0 := by unfold EO; rw [hxd, if_neg (by show ¬ g.length ≠ 3; omega), if_neg h5, if_neg (by have := hb35; simpa using this)]
 refine h8 _ ⟨i + 1, ?_, ?_, [some 0, some 1], ?_⟩
 dsimp only
 exact ⟨by omega, De i2 hf⟩
 dsimp only
 omega
 dsimp only
 refine ⟨by rfl, ?_, ?_⟩
 refine Aj ?_
 exact As
 refine Aj ?_
 exact As
 obtain ⟨hi0, hlt, hte⟩ := hc5
 obtain ⟨q, hqe⟩ := BG (l := P) (i := i - 1) (by omega)
 obtain ⟨gy, ty⟩ := q
 have hye : P[i - 1]? = some (gy, ty) := hqe
 have hyd : P.getD (i - 1) ([], []) = (gy, ty) := B5 hye
 have hpm : ((i : Int) - 1).toNat = i - 1 := by omega
 have hgt : decide ((0 : Int) < (i : Int)) = true := decide_eq_true (by omega)
 rw [hyd] at hlt
 have hle := KK hlt
 subst hte
 have hln : decide ((([] : List Int).length : Int) = 0) = true := rfl
 have hln2 := hxe
 have hx := And.intro @hye (And.intro @hgt (And.intro @hpm (And.intro @hle (And.intro @hln hx0))))
 refine Ad ?_
 try refine Ac ?_
 refine Ae ?_
 refine Al ?_
 refine Ae ?_
 refine AK ?_
 refine AJ ?_
 refine AK ?_
 refine AJ ?_
 refine BI ?_
 refine B7 ?_
 iterate 2 refine AK ?_
 refine AJ ?_
 refine B7 ?_
 refine A7 ?_
 refine Ae ?_
 refine AK ?_
 refine AJ ?_
 refine I3 ?_
 refine B7 ?_
 refine A7 ?_
 refine Ae ?_
 refine AK ?_
 refine AJ ?_
 have hc := Ag (E := (E6.at_ 66)) (f := 70) (sp := Spec.pure CM) rfl
 have hs := @CM.eq_1
 refine ER ?_
 refine HP ?_
 refine A7 ?_
 refine Ae ?_
 refine Ab ?_
 have hx := hx0
 refine h21 _ ?_; clear h21
 refine Ai (fun hb41 => ?_) (fun hb41 => ?_)
 refine Ad ?_
 try refine Ac ?_
 refine Ae ?_
 refine Ab ?_
 refine h15 _ ?_; clear h15
 refine Aa fun N42 h42 => ?_
 refine Ad ?_
 try refine Ac ?_
 refine Ae ?_
 refine Al ?_
 refine Ab ?_
 refine h42 _ ?_; clear h42
 refine Ai (fun hb43 => ?_) (fun hb43 => ?_)
 refine Aa fun N44 h44 => ?_
 refine Ad ?_
 try refine Ac ?_
 iterate 2 refine Ae ?_
 refine BL ?_
 refine A4 ?_
 refine Ab ?_
 refine h44 _ ?_; clear h44
 refine An ?_
 try simp only [Af]
 have hg3 : g.length = 3 := by have := hb17; omega
 have hf : EO l P i = 5 := by unfold EO; rw [hxd, if_neg (by show ¬ g.length ≠ 3; omega), if_pos (by first | exact Or.inl ⟨hi0, by rw [hyd]; exact hlt⟩ | exact Or.inr (Or.inl rfl) | exact Or.inr (Or.inr (by have := hb41; simpa using this)))]
 have hr : Br l P = (5, (i : Int)) := by unfold Br; rw [if_neg (by rw [hz1]; simp), Bh (i := i) (by rw [hf]; decide) i2 (by omega), hf]
 rw [hr]
 refine Ax ?_
 exact As
 ·first | omega | exact absurd trivial hb43 | contradiction | (simp_all; done)
 ·first | omega | exact absurd trivial hb41 | contradiction | (simp_all; done)
 obtain ⟨hi0, hlt, hte⟩ := hc5
 obtain ⟨q, hqe⟩ := BG (l := P) (i := i - 1) (by omega)
 obtain ⟨gy, ty⟩ := q
 have hye : P[i - 1]? = some (gy, ty) := hqe
 have hyd : P.getD (i - 1) ([], []) = (gy, ty) := B5 hye
 have hpm : ((i : Int) - 1).toNat = i - 1 := by omega
 have hgt : decide ((0 : Int) < (i : Int)) = true := decide_eq_true (by omega)
 rw [hyd] at hlt
 have hle := KK hlt
 have hln : decide ((t.length : Int) = 0) = false := decide_eq_false (fun h => hte (List.eq_nil_of_length_eq_zero (by omega)))
 have hln2 := hxe
 have hx := And.intro @hye (And.intro @hgt (And.intro @hpm (And.intro @hle (And.intro @hln hx0))))
 refine Ad ?_
 try refine Ac ?_
 refine Ae ?_
 refine Al ?_
 refine Ae ?_
 refine AK ?_
 refine AJ ?_
 refine AK ?_
 refine AJ ?_
 refine BI ?_
 refine B7 ?_
 iterate 2 refine AK ?_
 refine AJ ?_
 refine B7 ?_
 refine A7 ?_
 refine Ae ?_
 refine AK ?_
 refine AJ ?_
 refine I3 ?_
 refine B7 ?_
 refine A7 ?_
 refine Ae ?_
 refine AK ?_
 refine AJ ?_
 have hc := Ag (E := (E6.at_ 66)) (f := 70) (sp := Spec.pure CM) rfl
 have hs := @CM.eq_1
 refine ER ?_
 refine HP ?_
 refine A7 ?_
 refine Ae ?_
 refine Ab ?_
 have hx := hx0
 refine h21 _ ?_; clear h21
 refine Ai (fun hb45 => ?_) (fun hb45 => ?_)
 refine Ad ?_
 try refine Ac ?_
 refine Ae ?_
 refine Ab ?_
 refine h15 _ ?_; clear h15
 refine Aa fun N46 h46 => ?_
 refine Ad ?_
 try refine Ac ?_
 refine Ae ?_
 refine Al ?_
 refine Ab ?_
 refine h46 _ ?_; clear h46
 refine Ai (fun hb47 => ?_) (fun hb47 => ?_)
 refine Aa fun N48 h48 => ?_
 refine Ad ?_
 try refine Ac ?_
 iterate 2 refine Ae ?_
 refine BL ?_
 refine A4 ?_
 refine Ab ?_
 refine h48 _ ?_; clear h48
 refine An ?_
 try simp only [Af]
 have hg3 : g.length = 3 := by have := hb17; omega
 have hf : EO l P i = 5 := by unfold EO; rw [hxd, if_neg (by show ¬ g.length ≠ 3; omega), if_pos (by first | exact Or.inl ⟨hi0, by rw [hyd]; exact hlt⟩ | exact Or.inr (Or.inl rfl) | exact Or.inr (Or.inr (by have := hb45; simpa using this)))]
 have hr : Br l P = (5, (i : Int)) := by unfold Br; rw [if_neg (by rw [hz1]; simp), Bh (i := i) (by rw [hf]; decide) i2 (by omega), hf]
 rw [hr]
 refine Ax ?_
 exact As
 ·first | omega | exact absurd trivial hb47 | contradiction | (simp_all; done)
 refine Aa fun N49 h49 => ?_
 have hx := And.intro @AA hx0
 refine Ad ?_
 try refine Ac ?_
 refine At ?_
 refine Ap ?_
 refine GW ?_
 have hc := Ag (E := (E6.at_ 66)) (f := 71) (sp := Spec.pure Jn) rfl
 have hs := @Jn.eq_1
 refine AS ?_
 refine Ae ?_
 refine Ab ?_
 have hx := hx0
 refine h49 _ ?_; clear h49
 refine Ai (fun hb50 => ?_) (fun hb50 => ?_)
 refine Ad ?_
 try refine Ac ?_
 refine Ae ?_
 refine Ab ?_
 refine h15 _ ?_; clear h15
 refine Aa fun N51 h51 => ?_
 refine Ad ?_
 try refine Ac ?_
 refine Ae ?_
 refine Al ?_
 refine Ab ?_
 refine h51 _ ?_; clear h51
 refine Ai (fun hb52 => ?_) (fun hb52 => ?_)
 refine Aa fun N53 h53 => ?_
 refine Ad ?_
 try refine Ac ?_
 iterate 2 refine Ae ?_
 refine BL ?_
 refine A4 ?_
 refine Ab ?_
 refine h53 _ ?_; clear h53
 refine An ?_
 try simp only [Af]
 have hg3 : g.length = 3 := by have := hb17; omega
 have h5 : ¬ ((0 < i ∧ Dj (P.getD (i - 1) ([], [])).1 g = false) ∨ t = [] ∨ Dv t = false) := by
  have hinc : Dv t = true := by have := hb45; simpa using this
  rintro (⟨h1, h2⟩ | h | h)
  ·first | omega | (rw [hyd] at h2; rw [hlt] at h2; cases h2)
  ·exact hte h
  ·rw [hinc] at h; cases h
 have hf : EO l P i = 6 := by unfold EO; rw [hxd, if_neg (by show ¬ g.length ≠ 3; omega), if_neg h5, if_pos (by have := hb50; simpa using this)]
 have hr : Br l P = (6, (i : Int)) := by unfold Br; rw [if_neg (by rw [hz1]; simp), Bh (i := i) (by rw [hf]; decide) i2 (by omega), hf]
 rw [hr]
 refine Ax ?_
 exact As
 ·first | omega | exact absurd trivial hb52 | contradiction | (simp_all; done)
 refine Am ?_
 try simp only [Af]
 refine h15 _ ?_; clear h15
 refine Aa fun N54 h54 => ?_
 refine Ad ?_
 try refine Ac ?_
 refine Ae ?_
 refine Al ?_
 refine Ab ?_
 refine h54 _ ?_; clear h54
 refine Ai (fun hb55 => ?_) (fun hb55 => ?_)
 ·first | omega | exact absurd trivial hb55 | contradiction | (simp_all; done)
 refine Am ?_
 try simp only [Af]
 refine h12 _ ?_; clear h12
 refine Ad ?_
 try refine Ac ?_
 refine Al ?_
 refine Ae ?_
 refine Ab ?_
 have hg3 : g.length = 3 := by have := hb17; omega
 have h5 : ¬ ((0 < i ∧ Dj (P.getD (i - 1) ([], [])).1 g = false) ∨ t = [] ∨ Dv t = false) := by
  have hinc : Dv t = true := by have := hb45; simpa using this
  rintro (⟨h1, h2⟩ | h | h)
  ·first | omega | (rw [hyd] at h2; rw [hlt] at h2; cases h2)
  ·exact hte h
  ·rw [hinc] at h; cases h
 have hf : EO l P i = 0 := by unfold EO; rw [hxd, if_neg (by show ¬ g.length ≠ 3; omega), if_neg h5, if_neg (by have := hb50; simpa using this)]
 refine h8 _ ⟨i + 1, ?_, ?_, [some 0, some 1], ?_⟩
 dsimp only
 exact ⟨by omega, De i2 hf⟩
 dsimp only
 omega
 dsimp only
 refine ⟨by rfl, ?_, ?_⟩
 refine Aj ?_
 exact As
 refine Aj ?_
 exact As
 refine AF ?_
 simp only [Af, Nat.reduceEqDiff, reduceIte, eq_self]
 refine h6 _ ?_; clear h6
 refine Aa fun N56 h56 => ?_
 refine Ad ?_
 try refine Ac ?_
 refine BL ?_
 refine A4 ?_
 refine Ab ?_
 refine h56 _ ?_; clear h56
 refine An ?_
 try simp only [Af]
 have hr : Br l P = (0, 0) := by unfold Br; rw [if_neg (by rw [hz1]; simp), Cc (fun j hj => i2 j (by omega))]
 rw [hr]
 refine Ax ?_
 exact As
 have hz1 := htx
 have hz2 := htx
 refine Ad ?_
 try refine Ac ?_
 refine Ap ?_
 refine BL ?_
 refine Al ?_
 refine Ab ?_
 refine h4 _ ?_; clear h4
 refine Ai (fun hb57 => ?_) (fun hb57 => ?_)
 refine Aa fun N58 h58 => ?_
 refine Ad ?_
 try refine Ac ?_
 refine Ap ?_
 refine A4 ?_
 refine Ab ?_
 refine h58 _ ?_; clear h58
 refine An ?_
 try simp only [Af]
 have hr : Br l P = HA l := by unfold Br; rw [if_pos hz1]
 rw [hr]
 refine Ax ?_
 exact As
 exact absurd (show (HA l).1 = 0 by have := hb57; first | exact this.1 | exact (Classical.not_not.1 this).1 | (simp at this; exact this.1)) hz1
 cases hg

def NS : Bn Tryz.prog := E6.add 49 (Spec.pure Dt) Pk (by kernel_rfl)
end Go.Proofs.YtmbjnkgpcbpclaaGreat
