/- Walks, printed by wip/gen/walk.py. -/
import Derived.Test.YtmbjnkgpcbpclaaGreatT9
import Derived.Test.YtmbjnkgpcbpclaaGreatV5
set_option linter.all false
set_option maxRecDepth 100000
set_option maxHeartbeats 4000000
namespace Go.Proofs.YtmbjnkgpcbpclaaGreat
open Go Go.Vc Go.RowKit
def IW (P : Int → Bool) (l : List Int) : Int := if l.any P then (l.findIdx P : Nat) else -1
theorem OI {P : Int → Bool} {l : List Int} {i : Nat} {x : Int} (h : l[i]? = some x) (hp : P x = true) (hn : ∀ y ∈ l.take i, P y = false) : IW P l = i := by
  have ha : l.any P = true := List.any_eq_true.2 ⟨x, List.mem_of_getElem? h, hp⟩
  unfold IW; rw [if_pos ha]
  congr 1
  clear ha
  induction l generalizing i with
  | nil => simp at h
  | cons a l ih =>
    cases i with
    | zero => simp only [List.getElem?_cons_zero, Option.some.injEq] at h; subst h; rw [List.findIdx_cons, hp]; rfl
    | succ i =>
      have h1 := hn a (by simp)
      rw [List.findIdx_cons, h1, ih (by simpa using h) (fun y hy => hn y (by simp [hy]))]; rfl
theorem Ka {P : Int → Bool} {l : List Int} (hn : ∀ y ∈ l, P y = false) : IW P l = -1 := by
  unfold IW; rw [if_neg]
  rw [List.any_eq_true]; rintro ⟨x, hx, h⟩; rw [hn x hx] at h; cases h
theorem RK (P : Int → Bool) (l : List Int) : decide (0 ≤ IW P l) = l.any P := by
  unfold IW; split
  · rename_i h; rw [h]; exact decide_eq_true (by omega)
  · rename_i h; rw [Bool.not_eq_true] at h; rw [h]; exact decide_eq_false (by omega)

def Ln (ns : List Int) (p : Int) : Bool := !decide (p ∈ ns)
def MT : List AV → Option (Prop × AV)
  | [.d (.int .i64 p), .d (.ptr [.sl ns, _])] => some (ns = rows eI (dI ns) ∧ (dI ns).length ≤ 9223372036854775807, .d (.bool (Ln (dI ns) p)))
  | _ => none
def Sl : List AV → Option (Prop × AV)
  | [.d (.sl xs), .clo (.func 72) [.d (.ptr [.sl ns, z])]] => some (xs = rows eI (dI xs) ∧ (dI xs).length ≤ 9223372036854775807 ∧ ns = rows eI (dI ns) ∧ (dI ns).length ≤ 9223372036854775807, .d (.int .i64 (IW (Ln (dI ns)) (dI xs))))
  | _ => none
def IM : List AV → Option (Prop × AV)
  | [.d (.sl xs), .clo (.func 72) [.d (.ptr [.sl ns, z])]] => some (xs = rows eI (dI xs) ∧ (dI xs).length ≤ 9223372036854775807 ∧ ns = rows eI (dI ns) ∧ (dI ns).length ≤ 9223372036854775807, .d (.bool ((dI xs).any (Ln (dI ns)))))
  | _ => none
theorem F5 {l : List Int} {k : Nat} {x : Int} {P : Int → Bool} (h : ∀ y ∈ l.take k, P y = false) (hx : l[k]? = some x) (hp : P x = false) : ∀ y ∈ l.take (k + 1), P y = false := Rq h hx hp
def Ix (ts : List Int) (P : List AM) (i : Nat) : Int :=
  if (P.getD i ([], [])).1.length ≠ 3 then 9 else if (0 < i ∧ Dc (P.getD (i - 1) ([], [])).1 (P.getD i ([], [])).1 = false) ∨ (P.getD i ([], [])).2 = [] ∨ E3 (P.getD i ([], [])).2 = false then 5 else if (P.getD i ([], [])).2.any (Ln ts) = true then 6 else 0
def Ca (ts : List Int) (P : List AM) : Int × Int := if (J2 ts).1 ≠ 0 then J2 ts else CN (Ix ts P) (fun i => (i : Int)) P.length
theorem Kb (f g : Nat → Int) : ∀ n, CN f g n = (0, 0) ∨ (CN f g n).1 ≠ 0
  | 0 => .inl rfl
  | n + 1 => by
    unfold CN
    split
    · exact .inr (by assumption)
    · split
      · exact .inr (by assumption)
      · exact .inl rfl
theorem W5 (l : List Int) : J2 l = (0, 0) ∨ (J2 l).1 ≠ 0 := by
  unfold J2; split
  · exact .inr (by decide)
  · exact Kb _ _ _
def Fo (P : List AM) : Prop := ∀ p ∈ P, p.1.length ≤ 9223372036854775807 ∧ p.2.length ≤ 9223372036854775807
def EZ : List AV → Option (Prop × AV)
  | [.agg [.d (.sl xs), .d (.sl ps)]] => some (xs = rows eI (dI xs) ∧ (dI xs).length ≤ 9223372036854775807 ∧ ps = rows eP (dP ps) ∧ (dP ps).length ≤ 9223372036854775807 ∧ Fo (dP ps), .agg [.d (.int .i64 (Ca (dI xs) (dP ps)).1), .d (.int .i64 (Ca (dI xs) (dP ps)).2)])
  | _ => none
theorem XX (P : List AM) (i : Nat) (g : Bs) (t : List Int) : (0 < i ∧ Dc (P.getD (i - 1) ([], [])).1 g = false) ∨ (i = 0 ∧ t = []) ∨ (i = 0 ∧ t ≠ []) ∨ (0 < i ∧ Dc (P.getD (i - 1) ([], [])).1 g = true ∧ t = []) ∨ (0 < i ∧ Dc (P.getD (i - 1) ([], [])).1 g = true ∧ t ≠ []) := by
  rcases Nat.eq_zero_or_pos i with h | h <;> by_cases ht : t = [] <;> cases hb : Dc (P.getD (i - 1) ([], [])).1 g <;> simp [h, ht, hb] <;> omega
theorem Xe {a b : Bs} (h : Dc b a = false) : (Op.bytesLess a b || decide (a = b)) = true := by
  cases h' : Op.bytesLess a b with
  | true => rfl
  | false => simp [Hv (a := a) (b := b) h' h]
theorem Kt {a b : Bs} (h : Dc b a = true) : (Op.bytesLess a b || decide (a = b)) = false := by
  have h1 : Op.bytesLess a b = false := JV h
  rw [h1, decide_eq_false (fun e => Np h e.symm)]; rfl
theorem Vu (g : Bs) (t : List Int) : eP (g, t) = [.str g, .sl (rows eI t)] := rfl

theorem Ot : A5 Tryz.prog 72 (Spec.pure MT) := by
 refine A7 (GH.at_ 9) Tryz.func72 rfl rfl rfl ?_
 intro args p r hg hp
 unfold MT at hg
 split at hg
 rename_i p ns z
 simp only [Option.some.injEq, Prod.mk.injEq] at hg
 obtain ⟨rfl, rfl⟩ := hg
 obtain ⟨he, hl⟩ := hp
 generalize dI ns = l at *
 subst he
 have hT : (GH).X = T := rfl
 have hx0 := And.intro @AJ (And.intro @Ln.eq_1 @Tryz.results72)
 have hx := hx0
 refine ⟨by rfl, ?_⟩
 intro F W0 hnp hmk
 refine Aa fun N1 h1 => ?_
 refine Ad ?_
 try refine Ac ?_
 refine Ae ?_
 refine Ab ?_
 refine h1 _ ?_; clear h1
 refine Aa fun N2 h2 => ?_
 refine Ad ?_
 try refine Ac ?_
 refine Au ?_
 refine Ar ?_
 refine Ae ?_
 have hc := Ah (E := (GH.at_ 9)) (f := 73) (sp := Spec.pure C2) rfl
 have hs := @C2.eq_1
 refine BF ?_
 refine Ik ?_
 refine Ae ?_
 refine Ab ?_
 refine h2 _ ?_; clear h2
 refine Ao ?_
 try simp only [Af]
 refine A3 ?_
 exact At
 cases hg

def KC : Bo Tryz.prog := GH.add 72 (Spec.pure MT) Ot (by kernel_rfl)

theorem Qf : A5 Tryz.prog 80 (Spec.pure Sl) := by
 refine A7 (KC.at_ 19) Tryz.func80 rfl rfl rfl ?_
 intro args p r hg hp
 unfold Sl at hg
 split at hg
 rename_i xs ns z
 simp only [Option.some.injEq, Prod.mk.injEq] at hg
 obtain ⟨rfl, rfl⟩ := hg
 obtain ⟨he, hl, hf, hm⟩ := hp
 generalize dI xs = l at *
 generalize dI ns = ns at *
 subst he hf
 have hT : (KC).X = T := rfl
 have hx0 := @Tryz.results80
 have hx := hx0
 refine ⟨by rfl, ?_⟩
 intro F W0 hnp hmk
 refine Aa fun N1 h1 => ?_
 refine Ad ?_
 try refine Ac ?_
 refine Ae ?_
 refine Ab ?_
 refine h1 _ ?_; clear h1
 refine Aa fun N2 h2 => ?_
 refine Aa fun N3 h3 => ?_
 refine Ad ?_
 try refine Ac ?_
 refine Ae ?_
 refine Bm ?_
 refine Ae ?_
 refine Ab ?_
 refine h3 _ ?_; clear h3
 refine Aw ?_
 refine A9 (σ := Nat) (fun s => (fun k => k ≤ l.length ∧ ∀ y ∈ l.take k, Ln ns y = false) s)
  (fun s => (fun k => [(0, .d (.sl (rows eI l))), (1, .clo (.func 72) [.d (.ptr [.sl (rows eI ns), z])]), (6, .d (.sl (rows eI l))), (7, .d (.int .i64 (l.length : Nat))), (8, .d (.int .i64 (k : Nat)))]) s)
  (fun s => (fun k => []) s) (fun s => (fun k => l.length - k) s) hnp 0 ?_ [] ?_ ?_
 dsimp only
 simp
 dsimp only
 refine ⟨by rfl, ?_, ?_⟩
 refine Aj ?_
 exact At
 refine Aj ?_
 exact At
 rintro k hinv N4 h4
 dsimp only at hinv ⊢
 obtain ⟨k1, k2⟩ := hinv
 refine Aa fun N5 h5 => ?_
 refine Ad ?_
 try refine Ac ?_
 refine Am ?_
 refine Ab ?_
 refine h5 _ ?_; clear h5
 refine Aa fun N6 h6 => ?_
 refine Al (fun hb7 => ?_) (fun hb7 => ?_)
 obtain ⟨x, hxe⟩ := Cb (l := l) (i := k) (by omega)
 refine An ?_
 try simp only [Af]
 refine h6 _ ?_; clear h6
 refine Aa fun N8 h8 => ?_
 refine Aw ?_
 refine Aa fun N9 h9 => ?_
 refine Ad ?_
 try refine Ac ?_
 iterate 2 refine Ae ?_
 refine Ab ?_
 refine h9 _ ?_; clear h9
 refine Aa fun N10 h10 => ?_
 have hx := And.intro @hxe (And.intro @eI.eq_1 hx0)
 refine Ad ?_
 try refine Ac ?_
 iterate 3 refine Ae ?_
 refine Au ?_
 refine Ar ?_
 have hc := (rfl : ((KC.at_ 19)).Γ 72 = some (Spec.pure MT))
 have hs := (@MT.eq_1)
 refine Ve (hq := by (first | (rw [AJ]; exact ⟨rfl, hm⟩) | exact Ay)) ?_
 refine Ab ?_
 have hx := hx0
 refine h10 _ ?_; clear h10
 refine Al (fun hb11 => ?_) (fun hb11 => ?_)
 have ht := hb11
 simp only [AJ] at ht
 refine Aa fun N12 h12 => ?_
 refine Ad ?_
 try refine Ac ?_
 iterate 2 refine Ae ?_
 refine Ab ?_
 refine h12 _ ?_; clear h12
 refine Ao ?_
 try simp only [Af]
 rw [OI hxe (by simpa using ht) k2]
 refine A3 ?_
 exact At
 have ht := hb11
 simp only [AJ] at ht
 refine An ?_
 try simp only [Af]
 refine h8 _ ?_; clear h8
 refine Ad ?_
 try refine Ac ?_
 refine Am ?_
 refine Ae ?_
 refine Ab ?_
 refine h4 _ ⟨k + 1, ?_, ?_, [], ?_⟩
 dsimp only
 exact ⟨by omega, F5 k2 hxe (by simpa using ht)⟩
 dsimp only
 omega
 dsimp only
 refine ⟨by rfl, ?_, ?_⟩
 refine Aj ?_
 exact At
 refine Aj ?_
 exact At
 refine Be ?_
 simp only [Af, Nat.reduceEqDiff, reduceIte, eq_self]
 refine h2 _ ?_; clear h2
 refine Aa fun N13 h13 => ?_
 refine Ad ?_
 try refine Ac ?_
 refine Ae ?_
 refine Ab ?_
 refine h13 _ ?_; clear h13
 refine Ao ?_
 try simp only [Af]
 rw [Ka (by rw [List.take_of_length_le (by omega)] at k2; exact k2)]
 refine A3 ?_
 exact At
 cases hg

def O6 : Bo Tryz.prog := KC.add 80 (Spec.pure Sl) Qf (by kernel_rfl)

theorem Ny : A5 Tryz.prog 71 (Spec.pure IM) := by
 refine A7 (O6.at_ 9) Tryz.func71 rfl rfl rfl ?_
 intro args p r hg hp
 unfold IM at hg
 split at hg
 rename_i xs ns z
 simp only [Option.some.injEq, Prod.mk.injEq] at hg
 obtain ⟨rfl, rfl⟩ := hg
 obtain ⟨he, hl, hf, hm⟩ := hp
 generalize dI xs = l at *
 generalize dI ns = ns at *
 subst he hf
 have hT : (O6).X = T := rfl
 have hx0 := @Tryz.results71
 have hx := hx0
 refine ⟨by rfl, ?_⟩
 intro F W0 hnp hmk
 refine Aa fun N1 h1 => ?_
 refine Ad ?_
 try refine Ac ?_
 refine Ae ?_
 refine Ab ?_
 refine h1 _ ?_; clear h1
 refine Aa fun N2 h2 => ?_
 have hx := And.intro @AJ hx0
 refine Ad ?_
 try refine Ac ?_
 iterate 2 refine Ae ?_
 have hc := Ah (E := (O6.at_ 9)) (f := 80) (sp := Spec.pure Sl) rfl
 have hs := @Sl.eq_1
 refine BF ?_
 refine Am ?_
 refine Ae ?_
 refine Ab ?_
 have hx := hx0
 refine h2 _ ?_; clear h2
 refine Ao ?_
 try simp only [Af]
 rw [← RK]
 refine A3 ?_
 exact At
 cases hg

def Es : Bo Tryz.prog := O6.add 71 (Spec.pure IM) Ny (by kernel_rfl)

theorem Ou : A5 Tryz.prog 49 (Spec.pure EZ) := by
 refine A7 (Es.at_ 66) Tryz.func49 rfl rfl rfl ?_
 intro args p r hg hp
 unfold EZ at hg
 split at hg
 rename_i xs ps
 simp only [Option.some.injEq, Prod.mk.injEq] at hg
 obtain ⟨rfl, rfl⟩ := hg
 obtain ⟨he, hl, he2, hl2, hsm⟩ := hp
 generalize dI xs = l at *
 generalize dP ps = P at *
 subst he he2
 have hT : (Es).X = T := rfl
 have hx0 := And.intro @Cu (And.intro @Ct (And.intro @EB (And.intro @Vu (And.intro @Bool.not_true (And.intro @Bool.not_false (And.intro @AJ @Tryz.results49))))))
 have hx := hx0
 refine ⟨by rfl, ?_⟩
 intro F W0 hnp hmk
 refine Aa fun N1 h1 => ?_
 refine Ad ?_
 try refine Ac ?_
 refine FU ?_
 refine B8 ?_
 refine Ab ?_
 refine h1 _ ?_; clear h1
 refine Aa fun N2 h2 => ?_
 refine Aa fun N3 h3 => ?_
 refine Ad ?_
 try refine Ac ?_
 refine Au ?_
 refine Ar ?_
 have hc := Ah (E := (Es.at_ 66)) (f := 69) (sp := Spec.pure GR) rfl
 have hs := @GR.eq_1
 refine BF ?_
 refine B8 ?_
 refine A8 ?_
 refine Ab ?_
 refine h3 _ ?_; clear h3
 refine Aa fun N4 h4 => ?_
 rcases W5 l with htx | htx
 have hz1 : (J2 l).1 = 0 := by rw [htx]
 have hz2 : (J2 l).2 = 0 := by rw [htx]
 refine Ad ?_
 try refine Ac ?_
 refine Ar ?_
 refine BC ?_
 refine Am ?_
 refine Ab ?_
 refine h4 _ ?_; clear h4
 refine Al (fun hb5 => ?_) (fun hb5 => ?_)
 exact absurd (And.intro hz1 hz2) (by have := hb5; simpa using this)
 refine An ?_
 try simp only [Af]
 refine h2 _ ?_; clear h2
 refine Aa fun N6 h6 => ?_
 refine Aa fun N7 h7 => ?_
 refine Ad ?_
 try refine Ac ?_
 refine Au ?_
 refine Ar ?_
 refine Bm ?_
 refine Ae ?_
 refine Ab ?_
 refine h7 _ ?_; clear h7
 refine Aw ?_
 refine A9 (σ := Nat) (fun s => (fun i => i ≤ P.length ∧ ∀ j, j < i → Ix l P j = 0) s)
  (fun s => (fun i => [(1, .ptr 0 0 0), (2, .ptr 1 0 0), (15, .d (.sl (rows eP P))), (16, .d (.int .i64 (P.length : Nat))), (17, .d (.int .i64 (i : Nat)))]) s)
  (fun s => (fun i => [some (.one 49 [.d (.sl (rows eI l)), .d (.sl (rows eP P))]), some (.one 29 [.d (.int .i64 0), .d (.int .i64 0)])]) s) (fun s => (fun i => P.length - i) s) hnp 0 ?_ [some 0, some 1] ?_ ?_
 dsimp only
 exact ⟨by omega, fun j hj => by omega⟩
 dsimp only
 refine ⟨by rfl, ?_, ?_⟩
 refine Aj ?_
 exact At
 refine Aj ?_
 exact At
 rintro i hinv N8 h8
 dsimp only at hinv ⊢
 obtain ⟨i1, i2⟩ := hinv
 refine Aa fun N9 h9 => ?_
 refine Ad ?_
 try refine Ac ?_
 refine Am ?_
 refine Ab ?_
 refine h9 _ ?_; clear h9
 refine Aa fun N10 h10 => ?_
 refine Al (fun hb11 => ?_) (fun hb11 => ?_)
 obtain ⟨p, hpe⟩ := Cb (l := P) (i := i) (by omega)
 obtain ⟨g, t⟩ := p
 have hxe : P[i]? = some (g, t) := hpe
 have hxd : P.getD i ([], []) = (g, t) := BG hxe
 obtain ⟨hgl, htl⟩ := hsm _ (AF hxe)
 refine An ?_
 try simp only [Af]
 refine h10 _ ?_; clear h10
 refine Aa fun N12 h12 => ?_
 refine Aw ?_
 refine Aa fun N13 h13 => ?_
 have hx := And.intro @hxe hx0
 refine Ad ?_
 try refine Ac ?_
 refine Ae ?_
 refine Au ?_
 refine Ar ?_
 refine B8 ?_
 refine Ae ?_
 refine A8 ?_
 refine Ab ?_
 have hx := hx0
 refine h13 _ ?_; clear h13
 refine Aa fun N14 h14 => ?_
 refine Ad ?_
 try refine Ac ?_
 refine Ae ?_
 refine Ab ?_
 refine h14 _ ?_; clear h14
 refine Aa fun N15 h15 => ?_
 refine Aw ?_
 refine Aa fun N16 h16 => ?_
 refine Ad ?_
 try refine Ac ?_
 refine Au ?_
 refine Ar ?_
 refine Bm ?_
 refine Am ?_
 refine Ae ?_
 refine Ab ?_
 refine h16 _ ?_; clear h16
 refine Al (fun hb17 => ?_) (fun hb17 => ?_)
 refine Ad ?_
 try refine Ac ?_
 refine Ae ?_
 refine Ab ?_
 refine h15 _ ?_; clear h15
 refine Aa fun N18 h18 => ?_
 refine Ad ?_
 try refine Ac ?_
 refine Ae ?_
 refine Am ?_
 refine Ab ?_
 refine h18 _ ?_; clear h18
 refine Al (fun hb19 => ?_) (fun hb19 => ?_)
 refine Aa fun N20 h20 => ?_
 refine Ad ?_
 try refine Ac ?_
 iterate 2 refine Ae ?_
 refine BC ?_
 refine A8 ?_
 refine Ab ?_
 refine h20 _ ?_; clear h20
 refine Ao ?_
 try simp only [Af]
 have hf : Ix l P i = 9 := by unfold Ix; rw [hxd, if_pos (by show g.length ≠ 3; have := hb17; omega)]
 have hr : Ca l P = (9, (i : Int)) := by unfold Ca; rw [if_neg (by rw [hz1]; simp), C5 (i := i) (by rw [hf]; decide) i2 (by omega), hf]
 rw [hr]
 refine A3 ?_
 exact At
 ·first | omega | exact absurd trivial hb19 | contradiction | (simp_all; done)
 refine Aa fun N21 h21 => ?_
 rcases XX P i g t with hc5 | hc5 | hc5 | hc5 | hc5
 obtain ⟨hi0, hlt⟩ := hc5
 obtain ⟨q, hqe⟩ := Cb (l := P) (i := i - 1) (by omega)
 obtain ⟨gy, ty⟩ := q
 have hye : P[i - 1]? = some (gy, ty) := hqe
 have hyd : P.getD (i - 1) ([], []) = (gy, ty) := BG hye
 have hpm : ((i : Int) - 1).toNat = i - 1 := by omega
 have hgt : decide ((0 : Int) < (i : Int)) = true := decide_eq_true (by omega)
 rw [hyd] at hlt
 have hle := Xe hlt
 have hln := hxe
 have hx := And.intro @hye (And.intro @hgt (And.intro @hpm (And.intro @hle (And.intro @hln hx0))))
 refine Ad ?_
 try refine Ac ?_
 refine Ae ?_
 refine Am ?_
 refine Ae ?_
 refine Cn ?_
 refine Cm ?_
 refine Cn ?_
 refine Cm ?_
 refine Dp ?_
 refine CU ?_
 iterate 2 refine Cn ?_
 refine Cm ?_
 refine CU ?_
 refine AQ ?_
 refine Ae ?_
 refine Cn ?_
 refine Cm ?_
 refine NG ?_
 refine CU ?_
 refine AQ ?_
 refine Ae ?_
 refine Cn ?_
 refine Cm ?_
 have hc := Ah (E := (Es.at_ 66)) (f := 70) (sp := Spec.pure ES) rfl
 have hs := @ES.eq_1
 refine H3 ?_
 refine Mh ?_
 refine AQ ?_
 refine Ae ?_
 refine Ab ?_
 have hx := hx0
 refine h21 _ ?_; clear h21
 refine Al (fun hb22 => ?_) (fun hb22 => ?_)
 refine Ad ?_
 try refine Ac ?_
 refine Ae ?_
 refine Ab ?_
 refine h15 _ ?_; clear h15
 refine Aa fun N23 h23 => ?_
 refine Ad ?_
 try refine Ac ?_
 refine Ae ?_
 refine Am ?_
 refine Ab ?_
 refine h23 _ ?_; clear h23
 refine Al (fun hb24 => ?_) (fun hb24 => ?_)
 refine Aa fun N25 h25 => ?_
 refine Ad ?_
 try refine Ac ?_
 iterate 2 refine Ae ?_
 refine BC ?_
 refine A8 ?_
 refine Ab ?_
 refine h25 _ ?_; clear h25
 refine Ao ?_
 try simp only [Af]
 have hg3 : g.length = 3 := by have := hb17; omega
 have hf : Ix l P i = 5 := by unfold Ix; rw [hxd, if_neg (by show ¬ g.length ≠ 3; omega), if_pos (by first | exact Or.inl ⟨hi0, by rw [hyd]; exact hlt⟩ | exact Or.inr (Or.inl rfl) | exact Or.inr (Or.inr (by have := hb22; simpa using this)))]
 have hr : Ca l P = (5, (i : Int)) := by unfold Ca; rw [if_neg (by rw [hz1]; simp), C5 (i := i) (by rw [hf]; decide) i2 (by omega), hf]
 rw [hr]
 refine A3 ?_
 exact At
 ·first | omega | exact absurd trivial hb24 | contradiction | (simp_all; done)
 ·first | omega | exact absurd trivial hb22 | contradiction | (simp_all; done)
 obtain ⟨hi0, hte⟩ := hc5
 have hgt : decide ((0 : Int) < (i : Int)) = false := decide_eq_false (by omega)
 have hye := hxe
 have hpm := hxe
 have hle := hxe
 subst hte
 have hln : decide ((([] : List Int).length : Int) = 0) = true := rfl
 have hln2 := hxe
 have hx := And.intro @hye (And.intro @hgt (And.intro @hpm (And.intro @hle (And.intro @hln hx0))))
 refine Ad ?_
 try refine Ac ?_
 refine Ae ?_
 refine Am ?_
 refine Ae ?_
 refine Cn ?_
 refine Cm ?_
 refine Cn ?_
 refine Cm ?_
 refine Dp ?_
 refine CU ?_
 iterate 2 refine Cn ?_
 refine Cm ?_
 refine CU ?_
 refine AQ ?_
 refine Ae ?_
 refine Cn ?_
 refine Cm ?_
 refine NG ?_
 refine CU ?_
 refine AQ ?_
 refine Ae ?_
 refine Cn ?_
 refine Cm ?_
 have hc := Ah (E := (Es.at_ 66)) (f := 70) (sp := Spec.pure ES) rfl
 have hs := @ES.eq_1
 refine H3 ?_
 refine Mh ?_
 refine AQ ?_
 refine Ae ?_
 refine Ab ?_
 have hx := hx0
 refine h21 _ ?_; clear h21
 refine Al (fun hb26 => ?_) (fun hb26 => ?_)
 refine Ad ?_
 try refine Ac ?_
 refine Ae ?_
 refine Ab ?_
 refine h15 _ ?_; clear h15
 refine Aa fun N27 h27 => ?_
 refine Ad ?_
 try refine Ac ?_
 refine Ae ?_
 refine Am ?_
 refine Ab ?_
 refine h27 _ ?_; clear h27
 refine Al (fun hb28 => ?_) (fun hb28 => ?_)
 refine Aa fun N29 h29 => ?_
 refine Ad ?_
 try refine Ac ?_
 iterate 2 refine Ae ?_
 refine BC ?_
 refine A8 ?_
 refine Ab ?_
 refine h29 _ ?_; clear h29
 refine Ao ?_
 try simp only [Af]
 have hg3 : g.length = 3 := by have := hb17; omega
 have hf : Ix l P i = 5 := by unfold Ix; rw [hxd, if_neg (by show ¬ g.length ≠ 3; omega), if_pos (by first | exact Or.inl ⟨hi0, by rw [hyd]; exact hlt⟩ | exact Or.inr (Or.inl rfl) | exact Or.inr (Or.inr (by have := hb26; simpa using this)))]
 have hr : Ca l P = (5, (i : Int)) := by unfold Ca; rw [if_neg (by rw [hz1]; simp), C5 (i := i) (by rw [hf]; decide) i2 (by omega), hf]
 rw [hr]
 refine A3 ?_
 exact At
 ·first | omega | exact absurd trivial hb28 | contradiction | (simp_all; done)
 ·first | omega | exact absurd trivial hb26 | contradiction | (simp_all; done)
 obtain ⟨hi0, hte⟩ := hc5
 have hgt : decide ((0 : Int) < (i : Int)) = false := decide_eq_false (by omega)
 have hye := hxe
 have hpm := hxe
 have hle := hxe
 have hln : decide ((t.length : Int) = 0) = false := decide_eq_false (fun h => hte (List.eq_nil_of_length_eq_zero (by omega)))
 have hln2 := hxe
 have hx := And.intro @hye (And.intro @hgt (And.intro @hpm (And.intro @hle (And.intro @hln hx0))))
 refine Ad ?_
 try refine Ac ?_
 refine Ae ?_
 refine Am ?_
 refine Ae ?_
 refine Cn ?_
 refine Cm ?_
 refine Cn ?_
 refine Cm ?_
 refine Dp ?_
 refine CU ?_
 iterate 2 refine Cn ?_
 refine Cm ?_
 refine CU ?_
 refine AQ ?_
 refine Ae ?_
 refine Cn ?_
 refine Cm ?_
 refine NG ?_
 refine CU ?_
 refine AQ ?_
 refine Ae ?_
 refine Cn ?_
 refine Cm ?_
 have hc := Ah (E := (Es.at_ 66)) (f := 70) (sp := Spec.pure ES) rfl
 have hs := @ES.eq_1
 refine H3 ?_
 refine Mh ?_
 refine AQ ?_
 refine Ae ?_
 refine Ab ?_
 have hx := hx0
 refine h21 _ ?_; clear h21
 refine Al (fun hb30 => ?_) (fun hb30 => ?_)
 refine Ad ?_
 try refine Ac ?_
 refine Ae ?_
 refine Ab ?_
 refine h15 _ ?_; clear h15
 refine Aa fun N31 h31 => ?_
 refine Ad ?_
 try refine Ac ?_
 refine Ae ?_
 refine Am ?_
 refine Ab ?_
 refine h31 _ ?_; clear h31
 refine Al (fun hb32 => ?_) (fun hb32 => ?_)
 refine Aa fun N33 h33 => ?_
 refine Ad ?_
 try refine Ac ?_
 iterate 2 refine Ae ?_
 refine BC ?_
 refine A8 ?_
 refine Ab ?_
 refine h33 _ ?_; clear h33
 refine Ao ?_
 try simp only [Af]
 have hg3 : g.length = 3 := by have := hb17; omega
 have hf : Ix l P i = 5 := by unfold Ix; rw [hxd, if_neg (by show ¬ g.length ≠ 3; omega), if_pos (by first | exact Or.inl ⟨hi0, by rw [hyd]; exact hlt⟩ | exact Or.inr (Or.inl rfl) | exact Or.inr (Or.inr (by have := hb30; simpa using this)))]
 have hr : Ca l P = (5, (i : Int)) := by unfold Ca; rw [if_neg (by rw [hz1]; simp), C5 (i := i) (by rw [hf]; decide) i2 (by omega), hf]
 rw [hr]
 refine A3 ?_
 exact At
 ·first | omega | exact absurd trivial hb32 | contradiction | (simp_all; done)
 refine Aa fun N34 h34 => ?_
 have hx := And.intro @AJ hx0
 refine Ad ?_
 try refine Ac ?_
 refine Au ?_
 refine Ar ?_
 refine GF ?_
 have hc := Ah (E := (Es.at_ 66)) (f := 71) (sp := Spec.pure IM) rfl
 have hs := @IM.eq_1
 refine BF ?_
 refine Ae ?_
 refine Ab ?_
 have hx := hx0
 refine h34 _ ?_; clear h34
 refine Al (fun hb35 => ?_) (fun hb35 => ?_)
 refine Ad ?_
 try refine Ac ?_
 refine Ae ?_
 refine Ab ?_
 refine h15 _ ?_; clear h15
 refine Aa fun N36 h36 => ?_
 refine Ad ?_
 try refine Ac ?_
 refine Ae ?_
 refine Am ?_
 refine Ab ?_
 refine h36 _ ?_; clear h36
 refine Al (fun hb37 => ?_) (fun hb37 => ?_)
 refine Aa fun N38 h38 => ?_
 refine Ad ?_
 try refine Ac ?_
 iterate 2 refine Ae ?_
 refine BC ?_
 refine A8 ?_
 refine Ab ?_
 refine h38 _ ?_; clear h38
 refine Ao ?_
 try simp only [Af]
 have hg3 : g.length = 3 := by have := hb17; omega
 have h5 : ¬ ((0 < i ∧ Dc (P.getD (i - 1) ([], [])).1 g = false) ∨ t = [] ∨ E3 t = false) := by
  have hinc : E3 t = true := by have := hb30; simpa using this
  rintro (⟨h1, h2⟩ | h | h)
  ·first | omega | (rw [hyd] at h2; rw [hlt] at h2; cases h2)
  ·exact hte h
  ·rw [hinc] at h; cases h
 have hf : Ix l P i = 6 := by unfold Ix; rw [hxd, if_neg (by show ¬ g.length ≠ 3; omega), if_neg h5, if_pos (by have := hb35; simpa using this)]
 have hr : Ca l P = (6, (i : Int)) := by unfold Ca; rw [if_neg (by rw [hz1]; simp), C5 (i := i) (by rw [hf]; decide) i2 (by omega), hf]
 rw [hr]
 refine A3 ?_
 exact At
 ·first | omega | exact absurd trivial hb37 | contradiction | (simp_all; done)
 refine An ?_
 try simp only [Af]
 refine h15 _ ?_; clear h15
 refine Aa fun N39 h39 => ?_
 refine Ad ?_
 try refine Ac ?_
 refine Ae ?_
 refine Am ?_
 refine Ab ?_
 refine h39 _ ?_; clear h39
 refine Al (fun hb40 => ?_) (fun hb40 => ?_)
 ·first | omega | exact absurd trivial hb40 | contradiction | (simp_all; done)
 refine An ?_
 try simp only [Af]
 refine h12 _ ?_; clear h12
 refine Ad ?_
 try refine Ac ?_
 refine Am ?_
 refine Ae ?_
 refine Ab ?_
 have hg3 : g.length = 3 := by have := hb17; omega
 have h5 : ¬ ((0 < i ∧ Dc (P.getD (i - 1) ([], [])).1 g = false) ∨ t = [] ∨ E3 t = false) := by
  have hinc : E3 t = true := by have := hb30; simpa using this
  rintro (⟨h1, h2⟩ | h | h)
  ·first | omega | (rw [hyd] at h2; rw [hlt] at h2; cases h2)
  ·exact hte h
  ·rw [hinc] at h; cases h
 have hf : Ix l P i = 0 := by unfold Ix; rw [hxd, if_neg (by show ¬ g.length ≠ 3; omega), if_neg h5, if_neg (by have := hb35; simpa using this)]
 refine h8 _ ⟨i + 1, ?_, ?_, [some 0, some 1], ?_⟩
 dsimp only
 exact ⟨by omega, FI i2 hf⟩
 dsimp only
 omega
 dsimp only
 refine ⟨by rfl, ?_, ?_⟩
 refine Aj ?_
 exact At
 refine Aj ?_
 exact At
 obtain ⟨hi0, hlt, hte⟩ := hc5
 obtain ⟨q, hqe⟩ := Cb (l := P) (i := i - 1) (by omega)
 obtain ⟨gy, ty⟩ := q
 have hye : P[i - 1]? = some (gy, ty) := hqe
 have hyd : P.getD (i - 1) ([], []) = (gy, ty) := BG hye
 have hpm : ((i : Int) - 1).toNat = i - 1 := by omega
 have hgt : decide ((0 : Int) < (i : Int)) = true := decide_eq_true (by omega)
 rw [hyd] at hlt
 have hle := Kt hlt
 subst hte
 have hln : decide ((([] : List Int).length : Int) = 0) = true := rfl
 have hln2 := hxe
 have hx := And.intro @hye (And.intro @hgt (And.intro @hpm (And.intro @hle (And.intro @hln hx0))))
 refine Ad ?_
 try refine Ac ?_
 refine Ae ?_
 refine Am ?_
 refine Ae ?_
 refine Cn ?_
 refine Cm ?_
 refine Cn ?_
 refine Cm ?_
 refine Dp ?_
 refine CU ?_
 iterate 2 refine Cn ?_
 refine Cm ?_
 refine CU ?_
 refine AQ ?_
 refine Ae ?_
 refine Cn ?_
 refine Cm ?_
 refine NG ?_
 refine CU ?_
 refine AQ ?_
 refine Ae ?_
 refine Cn ?_
 refine Cm ?_
 have hc := Ah (E := (Es.at_ 66)) (f := 70) (sp := Spec.pure ES) rfl
 have hs := @ES.eq_1
 refine H3 ?_
 refine Mh ?_
 refine AQ ?_
 refine Ae ?_
 refine Ab ?_
 have hx := hx0
 refine h21 _ ?_; clear h21
 refine Al (fun hb41 => ?_) (fun hb41 => ?_)
 refine Ad ?_
 try refine Ac ?_
 refine Ae ?_
 refine Ab ?_
 refine h15 _ ?_; clear h15
 refine Aa fun N42 h42 => ?_
 refine Ad ?_
 try refine Ac ?_
 refine Ae ?_
 refine Am ?_
 refine Ab ?_
 refine h42 _ ?_; clear h42
 refine Al (fun hb43 => ?_) (fun hb43 => ?_)
 refine Aa fun N44 h44 => ?_
 refine Ad ?_
 try refine Ac ?_
 iterate 2 refine Ae ?_
 refine BC ?_
 refine A8 ?_
 refine Ab ?_
 refine h44 _ ?_; clear h44
 refine Ao ?_
 try simp only [Af]
 have hg3 : g.length = 3 := by have := hb17; omega
 have hf : Ix l P i = 5 := by unfold Ix; rw [hxd, if_neg (by show ¬ g.length ≠ 3; omega), if_pos (by first | exact Or.inl ⟨hi0, by rw [hyd]; exact hlt⟩ | exact Or.inr (Or.inl rfl) | exact Or.inr (Or.inr (by have := hb41; simpa using this)))]
 have hr : Ca l P = (5, (i : Int)) := by unfold Ca; rw [if_neg (by rw [hz1]; simp), C5 (i := i) (by rw [hf]; decide) i2 (by omega), hf]
 rw [hr]
 refine A3 ?_
 exact At
 ·first | omega | exact absurd trivial hb43 | contradiction | (simp_all; done)
 ·first | omega | exact absurd trivial hb41 | contradiction | (simp_all; done)
 obtain ⟨hi0, hlt, hte⟩ := hc5
 obtain ⟨q, hqe⟩ := Cb (l := P) (i := i - 1) (by omega)
 obtain ⟨gy, ty⟩ := q
 have hye : P[i - 1]? = some (gy, ty) := hqe
 have hyd : P.getD (i - 1) ([], []) = (gy, ty) := BG hye
 have hpm : ((i : Int) - 1).toNat = i - 1 := by omega
 have hgt : decide ((0 : Int) < (i : Int)) = true := decide_eq_true (by omega)
 rw [hyd] at hlt
 have hle := Kt hlt
 have hln : decide ((t.length : Int) = 0) = false := decide_eq_false (fun h => hte (List.eq_nil_of_length_eq_zero (by omega)))
 have hln2 := hxe
 have hx := And.intro @hye (And.intro @hgt (And.intro @hpm (And.intro @hle (And.intro @hln hx0))))
 refine Ad ?_
 try refine Ac ?_
 refine Ae ?_
 refine Am ?_
 refine Ae ?_
 refine Cn ?_
 refine Cm ?_
 refine Cn ?_
 refine Cm ?_
 refine Dp ?_
 refine CU ?_
 iterate 2 refine Cn ?_
 refine Cm ?_
 refine CU ?_
 refine AQ ?_
 refine Ae ?_
 refine Cn ?_
 refine Cm ?_
 refine NG ?_
 refine CU ?_
 refine AQ ?_
 refine Ae ?_
 refine Cn ?_
 refine Cm ?_
 have hc := Ah (E := (Es.at_ 66)) (f := 70) (sp := Spec.pure ES) rfl
 have hs := @ES.eq_1
 refine H3 ?_
 refine Mh ?_
 refine AQ ?_
 refine Ae ?_
 refine Ab ?_
 have hx := hx0
 refine h21 _ ?_; clear h21
 refine Al (fun hb45 => ?_) (fun hb45 => ?_)
 refine Ad ?_
 try refine Ac ?_
 refine Ae ?_
 refine Ab ?_
 refine h15 _ ?_; clear h15
 refine Aa fun N46 h46 => ?_
 refine Ad ?_
 try refine Ac ?_
 refine Ae ?_
 refine Am ?_
 refine Ab ?_
 refine h46 _ ?_; clear h46
 refine Al (fun hb47 => ?_) (fun hb47 => ?_)
 refine Aa fun N48 h48 => ?_
 refine Ad ?_
 try refine Ac ?_
 iterate 2 refine Ae ?_
 refine BC ?_
 refine A8 ?_
 refine Ab ?_
 refine h48 _ ?_; clear h48
 refine Ao ?_
 try simp only [Af]
 have hg3 : g.length = 3 := by have := hb17; omega
 have hf : Ix l P i = 5 := by unfold Ix; rw [hxd, if_neg (by show ¬ g.length ≠ 3; omega), if_pos (by first | exact Or.inl ⟨hi0, by rw [hyd]; exact hlt⟩ | exact Or.inr (Or.inl rfl) | exact Or.inr (Or.inr (by have := hb45; simpa using this)))]
 have hr : Ca l P = (5, (i : Int)) := by unfold Ca; rw [if_neg (by rw [hz1]; simp), C5 (i := i) (by rw [hf]; decide) i2 (by omega), hf]
 rw [hr]
 refine A3 ?_
 exact At
 ·first | omega | exact absurd trivial hb47 | contradiction | (simp_all; done)
 refine Aa fun N49 h49 => ?_
 have hx := And.intro @AJ hx0
 refine Ad ?_
 try refine Ac ?_
 refine Au ?_
 refine Ar ?_
 refine GF ?_
 have hc := Ah (E := (Es.at_ 66)) (f := 71) (sp := Spec.pure IM) rfl
 have hs := @IM.eq_1
 refine BF ?_
 refine Ae ?_
 refine Ab ?_
 have hx := hx0
 refine h49 _ ?_; clear h49
 refine Al (fun hb50 => ?_) (fun hb50 => ?_)
 refine Ad ?_
 try refine Ac ?_
 refine Ae ?_
 refine Ab ?_
 refine h15 _ ?_; clear h15
 refine Aa fun N51 h51 => ?_
 refine Ad ?_
 try refine Ac ?_
 refine Ae ?_
 refine Am ?_
 refine Ab ?_
 refine h51 _ ?_; clear h51
 refine Al (fun hb52 => ?_) (fun hb52 => ?_)
 refine Aa fun N53 h53 => ?_
 refine Ad ?_
 try refine Ac ?_
 iterate 2 refine Ae ?_
 refine BC ?_
 refine A8 ?_
 refine Ab ?_
 refine h53 _ ?_; clear h53
 refine Ao ?_
 try simp only [Af]
 have hg3 : g.length = 3 := by have := hb17; omega
 have h5 : ¬ ((0 < i ∧ Dc (P.getD (i - 1) ([], [])).1 g = false) ∨ t = [] ∨ E3 t = false) := by
  have hinc : E3 t = true := by have := hb45; simpa using this
  rintro (⟨h1, h2⟩ | h | h)
  ·first | omega | (rw [hyd] at h2; rw [hlt] at h2; cases h2)
  ·exact hte h
  ·rw [hinc] at h; cases h
 have hf : Ix l P i = 6 := by unfold Ix; rw [hxd, if_neg (by show ¬ g.length ≠ 3; omega), if_neg h5, if_pos (by have := hb50; simpa using this)]
 have hr : Ca l P = (6, (i : Int)) := by unfold Ca; rw [if_neg (by rw [hz1]; simp), C5 (i := i) (by rw [hf]; decide) i2 (by omega), hf]
 rw [hr]
 refine A3 ?_
 exact At
 ·first | omega | exact absurd trivial hb52 | contradiction | (simp_all; done)
 refine An ?_
 try simp only [Af]
 refine h15 _ ?_; clear h15
 refine Aa fun N54 h54 => ?_
 refine Ad ?_
 try refine Ac ?_
 refine Ae ?_
 refine Am ?_
 refine Ab ?_
 refine h54 _ ?_; clear h54
 refine Al (fun hb55 => ?_) (fun hb55 => ?_)
 ·first | omega | exact absurd trivial hb55 | contradiction | (simp_all; done)
 refine An ?_
 try simp only [Af]
 refine h12 _ ?_; clear h12
 refine Ad ?_
 try refine Ac ?_
 refine Am ?_
 refine Ae ?_
 refine Ab ?_
 have hg3 : g.length = 3 := by have := hb17; omega
 have h5 : ¬ ((0 < i ∧ Dc (P.getD (i - 1) ([], [])).1 g = false) ∨ t = [] ∨ E3 t = false) := by
  have hinc : E3 t = true := by have := hb45; simpa using this
  rintro (⟨h1, h2⟩ | h | h)
  ·first | omega | (rw [hyd] at h2; rw [hlt] at h2; cases h2)
  ·exact hte h
  ·rw [hinc] at h; cases h
 have hf : Ix l P i = 0 := by unfold Ix; rw [hxd, if_neg (by show ¬ g.length ≠ 3; omega), if_neg h5, if_neg (by have := hb50; simpa using this)]
 refine h8 _ ⟨i + 1, ?_, ?_, [some 0, some 1], ?_⟩
 dsimp only
 exact ⟨by omega, FI i2 hf⟩
 dsimp only
 omega
 dsimp only
 refine ⟨by rfl, ?_, ?_⟩
 refine Aj ?_
 exact At
 refine Aj ?_
 exact At
 refine Be ?_
 simp only [Af, Nat.reduceEqDiff, reduceIte, eq_self]
 refine h6 _ ?_; clear h6
 refine Aa fun N56 h56 => ?_
 refine Ad ?_
 try refine Ac ?_
 refine BC ?_
 refine A8 ?_
 refine Ab ?_
 refine h56 _ ?_; clear h56
 refine Ao ?_
 try simp only [Af]
 have hr : Ca l P = (0, 0) := by unfold Ca; rw [if_neg (by rw [hz1]; simp), C8 (fun j hj => i2 j (by omega))]
 rw [hr]
 refine A3 ?_
 exact At
 have hz1 := htx
 have hz2 := htx
 refine Ad ?_
 try refine Ac ?_
 refine Ar ?_
 refine BC ?_
 refine Am ?_
 refine Ab ?_
 refine h4 _ ?_; clear h4
 refine Al (fun hb57 => ?_) (fun hb57 => ?_)
 refine Aa fun N58 h58 => ?_
 refine Ad ?_
 try refine Ac ?_
 refine Ar ?_
 refine A8 ?_
 refine Ab ?_
 refine h58 _ ?_; clear h58
 refine Ao ?_
 try simp only [Af]
 have hr : Ca l P = J2 l := by unfold Ca; rw [if_pos hz1]
 rw [hr]
 refine A3 ?_
 exact At
 exact absurd (show (J2 l).1 = 0 by have := hb57; first | exact this.1 | exact (Classical.not_not.1 this).1 | (simp at this; exact this.1)) hz1
 cases hg

def Nf : Bo Tryz.prog := Es.add 49 (Spec.pure EZ) Ou (by kernel_rfl)
end Go.Proofs.YtmbjnkgpcbpclaaGreat
