/- Walks, printed by wip/gen/walk.py. -/
import Derived.Test.YtmbjnkgpcbpclaaGreatT111
import Derived.Test.YtmbjnkgpcbpclaaGreatV5
set_option linter.all false
set_option maxRecDepth 100000
set_option maxHeartbeats 4000000
namespace Go.Proofs.YtmbjnkgpcbpclaaGreat
open Go Go.Vc Go.RowKit
def OX (l : List Int) (P : List AU) (q : List Sn) : Int × Int × List Int := if (Br l P).1 ≠ 0 then ((Br l P).1, (Br l P).2, []) else if (Cq q).1 ≠ 0 then ((Cq q).1, -1, []) else (0, 0, LC l P q)
def LW : List AV → Option (Prop × AV)
  | [.agg [.d (.sl xs), .d (.sl ps)], .agg [.d (.sl ys)]] => some (xs = rows eI (dI xs) ∧ (dI xs).length ≤ 9223372036854775807 ∧ ps = rows eP (dP ps) ∧ (dP ps).length ≤ 9223372036854775807 ∧ EE (dP ps) ∧ ys = rows DR (Cz ys) ∧ (Cz ys).length ≤ 9223372036854775807 ∧ JZ (Cz ys), .tup [.d (.sl (rows eI (OX (dI xs) (dP ps) (Cz ys)).2.2)), .agg [.d (.int .i64 (OX (dI xs) (dP ps) (Cz ys)).1), .d (.int .i64 (OX (dI xs) (dP ps) (Cz ys)).2.1)]])
  | _ => none
theorem KR (l : List Int) (P : List AU) (q : List Sn) : (∃ c i : Int, Br l P = (c, i) ∧ c ≠ 0 ∧ OX l P q = (c, i, [])) ∨ (Br l P = (0, 0) ∧ ∃ c i : Int, Cq q = (c, i) ∧ c ≠ 0 ∧ OX l P q = (c, -1, [])) ∨ (Br l P = (0, 0) ∧ Cq q = (0, 0) ∧ OX l P q = (0, 0, LC l P q)) := by
  unfold OX
  rcases LZ l P with h | h
  · right
    rw [h, if_neg (by simp)]
    by_cases hs : Cq q = (0, 0)
    · right; rw [hs, if_neg (by simp)]; exact ⟨rfl, rfl, rfl⟩
    · left
      have h0 := Ij hs
      rw [if_pos h0]
      exact ⟨rfl, (Cq q).1, (Cq q).2, rfl, h0, rfl⟩
  · left
    rw [if_pos h]
    exact ⟨(Br l P).1, (Br l P).2, rfl, h, rfl⟩
def Hq (fu : Nat) : List AV → Option (Prop × AV)
  | [.agg [.d (.sl xs), .d (.sl ps)], .agg [.d (.sl ys)], .d (.int .i64 i)] => some (xs = rows eI (dI xs) ∧ ps = rows eP (dP ps) ∧ Br (dI xs) (dP ps) = (0, 0) ∧ ys = rows DR (Cz ys) ∧ Cq (Cz ys) = (0, 0) ∧ 0 ≤ i ∧ i < (Cz ys).length ∧ i < fu, .d (.sl (rows eI ((Cy (dI xs) (dP ps) (Cz ys) (Cz ys).length).getD i.toNat []))))
  | _ => none
theorem Ya {l : List Int} {P : List AU} {q : List Sn} {i : Nat} {x : Sn} (hi : i < q.length) (hx : q.getD i default = x) : (Cy l P q q.length).getD i [] = J0 l P x (Cy l P q i) := by
  rw [List.getD_eq_getElem?_getD, V4 hi hx]; rfl
theorem T8 {l : List Int} {P : List AU} {q : List Sn} {i k : Nat} (hi : i ≤ q.length) (hk : k < i) {s : List Int} (hs : (Cy l P q i)[k]? = some s) : (Cy l P q q.length).getD k [] = s := by
  rw [List.getD_eq_getElem?_getD, J1 hi hk, hs]; rfl
theorem Vd {a : Int} (h : a = 2 ∨ a = 3) (t : Int) (x y : List Int) : (a = 2 ∧ decide (t ∈ x) = true ∧ decide (t ∈ y) = true) ∨ (a = 2 ∧ decide (t ∈ x) = true ∧ decide (t ∈ y) = false) ∨ (a = 2 ∧ decide (t ∈ x) = false ∧ True) ∨ (a = 3 ∧ decide (t ∈ x) = true ∧ decide (t ∈ y) = true) ∨ (a = 3 ∧ decide (t ∈ x) = true ∧ decide (t ∈ y) = false) ∨ (a = 3 ∧ decide (t ∈ x) = false ∧ True) := by
  rcases h with rfl | rfl <;> cases decide (t ∈ x) <;> cases decide (t ∈ y) <;> simp

theorem R4 : A1 Tryz.prog 22 (Spec.pure LW) := by
 refine Az (Hb.at_ 26) Tryz.func22 rfl rfl rfl ?_
 intro args p r hg hp
 unfold LW at hg
 split at hg
 rename_i xs ps ys
 simp only [Option.some.injEq, Prod.mk.injEq] at hg
 obtain ⟨rfl, rfl⟩ := hg
 obtain ⟨he, hl, he2, hl2, hsm, he3, hl3, hbg⟩ := hp
 generalize dI xs = l at *
 generalize dP ps = P at *
 generalize Cz ys = q at *
 subst he he2 he3
 have hT : (Hb).X = T := rfl
 have hx0 := And.intro @DB (And.intro @BQ (And.intro @AA (And.intro @B4 (And.intro @AY (And.intro @Ci (And.intro @Ch @Tryz.results22))))))
 have hx := hx0
 refine ⟨by rfl, ?_⟩
 intro F W0 hnp hmk
 refine Aa fun N1 h1 => ?_
 refine Ad ?_
 try refine Ac ?_
 iterate 2 refine EX (hq := by exact Aq) ?_
 refine Ae (hq := by exact Aq) ?_
 refine Bw (hq := by exact Aq) ?_
 refine Ab ?_
 refine h1 _ ?_; clear h1
 refine Aa fun N2 h2 => ?_
 refine Aa fun N3 h3 => ?_
 rcases KR l P q with ⟨c, k, e1, e2, hr⟩ | ⟨e1, c, k, e3, e2, hr⟩ | ⟨e1, e3, hr⟩
 have c1 : (c = 0) = False := eq_false e2
 have hx := And.intro @e1 hx0
 refine Ad ?_
 try refine Ac ?_
 refine Ap (hq := by exact Aq) ?_
 have hc := Ag (E := (Hb.at_ 26)) (f := 49) (sp := Spec.pure Dt) rfl
 have hs := @Dt.eq_1
 refine AS (hq := by (first | (exact ⟨rfl, hl, rfl, hl2, hsm⟩) | exact A3)) ?_
 refine Bw (hq := by exact Aq) ?_
 refine A4 (hq := by exact Aq) ?_
 refine Ab ?_
 have hx := hx0
 refine h3 _ ?_; clear h3
 refine Aa fun N4 h4 => ?_
 have hx := And.intro @c1 hx0
 refine Ad ?_
 try refine Ac ?_
 refine Ap (hq := by exact Aq) ?_
 refine BL (hq := by exact Aq) ?_
 refine Al (hq := by exact Aq) ?_
 refine Ab ?_
 have hx := hx0
 refine h4 _ ?_; clear h4
 refine Ai (fun hb5 => ?_) (fun hb5 => ?_)
 refine Aa fun N6 h6 => ?_
 refine Ad ?_
 try refine Ac ?_
 refine Ap (hq := by exact Aq) ?_
 refine Ae (hq := by exact Aq) ?_
 refine A4 (hq := by exact Aq) ?_
 refine Ab ?_
 refine h6 _ ?_; clear h6
 refine An ?_
 try simp only [Af]
 rw [hr]
 refine Ax ?_
 ·(repeat' apply And.intro) <;> (first | (first | rfl | trivial | omega | exact Or.inl rfl | (rw [List.take_of_length_le (by simp [rows])]; done) | (simp [rows]; done)) | exact As)
 ·first | omega | exact absurd trivial hb5 | contradiction | (simp_all; done)
 have c1 : (c = 0) = False := eq_false e2
 have hx := And.intro @e1 hx0
 refine Ad ?_
 try refine Ac ?_
 refine Ap (hq := by exact Aq) ?_
 have hc := Ag (E := (Hb.at_ 26)) (f := 49) (sp := Spec.pure Dt) rfl
 have hs := @Dt.eq_1
 refine AS (hq := by (first | (exact ⟨rfl, hl, rfl, hl2, hsm⟩) | exact A3)) ?_
 refine Bw (hq := by exact Aq) ?_
 refine A4 (hq := by exact Aq) ?_
 refine Ab ?_
 have hx := hx0
 refine h3 _ ?_; clear h3
 refine Aa fun N7 h7 => ?_
 refine Ad ?_
 try refine Ac ?_
 refine Ap (hq := by exact Aq) ?_
 refine BL (hq := by exact Aq) ?_
 refine Al (hq := by exact Aq) ?_
 refine Ab ?_
 refine h7 _ ?_; clear h7
 refine Ai (fun hb8 => ?_) (fun hb8 => ?_)
 ·first | omega | exact absurd trivial hb8 | contradiction | (simp_all; done)
 refine Am ?_
 try simp only [Af]
 refine h2 _ ?_; clear h2
 refine Aa fun N9 h9 => ?_
 refine Aa fun N10 h10 => ?_
 have hx := And.intro @e3 hx0
 refine Ad ?_
 try refine Ac ?_
 refine Ap (hq := by exact Aq) ?_
 have hc := Ag (E := (Hb.at_ 26)) (f := 11) (sp := Spec.pure Ii) rfl
 have hs := @Ii.eq_1
 refine AS (hq := by (first | (exact ⟨rfl, hl3, hbg⟩) | exact A3)) ?_
 refine Bw (hq := by exact Aq) ?_
 refine A4 (hq := by exact Aq) ?_
 refine Ab ?_
 have hx := hx0
 refine h10 _ ?_; clear h10
 refine Aa fun N11 h11 => ?_
 have hx := And.intro @c1 hx0
 refine Ad ?_
 try refine Ac ?_
 refine Ap (hq := by exact Aq) ?_
 refine BL (hq := by exact Aq) ?_
 refine Al (hq := by exact Aq) ?_
 refine Ab ?_
 have hx := hx0
 refine h11 _ ?_; clear h11
 refine Ai (fun hb12 => ?_) (fun hb12 => ?_)
 refine Aa fun N13 h13 => ?_
 refine Ad ?_
 try refine Ac ?_
 refine At (hq := by exact Aq) ?_
 refine Ap (hq := by exact Aq) ?_
 refine BL (hq := by exact Aq) ?_
 refine Ae (hq := by exact Aq) ?_
 refine A4 (hq := by exact Aq) ?_
 refine Ab ?_
 refine h13 _ ?_; clear h13
 refine An ?_
 try simp only [Af]
 rw [hr]
 refine Ax ?_
 ·(repeat' apply And.intro) <;> (first | (first | rfl | trivial | omega | exact Or.inl rfl | (rw [List.take_of_length_le (by simp [rows])]; done) | (simp [rows]; done)) | exact As)
 ·first | omega | exact absurd trivial hb12 | contradiction | (simp_all; done)
 have c1 := True.intro
 have hx := And.intro @e1 hx0
 refine Ad ?_
 try refine Ac ?_
 refine Ap (hq := by exact Aq) ?_
 have hc := Ag (E := (Hb.at_ 26)) (f := 49) (sp := Spec.pure Dt) rfl
 have hs := @Dt.eq_1
 refine AS (hq := by (first | (exact ⟨rfl, hl, rfl, hl2, hsm⟩) | exact A3)) ?_
 refine Bw (hq := by exact Aq) ?_
 refine A4 (hq := by exact Aq) ?_
 refine Ab ?_
 have hx := hx0
 refine h3 _ ?_; clear h3
 refine Aa fun N14 h14 => ?_
 refine Ad ?_
 try refine Ac ?_
 refine Ap (hq := by exact Aq) ?_
 refine BL (hq := by exact Aq) ?_
 refine Al (hq := by exact Aq) ?_
 refine Ab ?_
 refine h14 _ ?_; clear h14
 refine Ai (fun hb15 => ?_) (fun hb15 => ?_)
 ·first | omega | exact absurd trivial hb15 | contradiction | (simp_all; done)
 refine Am ?_
 try simp only [Af]
 refine h2 _ ?_; clear h2
 refine Aa fun N16 h16 => ?_
 refine Aa fun N17 h17 => ?_
 have hx := And.intro @e3 hx0
 refine Ad ?_
 try refine Ac ?_
 refine Ap (hq := by exact Aq) ?_
 have hc := Ag (E := (Hb.at_ 26)) (f := 11) (sp := Spec.pure Ii) rfl
 have hs := @Ii.eq_1
 refine AS (hq := by (first | (exact ⟨rfl, hl3, hbg⟩) | exact A3)) ?_
 refine Bw (hq := by exact Aq) ?_
 refine A4 (hq := by exact Aq) ?_
 refine Ab ?_
 have hx := hx0
 refine h17 _ ?_; clear h17
 refine Aa fun N18 h18 => ?_
 refine Ad ?_
 try refine Ac ?_
 refine Ap (hq := by exact Aq) ?_
 refine BL (hq := by exact Aq) ?_
 refine Al (hq := by exact Aq) ?_
 refine Ab ?_
 refine h18 _ ?_; clear h18
 refine Ai (fun hb19 => ?_) (fun hb19 => ?_)
 ·first | omega | exact absurd trivial hb19 | contradiction | (simp_all; done)
 refine Am ?_
 try simp only [Af]
 refine h16 _ ?_; clear h16
 refine Aa fun N20 h20 => ?_
 refine Ad ?_
 try refine Ac ?_
 iterate 2 refine Ap (hq := by exact Aq) ?_
 have hc := Ag (E := (Hb.at_ 26)) (f := 50) (sp := Spec.fresh Yo) rfl
 have hs := @Yo.eq_1
 refine B8 (hq := by (first | (exact ⟨rfl, hl, rfl, hl2, hsm, e1, rfl, e3⟩) | exact A3)) ?_
 refine BL (hq := by exact Aq) ?_
 refine Ae (hq := by exact Aq) ?_
 refine A4 (hq := by exact Aq) ?_
 refine Ab ?_
 refine h20 _ ?_; clear h20
 refine An ?_
 try simp only [Af]
 rw [hr]
 refine Ax ?_
 ·(repeat' apply And.intro) <;> (first | (first | rfl | trivial | omega | exact Or.inl rfl | (rw [List.take_of_length_le (by simp [rows])]; done) | (simp [rows]; done)) | exact As)
 cases hg

def Wk : Bn Tryz.prog := Hb.add 22 (Spec.pure LW) R4 (by kernel_rfl)

def NP (n : Nat) (kt : A1 Tryz.prog 24 (Spec.pure (Hq n))) : Bn Tryz.prog := Wk.add 24 (Spec.pure (Hq n)) kt (by kernel_rfl)

theorem T9 (fu : Nat) (kt : A1 Tryz.prog 24 (Spec.pure (Hq fu))) : A1 Tryz.prog 24 (Spec.pure (Hq (fu + 1))) := by
 refine Az ((NP fu kt).at_ 86) Tryz.func24 rfl rfl rfl ?_
 intro args p r hg hp
 unfold Hq at hg
 split at hg
 rename_i xs ps ys i
 simp only [Option.some.injEq, Prod.mk.injEq] at hg
 obtain ⟨rfl, rfl⟩ := hg
 obtain ⟨he, he2, hvf, he3, hvq, hi0, hil, hif⟩ := hp
 generalize dI xs = l at *
 generalize dP ps = P at *
 generalize Cz ys = q at *
 subst he he2 he3
 obtain ⟨i, rfl⟩ := Int.eq_ofNat_of_zero_le hi0
 have hvl := JS (show (Br l P).1 = 0 by rw [hvf])
 have hlen20 := hvl.tlen
 obtain ⟨_, h1, h40, _⟩ := F7 hvq
 have hiq : i < q.length := by omega
 obtain ⟨x, hxe⟩ := BG (l := q) (i := i) hiq
 have hxd : q.getD i default = x := by rw [List.getD_eq_getElem?_getD, hxe]; rfl
 simp only [Int.toNat_natCast]
 have hmy := Ya (l := l) (P := P) hiq hxd
 have hSl := Eh l P q i
 have hSa := Ga (l := l) (P := P) (q := q) (i := i)
 have hok := Fh hvq hiq hxd
 have hat := OM hvq hiq hxd
 obtain ⟨a, b, c, e⟩ := x
 dsimp only at hok hat
 have hT : ((NP fu kt)).X = T := rfl
 have hx0 := And.intro @DB (And.intro @BQ (And.intro @AA (And.intro @B4 (And.intro @AY (And.intro @Ci (And.intro @Ch (And.intro @Int.toNat_natCast @Tryz.results24)))))))
 have hx := hx0
 refine ⟨by rfl, ?_⟩
 intro F W0 hnp hmk
 refine Aa fun N1 h1 => ?_
 refine Ad ?_
 try refine Ac ?_
 iterate 2 refine EX (hq := by exact Aq) ?_
 refine Ae (hq := by exact Aq) ?_
 refine Ab ?_
 refine h1 _ ?_; clear h1
 refine Aa fun N2 h2 => ?_
 have hx := And.intro @hxe (And.intro @DR.eq_1 hx0)
 refine Ad ?_
 try refine Ac ?_
 refine At (hq := by exact Aq) ?_
 refine Ap (hq := by exact Aq) ?_
 refine Ae (hq := by exact Aq) ?_
 refine At (hq := by exact Aq) ?_
 refine Ap (hq := by exact Aq) ?_
 refine Bw (hq := by exact Aq) ?_
 refine A4 (hq := by exact Aq) ?_
 refine Ab ?_
 have hx := hx0
 refine h2 _ ?_; clear h2
 refine Aa fun N3 h3 => ?_
 refine Aa fun N4 h4 => ?_
 refine Ad ?_
 try refine Ac ?_
 refine At (hq := by exact Aq) ?_
 refine Ap (hq := by exact Aq) ?_
 refine Al (hq := by exact Aq) ?_
 refine Ab ?_
 refine h4 _ ?_; clear h4
 refine Ai (fun hb5 => ?_) (fun hb5 => ?_)
 have hk1 : a = 1 := by have := hb5; (try simp at this); omega
 have hbl := Ht (hok.2.1 hk1)
 have hN := Tv (l := l) (P := P) (b := b) (c := c) (e := e) (S := (Cy l P q i)) hk1
 refine Aa fun N6 h6 => ?_
 refine Ad ?_
 try refine Ac ?_
 refine Ap (hq := by exact Aq) ?_
 refine At (hq := by exact Aq) ?_
 refine Ap (hq := by exact Aq) ?_
 have hc := Ag (E := ((NP fu kt).at_ 86)) (f := 52) (sp := Spec.pure M2) rfl
 have hs := @M2.eq_1
 refine JP (hq := by (first | (exact ⟨rfl, rfl, hvl, by omega⟩) | exact A3)) ?_
 refine Ae (hq := by exact Aq) ?_
 refine Ab ?_
 refine h6 _ ?_; clear h6
 refine An ?_
 try simp only [Af]
 rw [hmy, hN]
 refine Ax ?_
 exact As
 have hk1 : ¬a = 1 := by have := hb5; (try simp at this); omega
 refine Am ?_
 try simp only [Af]
 refine h3 _ ?_; clear h3
 refine Aa fun N7 h7 => ?_
 refine Aa fun N8 h8 => ?_
 refine Ad ?_
 try refine Ac ?_
 refine At (hq := by exact Aq) ?_
 refine Ap (hq := by exact Aq) ?_
 refine Al (hq := by exact Aq) ?_
 refine Ab ?_
 refine h8 _ ?_; clear h8
 refine Ai (fun hb9 => ?_) (fun hb9 => ?_)
 have hk4 : a = 4 := by have := hb9; (try simp at this); omega
 have hN := Tx (l := l) (P := P) (b := b) (c := c) (e := e) (S := (Cy l P q i)) hk4
 refine Aa fun N10 h10 => ?_
 refine Ad ?_
 try refine Ac ?_
 refine At (hq := by exact Aq) ?_
 refine Ap (hq := by exact Aq) ?_
 refine Ae (hq := by exact Aq) ?_
 refine Ab ?_
 refine h10 _ ?_; clear h10
 refine An ?_
 try simp only [Af]
 rw [hmy, hN]
 refine Ax ?_
 exact As
 have hk4 : ¬a = 4 := by have := hb9; (try simp at this); omega
 have hk23 : a = 2 ∨ a = 3 := by omega
 obtain ⟨hc0, hci, he0, hei⟩ := hat hk1
 obtain ⟨c, rfl⟩ := Int.eq_ofNat_of_zero_le hc0
 obtain ⟨e, rfl⟩ := Int.eq_ofNat_of_zero_le he0
 obtain ⟨sx, hsx⟩ := BG (l := (Cy l P q i)) (i := c) (by omega)
 obtain ⟨sy, hsy⟩ := BG (l := (Cy l P q i)) (i := e) (by omega)
 have hxl := hSa sx (AE hsx)
 have hyl := hSa sy (AE hsy)
 have hpx := T8 (by omega) (by omega) hsx
 have hpy := T8 (by omega) (by omega) hsy
 have hN := (Tw (l := l) (P := P) (b := b) (c := (c : Nat)) (e := (e : Nat)) hk1 hk4 (by rw [Int.toNat_natCast]; exact hsx) (by rw [Int.toNat_natCast]; exact hsy)).trans (Nf l a sx sy).symm
 refine Am ?_
 try simp only [Af]
 refine h7 _ ?_; clear h7
 refine Aa fun N11 h11 => ?_
 have hx := And.intro @hpx (And.intro @hpy hx0)
 refine G0 [24] [0, 1, 2, 3, 5, 6, 7, 8, 4, 9, 10, 11] Fw (by kernel_rfl) ?_
 simp only [Ao, Ak]
 try refine Ac ?_
 iterate 2 refine Ap (hq := by exact Aq) ?_
 refine At (hq := by exact Aq) ?_
 iterate 3 refine Ap (hq := by exact Aq) ?_
 refine At (hq := by exact Aq) ?_
 refine Ap (hq := by exact Aq) ?_
 have hc := Ag (E := ((NP fu kt).at_ 86)) (f := 24) (sp := Spec.pure (Hq fu)) rfl
 have hs := @Hq.eq_1
 refine JP (hq := by (first | (exact ⟨rfl, rfl, hvf, rfl, hvq, by omega, by omega, by omega⟩) | exact A3)) ?_
 have hc := Ag (E := ((NP fu kt).at_ 86)) (f := 24) (sp := Spec.pure (Hq fu)) rfl
 have hs := @Hq.eq_1
 refine JP (hq := by (first | (exact ⟨rfl, rfl, hvf, rfl, hvq, by omega, by omega, by omega⟩) | exact A3)) ?_
 iterate 2 refine Ae (hq := by exact Aq) ?_
 refine Ab ?_
 have hx := hx0
 refine h11 _ ?_; clear h11
 refine Aa fun N12 h12 => ?_
 refine Ad ?_
 try refine Ac ?_
 refine Ae (hq := by exact Aq) ?_
 refine Ab ?_
 refine h12 _ ?_; clear h12
 refine Aa fun N13 h13 => ?_
 refine Aa fun N14 h14 => ?_
 refine Ad ?_
 try refine Ac ?_
 refine Ae (hq := by exact Aq) ?_
 refine Ab ?_
 refine h14 _ ?_; clear h14
 refine Au ?_
 refine A0 (σ := Nat) (fun s => (fun j => j ≤ l.length) s)
  (fun s => (fun j => [(3, .ptr 0 0 0), (4, .ptr 1 0 0), (7, .ptr 2 0 0), (8, .d (.sl (rows eI sx))), (9, .d (.sl (rows eI sy))), (10, .sl 3 0 (ET l a sx sy j).length), (11, .d (.int .i64 (j : Nat)))]) s)
  (fun s => (fun j => [some (.one 49 [.d (.sl (rows eI l)), .d (.sl (rows eP P))]), some (.one 25 [.d (.sl (rows DR q))]), some (.one 55 [.d (.int .i64 a), .d (.str b), .d (.int .i64 (c : Nat)), .d (.int .i64 (e : Nat))]), some (.vec 3 1 (rows eI (ET l a sx sy j)))]) s) (fun s => (fun j => l.length - j) s) hnp 0 ?_ [some 0, some 1, some 2, none] ?_ ?_
 dsimp only
 omega
 dsimp only
 refine ⟨by rfl, ?_, ?_⟩
 refine Aj ?_
 exact As
 refine Aj ?_
 exact As
 rintro j hinv N15 h15
 dsimp only at hinv ⊢
 have j1 := hinv
 have hkl := Hr l a sx sy j
 refine Aa fun N16 h16 => ?_
 refine Aa fun N17 h17 => ?_
 refine Ad ?_
 try refine Ac ?_
 refine Ae (hq := by exact Aq) ?_
 refine At (hq := by exact Aq) ?_
 refine Ap (hq := by exact Aq) ?_
 refine AZ (hq := by exact Aq) ?_
 refine Al (hq := by exact Aq) ?_
 refine Ab ?_
 refine h17 _ ?_; clear h17
 refine Ai (fun hb18 => ?_) (fun hb18 => ?_)
 have hjl : j < l.length := by have := hb18; (try simp at this); omega
 obtain ⟨t, hte⟩ := BG (l := l) (i := j) hjl
 have hkl := Hr l a sx sy j
 have hstep := KD (kd := a) (x := sx) (y := sy) hte
 refine Am ?_
 try simp only [Af]
 refine h16 _ ?_; clear h16
 refine Aa fun N19 h19 => ?_
 refine Au ?_
 refine Aa fun N20 h20 => ?_
 have hx := And.intro @hte (And.intro @eI.eq_1 hx0)
 refine G0 [26] [0, 1, 2, 3, 4, 5, 7, 8, 9, 10, 11, 12, 6, 13, 14, 15] Fw (by kernel_rfl) ?_
 simp only [Ao, Ak]
 try refine Ac ?_
 refine Ae (hq := by exact Aq) ?_
 refine At (hq := by exact Aq) ?_
 refine Ap (hq := by exact Aq) ?_
 refine Ae (hq := by exact Aq) ?_
 refine At (hq := by exact Aq) ?_
 refine Ap (hq := by exact Aq) ?_
 refine Ae (hq := by exact Aq) ?_
 refine At (hq := by exact Aq) ?_
 refine Ap (hq := by exact Aq) ?_
 refine Ae (hq := by exact Aq) ?_
 refine At (hq := by exact Aq) ?_
 refine Ap (hq := by exact Aq) ?_
 have hc := Ag (E := ((NP fu kt).at_ 86)) (f := 26) (sp := Spec.pure FX) rfl
 have hs := @FX.eq_1
 refine AS (hq := by exact Aq) ?_
 have hc := Ag (E := ((NP fu kt).at_ 86)) (f := 26) (sp := Spec.pure FX) rfl
 have hs := @FX.eq_1
 refine AS (hq := by exact Aq) ?_
 iterate 2 refine Ae (hq := by exact Aq) ?_
 refine Ab ?_
 have hx := hx0
 refine h20 _ ?_; clear h20
 refine Gm (σ := Bool) (fun s => (fun w => w = LB a (decide (t ∈ sx)) (decide (t ∈ sy))) s)
  (fun s => (fun w => [(3, .ptr 0 0 0), (4, .ptr 1 0 0), (7, .ptr 2 0 0), (8, .d (.sl (rows eI sx))), (9, .d (.sl (rows eI sy))), (10, .sl 3 0 (ET l a sx sy j).length), (11, .d (.int .i64 (j : Nat))), (76, .d (.bool w))]) s)
  (fun s => (fun w => [some (.one 49 [.d (.sl (rows eI l)), .d (.sl (rows eP P))]), some (.one 25 [.d (.sl (rows DR q))]), some (.one 55 [.d (.int .i64 a), .d (.str b), .d (.int .i64 (c : Nat)), .d (.int .i64 (e : Nat))]), some (.vec 3 1 (rows eI (ET l a sx sy j)))]) s) hnp ?_ ?_
 rintro w hinv
 dsimp only at hinv ⊢
 have hwv := hinv
 refine Ai (fun hb22 => ?_) (fun hb22 => ?_)
 have hks : ET l a sx sy (j + 1) = ET l a sx sy j ++ [t] := by rw [hstep, if_pos (by rw [← hwv]; exact hb22)]
 have hx := And.intro @hte (And.intro @eI.eq_1 hx0)
 refine Ad ?_
 try refine Ac ?_
 refine Ae (hq := by exact Aq) ?_
 refine At (hq := by exact Aq) ?_
 refine Ap (hq := by exact Aq) ?_
 refine Ae (hq := by exact Aq) ?_
 refine At (hq := by exact Aq) ?_
 refine Ap (hq := by exact Aq) ?_
 refine FH (hq := by exact Aq) ?_
 refine Ih (hq := by exact Aq) ?_
 refine Ae (hq := by exact Aq) ?_
 refine Ab ?_
 have hx := hx0
 refine h19 _ ?_; clear h19
 refine Ad ?_
 try refine Ac ?_
 refine Ae (hq := by exact Aq) ?_
 refine Al (hq := by exact Aq) ?_
 refine Ae (hq := by exact Aq) ?_
 refine Ab ?_
 refine h15 _ ⟨j + 1, ?_, ?_, [some 0, some 1, some 2, some 5], ?_⟩
 dsimp only
 omega
 dsimp only
 omega
 dsimp only
 refine ⟨by rfl, ?_, ?_⟩
 refine Aj ?_
 ·(repeat' apply And.intro) <;> (first | (first | rfl | trivial | omega | (rw [List.take_of_length_le (Nat.le_refl _), X5, hks]; done) | (rw [hks]; done) | (rw [hks]; simp; done)) | exact As)
 refine Aj ?_
 ·(repeat' apply And.intro) <;> (first | (first | rfl | trivial | omega | (rw [List.take_of_length_le (Nat.le_refl _), X5, hks]; done) | (rw [hks]; done) | (rw [hks]; simp; done)) | exact As)
 have hks : ET l a sx sy (j + 1) = ET l a sx sy j := by rw [hstep, if_neg (by rw [← hwv]; have := hb22; simpa using this), List.append_nil]
 refine Am ?_
 try simp only [Af]
 refine h19 _ ?_; clear h19
 refine Ad ?_
 try refine Ac ?_
 refine Ae (hq := by exact Aq) ?_
 refine Al (hq := by exact Aq) ?_
 refine Ae (hq := by exact Aq) ?_
 refine Ab ?_
 refine h15 _ ⟨j + 1, ?_, ?_, [some 0, some 1, some 2, some 3], ?_⟩
 dsimp only
 omega
 dsimp only
 omega
 dsimp only
 refine ⟨by rfl, ?_, ?_⟩
 refine Aj ?_
 ·(repeat' apply And.intro) <;> (first | (first | (with_reducible rfl) | trivial | (rw [hks]; done) | omega | rfl) | exact As)
 refine Aj ?_
 ·(repeat' apply And.intro) <;> (first | (first | (with_reducible rfl) | trivial | (rw [hks]; done) | omega | rfl) | exact As)
 intro N21 h21
 rcases Vd hk23 t sx sy with ⟨rfl, m1, m2⟩ | ⟨rfl, m1, m2⟩ | ⟨rfl, m1, m2⟩ | ⟨rfl, m1, m2⟩ | ⟨rfl, m1, m2⟩ | ⟨rfl, m1, m2⟩
 rw [m1, m2]
 have hx := And.intro @m1 (And.intro @m2 hx0)
 refine Ad ?_
 try refine Ac ?_
 iterate 2 refine Ae (hq := by exact Aq) ?_
 refine Cl (hq := by exact Aq) ?_
 refine A7 (hq := by exact Aq) ?_
 refine Ae (hq := by exact Aq) ?_
 refine Ar ?_ ?_
 focus (exact AP)
 refine Ar ?_ ?_
 focus (exact AP)
 refine Ar ?_ ?_
 focus (exact AP)
 refine Ar ?_ ?_
 focus (exact AP)
 refine Ar ?_ ?_
 focus (exact AP)
 refine Ar ?_ ?_
 focus (exact AP)
 refine Ar ?_ ?_
 focus (exact AP)
 refine Ar ?_ ?_
 focus (exact AP)
 refine Ar ?_ ?_
 focus (exact AP)
 refine A7 (hq := by exact Aq) ?_
 refine Ab ?_
 have hx := hx0
 refine h21 _ ⟨true, ?_, [some 0, some 1, some 2, some 3], ?_⟩
 dsimp only
 rw [m1, m2]; rfl
 dsimp only
 refine ⟨by rfl, ?_, ?_⟩
 refine Aj ?_
 ·(repeat' apply And.intro) <;> (first | (first | (with_reducible rfl) | exact True.intro | trivial | rfl | exact Or.inl rfl) | exact As)
 refine Aj ?_
 ·(repeat' apply And.intro) <;> (first | (first | (with_reducible rfl) | exact True.intro | trivial | rfl | exact Or.inl rfl) | exact As)
 rw [m1, m2]
 have hx := And.intro @m1 (And.intro @m2 hx0)
 refine Ad ?_
 try refine Ac ?_
 iterate 2 refine Ae (hq := by exact Aq) ?_
 refine Cl (hq := by exact Aq) ?_
 refine A7 (hq := by exact Aq) ?_
 refine Ae (hq := by exact Aq) ?_
 refine CG (hq := by exact Aq) ?_
 refine CF (hq := by exact Aq) ?_
 refine DW (hq := by exact Aq) ?_
 refine Cl (hq := by exact Aq) ?_
 refine Ar ?_ ?_
 focus (exact AP)
 refine Ar ?_ ?_
 focus (exact AP)
 refine Ar ?_ ?_
 focus (exact AP)
 refine Ar ?_ ?_
 focus (exact AP)
 refine H6 (hq := by exact Aq) ?_
 refine A7 (hq := by exact Aq) ?_
 refine Ab ?_
 have hx := hx0
 refine h21 _ ⟨false, ?_, [some 0, some 1, some 2, some 3], ?_⟩
 dsimp only
 rw [m1, m2]; rfl
 dsimp only
 refine ⟨by rfl, ?_, ?_⟩
 refine Aj ?_
 ·(repeat' apply And.intro) <;> (first | (first | (with_reducible rfl) | exact True.intro | trivial | rfl | exact Or.inl rfl) | exact As)
 refine Aj ?_
 ·(repeat' apply And.intro) <;> (first | (first | (with_reducible rfl) | exact True.intro | trivial | rfl | exact Or.inl rfl) | exact As)
 rw [m1]
 have hx := And.intro @m1 (And.intro @m2 hx0)
 refine Ad ?_
 try refine Ac ?_
 iterate 2 refine Ae (hq := by exact Aq) ?_
 refine Ar ?_ ?_
 focus (exact AP)
 refine A7 (hq := by exact Aq) ?_
 refine Ae (hq := by exact Aq) ?_
 refine CG (hq := by exact Aq) ?_
 refine CF (hq := by exact Aq) ?_
 refine DW (hq := by exact Aq) ?_
 refine Cl (hq := by exact Aq) ?_
 refine Ar ?_ ?_
 focus (exact AP)
 refine Ar ?_ ?_
 focus (exact AP)
 refine Ar ?_ ?_
 focus (exact AP)
 refine Ar ?_ ?_
 focus (exact AP)
 refine H6 (hq := by exact Aq) ?_
 refine A7 (hq := by exact Aq) ?_
 refine Ab ?_
 have hx := hx0
 refine h21 _ ⟨false, ?_, [some 0, some 1, some 2, some 3], ?_⟩
 dsimp only
 rw [m1]; rfl
 dsimp only
 refine ⟨by rfl, ?_, ?_⟩
 refine Aj ?_
 ·(repeat' apply And.intro) <;> (first | (first | (with_reducible rfl) | exact True.intro | trivial | rfl | exact Or.inl rfl) | exact As)
 refine Aj ?_
 ·(repeat' apply And.intro) <;> (first | (first | (with_reducible rfl) | exact True.intro | trivial | rfl | exact Or.inl rfl) | exact As)
 rw [m1, m2]
 have hx := And.intro @m1 (And.intro @m2 hx0)
 refine Ad ?_
 try refine Ac ?_
 iterate 2 refine Ae (hq := by exact Aq) ?_
 refine Cl (hq := by exact Aq) ?_
 refine A7 (hq := by exact Aq) ?_
 refine Ae (hq := by exact Aq) ?_
 refine Ar ?_ ?_
 focus (exact AP)
 refine Ar ?_ ?_
 focus (exact AP)
 refine Ar ?_ ?_
 focus (exact AP)
 refine Ar ?_ ?_
 focus (exact AP)
 refine Ar ?_ ?_
 focus (exact AP)
 refine Ar ?_ ?_
 focus (exact AP)
 refine Ar ?_ ?_
 focus (exact AP)
 refine Ar ?_ ?_
 focus (exact AP)
 refine Ar ?_ ?_
 focus (exact AP)
 refine A7 (hq := by exact Aq) ?_
 refine Ab ?_
 have hx := hx0
 refine h21 _ ⟨true, ?_, [some 0, some 1, some 2, some 3], ?_⟩
 dsimp only
 rw [m1]; rfl
 dsimp only
 refine ⟨by rfl, ?_, ?_⟩
 refine Aj ?_
 ·(repeat' apply And.intro) <;> (first | (first | (with_reducible rfl) | exact True.intro | trivial | rfl | exact Or.inl rfl) | exact As)
 refine Aj ?_
 ·(repeat' apply And.intro) <;> (first | (first | (with_reducible rfl) | exact True.intro | trivial | rfl | exact Or.inl rfl) | exact As)
 rw [m1, m2]
 have hx := And.intro @m1 (And.intro @m2 hx0)
 refine Ad ?_
 try refine Ac ?_
 iterate 2 refine Ae (hq := by exact Aq) ?_
 refine Cl (hq := by exact Aq) ?_
 refine A7 (hq := by exact Aq) ?_
 refine Ae (hq := by exact Aq) ?_
 refine CG (hq := by exact Aq) ?_
 refine CF (hq := by exact Aq) ?_
 refine DW (hq := by exact Aq) ?_
 iterate 3 refine Cl (hq := by exact Aq) ?_
 refine Ar ?_ ?_
 focus (exact AP)
 iterate 2 refine H6 (hq := by exact Aq) ?_
 refine A7 (hq := by exact Aq) ?_
 refine Ab ?_
 have hx := hx0
 refine h21 _ ⟨true, ?_, [some 0, some 1, some 2, some 3], ?_⟩
 dsimp only
 rw [m1]; rfl
 dsimp only
 refine ⟨by rfl, ?_, ?_⟩
 refine Aj ?_
 ·(repeat' apply And.intro) <;> (first | (first | (with_reducible rfl) | exact True.intro | trivial | rfl | exact Or.inl rfl) | exact As)
 refine Aj ?_
 ·(repeat' apply And.intro) <;> (first | (first | (with_reducible rfl) | exact True.intro | trivial | rfl | exact Or.inl rfl) | exact As)
 rw [m1]
 have hx := And.intro @m1 (And.intro @m2 hx0)
 refine Ad ?_
 try refine Ac ?_
 iterate 2 refine Ae (hq := by exact Aq) ?_
 refine Ar ?_ ?_
 focus (exact AP)
 refine A7 (hq := by exact Aq) ?_
 refine Ae (hq := by exact Aq) ?_
 refine CG (hq := by exact Aq) ?_
 refine CF (hq := by exact Aq) ?_
 refine DW (hq := by exact Aq) ?_
 iterate 4 refine Cl (hq := by exact Aq) ?_
 iterate 2 refine H6 (hq := by exact Aq) ?_
 refine A7 (hq := by exact Aq) ?_
 refine Ab ?_
 have hx := hx0
 refine h21 _ ⟨decide (t ∈ sy), ?_, [some 0, some 1, some 2, some 3], ?_⟩
 dsimp only
 rw [m1, Ww, Bool.false_or]
 dsimp only
 refine ⟨by rfl, ?_, ?_⟩
 refine Aj ?_
 ·(repeat' apply And.intro) <;> (first | (first | (with_reducible rfl) | exact True.intro | trivial | rfl | exact Or.inl rfl) | exact As)
 refine Aj ?_
 ·(repeat' apply And.intro) <;> (first | (first | (with_reducible rfl) | exact True.intro | trivial | rfl | exact Or.inl rfl) | exact As)
 obtain rfl : j = l.length := by have := hb18; (try simp at this); omega
 have hkl := Hr l a sx sy l.length
 refine AF ?_
 simp only [Af, Nat.reduceEqDiff, reduceIte, eq_self]
 refine h13 _ ?_; clear h13
 refine Aa fun N23 h23 => ?_
 refine Ad ?_
 try refine Ac ?_
 iterate 2 refine Ae (hq := by exact Aq) ?_
 refine Ab ?_
 refine h23 _ ?_; clear h23
 refine An ?_
 try simp only [Af]
 rw [hmy, hN]
 refine Ax ?_
 ·(repeat' apply And.intro) <;> (first | (first | rfl | trivial | omega | exact Or.inl rfl | (rw [List.take_of_length_le (by simp [rows])]; done) | (simp [rows]; done)) | exact As)
 cases hg
end Go.Proofs.YtmbjnkgpcbpclaaGreat
