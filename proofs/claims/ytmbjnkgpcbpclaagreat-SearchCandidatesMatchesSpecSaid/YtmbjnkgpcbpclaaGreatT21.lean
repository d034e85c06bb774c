/- Walks, printed by wip/gen/walk.py. -/
import Derived.Test.YtmbjnkgpcbpclaaGreatT17
import Derived.Test.YtmbjnkgpcbpclaaGreatV5
import Derived.Test.YtmbjnkgpcbpclaaGreatV6
set_option linter.all false
set_option maxRecDepth 100000
set_option maxHeartbeats 4000000
namespace Go.Proofs.YtmbjnkgpcbpclaaGreat
open Go Go.Vc Go.RowKit
def M2 : List AV → Option (Prop × AV)
  | [.agg [.d (.sl xs), .d (.sl ps)], .d (.str s)] => some (xs = rows eI (dI xs) ∧ ps = rows eP (dP ps) ∧ Qn (dI xs) (dP ps) ∧ s.length ≤ 1000000000, .d (.sl (rows eI (CA (dI xs) (dP ps) s (s.length - 2)))))
  | _ => none
def HI (P : List AU) (g : Bs) (x : Int) : Bool := P.any fun p => decide (p.1 = g) && decide (x ∈ p.2)
theorem UX {P : List AU} (hs : CJ P) (g : Bs) (x : Int) : HI P g x = MO P g x := by
  rw [Bool.eq_iff_iff, SO hs]
  unfold HI YJ
  rw [List.any_eq_true]
  constructor
  · rintro ⟨⟨a, t⟩, hp, h⟩
    simp only [Bool.and_eq_true, decide_eq_true_eq] at h
    exact ⟨t, h.1 ▸ hp, h.2⟩
  · rintro ⟨t, hp, hx⟩; exact ⟨(g, t), hp, by simp [hx]⟩
theorem Q0 {P : List AU} {i : Nat} {g a : Bs} {t : List Int} {x : Int} (h : P[i]? = some (a, t)) : HI (P.take (i + 1)) g x = (HI (P.take i) g x || (decide (a = g) && decide (x ∈ t))) := by
  unfold HI; rw [List.take_add_one, h, List.any_append]; simp
def Jh (P : List AU) (s : Bs) (k : Nat) (x : Int) : Bool := (List.range k).all fun j => MO P (gr s j) x
theorem Qz (P : List AU) (s : Bs) (k : Nat) (x : Int) : Jh P s (k + 1) x = (Jh P s k x && MO P (gr s k) x) := by unfold Jh; rw [List.range_succ, List.all_append]; simp
theorem QA {l : List Int} {P : List AU} {s : Bs} {k i : Nat} {x : Int} (h : l[i]? = some x) : CA (l.take (i + 1)) P s k = CA (l.take i) P s k ++ if Jh P s k x = true then [x] else [] := by
  unfold CA
  rw [List.take_add_one, h, List.filter_append]
  congr 1
  show (Option.toList (some x)).filter (fun x => Jh P s k x) = _
  cases hb : Jh P s k x <;> simp [hb]

theorem Og : A1 Tryz.prog 52 (Spec.pure M2) := by
 refine Az (Gp.at_ 75) Tryz.func52 rfl rfl rfl ?_
 intro args p r hg hp
 unfold M2 at hg
 split at hg
 rename_i xs ps u
 simp only [Option.some.injEq, Prod.mk.injEq] at hg
 obtain ⟨rfl, rfl⟩ := hg
 obtain ⟨he, he2, hv, hul⟩ := hp
 generalize dI xs = l at *
 generalize dP ps = P at *
 subst he he2
 have hlen20 := hv.tlen
 have hpl := hv.plen
 have hpm := hv.pmax
 have hT : (Gp).X = T := rfl
 have hx0 := And.intro @DB (And.intro @AA (And.intro @P3 (And.intro @Ci (And.intro @Ch @Tryz.results52))))
 have hx := hx0
 refine ⟨by rfl, ?_⟩
 intro F W0 hnp hmk
 refine Aa fun N1 h1 => ?_
 refine Ad ?_
 try refine Ac ?_
 refine EX ?_
 refine Ae ?_
 refine Ab ?_
 refine h1 _ ?_; clear h1
 refine Aa fun N2 h2 => ?_
 refine Ad ?_
 try refine Ac ?_
 refine Ae ?_
 refine Ab ?_
 refine h2 _ ?_; clear h2
 refine Aa fun N3 h3 => ?_
 refine Aa fun N4 h4 => ?_
 refine Ad ?_
 try refine Ac ?_
 refine Ae ?_
 refine Ab ?_
 refine h4 _ ?_; clear h4
 refine Au ?_
 refine A0 (σ := Nat) (fun s => (fun i => i ≤ l.length) s)
  (fun s => (fun i => [(1, .d (.str u)), (2, .ptr 0 0 0), (5, .sl 1 0 (CA (l.take i) P u (u.length - 2)).length), (6, .d (.int .i64 (i : Nat)))]) s)
  (fun s => (fun i => [some (.one 49 [.d (.sl (rows eI l)), .d (.sl (rows eP P))]), some (.vec 3 1 (rows eI (CA (l.take i) P u (u.length - 2))))]) s) (fun s => (fun i => l.length - i) s) hnp 0 ?_ [some 0, none] ?_ ?_
 dsimp only
 omega
 dsimp only
 refine ⟨by rfl, ?_, ?_⟩
 refine Aj ?_
 exact As
 refine Aj ?_
 exact As
 rintro i hinv N5 h5
 dsimp only at hinv ⊢
 have i1 := hinv
 refine Aa fun N6 h6 => ?_
 refine Aa fun N7 h7 => ?_
 refine Ad ?_
 try refine Ac ?_
 refine Ae ?_
 refine At ?_
 refine Ap ?_
 refine AZ ?_
 refine Al ?_
 refine Ab ?_
 refine h7 _ ?_; clear h7
 refine Ai (fun hb8 => ?_) (fun hb8 => ?_)
 obtain ⟨x, hxe⟩ := BG (l := l) (i := i) (by omega)
 have hsn := QA (P := P) (s := u) (k := u.length - 2) hxe
 have hcl := Gr (l.take i) P u (u.length - 2)
 rw [List.length_take] at hcl
 refine Am ?_
 try simp only [Af]
 refine h6 _ ?_; clear h6
 refine Aa fun N9 h9 => ?_
 refine Au ?_
 refine Aa fun N10 h10 => ?_
 refine Ad ?_
 try refine Ac ?_
 refine Ae ?_
 refine Ab ?_
 refine h10 _ ?_; clear h10
 refine Aa fun N11 h11 => ?_
 refine Aa fun N12 h12 => ?_
 refine Ad ?_
 try refine Ac ?_
 refine Ae ?_
 refine Ab ?_
 refine h12 _ ?_; clear h12
 refine Au ?_
 refine A0 (σ := Nat) (fun s => (fun k => k ≤ u.length - 2) s)
  (fun s => (fun k => [(1, .d (.str u)), (2, .ptr 0 0 0), (5, .sl 1 0 (CA (l.take i) P u (u.length - 2)).length), (6, .d (.int .i64 (i : Nat))), (7, .d (.bool (Jh P u k x))), (8, .d (.int .i64 (k : Nat)))]) s)
  (fun s => (fun k => [some (.one 49 [.d (.sl (rows eI l)), .d (.sl (rows eP P))]), some (.vec 3 1 (rows eI (CA (l.take i) P u (u.length - 2))))]) s) (fun s => (fun k => u.length - k) s) hnp 0 ?_ [some 0, some 1] ?_ ?_
 dsimp only
 omega
 dsimp only
 refine ⟨by rfl, ?_, ?_⟩
 refine Aj ?_
 exact As
 refine Aj ?_
 exact As
 rintro k hinv N13 h13
 dsimp only at hinv ⊢
 have k1 := hinv
 refine Aa fun N14 h14 => ?_
 refine Aa fun N15 h15 => ?_
 refine Ad ?_
 try refine Ac ?_
 refine Ae ?_
 refine Al ?_
 refine Ae ?_
 refine AZ ?_
 refine Al ?_
 refine Ab ?_
 refine h15 _ ?_; clear h15
 refine Ai (fun hb16 => ?_) (fun hb16 => ?_)
 have hk3 : k + 3 ≤ u.length := by have := hb16; omega
 have hgr : List.take (((k : Int) + 3).toNat - k) (u.drop k) = gr u k := by unfold gr; congr 1; omega
 refine Am ?_
 try simp only [Af]
 refine h14 _ ?_; clear h14
 refine Aa fun N17 h17 => ?_
 refine Au ?_
 refine Aa fun N18 h18 => ?_
 refine Ad ?_
 try refine Ac ?_
 refine Ae ?_
 refine Ab ?_
 refine h18 _ ?_; clear h18
 refine Aa fun N19 h19 => ?_
 refine Aa fun N20 h20 => ?_
 refine Ad ?_
 try refine Ac ?_
 refine Ae ?_
 refine Ab ?_
 refine h20 _ ?_; clear h20
 refine Au ?_
 refine A0 (σ := Nat) (fun s => (fun j => j ≤ P.length) s)
  (fun s => (fun j => [(1, .d (.str u)), (2, .ptr 0 0 0), (5, .sl 1 0 (CA (l.take i) P u (u.length - 2)).length), (6, .d (.int .i64 (i : Nat))), (7, .d (.bool (Jh P u k x))), (8, .d (.int .i64 (k : Nat))), (9, .d (.bool (HI (P.take j) (gr u k) x))), (10, .d (.int .i64 (j : Nat)))]) s)
  (fun s => (fun j => [some (.one 49 [.d (.sl (rows eI l)), .d (.sl (rows eP P))]), some (.vec 3 1 (rows eI (CA (l.take i) P u (u.length - 2))))]) s) (fun s => (fun j => P.length - j) s) hnp 0 ?_ [some 0, some 1] ?_ ?_
 dsimp only
 omega
 dsimp only
 refine ⟨by rfl, ?_, ?_⟩
 refine Aj ?_
 exact As
 refine Aj ?_
 exact As
 rintro j hinv N21 h21
 dsimp only at hinv ⊢
 have j1 := hinv
 refine Aa fun N22 h22 => ?_
 refine Aa fun N23 h23 => ?_
 refine Ad ?_
 try refine Ac ?_
 refine Ae ?_
 refine At ?_
 refine Ap ?_
 refine AZ ?_
 refine Al ?_
 refine Ab ?_
 refine h23 _ ?_; clear h23
 refine Ai (fun hb24 => ?_) (fun hb24 => ?_)
 obtain ⟨⟨a, t⟩, hpe⟩ := BG (l := P) (i := j) (by omega)
 have htl : t.length ≤ 20 := hpm _ (AE hpe)
 have hany := Q0 (g := gr u k) (x := x) hpe
 refine Am ?_
 try simp only [Af]
 refine h22 _ ?_; clear h22
 refine Aa fun N25 h25 => ?_
 refine Au ?_
 rcases (show (HI (P.take j) (gr u k) x) = true ∨ (HI (P.take j) (gr u k) x) = false ∧ a = gr u k ∨ (HI (P.take j) (gr u k) x) = false ∧ ¬ a = gr u k by cases (HI (P.take j) (gr u k) x) <;> by_cases h : a = gr u k <;> simp [h]) with hc | hc | hc
 have ha0 := hc
 have hdg := hgr
 have hres : HI (P.take (j + 1)) (gr u k) x = true := by rw [hany, hc]; rfl
 simp only [ha0]
 have hx := And.intro @hxe (And.intro @hpe (And.intro @hgr (And.intro @ha0 (And.intro @hdg (And.intro @eI.eq_1 hx0)))))
 refine Ad ?_
 try refine Ac ?_
 iterate 2 refine Ae ?_
 refine AK ?_
 refine AJ ?_
 refine BI ?_
 iterate 2 refine AK ?_
 refine AJ ?_
 iterate 3 refine BI ?_
 refine B7 ?_
 refine WX ?_
 refine B7 ?_
 refine BI ?_
 refine AK ?_
 refine AJ ?_
 refine BI ?_
 iterate 2 refine AK ?_
 refine AJ ?_
 refine AK ?_
 refine AJ ?_
 refine BI ?_
 refine AK ?_
 refine AJ ?_
 have hc := Ag (E := (Gp.at_ 75)) (f := 26) (sp := Spec.pure FX) rfl
 have hs := @FX.eq_1
 refine ER ?_
 refine SK ?_
 refine A7 ?_
 refine Ae ?_
 refine Ab ?_
 have hx := hx0
 refine h25 _ ?_; clear h25
 refine Ad ?_
 try refine Ac ?_
 refine Ae ?_
 refine Al ?_
 refine Ae ?_
 refine Ab ?_
 refine h21 _ ⟨j + 1, ?_, ?_, [some 0, some 1], ?_⟩
 dsimp only
 omega
 dsimp only
 omega
 dsimp only
 refine ⟨by rfl, ?_, ?_⟩
 refine Aj ?_
 ·(repeat' apply And.intro) <;> (first | (first | rfl | trivial | (rw [hres]; done) | exact congrArg _ hres.symm | (simp [hres]; done)) | exact As)
 refine Aj ?_
 ·(repeat' apply And.intro) <;> (first | (first | rfl | trivial | (rw [hres]; done) | exact congrArg _ hres.symm | (simp [hres]; done)) | exact As)
 have ha0 := hc.1
 have hdg : decide (a = gr u k) = true := decide_eq_true hc.2
 have hres : HI (P.take (j + 1)) (gr u k) x = decide (x ∈ t) := by rw [hany, hc.1, hdg]; rfl
 simp only [ha0]
 have hx := And.intro @hxe (And.intro @hpe (And.intro @hgr (And.intro @ha0 (And.intro @hdg (And.intro @eI.eq_1 hx0)))))
 refine Ad ?_
 try refine Ac ?_
 iterate 2 refine Ae ?_
 refine AK ?_
 refine AJ ?_
 refine BI ?_
 iterate 2 refine AK ?_
 refine AJ ?_
 iterate 3 refine BI ?_
 refine B7 ?_
 refine WX ?_
 refine B7 ?_
 refine BI ?_
 refine AK ?_
 refine AJ ?_
 refine BI ?_
 iterate 2 refine AK ?_
 refine AJ ?_
 refine AK ?_
 refine AJ ?_
 refine BI ?_
 refine AK ?_
 refine AJ ?_
 have hc := Ag (E := (Gp.at_ 75)) (f := 26) (sp := Spec.pure FX) rfl
 have hs := @FX.eq_1
 refine ER ?_
 refine SK ?_
 refine A7 ?_
 refine Ae ?_
 refine Ab ?_
 have hx := hx0
 refine h25 _ ?_; clear h25
 refine Ad ?_
 try refine Ac ?_
 refine Ae ?_
 refine Al ?_
 refine Ae ?_
 refine Ab ?_
 refine h21 _ ⟨j + 1, ?_, ?_, [some 0, some 1], ?_⟩
 dsimp only
 omega
 dsimp only
 omega
 dsimp only
 refine ⟨by rfl, ?_, ?_⟩
 refine Aj ?_
 ·(repeat' apply And.intro) <;> (first | (first | rfl | trivial | (rw [hres]; done) | exact congrArg _ hres.symm | (simp [hres]; done)) | exact As)
 refine Aj ?_
 ·(repeat' apply And.intro) <;> (first | (first | rfl | trivial | (rw [hres]; done) | exact congrArg _ hres.symm | (simp [hres]; done)) | exact As)
 have ha0 := hc.1
 have hdg : decide (a = gr u k) = false := decide_eq_false hc.2
 have hres : HI (P.take (j + 1)) (gr u k) x = false := by rw [hany, hc.1, hdg]; rfl
 simp only [ha0]
 have hx := And.intro @hxe (And.intro @hpe (And.intro @hgr (And.intro @ha0 (And.intro @hdg (And.intro @eI.eq_1 hx0)))))
 refine Ad ?_
 try refine Ac ?_
 iterate 2 refine Ae ?_
 refine AK ?_
 refine AJ ?_
 refine BI ?_
 iterate 2 refine AK ?_
 refine AJ ?_
 iterate 3 refine BI ?_
 refine B7 ?_
 refine WX ?_
 refine B7 ?_
 refine BI ?_
 refine AK ?_
 refine AJ ?_
 refine BI ?_
 iterate 2 refine AK ?_
 refine AJ ?_
 refine AK ?_
 refine AJ ?_
 refine BI ?_
 refine AK ?_
 refine AJ ?_
 have hc := Ag (E := (Gp.at_ 75)) (f := 26) (sp := Spec.pure FX) rfl
 have hs := @FX.eq_1
 refine ER ?_
 refine SK ?_
 refine A7 ?_
 refine Ae ?_
 refine Ab ?_
 have hx := hx0
 refine h25 _ ?_; clear h25
 refine Ad ?_
 try refine Ac ?_
 refine Ae ?_
 refine Al ?_
 refine Ae ?_
 refine Ab ?_
 refine h21 _ ⟨j + 1, ?_, ?_, [some 0, some 1], ?_⟩
 dsimp only
 omega
 dsimp only
 omega
 dsimp only
 refine ⟨by rfl, ?_, ?_⟩
 refine Aj ?_
 ·(repeat' apply And.intro) <;> (first | (first | rfl | trivial | (rw [hres]; done) | exact congrArg _ hres.symm | (simp [hres]; done)) | exact As)
 refine Aj ?_
 ·(repeat' apply And.intro) <;> (first | (first | rfl | trivial | (rw [hres]; done) | exact congrArg _ hres.symm | (simp [hres]; done)) | exact As)
 obtain rfl : j = P.length := by omega
 have hat := UX hv.good.sort (gr u k) x
 have hak := Qz P u k x
 try simp only [List.take_length]
 refine AF ?_
 simp only [Af, Nat.reduceEqDiff, reduceIte, eq_self]
 refine h19 _ ?_; clear h19
 cases hal : Jh P u k x
 try simp only [hal]
 have hx := And.intro @hal (And.intro @hat hx0)
 refine Ad ?_
 try refine Ac ?_
 iterate 2 refine Ae ?_
 refine BI ?_
 refine A7 ?_
 refine Ae ?_
 refine Ab ?_
 have hx := hx0
 refine h17 _ ?_; clear h17
 refine Ad ?_
 try refine Ac ?_
 refine Ae ?_
 refine Al ?_
 refine Ae ?_
 refine Ab ?_
 refine h13 _ ⟨k + 1, ?_, ?_, [some 0, some 1], ?_⟩
 dsimp only
 omega
 dsimp only
 omega
 dsimp only
 refine ⟨by rfl, ?_, ?_⟩
 refine Aj ?_
 ·(repeat' apply And.intro) <;> (first | (first | rfl | trivial | (rw [hak, hal]; simp; done) | (rw [hak, hal]; done) | (simp [hak, hal, hat]; done) | (trace_state; fail)) | exact As)
 refine Aj ?_
 ·(repeat' apply And.intro) <;> (first | (first | rfl | trivial | (rw [hak, hal]; simp; done) | (rw [hak, hal]; done) | (simp [hak, hal, hat]; done) | (trace_state; fail)) | exact As)
 try simp only [hal]
 have hx := And.intro @hal (And.intro @hat hx0)
 refine Ad ?_
 try refine Ac ?_
 iterate 2 refine Ae ?_
 refine BI ?_
 refine A7 ?_
 refine Ae ?_
 refine Ab ?_
 have hx := hx0
 refine h17 _ ?_; clear h17
 refine Ad ?_
 try refine Ac ?_
 refine Ae ?_
 refine Al ?_
 refine Ae ?_
 refine Ab ?_
 refine h13 _ ⟨k + 1, ?_, ?_, [some 0, some 1], ?_⟩
 dsimp only
 omega
 dsimp only
 omega
 dsimp only
 refine ⟨by rfl, ?_, ?_⟩
 refine Aj ?_
 ·(repeat' apply And.intro) <;> (first | (first | rfl | trivial | (rw [hak, hal]; simp; done) | (rw [hak, hal]; done) | (simp [hak, hal, hat]; done) | (trace_state; fail)) | exact As)
 refine Aj ?_
 ·(repeat' apply And.intro) <;> (first | (first | rfl | trivial | (rw [hak, hal]; simp; done) | (rw [hak, hal]; done) | (simp [hak, hal, hat]; done) | (trace_state; fail)) | exact As)
 obtain rfl : k = u.length - 2 := by omega
 refine AF ?_
 simp only [Af, Nat.reduceEqDiff, reduceIte, eq_self]
 refine h11 _ ?_; clear h11
 refine Aa fun N26 h26 => ?_
 refine Ad ?_
 try refine Ac ?_
 refine Ae ?_
 refine Ab ?_
 refine h26 _ ?_; clear h26
 refine Ai (fun hb27 => ?_) (fun hb27 => ?_)
 have hx := And.intro @hxe (And.intro @eI.eq_1 hx0)
 refine Ad ?_
 try refine Ac ?_
 refine Ae ?_
 refine At ?_
 refine Ap ?_
 refine Ae ?_
 refine At ?_
 refine Ap ?_
 refine FH ?_
 refine Ih ?_
 refine Ae ?_
 refine Ab ?_
 have hx := hx0
 refine h9 _ ?_; clear h9
 refine Ad ?_
 try refine Ac ?_
 refine Ae ?_
 refine Al ?_
 refine Ae ?_
 refine Ab ?_
 have hb : Jh P u (u.length - 2) x = true := hb27
 rw [hb, if_pos rfl] at hsn
 refine h5 _ ⟨i + 1, ?_, ?_, [some 0, some 3], ?_⟩
 dsimp only
 omega
 dsimp only
 omega
 dsimp only
 refine ⟨by rfl, ?_, ?_⟩
 refine Aj ?_
 ·(repeat' apply And.intro) <;> (first | (first | rfl | trivial | (rw [hsn]; simp [rows, eI]; done) | (rw [hsn]; simp; done)) | exact As)
 refine Aj ?_
 ·(repeat' apply And.intro) <;> (first | (first | rfl | trivial | (rw [hsn]; simp [rows, eI]; done) | (rw [hsn]; simp; done)) | exact As)
 refine Am ?_
 try simp only [Af]
 refine h9 _ ?_; clear h9
 refine Ad ?_
 try refine Ac ?_
 refine Ae ?_
 refine Al ?_
 refine Ae ?_
 refine Ab ?_
 have hb : Jh P u (u.length - 2) x = false := hb27
 rw [hb, if_neg (by simp), List.append_nil] at hsn
 refine h5 _ ⟨i + 1, ?_, ?_, [some 0, some 1], ?_⟩
 dsimp only
 omega
 dsimp only
 omega
 dsimp only
 refine ⟨by rfl, ?_, ?_⟩
 refine Aj ?_
 ·(repeat' apply And.intro) <;> (first | (first | rfl | trivial | (rw [hsn]; done)) | exact As)
 refine Aj ?_
 ·(repeat' apply And.intro) <;> (first | (first | rfl | trivial | (rw [hsn]; done)) | exact As)
 refine AF ?_
 simp only [Af, Nat.reduceEqDiff, reduceIte, eq_self]
 refine h3 _ ?_; clear h3
 refine Aa fun N28 h28 => ?_
 refine Ad ?_
 try refine Ac ?_
 iterate 2 refine Ae ?_
 refine Ab ?_
 refine h28 _ ?_; clear h28
 refine An ?_
 try simp only [Af]
 obtain rfl : i = l.length := by omega
 refine Ax ?_
 ·(repeat' apply And.intro) <;> (first | (first | rfl | exact Or.inl rfl | trivial | (rw [List.take_length]; done) | (simp [List.take_length]; done)) | exact As)
 cases hg

def Cx : Bn Tryz.prog := Gp.add 52 (Spec.pure M2) Og (by kernel_rfl)
end Go.Proofs.YtmbjnkgpcbpclaaGreat
