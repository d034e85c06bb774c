/- Walks, printed by wip/gen/walk.py. -/
import Derived.Test.YtmbjnkgpcbpclaaGreatT52
import Derived.Test.YtmbjnkgpcbpclaaGreatV5
set_option linter.all false
set_option maxRecDepth 100000
set_option maxHeartbeats 4000000
namespace Go.Proofs.YtmbjnkgpcbpclaaGreat
open Go Go.Vc Go.RowKit
theorem Wd {q : List Sn} {i : Nat} {c : Int} (h1 : 1 ≤ q.length) (h2 : q.length ≤ 40) (hi : i < q.length) (h : ∀ j, j < i → Mk q j = 0) (hc : Mk q i = c) (h0 : c ≠ 0) : Cq q = (c, (i : Int)) := by
  have hf := Bh (f := Mk q) (g := iI) (i := i) (by rw [hc]; exact h0) h hi
  unfold Cq
  rw [if_neg (by omega), hf, hc, if_pos h0]; rfl
theorem UA {q : List Sn} (h1 : 1 ≤ q.length) (h2 : q.length ≤ 40) (h : ∀ j, j < q.length → Mk q j = 0) : Cq q = if (EH q q.length).length ≠ 1 then (5, -1) else (0, 0) := by
  unfold Cq
  rw [if_neg (by omega), Cc h, if_neg (by simp)]
theorem KQ {q : List Sn} {i : Nat} {x : Sn} (hi : i < q.length) (h : q.getD i default = x) : EH q (i + 1) = (EH q i).take ((EH q i).length - Cm x.kd) ++ [(i : Int)] := by
 show (EH q i).take ((EH q i).length - ar ((D4 q).getD i default).kd) ++ [(i : Int)] = _
 rw [Wx hi, h]
theorem R0 {q : List Sn} {i : Nat} {x : Sn} (hi : i < q.length) (h : q.getD i default = x) : rows eI (List.take ((EH q i).length - Cm x.kd) (EH q i)) ++ [[D.int .i64 (i : Int)]] = rows eI (EH q (i + 1)) := by
  rw [KQ hi h]; simp [rows, eI]
theorem OV {q : List Sn} {i : Nat} {x : Sn} (hi : i < q.length) (h : q.getD i default = x) (hk : Cm x.kd ≤ (EH q i).length) : (EH q (i + 1)).length = (EH q i).length - Cm x.kd + 1 := by
  rw [KQ hi h]; simp
theorem Ns (q : List Sn) (i : Nat) : (EH q i).length ≤ i := PP _ _
theorem VW {n : Sn} {l : List Int} (h : H9 n l = 0) : Cm n.kd ≤ l.length := by
  have := (PX h).1
  split at this
  · omega
  · omega
def JZ (q : List Sn) : Prop := ∀ n ∈ q, n.tx.length ≤ 9223372036854775807
def Ii : List AV → Option (Prop × AV)
  | [.agg [.d (.sl xs)]] => some (xs = rows DR (Cz xs) ∧ (Cz xs).length ≤ 9223372036854775807 ∧ JZ (Cz xs), .agg [.d (.int .i64 (Cq (Cz xs)).1), .d (.int .i64 (Cq (Cz xs)).2)])
  | _ => none

theorem RP : A1 Tryz.prog 11 (Spec.pure Ii) := by
 refine Az (Ml.at_ 51) Tryz.func11 rfl rfl rfl ?_
 intro args p r hg hp
 unfold Ii at hg
 split at hg
 rename_i xs
 simp only [Option.some.injEq, Prod.mk.injEq] at hg
 obtain ⟨rfl, rfl⟩ := hg
 obtain ⟨he, hl, hbg⟩ := hp
 generalize Cz xs = q at *
 subst he
 have hT : (Ml).X = T := rfl
 have hx0 := And.intro @BQ (And.intro @AY (And.intro @AA (And.intro @Ci (And.intro @Ch @Tryz.results11))))
 have hx := hx0
 refine ⟨by rfl, ?_⟩
 intro F W0 hnp hmk
 refine Aa fun N1 h1 => ?_
 refine Ad ?_
 try refine Ac ?_
 refine EX ?_
 refine Bw ?_
 refine Ab ?_
 refine h1 _ ?_; clear h1
 refine Aa fun N2 h2 => ?_
 refine Aa fun N3 h3 => ?_
 refine Ad ?_
 try refine Ac ?_
 refine At ?_
 refine Ap ?_
 refine AZ ?_
 refine Al ?_
 refine Ae ?_
 refine AK ?_
 refine AJ ?_
 refine I3 ?_
 refine B7 ?_
 refine A7 ?_
 refine Ab ?_
 refine h3 _ ?_; clear h3
 refine Ai (fun hb4 => ?_) (fun hb4 => ?_)
 refine Aa fun N5 h5 => ?_
 refine Ad ?_
 try refine Ac ?_
 refine BL ?_
 refine A4 ?_
 refine Ab ?_
 refine h5 _ ?_; clear h5
 refine An ?_
 try simp only [Af]
 have hr : Cq q = (9, -1) := by unfold Cq; rw [if_pos (by have := hb4; (try simp at this); omega)]
 rw [hr]
 refine Ax ?_
 exact As
 have h1 : 1 ≤ q.length := by have := hb4; (try simp at this); omega
 have h40 : q.length ≤ 40 := by have := hb4; (try simp at this); omega
 refine Am ?_
 try simp only [Af]
 refine h2 _ ?_; clear h2
 refine Aa fun N6 h6 => ?_
 refine Ad ?_
 try refine Ac ?_
 refine Ae ?_
 refine Ab ?_
 refine h6 _ ?_; clear h6
 refine Aa fun N7 h7 => ?_
 refine Aa fun N8 h8 => ?_
 refine Ad ?_
 try refine Ac ?_
 refine At ?_
 refine Ap ?_
 refine AZ ?_
 refine Ae ?_
 refine Ab ?_
 refine h8 _ ?_; clear h8
 refine Au ?_
 refine A0 (σ := Nat) (fun s => (fun i => i ≤ q.length ∧ ∀ j, j < i → Mk q j = 0) s)
  (fun s => (fun i => [(1, .ptr 0 0 0), (2, .ptr 1 0 0), (3, .sl 2 0 (EH q i).length), (19, .d (.sl (rows DR q))), (20, .d (.int .i64 (q.length : Nat))), (21, .d (.int .i64 (i : Nat)))]) s)
  (fun s => (fun i => [some (.one 25 [.d (.sl (rows DR q))]), some (.one 29 [.d (.int .i64 0), .d (.int .i64 0)]), some (.vec 3 1 (rows eI (EH q i)))]) s) (fun s => (fun i => q.length - i) s) hnp 0 ?_ [some 0, some 1, none] ?_ ?_
 dsimp only
 exact ⟨by omega, fun j hj => by omega⟩
 dsimp only
 refine ⟨by rfl, ?_, ?_⟩
 refine Aj ?_
 exact As
 refine Aj ?_
 exact As
 rintro i hinv N9 h9
 dsimp only at hinv ⊢
 obtain ⟨i1, i2⟩ := hinv
 refine Aa fun N10 h10 => ?_
 refine Ad ?_
 try refine Ac ?_
 refine Al ?_
 refine Ab ?_
 refine h10 _ ?_; clear h10
 refine Aa fun N11 h11 => ?_
 refine Ai (fun hb12 => ?_) (fun hb12 => ?_)
 have hiq : i < q.length := by have := hb12; omega
 obtain ⟨x, hxe⟩ := BG (l := q) (i := i) hiq
 have hxd : q.getD i default = x := by rw [List.getD_eq_getElem?_getD, hxe]; rfl
 have hbx := hbg x (AE hxe)
 have hrl := Ns q i
 have hqx : Mk q i = H9 x (EH q i) := by unfold Mk; rw [hxd]
 have hnx := R0 hiq hxd
 have hnl := fun h => OV hiq hxd h
 have hcl := fun h => VW (n := x) (l := EH q i) h
 obtain ⟨a, b, c, d⟩ := x
 dsimp only at hnx hnl hcl hbx
 refine Am ?_
 try simp only [Af]
 refine h11 _ ?_; clear h11
 refine Aa fun N13 h13 => ?_
 refine Au ?_
 refine Aa fun N14 h14 => ?_
 have hx := And.intro @hxe (And.intro @DR.eq_1 hx0)
 refine Ad ?_
 try refine Ac ?_
 refine Ae ?_
 refine At ?_
 refine Ap ?_
 refine Bw ?_
 refine Ae ?_
 refine A4 ?_
 refine Ab ?_
 have hx := hx0
 refine h14 _ ?_; clear h14
 refine Aa fun N15 h15 => ?_
 refine Aa fun N16 h16 => ?_
 refine Ad ?_
 try refine Ac ?_
 refine Ap ?_
 refine Ae ?_
 have hc := Ag (E := (Ml.at_ 51)) (f := 33) (sp := Spec.gen M7) rfl
 have hs := @M7.eq_1
 refine B8 ?_
 refine Ae ?_
 refine Ab ?_
 refine h16 _ ?_; clear h16
 refine Aa fun N17 h17 => ?_
 refine Ad ?_
 try refine Ac ?_
 refine Ae ?_
 refine Al ?_
 refine Ab ?_
 refine h17 _ ?_; clear h17
 refine Ai (fun hb18 => ?_) (fun hb18 => ?_)
 refine Aa fun N19 h19 => ?_
 refine Ad ?_
 try refine Ac ?_
 iterate 2 refine Ae ?_
 refine BL ?_
 refine A4 ?_
 refine Ab ?_
 refine h19 _ ?_; clear h19
 refine An ?_
 try simp only [Af]
 have hr := Wd h1 h40 hiq i2 hqx (by have := hb18; simpa using this)
 rw [hr]
 refine Ax ?_
 exact As
 have hc0 : H9 ⟨a, b, c, d⟩ (EH q i) = 0 := by have := hb18; simpa using this
 have hak := hcl hc0
 have hnk := hnl hak
 have hsu : (((EH q i).length : Int) - (Cm a : Int)).toNat = (EH q i).length - Cm a := by omega
 refine Am ?_
 try simp only [Af]
 refine h15 _ ?_; clear h15
 have hx := And.intro @hsu hx0
 refine Ad ?_
 try refine Ac ?_
 iterate 2 refine Ae (hq := by exact AD) ?_
 refine AZ (hq := by exact AD) ?_
 refine At (hq := by exact AD) ?_
 refine Ap (hq := by exact AD) ?_
 have hc := Ag (E := (Ml.at_ 51)) (f := 34) (sp := Spec.pure Fk) rfl
 have hs := @Fk.eq_1
 refine AS (hq := by exact AD) ?_
 refine Al (hq := by exact AD) ?_
 refine DL (hq := by exact AD) ?_
 refine Ae (hq := by exact AD) ?_
 refine FH (hq := by exact AD) ?_
 refine Ih (hq := by exact AD) ?_
 refine Ae (hq := by exact AD) ?_
 refine Ab ?_
 have hx := hx0
 refine h13 _ ?_; clear h13
 refine Ad ?_
 try refine Ac ?_
 refine Al ?_
 refine Ae ?_
 refine Ab ?_
 refine h9 _ ⟨i + 1, ?_, ?_, [some 0, some 1, some 5], ?_⟩
 dsimp only
 exact ⟨by omega, De i2 (by rw [hqx]; exact hc0)⟩
 dsimp only
 omega
 dsimp only
 refine ⟨by rfl, ?_, ?_⟩
 refine Aj ?_
 ·(repeat' apply And.intro) <;> (first | (first | rfl | trivial | omega | (rw [hnx]; done) | (rw [hnk]; done) | exact Or.inl rfl) | exact As)
 refine Aj ?_
 ·(repeat' apply And.intro) <;> (first | (first | rfl | trivial | omega | (rw [hnx]; done) | (rw [hnk]; done) | exact Or.inl rfl) | exact As)
 obtain rfl : i = q.length := by have := hb12; omega
 have hre := UA h1 h40 i2
 have hrl := Ns q q.length
 refine AF ?_
 simp only [Af, Nat.reduceEqDiff, reduceIte, eq_self]
 refine h7 _ ?_; clear h7
 refine Aa fun N20 h20 => ?_
 refine Aa fun N21 h21 => ?_
 refine Ad ?_
 try refine Ac ?_
 refine Ae ?_
 refine AZ ?_
 refine Al ?_
 refine Ab ?_
 refine h21 _ ?_; clear h21
 refine Ai (fun hb22 => ?_) (fun hb22 => ?_)
 refine Aa fun N23 h23 => ?_
 refine Ad ?_
 try refine Ac ?_
 refine BL ?_
 refine A4 ?_
 refine Ab ?_
 refine h23 _ ?_; clear h23
 refine An ?_
 try simp only [Af]
 rw [if_pos (by have := hb22; (try simp at this); omega)] at hre
 rw [hre]
 refine Ax ?_
 exact As
 refine Am ?_
 try simp only [Af]
 refine h20 _ ?_; clear h20
 refine Aa fun N24 h24 => ?_
 refine Ad ?_
 try refine Ac ?_
 refine BL ?_
 refine A4 ?_
 refine Ab ?_
 refine h24 _ ?_; clear h24
 refine An ?_
 try simp only [Af]
 rw [if_neg (by have := hb22; (try simp at this); omega)] at hre
 rw [hre]
 refine Ax ?_
 exact As
 cases hg

def Sg : Bn Tryz.prog := Ml.add 11 (Spec.pure Ii) RP (by kernel_rfl)
end Go.Proofs.YtmbjnkgpcbpclaaGreat
