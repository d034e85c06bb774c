/- Walks, printed by wip/gen/walk.py. -/
import Derived.Test.YtmbjnkgpcbpclaaGreatT52
import Derived.Test.YtmbjnkgpcbpclaaGreatV5
set_option linter.all false
set_option maxRecDepth 100000
set_option maxHeartbeats 4000000
namespace Go.Proofs.YtmbjnkgpcbpclaaGreat
open Go Go.Vc Go.RowKit
theorem Vh {q : List Sn} {i : Nat} {c : Int} (h1 : 1 ≤ q.length) (h2 : q.length ≤ 40) (hi : i < q.length) (h : ∀ j, j < i → MB q j = 0) (hc : MB q i = c) (h0 : c ≠ 0) : BR q = (c, (i : Int)) := by
  have hf := C5 (f := MB q) (g := iI) (i := i) (by rw [hc]; exact h0) h hi
  unfold BR
  rw [if_neg (by omega), hf, hc, if_pos h0]; rfl
theorem Jz {q : List Sn} (h1 : 1 ≤ q.length) (h2 : q.length ≤ 40) (h : ∀ j, j < q.length → MB q j = 0) : BR q = if (Dz q q.length).length ≠ 1 then (5, -1) else (0, 0) := by
  unfold BR
  rw [if_neg (by omega), C8 h, if_neg (by simp)]
theorem Ep {q : List Sn} {i : Nat} {x : Sn} (hi : i < q.length) (h : q.getD i default = x) : Dz q (i + 1) = (Dz q i).take ((Dz q i).length - Dh x.kd) ++ [(i : Int)] := by
 show (Dz q i).take ((Dz q i).length - ar ((Ic q).getD i default).kd) ++ [(i : Int)] = _
 rw [Xi hi, h]
theorem Q8 {q : List Sn} {i : Nat} {x : Sn} (hi : i < q.length) (h : q.getD i default = x) : rows eI (List.take ((Dz q i).length - Dh x.kd) (Dz q i)) ++ [[D.int .i64 (i : Int)]] = rows eI (Dz q (i + 1)) := by
  rw [Ep hi h]; simp [rows, eI]
theorem Og {q : List Sn} {i : Nat} {x : Sn} (hi : i < q.length) (h : q.getD i default = x) (hk : Dh x.kd ≤ (Dz q i).length) : (Dz q (i + 1)).length = (Dz q i).length - Dh x.kd + 1 := by
  rw [Ep hi h]; simp
theorem MG (q : List Sn) (i : Nat) : (Dz q i).length ≤ i := Ph _ _
theorem UY {n : Sn} {l : List Int} (h : Hi n l = 0) : Dh n.kd ≤ l.length := by
  have := (Tu h).1
  split at this
  · omega
  · omega
def IG (q : List Sn) : Prop := ∀ n ∈ q, n.tx.length ≤ 9223372036854775807
def HH : List AV → Option (Prop × AV)
  | [.agg [.d (.sl xs)]] => some (xs = rows DL (C3 xs) ∧ (C3 xs).length ≤ 9223372036854775807 ∧ IG (C3 xs), .agg [.d (.int .i64 (BR (C3 xs)).1), .d (.int .i64 (BR (C3 xs)).2)])
  | _ => none

theorem QU : A5 Tryz.prog 11 (Spec.pure HH) := by
 refine A7 (L8.at_ 51) Tryz.func11 rfl rfl rfl ?_
 intro args p r hg hp
 unfold HH at hg
 split at hg
 rename_i xs
 simp only [Option.some.injEq, Prod.mk.injEq] at hg
 obtain ⟨rfl, rfl⟩ := hg
 obtain ⟨he, hl, hbg⟩ := hp
 generalize C3 xs = q at *
 subst he
 have hT : (L8).X = T := rfl
 have hx0 := And.intro @A0 (And.intro @AX (And.intro @AJ (And.intro @Cu (And.intro @Ct @Tryz.results11))))
 have hx := hx0
 refine ⟨by rfl, ?_⟩
 intro F W0 hnp hmk
 refine Aa fun N1 h1 => ?_
 refine Ad ?_
 try refine Ac ?_
 refine FU ?_
 refine B8 ?_
 refine Ab ?_
 refine h1 _ ?_; clear h1
 refine Aa fun N2 h2 => ?_
 refine Aa fun N3 h3 => ?_
 refine Ad ?_
 try refine Ac ?_
 refine Au ?_
 refine Ar ?_
 refine Bm ?_
 refine Am ?_
 refine Ae ?_
 refine Cn ?_
 refine Cm ?_
 refine NG ?_
 refine CU ?_
 refine AQ ?_
 refine Ab ?_
 refine h3 _ ?_; clear h3
 refine Al (fun hb4 => ?_) (fun hb4 => ?_)
 refine Aa fun N5 h5 => ?_
 refine Ad ?_
 try refine Ac ?_
 refine BC ?_
 refine A8 ?_
 refine Ab ?_
 refine h5 _ ?_; clear h5
 refine Ao ?_
 try simp only [Af]
 have hr : BR q = (9, -1) := by unfold BR; rw [if_pos (by have := hb4; (try simp at this); omega)]
 rw [hr]
 refine A3 ?_
 exact At
 have h1 : 1 ≤ q.length := by have := hb4; (try simp at this); omega
 have h40 : q.length ≤ 40 := by have := hb4; (try simp at this); omega
 refine An ?_
 try simp only [Af]
 refine h2 _ ?_; clear h2
 refine Aa fun N6 h6 => ?_
 refine Ad ?_
 try refine Ac ?_
 refine Ae ?_
 refine Ab ?_
 refine h6 _ ?_; clear h6
 refine Aa fun N7 h7 => ?_
 refine Aa fun N8 h8 => ?_
 refine Ad ?_
 try refine Ac ?_
 refine Au ?_
 refine Ar ?_
 refine Bm ?_
 refine Ae ?_
 refine Ab ?_
 refine h8 _ ?_; clear h8
 refine Aw ?_
 refine A9 (σ := Nat) (fun s => (fun i => i ≤ q.length ∧ ∀ j, j < i → MB q j = 0) s)
  (fun s => (fun i => [(1, .ptr 0 0 0), (2, .ptr 1 0 0), (3, .sl 2 0 (Dz q i).length), (19, .d (.sl (rows DL q))), (20, .d (.int .i64 (q.length : Nat))), (21, .d (.int .i64 (i : Nat)))]) s)
  (fun s => (fun i => [some (.one 25 [.d (.sl (rows DL q))]), some (.one 29 [.d (.int .i64 0), .d (.int .i64 0)]), some (.vec 3 1 (rows eI (Dz q i)))]) s) (fun s => (fun i => q.length - i) s) hnp 0 ?_ [some 0, some 1, none] ?_ ?_
 dsimp only
 exact ⟨by omega, fun j hj => by omega⟩
 dsimp only
 refine ⟨by rfl, ?_, ?_⟩
 refine Aj ?_
 exact At
 refine Aj ?_
 exact At
 rintro i hinv N9 h9
 dsimp only at hinv ⊢
 obtain ⟨i1, i2⟩ := hinv
 refine Aa fun N10 h10 => ?_
 refine Ad ?_
 try refine Ac ?_
 refine Am ?_
 refine Ab ?_
 refine h10 _ ?_; clear h10
 refine Aa fun N11 h11 => ?_
 refine Al (fun hb12 => ?_) (fun hb12 => ?_)
 have hiq : i < q.length := by have := hb12; omega
 obtain ⟨x, hxe⟩ := Cb (l := q) (i := i) hiq
 have hxd : q.getD i default = x := by rw [List.getD_eq_getElem?_getD, hxe]; rfl
 have hbx := hbg x (AF hxe)
 have hrl := MG q i
 have hqx : MB q i = Hi x (Dz q i) := by unfold MB; rw [hxd]
 have hnx := Q8 hiq hxd
 have hnl := fun h => Og hiq hxd h
 have hcl := fun h => UY (n := x) (l := Dz q i) h
 obtain ⟨a, b, c, d⟩ := x
 dsimp only at hnx hnl hcl hbx
 refine An ?_
 try simp only [Af]
 refine h11 _ ?_; clear h11
 refine Aa fun N13 h13 => ?_
 refine Aw ?_
 refine Aa fun N14 h14 => ?_
 have hx := And.intro @hxe (And.intro @DL.eq_1 hx0)
 refine Ad ?_
 try refine Ac ?_
 refine Ae ?_
 refine Au ?_
 refine Ar ?_
 refine B8 ?_
 refine Ae ?_
 refine A8 ?_
 refine Ab ?_
 have hx := hx0
 refine h14 _ ?_; clear h14
 refine Aa fun N15 h15 => ?_
 refine Aa fun N16 h16 => ?_
 refine Ad ?_
 try refine Ac ?_
 refine Ar ?_
 refine Ae ?_
 have hc := Ah (E := (L8.at_ 51)) (f := 33) (sp := Spec.gen LR) rfl
 have hs := @LR.eq_1
 refine BD ?_
 refine Ae ?_
 refine Ab ?_
 refine h16 _ ?_; clear h16
 refine Aa fun N17 h17 => ?_
 refine Ad ?_
 try refine Ac ?_
 refine Ae ?_
 refine Am ?_
 refine Ab ?_
 refine h17 _ ?_; clear h17
 refine Al (fun hb18 => ?_) (fun hb18 => ?_)
 refine Aa fun N19 h19 => ?_
 refine Ad ?_
 try refine Ac ?_
 iterate 2 refine Ae ?_
 refine BC ?_
 refine A8 ?_
 refine Ab ?_
 refine h19 _ ?_; clear h19
 refine Ao ?_
 try simp only [Af]
 have hr := Vh h1 h40 hiq i2 hqx (by have := hb18; simpa using this)
 rw [hr]
 refine A3 ?_
 exact At
 have hc0 : Hi ⟨a, b, c, d⟩ (Dz q i) = 0 := by have := hb18; simpa using this
 have hak := hcl hc0
 have hnk := hnl hak
 have hsu : (((Dz q i).length : Int) - (Dh a : Int)).toNat = (Dz q i).length - Dh a := by omega
 refine An ?_
 try simp only [Af]
 refine h15 _ ?_; clear h15
 have hx := And.intro @hsu hx0
 refine Ad ?_
 try refine Ac ?_
 iterate 2 refine Ae (hq := by exact AW) ?_
 refine Bm (hq := by exact AW) ?_
 refine Au (hq := by exact AW) ?_
 refine Ar (hq := by exact AW) ?_
 have hc := Ah (E := (L8.at_ 51)) (f := 34) (sp := Spec.pure Lv) rfl
 have hs := @Lv.eq_1
 refine BF (hq := by exact AW) ?_
 refine Am (hq := by exact AW) ?_
 refine DI (hq := by exact AW) ?_
 refine Ae (hq := by exact AW) ?_
 refine GE (hq := by exact AW) ?_
 refine Ij (hq := by exact AW) ?_
 refine Ae (hq := by exact AW) ?_
 refine Ab ?_
 have hx := hx0
 refine h13 _ ?_; clear h13
 refine Ad ?_
 try refine Ac ?_
 refine Am ?_
 refine Ae ?_
 refine Ab ?_
 refine h9 _ ⟨i + 1, ?_, ?_, [some 0, some 1, some 5], ?_⟩
 dsimp only
 exact ⟨by omega, FI i2 (by rw [hqx]; exact hc0)⟩
 dsimp only
 omega
 dsimp only
 refine ⟨by rfl, ?_, ?_⟩
 refine Aj ?_
 ·(repeat' apply And.intro) <;> (first | (first | rfl | trivial | omega | (rw [hnx]; done) | (rw [hnk]; done) | exact Or.inl rfl) | exact At)
 refine Aj ?_
 ·(repeat' apply And.intro) <;> (first | (first | rfl | trivial | omega | (rw [hnx]; done) | (rw [hnk]; done) | exact Or.inl rfl) | exact At)
 obtain rfl : i = q.length := by have := hb12; omega
 have hre := Jz h1 h40 i2
 have hrl := MG q q.length
 refine Be ?_
 simp only [Af, Nat.reduceEqDiff, reduceIte, eq_self]
 refine h7 _ ?_; clear h7
 refine Aa fun N20 h20 => ?_
 refine Aa fun N21 h21 => ?_
 refine Ad ?_
 try refine Ac ?_
 refine Ae ?_
 refine Bm ?_
 refine Am ?_
 refine Ab ?_
 refine h21 _ ?_; clear h21
 refine Al (fun hb22 => ?_) (fun hb22 => ?_)
 refine Aa fun N23 h23 => ?_
 refine Ad ?_
 try refine Ac ?_
 refine BC ?_
 refine A8 ?_
 refine Ab ?_
 refine h23 _ ?_; clear h23
 refine Ao ?_
 try simp only [Af]
 rw [if_pos (by have := hb22; (try simp at this); omega)] at hre
 rw [hre]
 refine A3 ?_
 exact At
 refine An ?_
 try simp only [Af]
 refine h20 _ ?_; clear h20
 refine Aa fun N24 h24 => ?_
 refine Ad ?_
 try refine Ac ?_
 refine BC ?_
 refine A8 ?_
 refine Ab ?_
 refine h24 _ ?_; clear h24
 refine Ao ?_
 try simp only [Af]
 rw [if_neg (by have := hb22; (try simp at this); omega)] at hre
 rw [hre]
 refine A3 ?_
 exact At
 cases hg

def O7 : Bo Tryz.prog := L8.add 11 (Spec.pure HH) QU (by kernel_rfl)
end Go.Proofs.YtmbjnkgpcbpclaaGreat
