/- Walks, printed by wip/gen/walk.py. -/
import Derived.Test.YtmbjnkgpcbpclaaGreatT57
import Derived.Test.YtmbjnkgpcbpclaaGreatV5
set_option linter.all false
set_option maxRecDepth 100000
set_option maxHeartbeats 4000000
namespace Go.Proofs.YtmbjnkgpcbpclaaGreat
open Go Go.Vc Go.RowKit
def RY (u : Bs) (q : List Sn) (i : Nat) : List Bool := OE u q i ++ List.replicate (q.length - i) false
theorem V8 {u : Bs} {q : List Sn} {i : Nat} (h : i ≤ q.length) : (RY u q i).length = q.length := by
  unfold RY; rw [List.length_append, Fy, List.length_replicate]; omega
theorem T6 {u : Bs} {q : List Sn} {i j : Nat} (h : j < i) : (RY u q i)[j]? = (OE u q i)[j]? := by
  unfold RY; rw [List.getElem?_append_left (by rw [Fy]; exact h)]
theorem Gw {u : Bs} {q : List Sn} {i : Nat} {x : Sn} (hi : i < q.length) (h : q.getD i default = x) {v : Bool} (hv : v = UM u x (OE u q i)) : (RY u q i).set i v = RY u q (i + 1) := by
  unfold RY
  rw [List.set_append_right _ _ (by rw [Fy]; exact Nat.le_refl _), Fy, Nat.sub_self, T2 h, ← hv]
  obtain ⟨n, hn⟩ : ∃ n, q.length - i = n + 1 := ⟨q.length - i - 1, by omega⟩
  rw [hn, show q.length - (i + 1) = n by omega, List.replicate_succ, List.set_cons_zero, List.append_assoc]; rfl
theorem V7 (u : Bs) (q : List Sn) : RY u q q.length = OE u q q.length := by unfold RY; rw [Nat.sub_self, List.replicate_zero, List.append_nil]
theorem I8 (l : List Bool) (i : Nat) (v : Bool) : (rows eB l).set i [.bool v] = rows eB (l.set i v) := by unfold rows; rw [List.map_set]; rfl
theorem Hs (u : Bs) (q : List Sn) : RY u q 0 = List.replicate q.length false := rfl

theorem Rg : A1 Tryz.prog 32 (Spec.pure XY) := by
 refine Az (IC.at_ 81) Tryz.func32 rfl rfl rfl ?_
 intro args p r hg hp
 unfold XY at hg
 split at hg
 rename_i u xs
 simp only [Option.some.injEq, Prod.mk.injEq] at hg
 obtain ⟨rfl, rfl⟩ := hg
 obtain ⟨he, hv, hul⟩ := hp
 generalize Cz xs = q at *
 subst he
 obtain ⟨_, h1, h40, _⟩ := F7 hv
 have hT : (IC).X = T := rfl
 have hx0 := And.intro @BQ (And.intro @AY (And.intro @CP (And.intro @Ci (And.intro @Ch @Tryz.results32))))
 have hx := hx0
 refine ⟨by rfl, ?_⟩
 intro F W0 hnp hmk
 refine Aa fun N1 h1 => ?_
 refine Ad ?_
 try refine Ac ?_
 refine EX (hq := by exact Aq) ?_
 refine Ae (hq := by exact Aq) ?_
 refine Ab ?_
 refine h1 _ ?_; clear h1
 refine Aa fun N2 h2 => ?_
 refine Ad ?_
 try refine Ac ?_
 refine At (hq := by exact Aq) ?_
 refine Ap (hq := by exact Aq) ?_
 refine AZ (hq := by exact Aq) ?_
 refine Yx (hq := by exact Aq) ?_
 refine Ae (hq := by exact Aq) ?_
 refine Ab ?_
 refine h2 _ ?_; clear h2
 refine Aa fun N3 h3 => ?_
 refine Aa fun N4 h4 => ?_
 refine Ad ?_
 try refine Ac ?_
 refine At (hq := by exact Aq) ?_
 refine Ap (hq := by exact Aq) ?_
 refine AZ (hq := by exact Aq) ?_
 refine Ae (hq := by exact Aq) ?_
 refine Ab ?_
 refine h4 _ ?_; clear h4
 refine Au ?_
 refine A0 (σ := Nat) (fun s => (fun i => i ≤ q.length) s)
  (fun s => (fun i => [(0, .d (.str u)), (3, .ptr 0 0 0), (5, .sl 1 0 q.length), (13, .d (.sl (rows DR q))), (14, .d (.int .i64 (q.length : Nat))), (15, .d (.int .i64 (i : Nat)))]) s)
  (fun s => (fun i => [some (.one 25 [.d (.sl (rows DR q))]), some (.vec 4 1 (rows eB (RY u q i)))]) s) (fun s => (fun i => q.length - i) s) hnp 0 ?_ [some 0, some 1] ?_ ?_
 dsimp only
 omega
 dsimp only
 refine ⟨by rfl, ?_, ?_⟩
 refine Aj ?_
 ·(repeat' apply And.intro) <;> (first | (first | rfl | trivial | omega | (rw [Hs]; simp [rows, eB]; done) | (simp [Hs, rows, eB]; done)) | exact As)
 refine Aj ?_
 ·(repeat' apply And.intro) <;> (first | (first | rfl | trivial | omega | (rw [Hs]; simp [rows, eB]; done) | (simp [Hs, rows, eB]; done)) | exact As)
 rintro i hinv N5 h5
 dsimp only at hinv ⊢
 have i1 := hinv
 refine Aa fun N6 h6 => ?_
 refine Ad ?_
 try refine Ac ?_
 refine Al (hq := by exact Aq) ?_
 refine Ab ?_
 refine h6 _ ?_; clear h6
 refine Aa fun N7 h7 => ?_
 refine Ai (fun hb8 => ?_) (fun hb8 => ?_)
 have hiq : i < q.length := by have := hb8; omega
 obtain ⟨x, hxe⟩ := BG (l := q) (i := i) hiq
 have hxd : q.getD i default = x := by rw [List.getD_eq_getElem?_getD, hxe]; rfl
 have hml := Fy u q i
 have hfl := V8 (u := u) (q := q) (i := i) (by omega)
 obtain ⟨y0, hf0⟩ := BG (l := RY u q i) (i := i) (by omega)
 have hok := Fh hv hiq hxd
 have hat := OM hv hiq hxd
 obtain ⟨a, b, c, e⟩ := x
 dsimp only at hok hat
 refine Am ?_
 try simp only [Af]
 refine h7 _ ?_; clear h7
 refine Aa fun N9 h9 => ?_
 refine Au ?_
 refine Aa fun N10 h10 => ?_
 have hx := And.intro @hxe (And.intro @DR.eq_1 hx0)
 refine Ad ?_
 try refine Ac ?_
 refine Ae (hq := by exact Aq) ?_
 refine At (hq := by exact Aq) ?_
 refine Ap (hq := by exact Aq) ?_
 refine Bw (hq := by exact Aq) ?_
 refine Ae (hq := by exact Aq) ?_
 refine A4 (hq := by exact Aq) ?_
 refine Ab ?_
 have hx := hx0
 refine h10 _ ?_; clear h10
 refine Aa fun N11 h11 => ?_
 refine Ad ?_
 try refine Ac ?_
 refine At (hq := by exact Aq) ?_
 refine Ap (hq := by exact Aq) ?_
 refine Ab ?_
 refine h11 _ ?_; clear h11
 refine Au ?_
 refine Aa fun N12 h12 => ?_
 refine Ad ?_
 try refine Ac ?_
 refine Al (hq := by exact Aq) ?_
 refine Ae (hq := by exact Aq) ?_
 refine Ab ?_
 refine h12 _ ?_; clear h12
 refine Ai (fun hb13 => ?_) (fun hb13 => ?_)
 have hk1 : a = 1 := by have := hb13; (try simp at this); omega
 have hbl := Ht (hok.2.1 hk1)
 have hch := MB u b
 have hx := And.intro @hch (And.intro @hf0 (And.intro @eB.eq_1 hx0))
 refine Ad ?_
 try refine Ac ?_
 iterate 3 refine Ae (hq := by exact Aq) ?_
 refine At (hq := by exact Aq) ?_
 refine Ap (hq := by exact Aq) ?_
 have hc := Ag (E := (IC.at_ 81)) (f := 61) (sp := Spec.pure Jp) rfl
 have hs := @Jp.eq_1
 refine AS (hq := by exact AD) ?_
 refine At (hq := by exact Aq) ?_
 refine A4 (hq := by exact Aq) ?_
 refine Ab ?_
 have hx := hx0
 refine h9 _ ?_; clear h9
 refine Ad ?_
 try refine Ac ?_
 refine Al (hq := by exact Aq) ?_
 refine Ae (hq := by exact Aq) ?_
 refine Ab ?_
 have hset := Gw hiq hxd (v := DS u b) (XW hk1).symm
 refine h5 _ ⟨i + 1, ?_, ?_, [some 0, some 1], ?_⟩
 dsimp only
 omega
 dsimp only
 omega
 dsimp only
 refine ⟨by rfl, ?_, ?_⟩
 refine Aj ?_
 ·(repeat' apply And.intro) <;> (first | (first | rfl | trivial | omega | (rw [I8, hset]; done) | exact Or.inl rfl | exact Or.inl (by simp)) | exact As)
 refine Aj ?_
 ·(repeat' apply And.intro) <;> (first | (first | rfl | trivial | omega | (rw [I8, hset]; done) | exact Or.inl rfl | exact Or.inl (by simp)) | exact As)
 have hk1 : ¬a = 1 := by have := hb13; (try simp at this); omega
 obtain ⟨hc0, hci, he0, hei⟩ := hat hk1
 obtain ⟨y1, hv1⟩ := BG (l := OE u q i) (i := c.toNat) (by omega)
 obtain ⟨y2, hv2⟩ := BG (l := OE u q i) (i := e.toNat) (by omega)
 have hf1 := (T6 (u := u) (q := q) (i := i) (j := c.toNat) (by omega)).trans hv1
 have hf2 := (T6 (u := u) (q := q) (i := i) (j := e.toNat) (by omega)).trans hv2
 refine Aa fun N14 h14 => ?_
 refine Ad ?_
 try refine Ac ?_
 refine Al (hq := by exact Aq) ?_
 refine Ae (hq := by exact Aq) ?_
 refine Ab ?_
 refine h14 _ ?_; clear h14
 refine Ai (fun hb15 => ?_) (fun hb15 => ?_)
 cases y1
 skip
 have hx := And.intro @hf0 (And.intro @hf1 (And.intro @hf2 (And.intro @eB.eq_1 hx0)))
 refine Ad ?_
 try refine Ac ?_
 iterate 3 refine Ae (hq := by exact Aq) ?_
 refine At (hq := by exact Aq) ?_
 refine Ap (hq := by exact Aq) ?_
 refine At (hq := by exact Aq) ?_
 refine Ap (hq := by exact Aq) ?_
 refine Ae (hq := by exact Aq) ?_
 refine Ar ?_ ?_
 focus (exact AP)
 refine Ar ?_ ?_
 focus (exact AP)
 refine Ar ?_ ?_
 focus (exact AP)
 refine Ar ?_ ?_
 focus (exact AP)
 refine Ar ?_ ?_
 focus (exact AP)
 refine A7 (hq := by exact Aq) ?_
 refine At (hq := by exact Aq) ?_
 refine A4 (hq := by exact Aq) ?_
 refine Ab ?_
 have hx := hx0
 refine h9 _ ?_; clear h9
 refine Ad ?_
 try refine Ac ?_
 refine Al (hq := by exact Aq) ?_
 refine Ae (hq := by exact Aq) ?_
 refine Ab ?_
 have hset := Gw hiq hxd (v := false) (Wy (by have := hb15; (try simp at this); omega) hv1 hv2).symm
 refine h5 _ ⟨i + 1, ?_, ?_, [some 0, some 1], ?_⟩
 dsimp only
 omega
 dsimp only
 omega
 dsimp only
 refine ⟨by rfl, ?_, ?_⟩
 refine Aj ?_
 ·(repeat' apply And.intro) <;> (first | (first | rfl | trivial | omega | (rw [I8, hset]; done) | exact Or.inl rfl | exact Or.inl (by simp)) | exact As)
 refine Aj ?_
 ·(repeat' apply And.intro) <;> (first | (first | rfl | trivial | omega | (rw [I8, hset]; done) | exact Or.inl rfl | exact Or.inl (by simp)) | exact As)
 skip
 have hx := And.intro @hf0 (And.intro @hf1 (And.intro @hf2 (And.intro @eB.eq_1 hx0)))
 refine Ad ?_
 try refine Ac ?_
 iterate 3 refine Ae (hq := by exact Aq) ?_
 refine At (hq := by exact Aq) ?_
 refine Ap (hq := by exact Aq) ?_
 refine At (hq := by exact Aq) ?_
 refine Ap (hq := by exact Aq) ?_
 refine Ae (hq := by exact Aq) ?_
 refine Cl (hq := by exact Aq) ?_
 refine CG (hq := by exact Aq) ?_
 refine CF (hq := by exact Aq) ?_
 refine CG (hq := by exact Aq) ?_
 refine CF (hq := by exact Aq) ?_
 refine A7 (hq := by exact Aq) ?_
 refine At (hq := by exact Aq) ?_
 refine A4 (hq := by exact Aq) ?_
 refine Ab ?_
 have hx := hx0
 refine h9 _ ?_; clear h9
 refine Ad ?_
 try refine Ac ?_
 refine Al (hq := by exact Aq) ?_
 refine Ae (hq := by exact Aq) ?_
 refine Ab ?_
 have hset := Gw hiq hxd (v := y2) (Wy (by have := hb15; (try simp at this); omega) hv1 hv2).symm
 refine h5 _ ⟨i + 1, ?_, ?_, [some 0, some 1], ?_⟩
 dsimp only
 omega
 dsimp only
 omega
 dsimp only
 refine ⟨by rfl, ?_, ?_⟩
 refine Aj ?_
 ·(repeat' apply And.intro) <;> (first | (first | rfl | trivial | omega | (rw [I8, hset]; done) | exact Or.inl rfl | exact Or.inl (by simp)) | exact As)
 refine Aj ?_
 ·(repeat' apply And.intro) <;> (first | (first | rfl | trivial | omega | (rw [I8, hset]; done) | exact Or.inl rfl | exact Or.inl (by simp)) | exact As)
 have hk2 : ¬a = 2 := by have := hb15; (try simp at this); omega
 refine Aa fun N16 h16 => ?_
 refine Ad ?_
 try refine Ac ?_
 refine Al (hq := by exact Aq) ?_
 refine Ae (hq := by exact Aq) ?_
 refine Ab ?_
 refine h16 _ ?_; clear h16
 refine Ai (fun hb17 => ?_) (fun hb17 => ?_)
 cases y1
 skip
 have hx := And.intro @hf0 (And.intro @hf1 (And.intro @hf2 (And.intro @eB.eq_1 hx0)))
 refine Ad ?_
 try refine Ac ?_
 iterate 3 refine Ae (hq := by exact Aq) ?_
 refine At (hq := by exact Aq) ?_
 refine Ap (hq := by exact Aq) ?_
 refine At (hq := by exact Aq) ?_
 refine Ap (hq := by exact Aq) ?_
 refine Ae (hq := by exact Aq) ?_
 refine Cl (hq := by exact Aq) ?_
 refine CG (hq := by exact Aq) ?_
 refine CF (hq := by exact Aq) ?_
 refine CG (hq := by exact Aq) ?_
 refine CF (hq := by exact Aq) ?_
 refine A7 (hq := by exact Aq) ?_
 refine At (hq := by exact Aq) ?_
 refine A4 (hq := by exact Aq) ?_
 refine Ab ?_
 have hx := hx0
 refine h9 _ ?_; clear h9
 refine Ad ?_
 try refine Ac ?_
 refine Al (hq := by exact Aq) ?_
 refine Ae (hq := by exact Aq) ?_
 refine Ab ?_
 have hset := Gw hiq hxd (v := y2) (Wz (by have := hb17; (try simp at this); omega) hv1 hv2).symm
 refine h5 _ ⟨i + 1, ?_, ?_, [some 0, some 1], ?_⟩
 dsimp only
 omega
 dsimp only
 omega
 dsimp only
 refine ⟨by rfl, ?_, ?_⟩
 refine Aj ?_
 ·(repeat' apply And.intro) <;> (first | (first | rfl | trivial | omega | (rw [I8, hset]; done) | exact Or.inl rfl | exact Or.inl (by simp)) | exact As)
 refine Aj ?_
 ·(repeat' apply And.intro) <;> (first | (first | rfl | trivial | omega | (rw [I8, hset]; done) | exact Or.inl rfl | exact Or.inl (by simp)) | exact As)
 skip
 have hx := And.intro @hf0 (And.intro @hf1 (And.intro @hf2 (And.intro @eB.eq_1 hx0)))
 refine Ad ?_
 try refine Ac ?_
 iterate 3 refine Ae (hq := by exact Aq) ?_
 refine At (hq := by exact Aq) ?_
 refine Ap (hq := by exact Aq) ?_
 refine At (hq := by exact Aq) ?_
 refine Ap (hq := by exact Aq) ?_
 refine Ae (hq := by exact Aq) ?_
 refine Ar ?_ ?_
 focus (exact AP)
 refine Ar ?_ ?_
 focus (exact AP)
 refine Ar ?_ ?_
 focus (exact AP)
 refine Ar ?_ ?_
 focus (exact AP)
 refine Ar ?_ ?_
 focus (exact AP)
 refine A7 (hq := by exact Aq) ?_
 refine At (hq := by exact Aq) ?_
 refine A4 (hq := by exact Aq) ?_
 refine Ab ?_
 have hx := hx0
 refine h9 _ ?_; clear h9
 refine Ad ?_
 try refine Ac ?_
 refine Al (hq := by exact Aq) ?_
 refine Ae (hq := by exact Aq) ?_
 refine Ab ?_
 have hset := Gw hiq hxd (v := true) (Wz (by have := hb17; (try simp at this); omega) hv1 hv2).symm
 refine h5 _ ⟨i + 1, ?_, ?_, [some 0, some 1], ?_⟩
 dsimp only
 omega
 dsimp only
 omega
 dsimp only
 refine ⟨by rfl, ?_, ?_⟩
 refine Aj ?_
 ·(repeat' apply And.intro) <;> (first | (first | rfl | trivial | omega | (rw [I8, hset]; done) | exact Or.inl rfl | exact Or.inl (by simp)) | exact As)
 refine Aj ?_
 ·(repeat' apply And.intro) <;> (first | (first | rfl | trivial | omega | (rw [I8, hset]; done) | exact Or.inl rfl | exact Or.inl (by simp)) | exact As)
 have hx := And.intro @hf0 (And.intro @hf1 (And.intro @eB.eq_1 hx0))
 refine Ad ?_
 try refine Ac ?_
 iterate 3 refine Ae (hq := by exact Aq) ?_
 refine At (hq := by exact Aq) ?_
 refine Ap (hq := by exact Aq) ?_
 refine At (hq := by exact Aq) ?_
 refine Ap (hq := by exact Aq) ?_
 refine Gl (hq := by exact Aq) ?_
 refine At (hq := by exact Aq) ?_
 refine A4 (hq := by exact Aq) ?_
 refine Ab ?_
 have hx := hx0
 refine h9 _ ?_; clear h9
 refine Ad ?_
 try refine Ac ?_
 refine Al (hq := by exact Aq) ?_
 refine Ae (hq := by exact Aq) ?_
 refine Ab ?_
 have hset := Gw hiq hxd (v := !y1) (XX hk1 hk2 (by have := hb17; (try simp at this); omega) hv1).symm
 refine h5 _ ⟨i + 1, ?_, ?_, [some 0, some 1], ?_⟩
 dsimp only
 omega
 dsimp only
 omega
 dsimp only
 refine ⟨by rfl, ?_, ?_⟩
 refine Aj ?_
 ·(repeat' apply And.intro) <;> (first | (first | rfl | trivial | omega | (rw [I8, hset]; done) | exact Or.inl rfl | exact Or.inl (by simp)) | exact As)
 refine Aj ?_
 ·(repeat' apply And.intro) <;> (first | (first | rfl | trivial | omega | (rw [I8, hset]; done) | exact Or.inl rfl | exact Or.inl (by simp)) | exact As)
 obtain rfl : i = q.length := by have := hb8; omega
 have hml := Fy u q q.length
 obtain ⟨y1, hv1⟩ := BG (l := OE u q q.length) (i := q.length - 1) (by omega)
 have hmq : X4 u q = y1 := by unfold X4; rw [List.getD_eq_getElem?_getD, hv1]; rfl
 have hpm : ((q.length : Int) - 1).toNat = q.length - 1 := by omega
 rw [V7]
 refine AF ?_
 simp only [Af, Nat.reduceEqDiff, reduceIte, eq_self]
 refine h3 _ ?_; clear h3
 refine Aa fun N18 h18 => ?_
 have hx := And.intro @hpm (And.intro @hv1 (And.intro @eB.eq_1 hx0))
 refine Ad ?_
 try refine Ac ?_
 iterate 2 refine Ae (hq := by exact Aq) ?_
 refine AZ (hq := by exact Aq) ?_
 refine Al (hq := by exact Aq) ?_
 refine At (hq := by exact Aq) ?_
 refine Ap (hq := by exact Aq) ?_
 refine Ae (hq := by exact Aq) ?_
 refine Ab ?_
 have hx := hx0
 refine h18 _ ?_; clear h18
 refine An ?_
 try simp only [Af]
 rw [hmq]
 refine Ax ?_
 exact As
 cases hg

def Il : Bn Tryz.prog := IC.add 32 (Spec.pure XY) Rg (by kernel_rfl)
end Go.Proofs.YtmbjnkgpcbpclaaGreat
