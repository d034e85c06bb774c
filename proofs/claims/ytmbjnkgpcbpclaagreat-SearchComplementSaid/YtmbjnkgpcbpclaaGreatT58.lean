/- Walks, printed by wip/gen/walk.py. -/
import Derived.Test.YtmbjnkgpcbpclaaGreatT57
import Derived.Test.YtmbjnkgpcbpclaaGreatV5
set_option linter.all false
set_option maxRecDepth 100000
set_option maxHeartbeats 4000000
namespace Go.Proofs.YtmbjnkgpcbpclaaGreat
open Go Go.Vc Go.RowKit
def Rd (u : Bs) (q : List Sn) (i : Nat) : List Bool := Ko u q i ++ List.replicate (q.length - i) false
theorem UD {u : Bs} {q : List Sn} {i : Nat} (h : i ≤ q.length) : (Rd u q i).length = q.length := by
  unfold Rd; rw [List.length_append, Dv, List.length_replicate]; omega
theorem SF {u : Bs} {q : List Sn} {i j : Nat} (h : j < i) : (Rd u q i)[j]? = (Ko u q i)[j]? := by
  unfold Rd; rw [List.getElem?_append_left (by rw [Dv]; exact h)]
theorem Gd {u : Bs} {q : List Sn} {i : Nat} {x : Sn} (hi : i < q.length) (h : q.getD i default = x) {v : Bool} (hv : v = Ql u x (Ko u q i)) : (Rd u q i).set i v = Rd u q (i + 1) := by
  unfold Rd
  rw [List.set_append_right _ _ (by rw [Dv]; exact Nat.le_refl _), Dv, Nat.sub_self, FJ h, ← hv]
  obtain ⟨n, hn⟩ : ∃ n, q.length - i = n + 1 := ⟨q.length - i - 1, by omega⟩
  rw [hn, show q.length - (i + 1) = n by omega, List.replicate_succ, List.set_cons_zero, List.append_assoc]; rfl
theorem UC (u : Bs) (q : List Sn) : Rd u q q.length = Ko u q q.length := by unfold Rd; rw [Nat.sub_self, List.replicate_zero, List.append_nil]
theorem Ii (l : List Bool) (i : Nat) (v : Bool) : (rows eB l).set i [.bool v] = rows eB (l.set i v) := by unfold rows; rw [List.map_set]; rfl
theorem Ha (u : Bs) (q : List Sn) : Rd u q 0 = List.replicate q.length false := rfl

theorem Qp : A5 Tryz.prog 32 (Spec.pure Xk) := by
 refine A7 (O7.at_ 81) Tryz.func32 rfl rfl rfl ?_
 intro args p r hg hp
 unfold Xk at hg
 split at hg
 rename_i u xs
 simp only [Option.some.injEq, Prod.mk.injEq] at hg
 obtain ⟨rfl, rfl⟩ := hg
 obtain ⟨he, hv, hul⟩ := hp
 generalize C3 xs = q at *
 subst he
 obtain ⟨_, h1, h40, _⟩ := EI hv
 have hT : (O7).X = T := rfl
 have hx0 := And.intro @A0 (And.intro @AX (And.intro @CB (And.intro @Cu (And.intro @Ct @Tryz.results32))))
 have hx := hx0
 refine ⟨by rfl, ?_⟩
 intro F W0 hnp hmk
 refine Aa fun N1 h1 => ?_
 refine Ad ?_
 try refine Ac ?_
 refine FU (hq := by exact Aq) ?_
 refine Ae (hq := by exact Aq) ?_
 refine Ab ?_
 refine h1 _ ?_; clear h1
 refine Aa fun N2 h2 => ?_
 refine Ad ?_
 try refine Ac ?_
 refine Au (hq := by exact Aq) ?_
 refine Ar (hq := by exact Aq) ?_
 refine Bm (hq := by exact Aq) ?_
 refine X7 (hq := by exact Aq) ?_
 refine Ae (hq := by exact Aq) ?_
 refine Ab ?_
 refine h2 _ ?_; clear h2
 refine Aa fun N3 h3 => ?_
 refine Aa fun N4 h4 => ?_
 refine Ad ?_
 try refine Ac ?_
 refine Au (hq := by exact Aq) ?_
 refine Ar (hq := by exact Aq) ?_
 refine Bm (hq := by exact Aq) ?_
 refine Ae (hq := by exact Aq) ?_
 refine Ab ?_
 refine h4 _ ?_; clear h4
 refine Aw ?_
 refine A9 (σ := Nat) (fun s => (fun i => i ≤ q.length) s)
  (fun s => (fun i => [(0, .d (.str u)), (3, .ptr 0 0 0), (5, .sl 1 0 q.length), (13, .d (.sl (rows DL q))), (14, .d (.int .i64 (q.length : Nat))), (15, .d (.int .i64 (i : Nat)))]) s)
  (fun s => (fun i => [some (.one 25 [.d (.sl (rows DL q))]), some (.vec 4 1 (rows eB (Rd u q i)))]) s) (fun s => (fun i => q.length - i) s) hnp 0 ?_ [some 0, some 1] ?_ ?_
 dsimp only
 omega
 dsimp only
 refine ⟨by rfl, ?_, ?_⟩
 refine Aj ?_
 ·(repeat' apply And.intro) <;> (first | (first | rfl | trivial | omega | (rw [Ha]; simp [rows, eB]; done) | (simp [Ha, rows, eB]; done)) | exact At)
 refine Aj ?_
 ·(repeat' apply And.intro) <;> (first | (first | rfl | trivial | omega | (rw [Ha]; simp [rows, eB]; done) | (simp [Ha, rows, eB]; done)) | exact At)
 rintro i hinv N5 h5
 dsimp only at hinv ⊢
 have i1 := hinv
 refine Aa fun N6 h6 => ?_
 refine Ad ?_
 try refine Ac ?_
 refine Am (hq := by exact Aq) ?_
 refine Ab ?_
 refine h6 _ ?_; clear h6
 refine Aa fun N7 h7 => ?_
 refine Al (fun hb8 => ?_) (fun hb8 => ?_)
 have hiq : i < q.length := by have := hb8; omega
 obtain ⟨x, hxe⟩ := Cb (l := q) (i := i) hiq
 have hxd : q.getD i default = x := by rw [List.getD_eq_getElem?_getD, hxe]; rfl
 have hml := Dv u q i
 have hfl := UD (u := u) (q := q) (i := i) (by omega)
 obtain ⟨y0, hf0⟩ := Cb (l := Rd u q i) (i := i) (by omega)
 have hok := EU hv hiq hxd
 have hat := Oa hv hiq hxd
 obtain ⟨a, b, c, e⟩ := x
 dsimp only at hok hat
 refine An ?_
 try simp only [Af]
 refine h7 _ ?_; clear h7
 refine Aa fun N9 h9 => ?_
 refine Aw ?_
 refine Aa fun N10 h10 => ?_
 have hx := And.intro @hxe (And.intro @DL.eq_1 hx0)
 refine Ad ?_
 try refine Ac ?_
 refine Ae (hq := by exact Aq) ?_
 refine Au (hq := by exact Aq) ?_
 refine Ar (hq := by exact Aq) ?_
 refine B8 (hq := by exact Aq) ?_
 refine Ae (hq := by exact Aq) ?_
 refine A8 (hq := by exact Aq) ?_
 refine Ab ?_
 have hx := hx0
 refine h10 _ ?_; clear h10
 refine Aa fun N11 h11 => ?_
 refine Ad ?_
 try refine Ac ?_
 refine Au (hq := by exact Aq) ?_
 refine Ar (hq := by exact Aq) ?_
 refine Ab ?_
 refine h11 _ ?_; clear h11
 refine Aw ?_
 refine Aa fun N12 h12 => ?_
 refine Ad ?_
 try refine Ac ?_
 refine Am (hq := by exact Aq) ?_
 refine Ae (hq := by exact Aq) ?_
 refine Ab ?_
 refine h12 _ ?_; clear h12
 refine Al (fun hb13 => ?_) (fun hb13 => ?_)
 have hk1 : a = 1 := by have := hb13; (try simp at this); omega
 have hbl := Iw (hok.2.1 hk1)
 have hch := LW u b
 have hx := And.intro @hch (And.intro @hf0 (And.intro @eB.eq_1 hx0))
 refine Ad ?_
 try refine Ac ?_
 iterate 3 refine Ae (hq := by exact Aq) ?_
 refine Au (hq := by exact Aq) ?_
 refine Ar (hq := by exact Aq) ?_
 have hc := Ah (E := (O7.at_ 81)) (f := 61) (sp := Spec.pure IP) rfl
 have hs := @IP.eq_1
 refine BF (hq := by exact AW) ?_
 refine Au (hq := by exact Aq) ?_
 refine A8 (hq := by exact Aq) ?_
 refine Ab ?_
 have hx := hx0
 refine h9 _ ?_; clear h9
 refine Ad ?_
 try refine Ac ?_
 refine Am (hq := by exact Aq) ?_
 refine Ae (hq := by exact Aq) ?_
 refine Ab ?_
 have hset := Gd hiq hxd (v := ED u b) (Xj hk1).symm
 refine h5 _ ⟨i + 1, ?_, ?_, [some 0, some 1], ?_⟩
 dsimp only
 omega
 dsimp only
 omega
 dsimp only
 refine ⟨by rfl, ?_, ?_⟩
 refine Aj ?_
 ·(repeat' apply And.intro) <;> (first | (first | rfl | trivial | omega | (rw [Ii, hset]; done) | exact Or.inl rfl | exact Or.inl (by simp)) | exact At)
 refine Aj ?_
 ·(repeat' apply And.intro) <;> (first | (first | rfl | trivial | omega | (rw [Ii, hset]; done) | exact Or.inl rfl | exact Or.inl (by simp)) | exact At)
 have hk1 : ¬a = 1 := by have := hb13; (try simp at this); omega
 obtain ⟨hc0, hci, he0, hei⟩ := hat hk1
 obtain ⟨y1, hv1⟩ := Cb (l := Ko u q i) (i := c.toNat) (by omega)
 obtain ⟨y2, hv2⟩ := Cb (l := Ko u q i) (i := e.toNat) (by omega)
 have hf1 := (SF (u := u) (q := q) (i := i) (j := c.toNat) (by omega)).trans hv1
 have hf2 := (SF (u := u) (q := q) (i := i) (j := e.toNat) (by omega)).trans hv2
 refine Aa fun N14 h14 => ?_
 refine Ad ?_
 try refine Ac ?_
 refine Am (hq := by exact Aq) ?_
 refine Ae (hq := by exact Aq) ?_
 refine Ab ?_
 refine h14 _ ?_; clear h14
 refine Al (fun hb15 => ?_) (fun hb15 => ?_)
 cases y1
 skip
 have hx := And.intro @hf0 (And.intro @hf1 (And.intro @hf2 (And.intro @eB.eq_1 hx0)))
 refine Ad ?_
 try refine Ac ?_
 iterate 3 refine Ae (hq := by exact Aq) ?_
 refine Au (hq := by exact Aq) ?_
 refine Ar (hq := by exact Aq) ?_
 refine Au (hq := by exact Aq) ?_
 refine Ar (hq := by exact Aq) ?_
 refine Ae (hq := by exact Aq) ?_
 refine Av ?_ ?_
 focus (exact Bl)
 refine Av ?_ ?_
 focus (exact Bl)
 refine Av ?_ ?_
 focus (exact Bl)
 refine Av ?_ ?_
 focus (exact Bl)
 refine Av ?_ ?_
 focus (exact Bl)
 refine AQ (hq := by exact Aq) ?_
 refine Au (hq := by exact Aq) ?_
 refine A8 (hq := by exact Aq) ?_
 refine Ab ?_
 have hx := hx0
 refine h9 _ ?_; clear h9
 refine Ad ?_
 try refine Ac ?_
 refine Am (hq := by exact Aq) ?_
 refine Ae (hq := by exact Aq) ?_
 refine Ab ?_
 have hset := Gd hiq hxd (v := false) (V2 (by have := hb15; (try simp at this); omega) hv1 hv2).symm
 refine h5 _ ⟨i + 1, ?_, ?_, [some 0, some 1], ?_⟩
 dsimp only
 omega
 dsimp only
 omega
 dsimp only
 refine ⟨by rfl, ?_, ?_⟩
 refine Aj ?_
 ·(repeat' apply And.intro) <;> (first | (first | rfl | trivial | omega | (rw [Ii, hset]; done) | exact Or.inl rfl | exact Or.inl (by simp)) | exact At)
 refine Aj ?_
 ·(repeat' apply And.intro) <;> (first | (first | rfl | trivial | omega | (rw [Ii, hset]; done) | exact Or.inl rfl | exact Or.inl (by simp)) | exact At)
 skip
 have hx := And.intro @hf0 (And.intro @hf1 (And.intro @hf2 (And.intro @eB.eq_1 hx0)))
 refine Ad ?_
 try refine Ac ?_
 iterate 3 refine Ae (hq := by exact Aq) ?_
 refine Au (hq := by exact Aq) ?_
 refine Ar (hq := by exact Aq) ?_
 refine Au (hq := by exact Aq) ?_
 refine Ar (hq := by exact Aq) ?_
 refine Ae (hq := by exact Aq) ?_
 refine Cy (hq := by exact Aq) ?_
 refine D7 (hq := by exact Aq) ?_
 refine DJ (hq := by exact Aq) ?_
 refine D7 (hq := by exact Aq) ?_
 refine DJ (hq := by exact Aq) ?_
 refine AQ (hq := by exact Aq) ?_
 refine Au (hq := by exact Aq) ?_
 refine A8 (hq := by exact Aq) ?_
 refine Ab ?_
 have hx := hx0
 refine h9 _ ?_; clear h9
 refine Ad ?_
 try refine Ac ?_
 refine Am (hq := by exact Aq) ?_
 refine Ae (hq := by exact Aq) ?_
 refine Ab ?_
 have hset := Gd hiq hxd (v := y2) (V2 (by have := hb15; (try simp at this); omega) hv1 hv2).symm
 refine h5 _ ⟨i + 1, ?_, ?_, [some 0, some 1], ?_⟩
 dsimp only
 omega
 dsimp only
 omega
 dsimp only
 refine ⟨by rfl, ?_, ?_⟩
 refine Aj ?_
 ·(repeat' apply And.intro) <;> (first | (first | rfl | trivial | omega | (rw [Ii, hset]; done) | exact Or.inl rfl | exact Or.inl (by simp)) | exact At)
 refine Aj ?_
 ·(repeat' apply And.intro) <;> (first | (first | rfl | trivial | omega | (rw [Ii, hset]; done) | exact Or.inl rfl | exact Or.inl (by simp)) | exact At)
 have hk2 : ¬a = 2 := by have := hb15; (try simp at this); omega
 refine Aa fun N16 h16 => ?_
 refine Ad ?_
 try refine Ac ?_
 refine Am (hq := by exact Aq) ?_
 refine Ae (hq := by exact Aq) ?_
 refine Ab ?_
 refine h16 _ ?_; clear h16
 refine Al (fun hb17 => ?_) (fun hb17 => ?_)
 cases y1
 skip
 have hx := And.intro @hf0 (And.intro @hf1 (And.intro @hf2 (And.intro @eB.eq_1 hx0)))
 refine Ad ?_
 try refine Ac ?_
 iterate 3 refine Ae (hq := by exact Aq) ?_
 refine Au (hq := by exact Aq) ?_
 refine Ar (hq := by exact Aq) ?_
 refine Au (hq := by exact Aq) ?_
 refine Ar (hq := by exact Aq) ?_
 refine Ae (hq := by exact Aq) ?_
 refine Cy (hq := by exact Aq) ?_
 refine D7 (hq := by exact Aq) ?_
 refine DJ (hq := by exact Aq) ?_
 refine D7 (hq := by exact Aq) ?_
 refine DJ (hq := by exact Aq) ?_
 refine AQ (hq := by exact Aq) ?_
 refine Au (hq := by exact Aq) ?_
 refine A8 (hq := by exact Aq) ?_
 refine Ab ?_
 have hx := hx0
 refine h9 _ ?_; clear h9
 refine Ad ?_
 try refine Ac ?_
 refine Am (hq := by exact Aq) ?_
 refine Ae (hq := by exact Aq) ?_
 refine Ab ?_
 have hset := Gd hiq hxd (v := y2) (V3 (by have := hb17; (try simp at this); omega) hv1 hv2).symm
 refine h5 _ ⟨i + 1, ?_, ?_, [some 0, some 1], ?_⟩
 dsimp only
 omega
 dsimp only
 omega
 dsimp only
 refine ⟨by rfl, ?_, ?_⟩
 refine Aj ?_
 ·(repeat' apply And.intro) <;> (first | (first | rfl | trivial | omega | (rw [Ii, hset]; done) | exact Or.inl rfl | exact Or.inl (by simp)) | exact At)
 refine Aj ?_
 ·(repeat' apply And.intro) <;> (first | (first | rfl | trivial | omega | (rw [Ii, hset]; done) | exact Or.inl rfl | exact Or.inl (by simp)) | exact At)
 skip
 have hx := And.intro @hf0 (And.intro @hf1 (And.intro @hf2 (And.intro @eB.eq_1 hx0)))
 refine Ad ?_
 try refine Ac ?_
 iterate 3 refine Ae (hq := by exact Aq) ?_
 refine Au (hq := by exact Aq) ?_
 refine Ar (hq := by exact Aq) ?_
 refine Au (hq := by exact Aq) ?_
 refine Ar (hq := by exact Aq) ?_
 refine Ae (hq := by exact Aq) ?_
 refine Av ?_ ?_
 focus (exact Bl)
 refine Av ?_ ?_
 focus (exact Bl)
 refine Av ?_ ?_
 focus (exact Bl)
 refine Av ?_ ?_
 focus (exact Bl)
 refine Av ?_ ?_
 focus (exact Bl)
 refine AQ (hq := by exact Aq) ?_
 refine Au (hq := by exact Aq) ?_
 refine A8 (hq := by exact Aq) ?_
 refine Ab ?_
 have hx := hx0
 refine h9 _ ?_; clear h9
 refine Ad ?_
 try refine Ac ?_
 refine Am (hq := by exact Aq) ?_
 refine Ae (hq := by exact Aq) ?_
 refine Ab ?_
 have hset := Gd hiq hxd (v := true) (V3 (by have := hb17; (try simp at this); omega) hv1 hv2).symm
 refine h5 _ ⟨i + 1, ?_, ?_, [some 0, some 1], ?_⟩
 dsimp only
 omega
 dsimp only
 omega
 dsimp only
 refine ⟨by rfl, ?_, ?_⟩
 refine Aj ?_
 ·(repeat' apply And.intro) <;> (first | (first | rfl | trivial | omega | (rw [Ii, hset]; done) | exact Or.inl rfl | exact Or.inl (by simp)) | exact At)
 refine Aj ?_
 ·(repeat' apply And.intro) <;> (first | (first | rfl | trivial | omega | (rw [Ii, hset]; done) | exact Or.inl rfl | exact Or.inl (by simp)) | exact At)
 have hx := And.intro @hf0 (And.intro @hf1 (And.intro @eB.eq_1 hx0))
 refine Ad ?_
 try refine Ac ?_
 iterate 3 refine Ae (hq := by exact Aq) ?_
 refine Au (hq := by exact Aq) ?_
 refine Ar (hq := by exact Aq) ?_
 refine Au (hq := by exact Aq) ?_
 refine Ar (hq := by exact Aq) ?_
 refine Ik (hq := by exact Aq) ?_
 refine Au (hq := by exact Aq) ?_
 refine A8 (hq := by exact Aq) ?_
 refine Ab ?_
 have hx := hx0
 refine h9 _ ?_; clear h9
 refine Ad ?_
 try refine Ac ?_
 refine Am (hq := by exact Aq) ?_
 refine Ae (hq := by exact Aq) ?_
 refine Ab ?_
 have hset := Gd hiq hxd (v := !y1) (V4 hk1 hk2 (by have := hb17; (try simp at this); omega) hv1).symm
 refine h5 _ ⟨i + 1, ?_, ?_, [some 0, some 1], ?_⟩
 dsimp only
 omega
 dsimp only
 omega
 dsimp only
 refine ⟨by rfl, ?_, ?_⟩
 refine Aj ?_
 ·(repeat' apply And.intro) <;> (first | (first | rfl | trivial | omega | (rw [Ii, hset]; done) | exact Or.inl rfl | exact Or.inl (by simp)) | exact At)
 refine Aj ?_
 ·(repeat' apply And.intro) <;> (first | (first | rfl | trivial | omega | (rw [Ii, hset]; done) | exact Or.inl rfl | exact Or.inl (by simp)) | exact At)
 obtain rfl : i = q.length := by have := hb8; omega
 have hml := Dv u q q.length
 obtain ⟨y1, hv1⟩ := Cb (l := Ko u q q.length) (i := q.length - 1) (by omega)
 have hmq : Qq u q = y1 := by unfold Qq; rw [List.getD_eq_getElem?_getD, hv1]; rfl
 have hpm : ((q.length : Int) - 1).toNat = q.length - 1 := by omega
 rw [UC]
 refine Be ?_
 simp only [Af, Nat.reduceEqDiff, reduceIte, eq_self]
 refine h3 _ ?_; clear h3
 refine Aa fun N18 h18 => ?_
 have hx := And.intro @hpm (And.intro @hv1 (And.intro @eB.eq_1 hx0))
 refine Ad ?_
 try refine Ac ?_
 iterate 2 refine Ae (hq := by exact Aq) ?_
 refine Bm (hq := by exact Aq) ?_
 refine Am (hq := by exact Aq) ?_
 refine Au (hq := by exact Aq) ?_
 refine Ar (hq := by exact Aq) ?_
 refine Ae (hq := by exact Aq) ?_
 refine Ab ?_
 have hx := hx0
 refine h18 _ ?_; clear h18
 refine Ao ?_
 try simp only [Af]
 rw [hmq]
 refine A3 ?_
 exact At
 cases hg

def HK : Bo Tryz.prog := O7.add 32 (Spec.pure Xk) Qp (by kernel_rfl)
end Go.Proofs.YtmbjnkgpcbpclaaGreat
