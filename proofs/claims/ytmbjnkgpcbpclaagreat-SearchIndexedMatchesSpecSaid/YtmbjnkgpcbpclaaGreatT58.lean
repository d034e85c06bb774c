import Derived.Test.YtmbjnkgpcbpclaaGreatT57
set_option linter.all false
set_option maxRecDepth 100000
set_option maxHeartbeats 4000000
namespace Go.Proofs.YtmbjnkgpcbpclaaGreat
open Go Go.Vc Go.RowKit
def TM (u : Bs) (q : List Sn) (i : Nat) : List Bool := Kw u q i ++ List.replicate (q.length - i) false
theorem Xj {u : Bs} {q : List Sn} {i : Nat} (h : i ≤ q.length) : (TM u q i).length = q.length := by
  unfold TM; rw [List.length_append, DV, List.length_replicate]; omega
theorem Vl {u : Bs} {q : List Sn} {i j : Nat} (h : j < i) : (TM u q i)[j]? = (Kw u q i)[j]? := by
  unfold TM; rw [List.getElem?_append_left (by rw [DV]; exact h)]
theorem GV {u : Bs} {q : List Sn} {i : Nat} {x : Sn} (hi : i < q.length) (h : q.getD i default = x) {v : Bool} (hv : v = SX u x (Kw u q i)) : (TM u q i).set i v = TM u q (i + 1) := by
  unfold TM
  rw [List.set_append_right _ _ (by rw [DV]; exact Nat.le_refl _), DV, Nat.sub_self, Kx h, ← hv]
  obtain ⟨n, hn⟩ : ∃ n, q.length - i = n + 1 := ⟨q.length - i - 1, by omega⟩
  rw [hn, show q.length - (i + 1) = n by omega, List.replicate_succ, List.set_cons_zero, List.append_assoc]; rfl
theorem Xi (u : Bs) (q : List Sn) : TM u q q.length = Kw u q q.length := by unfold TM; rw [Nat.sub_self, List.replicate_zero, List.append_nil]
theorem Jz (l : List Bool) (i : Nat) (v : Bool) : (rows eB l).set i [.bool v] = rows eB (l.set i v) := by unfold rows; rw [List.map_set]; rfl
theorem O5 (u : Bs) (q : List Sn) : TM u q 0 = List.replicate q.length false := rfl
theorem In {p : Prop} (h : p := by (repeat' apply And.intro) <;> (first | (first | rfl | trivial | omega | (rw [O5]; simp [rows, eB]; done) | (simp [O5, rows, eB]; done)) | exact Au)) : p := h
theorem Tb : A5 Tryz.prog 32 (Spec.pure TL) := by
 refine A1 (QQ.at_ 81) Tryz.func32 rfl rfl rfl ?_
 intro args p r hg hp
 unfold TL at hg
 split at hg
 rename_i u xs
 simp only [Option.some.injEq, Prod.mk.injEq] at hg
 obtain ⟨rfl, rfl⟩ := hg
 obtain ⟨he, hv, hul⟩ := hp
 generalize C8 xs = q at *
 subst he
 obtain ⟨_, h1, h40, _⟩ := Et hv
 have hT : (QQ).X = T := rfl
 have hx0 := And.intro @BL (And.intro @AL (And.intro @Dd (And.intro @Ci (And.intro @Ch @Tryz.results32))))
 have hx := hx0
 refine ⟨by rfl, ?_⟩
 intro F W0 hnp hmk
 refine Aa fun N1 h1 => Ac ?_
 refine Az ?_
 refine Fz (hq := Ap) ?_
 refine Ad (hq := Ap) ?_
 refine Ab (h1 _ (Aa fun N2 h2 => Ac ?_)); clear h1
 refine Ar (hq := Ap) ?_
 refine Aq (hq := Ap) ?_
 refine AU (hq := Ap) ?_
 refine ZS (hq := Ap) ?_
 refine Ad (hq := Ap) ?_
 refine Ab (h2 _ (Aa fun N3 h3 => ?_)); clear h2
 refine Aa fun N4 h4 => Ac ?_
 refine Ar (hq := Ap) ?_
 refine Aq (hq := Ap) ?_
 refine AU (hq := Ap) ?_
 refine Ad (hq := Ap) ?_
 refine Ab (h4 _ (As ?_)); clear h4
 refine A3 (σ := Nat) (fun s => (fun i => i ≤ q.length) s)
  (fun s => (fun i => [(0, .d (.str u)), (3, .ptr 0 0 0), (5, .sl 1 0 q.length), (13, .d (.sl (rows Ec q))), (14, .d (.int .i64 (q.length : Nat))), (15, .d (.int .i64 (i : Nat)))]) s)
  (fun s => (fun i => [some (.one 25 [.d (.sl (rows Ec q))]), some (.vec 4 1 (rows eB (TM u q i)))]) s) (fun s => (fun i => q.length - i) s) hnp 0 ?_ [some 0, some 1] ?_ ?_
 dsimp only
 omega
 dsimp only
 refine ⟨by rfl, ?_, ?_⟩
 refine Aj ?_
 exact In
 refine Aj ?_
 exact In
 rintro i hinv N5 h5
 dsimp only at hinv ⊢
 have i1 := hinv
 refine Aa fun N6 h6 => Ac ?_
 refine Az ?_
 refine Ao (hq := Ap) ?_
 refine Ab (h6 _ (Aa fun N7 h7 => Ak (fun hb8 => ?_) (fun hb8 => ?_))); clear h6
 have hiq : i < q.length := by have := hb8; omega
 obtain ⟨x, hxe⟩ := BA (l := q) (i := i) hiq
 have hxd : q.getD i default = x := by rw [List.getD_eq_getElem?_getD, hxe]; rfl
 have hml := DV u q i
 have hfl := Xj (u := u) (q := q) (i := i) (by omega)
 obtain ⟨y0, hf0⟩ := BA (l := TM u q i) (i := i) (by omega)
 have hok := Fw hv hiq hxd
 have hat := MK hv hiq hxd
 obtain ⟨a, b, c, e⟩ := x
 dsimp only at hok hat
 refine An ?_
 try simp only [Ae]
 refine h7 _ (Aa fun N9 h9 => As ?_); clear h7
 have hx := And.intro @hxe (And.intro @Ec.eq_1 hx0)
 refine Aa fun N10 h10 => Ac ?_
 refine Ad (hq := Ap) ?_
 refine Ar (hq := Ap) ?_
 refine Aq (hq := Ap) ?_
 refine Bj (hq := Ap) ?_
 refine Ad (hq := Ap) ?_
 refine A4 (hq := Ap) ?_
 have hx := hx0
 refine Ab (h10 _ (Aa fun N11 h11 => Ac ?_)); clear h10
 refine Ar (hq := Ap) ?_
 refine Aq (hq := Ap) ?_
 refine Ab (h11 _ (As ?_)); clear h11
 refine Aa fun N12 h12 => Ac ?_
 refine Ao (hq := Ap) ?_
 refine Ad (hq := Ap) ?_
 refine Ab (h12 _ (Ak (fun hb13 => ?_) (fun hb13 => ?_))); clear h12
 have hk1 : a = 1 := by have := hb13; (try simp at this); omega
 have hbl := Ie (hok.2.1 hk1)
 have hch := NN u b
 have hx := And.intro @hch (And.intro @hf0 (And.intro @eB.eq_1 hx0))
 refine Ac ?_
 iterate 3 refine Ad (hq := Ap) ?_
 refine Ar (hq := Ap) ?_
 refine Aq (hq := Ap) ?_
 have hc := Ag (E := (QQ.at_ 81)) (f := 61) (sp := Spec.pure Ke) rfl
 have hs := @Ke.eq_1
 refine Ba (hq := AN) ?_
 refine Ar (hq := Ap) ?_
 refine A4 (hq := Ap) ?_
 have hx := hx0
 refine Ab (h9 _ (Ac ?_)); clear h9
 refine Ao (hq := Ap) ?_
 refine Ad (hq := Ap) ?_
 refine Ab ?_
 have hset := GV hiq hxd (v := DZ u b) (XW hk1).symm
 refine h5 _ ⟨i + 1, ?_, ?_, [some 0, some 1], ?_⟩
 dsimp only
 omega
 dsimp only
 omega
 dsimp only
 refine ⟨by rfl, ?_, ?_⟩
 refine Aj ?_
 ·(repeat' apply And.intro) <;> (first | (first | rfl | trivial | omega | (rw [Jz, hset]; done) | exact Or.inl rfl | exact Or.inl (by simp)) | exact Au)
 refine Aj ?_
 ·(repeat' apply And.intro) <;> (first | (first | rfl | trivial | omega | (rw [Jz, hset]; done) | exact Or.inl rfl | exact Or.inl (by simp)) | exact Au)
 have hk1 : ¬a = 1 := by have := hb13; (try simp at this); omega
 obtain ⟨hc0, hci, he0, hei⟩ := hat hk1
 obtain ⟨y1, hv1⟩ := BA (l := Kw u q i) (i := c.toNat) (by omega)
 obtain ⟨y2, hv2⟩ := BA (l := Kw u q i) (i := e.toNat) (by omega)
 have hf1 := (Vl (u := u) (q := q) (i := i) (j := c.toNat) (by omega)).trans hv1
 have hf2 := (Vl (u := u) (q := q) (i := i) (j := e.toNat) (by omega)).trans hv2
 refine Aa fun N14 h14 => Ac ?_
 refine Ao (hq := Ap) ?_
 refine Ad (hq := Ap) ?_
 refine Ab (h14 _ (Ak (fun hb15 => ?_) (fun hb15 => ?_))); clear h14
 cases y1
 skip
 have hx := And.intro @hf0 (And.intro @hf1 (And.intro @hf2 (And.intro @eB.eq_1 hx0)))
 refine Ac ?_
 iterate 3 refine Ad (hq := Ap) ?_
 refine Ar (hq := Ap) ?_
 refine Aq (hq := Ap) ?_
 refine Ar (hq := Ap) ?_
 refine Aq (hq := Ap) ?_
 refine Ad (hq := Ap) ?_
 refine At Bb ?_
 refine At Bb ?_
 refine At Bb ?_
 refine At Bb ?_
 refine At Bb ?_
 refine AH (hq := Ap) ?_
 refine Ar (hq := Ap) ?_
 refine A4 (hq := Ap) ?_
 have hx := hx0
 refine Ab (h9 _ (Ac ?_)); clear h9
 refine Ao (hq := Ap) ?_
 refine Ad (hq := Ap) ?_
 refine Ab ?_
 have hset := GV hiq hxd (v := false) (Rn (by have := hb15; (try simp at this); omega) hv1 hv2).symm
 refine h5 _ ⟨i + 1, ?_, ?_, [some 0, some 1], ?_⟩
 dsimp only
 omega
 dsimp only
 omega
 dsimp only
 refine ⟨by rfl, ?_, ?_⟩
 refine Aj ?_
 ·(repeat' apply And.intro) <;> (first | (first | rfl | trivial | omega | (rw [Jz, hset]; done) | exact Or.inl rfl | exact Or.inl (by simp)) | exact Au)
 refine Aj ?_
 ·(repeat' apply And.intro) <;> (first | (first | rfl | trivial | omega | (rw [Jz, hset]; done) | exact Or.inl rfl | exact Or.inl (by simp)) | exact Au)
 skip
 have hx := And.intro @hf0 (And.intro @hf1 (And.intro @hf2 (And.intro @eB.eq_1 hx0)))
 refine Ac ?_
 iterate 3 refine Ad (hq := Ap) ?_
 refine Ar (hq := Ap) ?_
 refine Aq (hq := Ap) ?_
 refine Ar (hq := Ap) ?_
 refine Aq (hq := Ap) ?_
 refine Ad (hq := Ap) ?_
 refine C3 (hq := Ap) ?_
 refine CQ (hq := Ap) ?_
 refine C9 (hq := Ap) ?_
 refine CQ (hq := Ap) ?_
 refine C9 (hq := Ap) ?_
 refine AH (hq := Ap) ?_
 refine Ar (hq := Ap) ?_
 refine A4 (hq := Ap) ?_
 have hx := hx0
 refine Ab (h9 _ (Ac ?_)); clear h9
 refine Ao (hq := Ap) ?_
 refine Ad (hq := Ap) ?_
 refine Ab ?_
 have hset := GV hiq hxd (v := y2) (Rn (by have := hb15; (try simp at this); omega) hv1 hv2).symm
 refine h5 _ ⟨i + 1, ?_, ?_, [some 0, some 1], ?_⟩
 dsimp only
 omega
 dsimp only
 omega
 dsimp only
 refine ⟨by rfl, ?_, ?_⟩
 refine Aj ?_
 ·(repeat' apply And.intro) <;> (first | (first | rfl | trivial | omega | (rw [Jz, hset]; done) | exact Or.inl rfl | exact Or.inl (by simp)) | exact Au)
 refine Aj ?_
 ·(repeat' apply And.intro) <;> (first | (first | rfl | trivial | omega | (rw [Jz, hset]; done) | exact Or.inl rfl | exact Or.inl (by simp)) | exact Au)
 have hk2 : ¬a = 2 := by have := hb15; (try simp at this); omega
 refine Aa fun N16 h16 => Ac ?_
 refine Ao (hq := Ap) ?_
 refine Ad (hq := Ap) ?_
 refine Ab (h16 _ (Ak (fun hb17 => ?_) (fun hb17 => ?_))); clear h16
 cases y1
 skip
 have hx := And.intro @hf0 (And.intro @hf1 (And.intro @hf2 (And.intro @eB.eq_1 hx0)))
 refine Ac ?_
 iterate 3 refine Ad (hq := Ap) ?_
 refine Ar (hq := Ap) ?_
 refine Aq (hq := Ap) ?_
 refine Ar (hq := Ap) ?_
 refine Aq (hq := Ap) ?_
 refine Ad (hq := Ap) ?_
 refine C3 (hq := Ap) ?_
 refine CQ (hq := Ap) ?_
 refine C9 (hq := Ap) ?_
 refine CQ (hq := Ap) ?_
 refine C9 (hq := Ap) ?_
 refine AH (hq := Ap) ?_
 refine Ar (hq := Ap) ?_
 refine A4 (hq := Ap) ?_
 have hx := hx0
 refine Ab (h9 _ (Ac ?_)); clear h9
 refine Ao (hq := Ap) ?_
 refine Ad (hq := Ap) ?_
 refine Ab ?_
 have hset := GV hiq hxd (v := y2) (Ro (by have := hb17; (try simp at this); omega) hv1 hv2).symm
 refine h5 _ ⟨i + 1, ?_, ?_, [some 0, some 1], ?_⟩
 dsimp only
 omega
 dsimp only
 omega
 dsimp only
 refine ⟨by rfl, ?_, ?_⟩
 refine Aj ?_
 ·(repeat' apply And.intro) <;> (first | (first | rfl | trivial | omega | (rw [Jz, hset]; done) | exact Or.inl rfl | exact Or.inl (by simp)) | exact Au)
 refine Aj ?_
 ·(repeat' apply And.intro) <;> (first | (first | rfl | trivial | omega | (rw [Jz, hset]; done) | exact Or.inl rfl | exact Or.inl (by simp)) | exact Au)
 skip
 have hx := And.intro @hf0 (And.intro @hf1 (And.intro @hf2 (And.intro @eB.eq_1 hx0)))
 refine Ac ?_
 iterate 3 refine Ad (hq := Ap) ?_
 refine Ar (hq := Ap) ?_
 refine Aq (hq := Ap) ?_
 refine Ar (hq := Ap) ?_
 refine Aq (hq := Ap) ?_
 refine Ad (hq := Ap) ?_
 refine At Bb ?_
 refine At Bb ?_
 refine At Bb ?_
 refine At Bb ?_
 refine At Bb ?_
 refine AH (hq := Ap) ?_
 refine Ar (hq := Ap) ?_
 refine A4 (hq := Ap) ?_
 have hx := hx0
 refine Ab (h9 _ (Ac ?_)); clear h9
 refine Ao (hq := Ap) ?_
 refine Ad (hq := Ap) ?_
 refine Ab ?_
 have hset := GV hiq hxd (v := true) (Ro (by have := hb17; (try simp at this); omega) hv1 hv2).symm
 refine h5 _ ⟨i + 1, ?_, ?_, [some 0, some 1], ?_⟩
 dsimp only
 omega
 dsimp only
 omega
 dsimp only
 refine ⟨by rfl, ?_, ?_⟩
 refine Aj ?_
 ·(repeat' apply And.intro) <;> (first | (first | rfl | trivial | omega | (rw [Jz, hset]; done) | exact Or.inl rfl | exact Or.inl (by simp)) | exact Au)
 refine Aj ?_
 ·(repeat' apply And.intro) <;> (first | (first | rfl | trivial | omega | (rw [Jz, hset]; done) | exact Or.inl rfl | exact Or.inl (by simp)) | exact Au)
 have hx := And.intro @hf0 (And.intro @hf1 (And.intro @eB.eq_1 hx0))
 refine Ac ?_
 iterate 3 refine Ad (hq := Ap) ?_
 refine Ar (hq := Ap) ?_
 refine Aq (hq := Ap) ?_
 refine Ar (hq := Ap) ?_
 refine Aq (hq := Ap) ?_
 refine EL (hq := Ap) ?_
 refine Ar (hq := Ap) ?_
 refine A4 (hq := Ap) ?_
 have hx := hx0
 refine Ab (h9 _ (Ac ?_)); clear h9
 refine Ao (hq := Ap) ?_
 refine Ad (hq := Ap) ?_
 refine Ab ?_
 have hset := GV hiq hxd (v := !y1) (XX hk1 hk2 (by have := hb17; (try simp at this); omega) hv1).symm
 refine h5 _ ⟨i + 1, ?_, ?_, [some 0, some 1], ?_⟩
 dsimp only
 omega
 dsimp only
 omega
 dsimp only
 refine ⟨by rfl, ?_, ?_⟩
 refine Aj ?_
 ·(repeat' apply And.intro) <;> (first | (first | rfl | trivial | omega | (rw [Jz, hset]; done) | exact Or.inl rfl | exact Or.inl (by simp)) | exact Au)
 refine Aj ?_
 ·(repeat' apply And.intro) <;> (first | (first | rfl | trivial | omega | (rw [Jz, hset]; done) | exact Or.inl rfl | exact Or.inl (by simp)) | exact Au)
 obtain rfl : i = q.length := by have := hb8; omega
 have hml := DV u q q.length
 obtain ⟨y1, hv1⟩ := BA (l := Kw u q q.length) (i := q.length - 1) (by omega)
 have hmq : Pk u q = y1 := by unfold Pk; rw [List.getD_eq_getElem?_getD, hv1]; rfl
 have hpm : ((q.length : Int) - 1).toNat = q.length - 1 := by omega
 rw [Xi]
 refine AJ ?_
 simp only [Ae, Nat.reduceEqDiff, reduceIte, eq_self]
 have hx := And.intro @hpm (And.intro @hv1 (And.intro @eB.eq_1 hx0))
 refine h3 _ (Aa fun N18 h18 => Ac ?_); clear h3
 iterate 2 refine Ad (hq := Ap) ?_
 refine AU (hq := Ap) ?_
 refine Ao (hq := Ap) ?_
 refine Ar (hq := Ap) ?_
 refine Aq (hq := Ap) ?_
 refine Ad (hq := Ap) ?_
 have hx := hx0
 refine Ab (h18 _ (Am ?_)); clear h18
 try simp only [Ae]
 rw [hmq]
 refine Aw ?_
 exact Au
 cases hg
def IZ : Bq Tryz.prog := QQ.add 32 (Spec.pure TL) Tb (by kernel_rfl)
