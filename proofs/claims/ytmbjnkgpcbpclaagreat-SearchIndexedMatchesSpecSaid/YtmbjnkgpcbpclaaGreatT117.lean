import Derived.Test.YtmbjnkgpcbpclaaGreatT116
set_option linter.all false
set_option maxRecDepth 100000
set_option maxHeartbeats 4000000
namespace Go.Proofs.YtmbjnkgpcbpclaaGreat
open Go Go.Vc Go.RowKit
theorem Qb : A5 Tryz.prog 58 (Spec.pure Kq) := by
 refine A1 (QL.at_ 12) Tryz.func58 rfl rfl rfl ?_
 intro args p r hg hp
 unfold Kq at hg
 split at hg
 rename_i p ts ys
 simp only [Option.some.injEq, Prod.mk.injEq] at hg
 obtain ⟨rfl, rfl⟩ := hg
 obtain ⟨he, he2, hv, hsm, h0, hlt⟩ := hp
 generalize dT ts = l at *
 generalize C8 ys = q at *
 subst he he2
 obtain ⟨i, rfl⟩ := Int.eq_ofNat_of_zero_le h0
 obtain ⟨z, hze⟩ := BA (l := l) (i := i) (by omega)
 have hzl := hsm z (AB hze)
 have hr : IR l q (i : Int) = !(Pk z q) := by
  unfold IR
  rw [Int.toNat_natCast, List.getD_eq_getElem?_getD, hze]; rfl
 have hT : (QL).X = T := rfl
 have hx0 := And.intro @De (And.intro @AL (And.intro @DG (And.intro @BL (And.intro @Ci (And.intro @Ch @Tryz.results58)))))
 have hx := hx0
 refine ⟨by rfl, ?_⟩
 intro F W0 hnp hmk
 refine Aa fun N1 h1 => Ac ?_
 refine Az ?_
 refine Ad ?_
 have hx := And.intro @hze (And.intro @eT.eq_1 hx0)
 refine Ab (h1 _ (Aa fun N2 h2 => Ac ?_)); clear h1
 refine Aq ?_
 refine Ad ?_
 refine Ar ?_
 iterate 2 refine Aq ?_
 have hc := Ag (E := (QL.at_ 12)) (f := 32) (sp := Spec.pure TL) rfl
 have hs := @TL.eq_1
 refine Ba (hq := by (first | (exact ⟨rfl, hv, by omega⟩) | exact AQ)) ?_
 refine EL ?_
 refine Ad ?_
 have hx := hx0
 refine Ab (h2 _ (Am ?_)); clear h2
 try simp only [Ae]
 rw [hr]
 refine Aw ?_
 ·(repeat' apply And.intro) <;> (first | (first | rfl | trivial | (simp; done)) | exact Au)
 cases hg
def Mb : Bq Tryz.prog := QL.add 58 (Spec.pure Kq) Qb (by kernel_rfl)
theorem SQ : A5 Tryz.prog 80 (Spec.pure UK) := by
 refine A1 (Mb.at_ 19) Tryz.func80 rfl rfl rfl ?_
 intro args p r hg hp
 unfold UK at hg
 split at hg
 rename_i xs ts ys
 simp only [Option.some.injEq, Prod.mk.injEq] at hg
 obtain ⟨rfl, rfl⟩ := hg
 obtain ⟨he, hl, hf, hf2, hv, hsm, hok⟩ := hp
 generalize dI xs = l at *
 generalize dT ts = u at *
 generalize C8 ys = q at *
 subst he hf hf2
 have hT : (Mb).X = T := rfl
 have hx0 := And.intro @De (And.intro @AL @Tryz.results80)
 have hx := hx0
 refine ⟨by rfl, ?_⟩
 intro F W0 hnp hmk
 refine Aa fun N1 h1 => Ac ?_
 refine Az ?_
 refine Ad ?_
 refine Ab (h1 _ (Aa fun N2 h2 => ?_)); clear h1
 refine Aa fun N3 h3 => Ac ?_
 refine Ad ?_
 refine AU ?_
 refine Ad ?_
 refine Ab (h3 _ (As ?_)); clear h3
 refine A3 (σ := Nat) (fun s => (fun k' => k' ≤ l.length ∧ ∀ y ∈ l.take k', IR u q y = false) s)
  (fun s => (fun k' => [(0, .d (.sl (rows eI l))), (1, .clo (.func 58) [.d (.ptr [.sl (rows eT u)]), .d (.ptr [.sl (rows Ec q)])]), (6, .d (.sl (rows eI l))), (7, .d (.int .i64 (l.length : Nat))), (8, .d (.int .i64 (k' : Nat)))]) s)
  (fun s => (fun k' => []) s) (fun s => (fun k' => l.length - k') s) hnp 0 ?_ [] ?_ ?_
 dsimp only
 simp
 dsimp only
 refine ⟨by rfl, ?_, ?_⟩
 refine Aj ?_
 exact Au
 refine Aj ?_
 exact Au
 rintro k' hinv N4 h4
 dsimp only at hinv ⊢
 obtain ⟨k1, k2⟩ := hinv
 refine Aa fun N5 h5 => Ac ?_
 refine Az ?_
 refine Ao ?_
 refine Ab (h5 _ (Aa fun N6 h6 => Ak (fun hb7 => ?_) (fun hb7 => ?_))); clear h5
 obtain ⟨x, hxe⟩ := BA (l := l) (i := k') (by omega)
 refine An ?_
 try simp only [Ae]
 refine h6 _ (Aa fun N8 h8 => As ?_); clear h6
 refine Aa fun N9 h9 => Ac ?_
 iterate 2 refine Ad ?_
 have hx := And.intro @hxe (And.intro @eI.eq_1 hx0)
 refine Ab (h9 _ (Aa fun N10 h10 => Ac ?_)); clear h9
 iterate 3 refine Ad ?_
 refine Ar ?_
 refine Aq ?_
 have hc := (rfl : ((Mb.at_ 19)).Γ 58 = some (Spec.pure Kq))
 have hs := (@Kq.eq_1)
 refine Q6 (hq := by (first | ((rw [De, AL]; first | exact ⟨rfl, rfl, hv, hsm, hok x (AB hxe)⟩ | exact ⟨⟨trivial, trivial⟩, rfl, rfl, hv, hsm, hok x (AB hxe)⟩)) | exact AQ)) ?_
 have hx := hx0
 refine Ab (h10 _ (Ak (fun hb11 => ?_) (fun hb11 => ?_))); clear h10
 have ht := hb11
 try simp only [De, AL] at ht
 refine Aa fun N12 h12 => Ac ?_
 iterate 2 refine Ad ?_
 refine Ab (h12 _ (Am ?_)); clear h12
 try simp only [Ae]
 rw [Mz hxe (by simpa using ht) k2]
 refine Aw ?_
 exact Au
 have ht := hb11
 try simp only [De, AL] at ht
 refine An ?_
 try simp only [Ae]
 refine h8 _ (Ac ?_); clear h8
 refine Ao ?_
 refine Ad ?_
 refine Ab ?_
 refine h4 _ ⟨k' + 1, ?_, ?_, [], ?_⟩
 dsimp only
 exact ⟨by omega, Fo k2 hxe (by simpa using ht)⟩
 dsimp only
 omega
 dsimp only
 refine ⟨by rfl, ?_, ?_⟩
 refine Aj ?_
 exact Au
 refine Aj ?_
 exact Au
 refine AJ ?_
 simp only [Ae, Nat.reduceEqDiff, reduceIte, eq_self]
 refine h2 _ (Aa fun N13 h13 => Ac ?_); clear h2
 refine Ad ?_
 refine Ab (h13 _ (Am ?_)); clear h13
 try simp only [Ae]
 rw [IF (by rw [List.take_of_length_le (by omega)] at k2; exact k2)]
 refine Aw ?_
 exact Au
 cases hg
def Nr : Bq Tryz.prog := Mb.add 80 (Spec.pure UK) SQ (by kernel_rfl)
theorem E6 {p : Prop} (h : p := by (repeat' apply And.intro) <;> (first | (first | rfl | trivial | (simp [rows, eI]; done)) | exact Au)) : p := h
theorem Hq {p : Prop} (h : p := by (repeat' apply And.intro) <;> (first | (first | rfl | trivial | omega | (simp [rows, A6, List.map_take]; done) | (simp [rows, A6, List.map_take]; omega)) | exact Au)) : p := h
theorem NP : A5 Tryz.prog 57 (Spec.gen NQ) := by
 refine Bm (Nr.at_ 42) Tryz.func57 rfl rfl rfl ?_
 intro args bl p r bf hg hp
 unfold NQ at hg
 split at hg
 rename_i n t s xs tt ts tq ys
 simp only [Option.some.injEq, Prod.mk.injEq] at hg
 obtain ⟨rfl, rfl, rfl⟩ := hg
 obtain ⟨rfl, rfl, he, rfl, hl, hf, hf2, hv, hsm, hok⟩ := hp
 generalize dI xs = l at *
 generalize dT ts = u at *
 generalize C8 ys = q at *
 subst he hf hf2
 have hT : (Nr).X = T := rfl
 have hx0 := And.intro @De (And.intro @AL @Tryz.results57)
 have hx := hx0
 refine ⟨Nat.le_of_ble_eq_true rfl, ?_⟩
 intro F W0 M0 hnp hmk
 have hnp : Bl.np = 3 := hnp
 refine Aa fun N1 h1 => Ac ?_
 refine Az ?_
 refine Ad ?_
 refine Ab (h1 _ (Aa fun N2 h2 => Ac ?_)); clear h1
 iterate 2 refine Ad ?_
 have hc := Ag (E := (Nr.at_ 42)) (f := 80) (sp := Spec.pure UK) rfl
 have hs := @UK.eq_1
 refine Ba (hq := by (first | ((repeat' apply And.intro) <;> first | exact hv | exact hsm | exact (fun p hp => hok p (List.mem_of_mem_take hp)) | exact True.intro | rfl | exact Nat.le_refl _ | (simp; omega)) | exact AQ)) ?_
 refine Ad ?_
 refine Ab ?_
 simp only [List.take_length]
 refine h2 _ (Aa fun N3 h3 => Aa fun N4 h4 => ?_); clear h2
 rcases Ra (IR u q) l with ⟨hf1, hf2⟩ | ⟨i0, x0, hf1, hf2, hf3, hf4⟩
 have hdl := ID hf2
 have hx := And.intro @hf1 hx0
 refine Ac ?_
 refine Ad ?_
 refine Ao ?_
 have hx := hx0
 refine Ab (h4 _ (Ak (fun hb5 => ?_) (fun hb5 => ?_))); clear h4
 refine Aa fun N6 h6 => Ac ?_
 iterate 2 refine Ad ?_
 refine Ab (h6 _ (Am ?_)); clear h6
 try simp only [Ae]
 rw [hdl]
 refine Aj ?_
 refine ⟨[some 0, some 1, some 2], by rfl, ?_, ?_⟩
 refine Aj ?_
 exact Au
 refine Aj ?_
 exact Au
 exact CJ hb5
 have hst := DL.start hf2 hf3 hf4
 have hi0 := (List.getElem?_eq_some_iff.1 hf2).1
 have hx := And.intro @hf1 hx0
 refine Ac ?_
 refine Ad ?_
 refine Ao ?_
 have hx := hx0
 refine Ab (h4 _ (Ak (fun hb7 => ?_) (fun hb7 => ?_))); clear h4
 exact CJ hb7
 refine An ?_
 try simp only [Ae]
 refine h3 _ (Aa fun N8 h8 => ?_); clear h3
 refine Aa fun N9 h9 => Ac ?_
 refine Ad ?_
 refine Ao ?_
 refine Ad ?_
 refine Ab (h9 _ (As ?_)); clear h9
 refine A3 (σ := Nat × Nat × List Int) (fun s => (fun i j m => DL (IR u q) l m i j) (s.1) (s.2.1) (s.2.2))
  (fun s => (fun i j m => [(0, .sl 0 0 l.length), (1, .clo (.func 58) [.ptr 1 0 0, .ptr 2 0 0]), (5, .d (.int .i64 (i : Nat))), (6, .d (.int .i64 (j : Nat)))]) (s.1) (s.2.1) (s.2.2))
  (fun s => (fun i j m => [some (.vec 3 1 (rows eI m)), some (.one tt [.d (.sl (rows eT u))]), some (.one tq [.d (.sl (rows Ec q))])]) (s.1) (s.2.1) (s.2.2)) (fun s => (fun i j m => l.length - j) (s.1) (s.2.1) (s.2.2)) hnp (i0, i0 + 1, l) ?_ [some 0, some 1, some 2] ?_ ?_
 dsimp only
 exact hst
 dsimp only
 refine ⟨by rfl, ?_, ?_⟩
 refine Aj ?_
 exact Au
 refine Aj ?_
 exact Au
 rintro ⟨i, j, m⟩ hinv N10 h10
 dsimp only at hinv ⊢
 have hiv := hinv
 have hml := hinv.len
 have hij := hinv.le
 have hjl := hinv.jl
 refine Aa fun N11 h11 => ?_
 refine Aa fun N12 h12 => Ac ?_
 refine Az ?_
 iterate 2 refine Ad ?_
 refine AU ?_
 refine Ao ?_
 refine Ab (h12 _ (Ak (fun hb13 => ?_) (fun hb13 => ?_))); clear h12
 obtain ⟨x, hmx, hlx⟩ := hiv.get (by have := hiv.len; omega)
 refine An ?_
 try simp only [Ae]
 refine h11 _ (Aa fun N14 h14 => As ?_); clear h11
 have hx := And.intro @hmx (And.intro @eI.eq_1 hx0)
 refine Aa fun N15 h15 => Ac ?_
 iterate 2 refine Ad ?_
 refine Ar ?_
 refine Aq ?_
 refine Ad ?_
 have hx := hx0
 refine Ab (h15 _ (Aa fun N16 h16 => Ac ?_)); clear h15
 iterate 2 refine Ad ?_
 have hc := (rfl : ((Nr.at_ 42)).Γ 58 = some (Spec.pure Kq))
 have hs := (@Kq.eq_1)
 refine Q6 (hq := by (first | ((rw [De, AL]; first | exact ⟨rfl, rfl, hv, hsm, hok x (AB hlx)⟩ | exact ⟨⟨trivial, trivial⟩, rfl, rfl, hv, hsm, hok x (AB hlx)⟩)) | exact AQ)) ?_
 refine EL ?_
 refine Ab (h16 _ (Ak (fun hb17 => ?_) (fun hb17 => ?_))); clear h16
 have hq : IR u q x = false := by have := hb17; (try simp only [De, AL] at this); simpa using this
 obtain ⟨y, hye⟩ := BA (l := m) (i := i) (by omega)
 have hx := And.intro @hye (And.intro @eI.eq_1 hx0)
 refine Aa fun N18 h18 => Ac ?_
 iterate 3 refine Ad ?_
 refine Ar ?_
 refine A4 ?_
 have hx := hx0
 refine Ab (h18 _ (Ac ?_)); clear h18
 refine Ad ?_
 refine Ao ?_
 refine Ad ?_
 refine Ab (h14 _ (Ac ?_)); clear h14
 refine Ad ?_
 refine Ao ?_
 refine Ad ?_
 refine Ab ?_
 refine h10 _ ⟨(i + 1, j + 1, m.set i x), ?_, ?_, [some 0, some 1, some 2], ?_⟩
 dsimp only
 exact hiv.keep hlx hq
 dsimp only
 omega
 dsimp only
 refine ⟨by rfl, ?_, ?_⟩
 refine Aj ?_
 exact E6
 refine Aj ?_
 exact E6
 have hq : IR u q x = true := by have := hb17; (try simp only [De, AL] at this); simpa using this
 refine An ?_
 try simp only [Ae]
 refine h14 _ (Ac ?_); clear h14
 refine Ad ?_
 refine Ao ?_
 refine Ad ?_
 refine Ab ?_
 refine h10 _ ⟨(i, j + 1, m), ?_, ?_, [some 0, some 1, some 2], ?_⟩
 dsimp only
 exact hiv.skip hlx hq
 dsimp only
 omega
 dsimp only
 refine ⟨by rfl, ?_, ?_⟩
 refine Aj ?_
 exact E6
 refine Aj ?_
 exact E6
 refine AJ ?_
 simp only [Ae, Nat.reduceEqDiff, reduceIte, eq_self]
 refine h8 _ (Aa fun N19 h19 => Ac ?_); clear h8
 iterate 2 refine Ad ?_
 refine BZ ?_
 refine AS (by rfl) (LK (by exact DF) (by exact DE) (by simp only [wB, eq_self, Nat.reduceEqDiff, reduceIte]; rfl) (by exact DB) (by exact DB) rfl ?_)
 try simp only [wB, eq_self, Nat.reduceEqDiff, reduceIte, wL, Int.toNat_natCast, Int.reduceToNat, Nat.reduceAdd, Nat.reduceMul, Nat.reduceSub, Nat.reduceLeDiff, hx]
 refine Ab (h19 _ (Aa fun N20 h20 => Ac ?_)); clear h19
 iterate 2 refine Ad ?_
 refine BZ ?_
 refine Ad ?_
 refine Ab (h20 _ (Am ?_)); clear h20
 try simp only [Ae]
 obtain rfl : j = l.length := by omega
 obtain ⟨hfi, hfl⟩ := hiv.fin
 rw [hfl, ← hfi]
 refine Aj ?_
 refine ⟨[some 0, some 1, some 2], by rfl, ?_, ?_⟩
 refine Aj ?_
 exact Hq
 refine Aj ?_
 exact Hq
 cases hg
def CV : Bq Tryz.prog := Nr.add 57 (Spec.gen NQ) NP (by kernel_rfl)
