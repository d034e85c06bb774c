import Derived.Test.YtmbjnkgpcbpclaaGreatT52
set_option linter.all false
set_option maxRecDepth 100000
set_option maxHeartbeats 4000000
namespace Go.Proofs.YtmbjnkgpcbpclaaGreat
open Go Go.Vc Go.RowKit
theorem XC {q : List Sn} {i : Nat} {c : Int} (h1 : 1 ≤ q.length) (h2 : q.length ≤ 40) (hi : i < q.length) (h : ∀ j, j < i → Nn q j = 0) (hc : Nn q i = c) (h0 : c ≠ 0) : C4 q = (c, (i : Int)) := by
  have hf := CS (f := Nn q) (g := iI) (i := i) (by rw [hc]; exact h0) h hi
  unfold C4
  rw [if_neg (by omega), hf, hc, if_pos h0]; rfl
theorem Wq {q : List Sn} (h1 : 1 ≤ q.length) (h2 : q.length ≤ 40) (h : ∀ j, j < q.length → Nn q j = 0) : C4 q = if (F2 q q.length).length ≠ 1 then (5, -1) else (0, 0) := by
  unfold C4
  rw [if_neg (by omega), Cv h, if_neg (by simp)]
theorem LJ {q : List Sn} {i : Nat} {x : Sn} (hi : i < q.length) (h : q.getD i default = x) : F2 q (i + 1) = (F2 q i).take ((F2 q i).length - CE x.kd) ++ [(i : Int)] := by
 show (F2 q i).take ((F2 q i).length - ar ((Ef q).getD i default).kd) ++ [(i : Int)] = _
 rw [XV hi, h]
theorem Tv {q : List Sn} {i : Nat} {x : Sn} (hi : i < q.length) (h : q.getD i default = x) : rows eI (List.take ((F2 q i).length - CE x.kd) (F2 q i)) ++ [[D.int .i64 (i : Int)]] = rows eI (F2 q (i + 1)) := by
  rw [LJ hi h]; simp [rows, eI]
theorem Qt {q : List Sn} {i : Nat} {x : Sn} (hi : i < q.length) (h : q.getD i default = x) (hk : CE x.kd ≤ (F2 q i).length) : (F2 q (i + 1)).length = (F2 q i).length - CE x.kd + 1 := by
  rw [LJ hi h]; simp
theorem ON (q : List Sn) (i : Nat) : (F2 q i).length ≤ i := R3 _ _
theorem X6 {n : Sn} {l : List Int} (h : I0 n l = 0) : CE n.kd ≤ l.length := by
  have := (RC h).1
  split at this
  · omega
  · omega
def KR (q : List Sn) : Prop := ∀ n ∈ q, n.tx.length ≤ 9223372036854775807
def Nb : List AV → Option (Prop × AV)
  | [.agg [.d (.sl xs)]] => some (xs = rows Ec (C8 xs) ∧ (C8 xs).length ≤ 9223372036854775807 ∧ KR (C8 xs), .agg [.d (.int .i64 (C4 (C8 xs)).1), .d (.int .i64 (C4 (C8 xs)).2)])
  | _ => none
theorem TE : A5 Tryz.prog 11 (Spec.pure Nb) := by
 refine A1 (Np.at_ 51) Tryz.func11 rfl rfl rfl ?_
 intro args p r hg hp
 unfold Nb at hg
 split at hg
 rename_i xs
 simp only [Option.some.injEq, Prod.mk.injEq] at hg
 obtain ⟨rfl, rfl⟩ := hg
 obtain ⟨he, hl, hbg⟩ := hp
 generalize C8 xs = q at *
 subst he
 have hT : (Np).X = T := rfl
 have hx0 := And.intro @BL (And.intro @AL (And.intro @AE (And.intro @Ci (And.intro @Ch @Tryz.results11))))
 have hx := hx0
 refine ⟨by rfl, ?_⟩
 intro F W0 hnp hmk
 refine Aa fun N1 h1 => Ac ?_
 refine Az ?_
 refine Fz ?_
 refine Bj ?_
 refine Ab (h1 _ (Aa fun N2 h2 => ?_)); clear h1
 refine Aa fun N3 h3 => Ac ?_
 refine Ar ?_
 refine Aq ?_
 refine AU ?_
 refine Ao ?_
 refine Ad ?_
 refine B9 ?_
 refine B8 ?_
 refine Kj ?_
 refine CD ?_
 refine AH ?_
 refine Ab (h3 _ (Ak (fun hb4 => ?_) (fun hb4 => ?_))); clear h3
 refine Aa fun N5 h5 => Ac ?_
 refine BD ?_
 refine A4 ?_
 refine Ab (h5 _ (Am ?_)); clear h5
 try simp only [Ae]
 have hr : C4 q = (9, -1) := by unfold C4; rw [if_pos (by have := hb4; (try simp at this); omega)]
 rw [hr]
 refine Aw ?_
 exact Au
 have h1 : 1 ≤ q.length := by have := hb4; (try simp at this); omega
 have h40 : q.length ≤ 40 := by have := hb4; (try simp at this); omega
 refine An ?_
 try simp only [Ae]
 refine h2 _ (Aa fun N6 h6 => Ac ?_); clear h2
 refine Ad ?_
 refine Ab (h6 _ (Aa fun N7 h7 => ?_)); clear h6
 refine Aa fun N8 h8 => Ac ?_
 refine Ar ?_
 refine Aq ?_
 refine AU ?_
 refine Ad ?_
 refine Ab (h8 _ (As ?_)); clear h8
 refine A3 (σ := Nat) (fun s => (fun i => i ≤ q.length ∧ ∀ j, j < i → Nn q j = 0) s)
  (fun s => (fun i => [(1, .ptr 0 0 0), (2, .ptr 1 0 0), (3, .sl 2 0 (F2 q i).length), (19, .d (.sl (rows Ec q))), (20, .d (.int .i64 (q.length : Nat))), (21, .d (.int .i64 (i : Nat)))]) s)
  (fun s => (fun i => [some (.one 25 [.d (.sl (rows Ec q))]), some (.one 29 [.d (.int .i64 0), .d (.int .i64 0)]), some (.vec 3 1 (rows eI (F2 q i)))]) s) (fun s => (fun i => q.length - i) s) hnp 0 ?_ [some 0, some 1, none] ?_ ?_
 dsimp only
 exact ⟨by omega, fun j hj => by omega⟩
 dsimp only
 refine ⟨by rfl, ?_, ?_⟩
 refine Aj ?_
 exact Au
 refine Aj ?_
 exact Au
 rintro i hinv N9 h9
 dsimp only at hinv ⊢
 obtain ⟨i1, i2⟩ := hinv
 refine Aa fun N10 h10 => Ac ?_
 refine Az ?_
 refine Ao ?_
 refine Ab (h10 _ (Aa fun N11 h11 => Ak (fun hb12 => ?_) (fun hb12 => ?_))); clear h10
 have hiq : i < q.length := by have := hb12; omega
 obtain ⟨x, hxe⟩ := BA (l := q) (i := i) hiq
 have hxd : q.getD i default = x := by rw [List.getD_eq_getElem?_getD, hxe]; rfl
 have hbx := hbg x (AB hxe)
 have hrl := ON q i
 have hqx : Nn q i = I0 x (F2 q i) := by unfold Nn; rw [hxd]
 have hnx := Tv hiq hxd
 have hnl := fun h => Qt hiq hxd h
 have hcl := fun h => X6 (n := x) (l := F2 q i) h
 obtain ⟨a, b, c, d⟩ := x
 dsimp only at hnx hnl hcl hbx
 refine An ?_
 try simp only [Ae]
 refine h11 _ (Aa fun N13 h13 => As ?_); clear h11
 have hx := And.intro @hxe (And.intro @Ec.eq_1 hx0)
 refine Aa fun N14 h14 => Ac ?_
 refine Ad ?_
 refine Ar ?_
 refine Aq ?_
 refine Bj ?_
 refine Ad ?_
 refine A4 ?_
 have hx := hx0
 refine Ab (h14 _ (Aa fun N15 h15 => ?_)); clear h14
 refine Aa fun N16 h16 => Ac ?_
 refine Aq ?_
 refine Ad ?_
 have hc := Ag (E := (Np.at_ 51)) (f := 33) (sp := Spec.gen NJ) rfl
 have hs := @NJ.eq_1
 refine BM ?_
 refine Ad ?_
 refine Ab (h16 _ (Aa fun N17 h17 => Ac ?_)); clear h16
 refine Ad ?_
 refine Ao ?_
 refine Ab (h17 _ (Ak (fun hb18 => ?_) (fun hb18 => ?_))); clear h17
 refine Aa fun N19 h19 => Ac ?_
 iterate 2 refine Ad ?_
 refine BD ?_
 refine A4 ?_
 refine Ab (h19 _ (Am ?_)); clear h19
 try simp only [Ae]
 have hr := XC h1 h40 hiq i2 hqx (by have := hb18; simpa using this)
 rw [hr]
 refine Aw ?_
 exact Au
 have hc0 : I0 ⟨a, b, c, d⟩ (F2 q i) = 0 := by have := hb18; simpa using this
 have hak := hcl hc0
 have hnk := hnl hak
 have hsu : (((F2 q i).length : Int) - (CE a : Int)).toNat = (F2 q i).length - CE a := by omega
 refine An ?_
 try simp only [Ae]
 have hx := And.intro @hsu hx0
 refine h15 _ (Ac ?_); clear h15
 iterate 2 refine Ad (hq := AN) ?_
 refine AU (hq := AN) ?_
 refine Ar (hq := AN) ?_
 refine Aq (hq := AN) ?_
 have hc := Ag (E := (Np.at_ 51)) (f := 34) (sp := Spec.pure FS) rfl
 have hs := @FS.eq_1
 refine Ba (hq := AN) ?_
 refine Ao (hq := AN) ?_
 refine BZ (hq := AN) ?_
 refine Ad (hq := AN) ?_
 refine Di (hq := AN) ?_
 refine Bf (hq := AN) ?_
 refine Ad (hq := AN) ?_
 have hx := hx0
 refine Ab (h13 _ (Ac ?_)); clear h13
 refine Ao ?_
 refine Ad ?_
 refine Ab ?_
 refine h9 _ ⟨i + 1, ?_, ?_, [some 0, some 1, some 5], ?_⟩
 dsimp only
 exact ⟨by omega, Fv i2 (by rw [hqx]; exact hc0)⟩
 dsimp only
 omega
 dsimp only
 refine ⟨by rfl, ?_, ?_⟩
 refine Aj ?_
 ·(repeat' apply And.intro) <;> (first | (first | rfl | trivial | omega | (rw [hnx]; done) | (rw [hnk]; done) | exact Or.inl rfl) | exact Au)
 refine Aj ?_
 ·(repeat' apply And.intro) <;> (first | (first | rfl | trivial | omega | (rw [hnx]; done) | (rw [hnk]; done) | exact Or.inl rfl) | exact Au)
 obtain rfl : i = q.length := by have := hb12; omega
 have hre := Wq h1 h40 i2
 have hrl := ON q q.length
 refine AJ ?_
 simp only [Ae, Nat.reduceEqDiff, reduceIte, eq_self]
 refine h7 _ (Aa fun N20 h20 => ?_); clear h7
 refine Aa fun N21 h21 => Ac ?_
 refine Ad ?_
 refine AU ?_
 refine Ao ?_
 refine Ab (h21 _ (Ak (fun hb22 => ?_) (fun hb22 => ?_))); clear h21
 refine Aa fun N23 h23 => Ac ?_
 refine BD ?_
 refine A4 ?_
 refine Ab (h23 _ (Am ?_)); clear h23
 try simp only [Ae]
 rw [if_pos (by have := hb22; (try simp at this); omega)] at hre
 rw [hre]
 refine Aw ?_
 exact Au
 refine An ?_
 try simp only [Ae]
 refine h20 _ (Aa fun N24 h24 => Ac ?_); clear h20
 refine BD ?_
 refine A4 ?_
 refine Ab (h24 _ (Am ?_)); clear h24
 try simp only [Ae]
 rw [if_neg (by have := hb22; (try simp at this); omega)] at hre
 rw [hre]
 refine Aw ?_
 exact Au
 cases hg
def TV : Bq Tryz.prog := Np.add 11 (Spec.pure Nb) TE (by kernel_rfl)
