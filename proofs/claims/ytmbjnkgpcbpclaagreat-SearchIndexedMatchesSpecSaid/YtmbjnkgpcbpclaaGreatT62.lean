import Derived.Test.YtmbjnkgpcbpclaaGreatT60
import Derived.Test.YtmbjnkgpcbpclaaGreatRep6
set_option linter.all false
set_option maxRecDepth 100000
set_option maxHeartbeats 4000000
namespace Go.Proofs.YtmbjnkgpcbpclaaGreat
open Go Go.Vc Go.RowKit
def X5 (k : Int) : Int := if k = 3 then 0 else if k = 2 then 1 else 2
def VS : List AV → Option (Prop × AV)
  | [.d (.int .i64 k)] => some (True, .d (.int .i64 (X5 k)))
  | _ => none
theorem T4 : A5 Tryz.prog 66 (Spec.pure VS) := by
 refine A1 (TP.at_ 8) Tryz.func66 rfl rfl rfl ?_
 intro args p r hg hp
 unfold VS at hg
 split at hg
 rename_i k
 simp only [Option.some.injEq, Prod.mk.injEq] at hg
 obtain ⟨rfl, rfl⟩ := hg
 have hT : (TP).X = T := rfl
 have hx0 := @Tryz.results66
 have hx := hx0
 refine ⟨by rfl, ?_⟩
 intro F W0 hnp hmk
 refine Aa fun N1 h1 => Ac ?_
 refine Az ?_
 refine Ad ?_
 refine Ab (h1 _ (Aa fun N2 h2 => ?_)); clear h1
 refine Aa fun N3 h3 => Ac ?_
 refine Ad ?_
 refine Ab (h3 _ (As ?_)); clear h3
 refine Aa fun N4 h4 => Ac ?_
 refine Ao ?_
 refine Ad ?_
 refine Ab (h4 _ (Ak (fun hb5 => ?_) (fun hb5 => ?_))); clear h4
 refine Aa fun N6 h6 => Ac ?_
 refine Ad ?_
 refine Ab (h6 _ (Am ?_)); clear h6
 try simp only [Ae]
 have hr : X5 k = 0 := by
  unfold X5; rw [if_pos (by have := hb5; (try simp at this); omega)]
 rw [hr]
 refine Aw ?_
 exact Au
 refine Aa fun N7 h7 => Ac ?_
 refine Ao ?_
 refine Ad ?_
 refine Ab (h7 _ (Ak (fun hb8 => ?_) (fun hb8 => ?_))); clear h7
 refine Aa fun N9 h9 => Ac ?_
 refine Ad ?_
 refine Ab (h9 _ (Am ?_)); clear h9
 try simp only [Ae]
 have hr : X5 k = 1 := by
  unfold X5; rw [if_neg (by have := hb5; (try simp at this); omega), if_pos (by have := hb8; (try simp at this); omega)]
 rw [hr]
 refine Aw ?_
 exact Au
 refine An ?_
 try simp only [Ae]
 refine h2 _ (Aa fun N10 h10 => Ac ?_); clear h2
 refine Ad ?_
 refine Ab (h10 _ (Am ?_)); clear h10
 try simp only [Ae]
 have hr : X5 k = 2 := by
  unfold X5; rw [if_neg (by have := hb5; (try simp at this); omega), if_neg (by have := hb8; (try simp at this); omega)]
 rw [hr]
 refine Aw ?_
 exact Au
 cases hg
def Zh : Bq Tryz.prog := TP.add 66 (Spec.pure VS) T4 (by kernel_rfl)
def Pj (c : UInt8) : Bool := decide (c = 34) || decide (c = 92)
def KU (c : UInt8) : Bs := if Pj c then [92, c] else [c]
def FL (s : Bs) : Bs := s.flatMap KU
def nE (s : Bs) : Nat := s.countP Pj
theorem J9 (s : Bs) : (FL s).length = s.length + nE s := by
  induction s with
  | nil => rfl
  | cons c s ih =>
    unfold FL nE at *
    rw [List.flatMap_cons, List.length_append, ih, List.countP_cons, List.length_cons]
    unfold KU
    by_cases h : Pj c = true
    · rw [if_pos h, if_pos h]; simp; omega
    · rw [if_neg h, if_neg h]; simp; omega
theorem Kh (s : Bs) (c : UInt8) : FL (s ++ [c]) = FL s ++ KU c := by simp [FL]
theorem Xl (s : Bs) (c : UInt8) : nE (s ++ [c]) = nE s + (if Pj c then 1 else 0) := by
  unfold nE; rw [List.countP_append]; simp [List.countP_cons]
theorem Vn (s : Bs) : nE s = s.count 34 + s.count 92 := by
  unfold nE
  induction s with
  | nil => rfl
  | cons c s ih =>
    rw [List.countP_cons, List.count_cons, List.count_cons, ih]
    unfold Pj
    by_cases h1 : c = 34
    · subst h1; simp; omega
    · by_cases h2 : c = 92
      · subst h2; simp; omega
      · simp [h1, h2]
theorem Xk {s : Bs} (h : nE s = 0) : FL s = s := by
  unfold nE at h
  rw [List.countP_eq_zero] at h
  unfold FL
  induction s with
  | nil => rfl
  | cons c s ih =>
    rw [List.flatMap_cons, ih fun a ha => h a (List.mem_cons_of_mem _ ha)]
    unfold KU
    rw [if_neg (h c List.mem_cons_self)]; rfl
theorem GY {s : Bs} {i : Nat} {c : UInt8} (h : s[i]? = some c) : s.take (i + 1) = s.take i ++ [c] := by rw [List.take_add_one, h]; rfl
theorem Rs {s : Bs} {i : Nat} (h : i ≤ s.length) : nE (s.take i) ≤ i := by
  unfold nE
  have := List.countP_le_length (p := Pj) (l := s.take i)
  rw [List.length_take] at this; omega
theorem Vm (s : Bs) (i : Nat) : nE (s.take i) ≤ nE s := by
  unfold nE
  conv => rhs; rw [← List.take_append_drop i s]
  rw [List.countP_append]; omega
def We (f : Nat) : D := if f = 34 then .sl (rows eU [92, 34]) else if f = 92 then .sl (rows eU [92, 92]) else .nils
def Da : List D := (List.range 256).map We ++ [.sl (rows eT [[34], [92]])]
theorem Qr : Da.length = 257 := by simp [Da]
theorem VD (c : UInt8) : Da[c.toNat]? = some (if Pj c then .sl (rows eU [92, c]) else .nils) := by
  have hc : c.toNat < 256 := c.toNat_lt
  unfold Da
  rw [List.getElem?_append_left (by simpa using hc), List.getElem?_map, List.getElem?_range hc]
  show some (We c.toNat) = _
  unfold We Pj
  by_cases h1 : c = 34
  · subst h1; rfl
  · by_cases h2 : c = 92
    · subst h2; rfl
    · rw [if_neg (fun h => h1 (by rw [← UInt8.toNat_inj]; exact h)), if_neg (fun h => h2 (by rw [← UInt8.toNat_inj]; exact h))]
      simp [h1, h2]
theorem R1 : Da[256]? = some (.sl (rows eT [[34], [92]])) := by
  unfold Da
  rw [List.getElem?_append_right (by simp)]; simp
def cT (s : Bs) : Nat → Nat
  | 0 => 0
  | 1 => s.count 34
  | _ => nE s
def P9 : List AV → Option (Prop × AV)
  | [.d (.str s), .d (.str [c])] => some (True, .d (.int .i64 ((s.count c : Nat) : Int)))
  | _ => none
theorem ZM {P : Program} {f : FuncId} [Bl] {w : World} {S : Lays} {n : Nat} {vs : List Value} {s q : Bs} (hl : vs.length = [AV.d (.str s), AV.d (.str q)].length) (hr : ∀ (i : Nat) (c : AV) (u : Value), [AV.d (.str s), AV.d (.str q)][i]? = some c → vs[i]? = some u → R w S n c u) : vs = [.string ⟨s.toArray⟩, .string ⟨q.toArray⟩] := by
  match vs, hl with
  | [a, b], _ =>
    have h1 := R.str_iff.1 (hr 0 _ _ rfl rfl)
    have h2 := R.str_iff.1 (hr 1 _ _ rfl rfl)
    rw [h1, h2]
theorem Sz : A5 Tryz.prog 180 (Spec.pure P9) := by
 refine Jf fun args p r hg hp F H n w S vs hH hl hr => ?_
 unfold P9 at hg
 split at hg
 ·rename_i s c
  simp only [Option.some.injEq, Prod.mk.injEq] at hg
  obtain ⟨rfl, rfl⟩ := hg
  rw [ZM (P := Tryz.prog) (f := 0) hl hr]
  refine (Tryz.Rep.countOne ⟨s.toArray⟩ c w).mono ?_
  rintro e w' ⟨rfl, rfl⟩
  exact ⟨_, rfl, Go.RowKit.Below.refl _ _, R.mkInt _ _⟩
 ·cases hg
def Ym : List AV → Option (Prop × AV)
  | [.d (.ptr cs), .d (.str s)] => some (cs = Da ∧ s.length ≤ 1000000, .d (.str (FL s)))
  | _ => none
def Zb (n : Nat) : Bs := List.replicate n 0
def G2 (s : Bs) (i : Nat) : Bs := FL (s.take i) ++ Zb ((FL s).length - (FL (s.take i)).length)
theorem EE (s : Bs) (i : Nat) : (FL (s.take i)).length ≤ (FL s).length := by
  rw [J9, J9, List.length_take]; have := Vm s i; omega
theorem NC (s : Bs) (i : Nat) : (G2 s i).length = (FL s).length := by
  unfold G2 Zb; rw [List.length_append, List.length_replicate]; have := EE s i; omega
theorem Su (s : Bs) : G2 s 0 = Zb (FL s).length := by simp [G2, FL]
theorem Uj (s : Bs) : G2 s s.length = FL s := by simp [G2, Zb]
theorem Qy {α β : Type} (f : α → β) (xs : List α) (o : Nat) (ys : List α) : A6 (xs.map f) o (ys.map f) = (A6 xs o ys).map f := by simp [A6]
theorem ND {s : Bs} {i : Nat} {c : UInt8} (h : s[i]? = some c) : A6 (G2 s i) (FL (s.take i)).length (KU c) = G2 s (i + 1) := by
  have h1 := EE s (i + 1)
  unfold G2
  rw [GY h, Kh] at *
  generalize FL (s.take i) = A at *
  generalize (FL s).length = n at *
  generalize KU c = b at *
  rw [List.length_append] at h1
  unfold A6 Zb
  rw [List.take_left, List.drop_append, List.drop_of_length_le (by omega), List.nil_append, List.drop_replicate, List.length_append]
  congr 1
  congr 1
  omega
theorem Ul {s : Bs} {i : Nat} {c : UInt8} (h : s[i]? = some c) (he : Pj c = true) : A6 (rows eU (G2 s i)) (FL (s.take i)).length (rows eU [92, c]) = rows eU (G2 s (i + 1)) := by
  unfold rows; rw [Qy, ← ND h]; unfold KU; rw [if_pos he]
theorem Uk {s : Bs} {i : Nat} {c : UInt8} (h : s[i]? = some c) (he : ¬Pj c = true) : (rows eU (G2 s i)).set (FL (s.take i)).length (eU c) = rows eU (G2 s (i + 1)) := by
  have hl : (FL (s.take i)).length < (G2 s i).length := by
    rw [NC]
    have h1 := EE s (i + 1)
    rw [GY h, Kh, List.length_append] at h1
    unfold KU at h1; rw [if_neg he] at h1; simp at h1; omega
  rw [← ND h]
  unfold rows
  rw [← List.map_set]
  congr 1
  unfold KU A6
  rw [if_neg he, List.set_eq_take_append_cons_drop, if_pos hl]; simp
theorem Lw {s : Bs} {i : Nat} {c : UInt8} (h : s[i]? = some c) : (FL (s.take (i + 1))).length = (FL (s.take i)).length + (if Pj c then 2 else 1) := by
  rw [GY h, Kh, List.length_append]; unfold KU; split <;> rfl
theorem VE (c : UInt8) : (Pj c = true ∧ Da[c.toNat * 1]? = some (.sl (rows eU [92, c]))) ∨ (Pj c = false ∧ Da[c.toNat * 1]? = some .nils) := by
  rw [Nat.mul_one]
  rw [VD c]
  cases Pj c
  · exact .inr ⟨rfl, rfl⟩
  · exact .inl ⟨rfl, rfl⟩
theorem ZC : Da[34]? = some (.sl (rows eU [92, 34])) := VD 34
theorem ZD : Da[92]? = some (.sl (rows eU [92, 92])) := VD 92
theorem Rq {s : Bs} {i : Nat} {c : UInt8} (h : s[i]? = some c) : nE (s.take (i + 1)) = nE (s.take i) + (if Pj c then 1 else 0) := by rw [GY h, Xl]
theorem Aac (s : Bs) : cT s 2 = s.count 34 + s.count 92 := Vn s
theorem Ww (n : Nat) : List.replicate n [D.int .u8 0] = rows eU (Zb n) := by simp [rows, Zb, eU]
def Nq : Bq Tryz.prog := Zh.add 180 (Spec.pure P9) Sz (by kernel_rfl)
theorem Lu : A5 Tryz.prog 178 (Spec.pure Ym) := by
 refine A1 (Nq.at_ 122) Tryz.func178 rfl rfl rfl ?_
 intro args p r hg hp
 unfold Ym at hg
 split at hg
 rename_i cs z
 simp only [Option.some.injEq, Prod.mk.injEq] at hg
 obtain ⟨rfl, rfl⟩ := hg
 obtain ⟨rfl, hs⟩ := hp
 have hne := Rs (Nat.le_refl z.length)
 rw [List.take_length] at hne
 have hel := J9 z
 have hT : (Nq).X = T := rfl
 have hx0 := And.intro @R1 (And.intro @Qr (And.intro @BV (And.intro @DG (And.intro @Ci (And.intro @Ch @Tryz.results178)))))
 have hx := hx0
 refine ⟨by rfl, ?_⟩
 intro F W0 hnp hmk
 refine Aa fun N1 h1 => Ac ?_
 refine Az ?_
 refine Ad ?_
 refine Ab (h1 _ (Aa fun N2 h2 => Ac ?_)); clear h1
 refine Ad ?_
 refine AU ?_
 refine Ad ?_
 refine Ab (h2 _ (Aa fun N3 h3 => Ac ?_)); clear h2
 refine Ad ?_
 refine Ab (h3 _ ?_); clear h3
 refine F0 (σ := Unit) (fun s => (fun u => True) s)
  (fun s => (fun u => [(0, .d (.ptr Da)), (1, .d (.str z)), (5, .d (.int .i64 ((z.length + nE z : Nat) : Int))), (6, .d (.bool (decide (nE z ≠ 0))))]) s)
  (fun s => (fun u => []) s) hnp ?_ ?_
 rintro u hinv
 dsimp only at hinv ⊢
 refine Aa fun N5 h5 => ?_
 refine Aa fun N6 h6 => Ac ?_
 refine Az ?_
 refine Ad ?_
 refine EL ?_
 refine Ab (h6 _ (Ak (fun hb7 => ?_) (fun hb7 => ?_))); clear h6
 refine Aa fun N8 h8 => Ac ?_
 iterate 2 refine Ad ?_
 refine Ab (h8 _ (Am ?_)); clear h8
 try simp only [Ae]
 have h0 : nE z = 0 := by have := hb7; simpa using this
 rw [Xk h0]
 refine Aw ?_
 exact Au
 have hbz := Su z
 have hzr := Ww (FL z).length
 refine An ?_
 try simp only [Ae]
 refine h5 _ (Aa fun N9 h9 => Ac ?_); clear h5
 refine Ad ?_
 refine ZS ?_
 refine Ad ?_
 refine Ab (h9 _ (Aa fun N10 h10 => Ac ?_)); clear h9
 refine Ad ?_
 refine Ab (h10 _ (Aa fun N11 h11 => ?_)); clear h10
 refine Aa fun N12 h12 => Ac ?_
 refine Ad ?_
 refine Ab (h12 _ (As ?_)); clear h12
 refine A3 (σ := Nat) (fun s => (fun i => i ≤ z.length) s)
  (fun s => (fun i => [(0, .d (.ptr Da)), (1, .d (.str z)), (12, .sl 0 0 (FL z).length), (13, .d (.int .i64 ((FL (z.take i)).length : Nat))), (14, .d (.int .i64 (i : Nat)))]) s)
  (fun s => (fun i => [some (.vec 5 1 (rows eU (G2 z i)))]) s) (fun s => (fun i => z.length - i) s) hnp 0 ?_ [some 0] ?_ ?_
 dsimp only
 omega
 dsimp only
 refine ⟨by rfl, ?_, ?_⟩
 refine Aj ?_
 ·(repeat' apply And.intro) <;> (first | (first | rfl | trivial | omega | (rw [hbz, ← hzr, hel]; done) | exact Or.inl rfl) | exact Au)
 refine Aj ?_
 ·(repeat' apply And.intro) <;> (first | (first | rfl | trivial | omega | (rw [hbz, ← hzr, hel]; done) | exact Or.inl rfl) | exact Au)
 rintro i hinv N13 h13
 dsimp only at hinv ⊢
 have i1 := hinv
 refine Aa fun N14 h14 => ?_
 refine Aa fun N15 h15 => Ac ?_
 refine Az ?_
 iterate 2 refine Ad ?_
 refine AU ?_
 refine Ao ?_
 refine Ab (h15 _ (Ak (fun hb16 => ?_) (fun hb16 => ?_))); clear h15
 have hiz : i < z.length := by have := hb16; (try simp at this); omega
 obtain ⟨c, hce⟩ := BA (l := z) (i := i) hiz
 have hnn := Rq hce
 have hc256 := c.toNat_lt
 have hel2 := Lw hce
 have hll := Vm z (i + 1)
 have hb3 := EE z (i + 1)
 have hbl := NC z i
 have hbu : (rows eU (G2 z i)).length = (FL z).length := by rw [Bd, hbl]
 refine An ?_
 try simp only [Ae]
 refine h14 _ (Aa fun N17 h17 => As ?_); clear h14
 have hx := And.intro @hce hx0
 refine Aa fun N18 h18 => Ac ?_
 iterate 2 refine Ad ?_
 refine Ar ?_
 refine Ad ?_
 have hx := hx0
 refine Ab (h18 _ (Aa fun N19 h19 => ?_)); clear h18
 rcases VE c with ⟨he, hrc⟩ | ⟨he, hrc⟩
 rw [if_pos he] at hnn hel2
 have hl2 : (rows eU [92, c]).length = 2 := rfl
 have hx := And.intro @hrc hx0
 refine Ac ?_
 iterate 2 refine Ad ?_
 refine BB ?_
 iterate 2 refine Ar ?_
 refine Aq ?_
 refine AS (by rfl) (GX (by exact DF) (by exact DE) (by exact DB) (by first | (simp only [R9, wB, eq_self, Nat.reduceEqDiff, reduceIte]; done) | (simp only [R9, wB, eq_self, Nat.reduceEqDiff, reduceIte]; rfl)) fun z_r27_6 hz_r27_6 hz_r27_6' => ?_)
 have hx := hx0
 refine Ab (h19 _ (Ak (fun hb20 => ?_) (fun hb20 => ?_))); clear h19
 have hx := And.intro @hrc hx0
 refine Ac ?_
 iterate 3 refine Ad ?_
 refine BZ ?_
 iterate 2 refine Ad ?_
 refine BB ?_
 iterate 2 refine Ar ?_
 refine Aq ?_
 refine AS (by rfl) (Em (by exact DF) (by exact DE) (by simp only [wB, eq_self, Nat.reduceEqDiff, reduceIte]; rfl) (by exact DB) (by exact DB) rfl (by exact DF) (by exact DE) (by simp only [C7, wB, eq_self, Nat.reduceEqDiff, reduceIte, wL, Int.toNat_natCast, Int.reduceToNat, Nat.reduceAdd, Nat.reduceMul, Nat.reduceSub, Nat.reduceLeDiff, hx]; rfl) (by (first | (first | exact BV _ | exact True.intro | (rw [hbu]; omega) | omega) | exact AQ)) (by (first | (first | exact BV _ | exact True.intro | (rw [hbu]; omega) | omega) | exact AQ)) (by (first | (first | exact BV _ | exact True.intro | (rw [hbu]; omega) | omega) | exact AQ)) ?_)
 try simp only [wB, eq_self, Nat.reduceEqDiff, reduceIte, wL, Int.toNat_natCast, Int.reduceToNat, Nat.reduceAdd, Nat.reduceMul, Nat.reduceSub, Nat.reduceLeDiff, hx]
 refine Ao ?_
 refine Ad ?_
 have hx := hx0
 refine Ab (h17 _ (Ac ?_)); clear h17
 refine Ad ?_
 refine Ao ?_
 refine Ad ?_
 refine Ab ?_
 have hst := Ul hce he
 have htk : List.take ((FL z).length - (FL (z.take i)).length) [92, c] = [92, c] := List.take_of_length_le (by show 2 ≤ _; omega)
 have hmin : min 2 ((FL z).length - (FL (z.take i)).length) = 2 := by omega
 refine h13 _ ⟨i + 1, ?_, ?_, [some 0], ?_⟩
 dsimp only
 omega
 dsimp only
 omega
 dsimp only
 refine ⟨by rfl, ?_, ?_⟩
 refine Aj ?_
 ·(repeat' apply And.intro) <;> (first | (first | (rw [htk, hst]; done) | (left; rw [hmin, hel2]; rfl) | rfl | trivial | omega | (rw [hst]; done) | exact Or.inl rfl) | exact Au)
 refine Aj ?_
 ·(repeat' apply And.intro) <;> (first | (first | (rw [htk, hst]; done) | (left; rw [hmin, hel2]; rfl) | rfl | trivial | omega | (rw [hst]; done) | exact Or.inl rfl) | exact Au)
 exact absurd (hz_r27_6 hb20) (by simp [IE, rows])
 rw [if_neg (by rw [he]; simp)] at hnn hel2
 obtain ⟨y1, hy1⟩ := BA (l := G2 z i) (i := (FL (z.take i)).length) (by rw [hbl]; omega)
 have hx := And.intro @hrc hx0
 refine Ac ?_
 iterate 2 refine Ad ?_
 refine BB ?_
 iterate 2 refine Ar ?_
 refine Aq ?_
 refine AS (by rfl) (GX (by exact DF) (by exact DE) (by exact DB) (by first | (simp only [R9, wB, eq_self, Nat.reduceEqDiff, reduceIte]; done) | (simp only [R9, wB, eq_self, Nat.reduceEqDiff, reduceIte]; rfl)) fun z_r27_6 hz_r27_6 hz_r27_6' => ?_)
 have hx := hx0
 refine Ab (h19 _ (Ak (fun hb21 => ?_) (fun hb21 => ?_))); clear h19
 exact absurd ((hz_r27_6' rfl).symm.trans hb21) (by simp)
 have hx := And.intro @hy1 (And.intro @eU.eq_1 hx0)
 refine Aa fun N22 h22 => Ac ?_
 iterate 3 refine Ad ?_
 refine Ar ?_
 refine A4 ?_
 have hx := hx0
 refine Ab (h22 _ (Ac ?_)); clear h22
 refine Ad ?_
 refine Ao ?_
 refine Ad ?_
 refine Ab (h17 _ (Ac ?_)); clear h17
 refine Ad ?_
 refine Ao ?_
 refine Ad ?_
 refine Ab ?_
 have hst := Uk hce (by rw [he]; simp)
 refine h13 _ ⟨i + 1, ?_, ?_, [some 0], ?_⟩
 dsimp only
 omega
 dsimp only
 omega
 dsimp only
 refine ⟨by rfl, ?_, ?_⟩
 refine Aj ?_
 ·(repeat' apply And.intro) <;> (first | (first | rfl | trivial | omega | (rw [hst]; done) | exact Or.inl rfl) | exact Au)
 refine Aj ?_
 ·(repeat' apply And.intro) <;> (first | (first | rfl | trivial | omega | (rw [hst]; done) | exact Or.inl rfl) | exact Au)
 obtain rfl : i = z.length := by have := hb16; (try simp at this); omega
 simp only [List.take_length, Uj]
 refine AJ ?_
 simp only [Ae, Nat.reduceEqDiff, reduceIte, eq_self]
 refine h11 _ (Aa fun N23 h23 => Ac ?_); clear h11
 refine Ad ?_
 refine Wk ?_
 refine Ad ?_
 refine Ab (h23 _ (Am ?_)); clear h23
 try simp only [Ae]
 refine Aw ?_
 exact Au
 intro N4 h4
 refine Aa fun N24 h24 => Ac ?_
 refine Ad ?_
 refine BB ?_
 refine Ar ?_
 refine Aq ?_
 refine AU ?_
 refine Ao ?_
 refine Ad ?_
 refine AU ?_
 refine Ao ?_
 refine Ab (h24 _ (Ak (fun hb25 => ?_) (fun hb25 => ?_))); clear h24
 refine Aa fun N26 h26 => Ac ?_
 refine Ad ?_
 refine BB ?_
 refine Ar ?_
 refine Aq ?_
 refine AU ?_
 refine Ad ?_
 refine Ab (h26 _ (As ?_)); clear h26
 refine A3 (σ := Nat) (fun s => (fun j => j ≤ 2) s)
  (fun s => (fun j => [(0, .d (.ptr Da)), (1, .d (.str z)), (5, .d (.int .i64 ((z.length + cT z j : Nat) : Int))), (6, .d (.bool (decide (cT z j ≠ 0)))), (30, .d (.sl (rows eT [[34], [92]]))), (31, .d (.int .i64 ([[34], [92]].length : Nat))), (32, .d (.int .i64 (j : Nat)))]) s)
  (fun s => (fun j => []) s) (fun s => (fun j => 2 - j) s) hnp 0 ?_ [] ?_ ?_
 dsimp only
 omega
 dsimp only
 refine ⟨by rfl, ?_, ?_⟩
 refine Aj ?_
 ·(repeat' apply And.intro) <;> (first | (first | exact hdq | exact hdq.symm | rfl | trivial | omega | (simp [hnn]; done) | (simp; omega) | (simp [hnn, hj1, hj2]; done)) | exact Au)
 refine Aj ?_
 ·(repeat' apply And.intro) <;> (first | (first | exact hdq | exact hdq.symm | rfl | trivial | omega | (simp [hnn]; done) | (simp; omega) | (simp [hnn, hj1, hj2]; done)) | exact Au)
 rintro j hinv N27 h27
 dsimp only at hinv ⊢
 have j1 := hinv
 refine Aa fun N28 h28 => Ac ?_
 refine Az ?_
 refine Ao ?_
 refine Ab (h28 _ (Aa fun N29 h29 => Ak (fun hb30 => ?_) (fun hb30 => ?_))); clear h28
 have hj : j < 2 := by have := hb30; (try simp at this); omega
 have hj0 : cT z 0 = 0 := rfl
 have hj1 : cT z 1 = z.count 34 := rfl
 have hj2 := Aac z
 have hc3 := List.count_le_length (a := (34 : UInt8)) (l := z)
 have hc9 := List.count_le_length (a := (92 : UInt8)) (l := z)
 have hn2 := Vn z
 refine An ?_
 try simp only [Ae]
 refine h29 _ (Aa fun N31 h31 => As (Aa fun N32 h32 => ?_)); clear h29
 rcases (show j = 0 ∨ j = 1 by omega) with rfl | rfl
 have hrj : ([[34], [92]] : List Bs)[0]? = some [34] := rfl
 have hrc := ZC
 have hl2 : (rows eU [92, 34]).length = 2 := rfl
 have hml : ((z.count 34 : Nat) : Int) * (((rows eU [92, 34]).length : Nat) - 1) = (z.count 34 : Nat) := by rw [hl2]; omega
 have hx := And.intro @hrj (And.intro @eT.eq_1 hx0)
 refine Ac ?_
 refine Ar ?_
 refine Aq ?_
 refine Ad ?_
 have hx := hx0
 refine Ab (h32 _ (Aa fun N33 h33 => Ac ?_)); clear h32
 iterate 2 refine Ad ?_
 have hc := Ag (E := (Nq.at_ 122)) (f := 180) (sp := Spec.pure P9) rfl
 have hs := @P9.eq_1
 refine Ba ?_
 refine Ad ?_
 refine Ab (h33 _ (Aa fun N34 h34 => Ac ?_)); clear h33
 refine Ad ?_
 refine Ao ?_
 refine Ab (h34 _ (Ak (fun hb35 => ?_) (fun hb35 => ?_))); clear h34
 have hx := And.intro @hrc (And.intro @hml hx0)
 refine Aa fun N36 h36 => Ac ?_
 iterate 4 refine Ad ?_
 refine Ar ?_
 refine BB ?_
 iterate 2 refine Ar ?_
 refine Aq ?_
 refine AU ?_
 iterate 3 refine Ao ?_
 refine Ad ?_
 have hx := hx0
 refine Ab (h36 _ (Ac ?_)); clear h36
 refine Ad ?_
 refine Ab (h31 _ (Ac ?_)); clear h31
 refine Ao ?_
 refine Ad ?_
 refine Ab ?_
 have hdq : decide (cT z 1 ≠ 0) = true := decide_eq_true (by have := hb35; (try simp at this); omega)
 refine h27 _ ⟨1, ?_, ?_, [], ?_⟩
 dsimp only
 omega
 dsimp only
 omega
 dsimp only
 refine ⟨by rfl, ?_, ?_⟩
 refine Aj ?_
 ·(repeat' apply And.intro) <;> (first | (first | exact hdq | exact hdq.symm | rfl | trivial | omega | (simp [hnn]; done) | (simp; omega) | (simp [hnn, hj1, hj2]; done)) | exact Au)
 refine Aj ?_
 ·(repeat' apply And.intro) <;> (first | (first | exact hdq | exact hdq.symm | rfl | trivial | omega | (simp [hnn]; done) | (simp; omega) | (simp [hnn, hj1, hj2]; done)) | exact Au)
 refine An ?_
 try simp only [Ae]
 refine h31 _ (Ac ?_); clear h31
 refine Ao ?_
 refine Ad ?_
 refine Ab ?_
 have hdq : decide (cT z 0 ≠ 0) = decide (cT z 1 ≠ 0) := by rw [show cT z 1 = cT z 0 by have := hb35; (try simp at this); omega]
 refine h27 _ ⟨1, ?_, ?_, [], ?_⟩
 dsimp only
 omega
 dsimp only
 omega
 dsimp only
 refine ⟨by rfl, ?_, ?_⟩
 refine Aj ?_
 ·(repeat' apply And.intro) <;> (first | (first | exact hdq | exact hdq.symm | rfl | trivial | omega | (simp [hnn]; done) | (simp; omega) | (simp [hnn, hj1, hj2]; done)) | exact Au)
 refine Aj ?_
 ·(repeat' apply And.intro) <;> (first | (first | exact hdq | exact hdq.symm | rfl | trivial | omega | (simp [hnn]; done) | (simp; omega) | (simp [hnn, hj1, hj2]; done)) | exact Au)
 have hrj : ([[34], [92]] : List Bs)[1]? = some [92] := rfl
 have hrc := ZD
 have hl2 : (rows eU [92, 92]).length = 2 := rfl
 have hml : ((z.count 92 : Nat) : Int) * (((rows eU [92, 92]).length : Nat) - 1) = (z.count 92 : Nat) := by rw [hl2]; omega
 have hx := And.intro @hrj (And.intro @eT.eq_1 hx0)
 refine Ac ?_
 refine Ar ?_
 refine Aq ?_
 refine Ad ?_
 have hx := hx0
 refine Ab (h32 _ (Aa fun N37 h37 => Ac ?_)); clear h32
 iterate 2 refine Ad ?_
 have hc := Ag (E := (Nq.at_ 122)) (f := 180) (sp := Spec.pure P9) rfl
 have hs := @P9.eq_1
 refine Ba ?_
 refine Ad ?_
 refine Ab (h37 _ (Aa fun N38 h38 => Ac ?_)); clear h37
 refine Ad ?_
 refine Ao ?_
 refine Ab (h38 _ (Ak (fun hb39 => ?_) (fun hb39 => ?_))); clear h38
 have hx := And.intro @hrc (And.intro @hml hx0)
 refine Aa fun N40 h40 => Ac ?_
 iterate 4 refine Ad ?_
 refine Ar ?_
 refine BB ?_
 iterate 2 refine Ar ?_
 refine Aq ?_
 refine AU ?_
 iterate 3 refine Ao ?_
 refine Ad ?_
 have hx := hx0
 refine Ab (h40 _ (Ac ?_)); clear h40
 refine Ad ?_
 refine Ab (h31 _ (Ac ?_)); clear h31
 refine Ao ?_
 refine Ad ?_
 refine Ab ?_
 have hdq : decide (cT z 2 ≠ 0) = true := decide_eq_true (by have := hb39; (try simp at this); omega)
 refine h27 _ ⟨2, ?_, ?_, [], ?_⟩
 dsimp only
 omega
 dsimp only
 omega
 dsimp only
 refine ⟨by rfl, ?_, ?_⟩
 refine Aj ?_
 ·(repeat' apply And.intro) <;> (first | (first | exact hdq | exact hdq.symm | rfl | trivial | omega | (simp [hnn]; done) | (simp; omega) | (simp [hnn, hj1, hj2]; done)) | exact Au)
 refine Aj ?_
 ·(repeat' apply And.intro) <;> (first | (first | exact hdq | exact hdq.symm | rfl | trivial | omega | (simp [hnn]; done) | (simp; omega) | (simp [hnn, hj1, hj2]; done)) | exact Au)
 refine An ?_
 try simp only [Ae]
 refine h31 _ (Ac ?_); clear h31
 refine Ao ?_
 refine Ad ?_
 refine Ab ?_
 have hdq : decide (cT z 1 ≠ 0) = decide (cT z 2 ≠ 0) := by rw [show cT z 2 = cT z 1 by have := hb39; (try simp at this); omega]
 refine h27 _ ⟨2, ?_, ?_, [], ?_⟩
 dsimp only
 omega
 dsimp only
 omega
 dsimp only
 refine ⟨by rfl, ?_, ?_⟩
 refine Aj ?_
 ·(repeat' apply And.intro) <;> (first | (first | exact hdq | exact hdq.symm | rfl | trivial | omega | (simp [hnn]; done) | (simp; omega) | (simp [hnn, hj1, hj2]; done)) | exact Au)
 refine Aj ?_
 ·(repeat' apply And.intro) <;> (first | (first | exact hdq | exact hdq.symm | rfl | trivial | omega | (simp [hnn]; done) | (simp; omega) | (simp [hnn, hj1, hj2]; done)) | exact Au)
 obtain rfl : j = 2 := by have := hb30; (try simp at this); omega
 have hj2 : cT z 2 = nE z := rfl
 rw [hj2]
 refine AJ ?_
 simp only [Ae, Nat.reduceEqDiff, reduceIte, eq_self]
 refine h4 _ ⟨(), trivial, [], ?_⟩
 dsimp only
 refine ⟨by rfl, ?_, ?_⟩
 refine Aj ?_
 exact Au
 refine Aj ?_
 exact Au
 refine Aa fun N41 h41 => Ac ?_
 refine Ad ?_
 refine Ab (h41 _ (As ?_)); clear h41
 refine A3 (σ := Nat) (fun s => (fun i => i ≤ z.length) s)
  (fun s => (fun i => [(0, .d (.ptr Da)), (1, .d (.str z)), (5, .d (.int .i64 ((z.length + nE (z.take i) : Nat) : Int))), (6, .d (.bool (decide (nE (z.take i) ≠ 0)))), (10, .d (.int .i64 (i : Nat)))]) s)
  (fun s => (fun i => []) s) (fun s => (fun i => z.length - i) s) hnp 0 ?_ [] ?_ ?_
 dsimp only
 omega
 dsimp only
 refine ⟨by rfl, ?_, ?_⟩
 refine Aj ?_
 ·(repeat' apply And.intro) <;> (first | (first | exact hdq | exact hdq.symm | rfl | trivial | omega | (simp [hnn]; done) | (simp; omega) | (simp [hnn, hj1, hj2]; done)) | exact Au)
 refine Aj ?_
 ·(repeat' apply And.intro) <;> (first | (first | exact hdq | exact hdq.symm | rfl | trivial | omega | (simp [hnn]; done) | (simp; omega) | (simp [hnn, hj1, hj2]; done)) | exact Au)
 rintro i hinv N42 h42
 dsimp only at hinv ⊢
 have i1 := hinv
 have hnt := Rs i1
 refine Aa fun N43 h43 => ?_
 refine Aa fun N44 h44 => Ac ?_
 refine Az ?_
 iterate 2 refine Ad ?_
 refine AU ?_
 refine Ao ?_
 refine Ab (h44 _ (Ak (fun hb45 => ?_) (fun hb45 => ?_))); clear h44
 have hiz : i < z.length := by have := hb45; (try simp at this); omega
 obtain ⟨c, hce⟩ := BA (l := z) (i := i) hiz
 have hnn := Rq hce
 have hc256 := c.toNat_lt
 have hel2 := Lw hce
 have hll := Vm z (i + 1)
 have hb3 := EE z (i + 1)
 refine An ?_
 try simp only [Ae]
 refine h43 _ (Aa fun N46 h46 => As ?_); clear h43
 have hx := And.intro @hce hx0
 refine Aa fun N47 h47 => Ac ?_
 iterate 2 refine Ad ?_
 refine Ar ?_
 refine Ad ?_
 have hx := hx0
 refine Ab (h47 _ (Aa fun N48 h48 => ?_)); clear h47
 rcases VE c with ⟨he, hrc⟩ | ⟨he, hrc⟩
 rw [if_pos he] at hnn hel2
 have hl2 : (rows eU [92, c]).length = 2 := rfl
 have hx := And.intro @hrc hx0
 refine Ac ?_
 iterate 2 refine Ad ?_
 refine BB ?_
 iterate 2 refine Ar ?_
 refine Aq ?_
 refine AS (by rfl) (GX (by exact DF) (by exact DE) (by exact DB) (by first | (simp only [R9, wB, eq_self, Nat.reduceEqDiff, reduceIte]; done) | (simp only [R9, wB, eq_self, Nat.reduceEqDiff, reduceIte]; rfl)) fun z_r16_6 hz_r16_6 hz_r16_6' => ?_)
 have hx := hx0
 refine Ab (h48 _ (Ak (fun hb49 => ?_) (fun hb49 => ?_))); clear h48
 have hx := And.intro @hrc hx0
 refine Aa fun N50 h50 => Ac ?_
 iterate 3 refine Ad ?_
 refine BB ?_
 iterate 2 refine Ar ?_
 refine Aq ?_
 refine AU ?_
 iterate 2 refine Ao ?_
 refine Ad ?_
 have hx := hx0
 refine Ab (h50 _ (Ac ?_)); clear h50
 refine Ad ?_
 refine Ab (h46 _ (Ac ?_)); clear h46
 refine Ad ?_
 refine Ao ?_
 refine Ad ?_
 refine Ab ?_
 have hdq : decide (nE (z.take (i + 1)) ≠ 0) = true := decide_eq_true (by omega)
 refine h42 _ ⟨i + 1, ?_, ?_, [], ?_⟩
 dsimp only
 omega
 dsimp only
 omega
 dsimp only
 refine ⟨by rfl, ?_, ?_⟩
 refine Aj ?_
 ·(repeat' apply And.intro) <;> (first | (first | exact hdq | exact hdq.symm | rfl | trivial | omega | (simp [hnn]; done) | (simp; omega) | (simp [hnn, hj1, hj2]; done)) | exact Au)
 refine Aj ?_
 ·(repeat' apply And.intro) <;> (first | (first | exact hdq | exact hdq.symm | rfl | trivial | omega | (simp [hnn]; done) | (simp; omega) | (simp [hnn, hj1, hj2]; done)) | exact Au)
 exact absurd (hz_r16_6 hb49) (by simp [IE, rows])
 rw [if_neg (by rw [he]; simp)] at hnn hel2
 have hx := And.intro @hrc hx0
 refine Ac ?_
 iterate 2 refine Ad ?_
 refine BB ?_
 iterate 2 refine Ar ?_
 refine Aq ?_
 refine AS (by rfl) (GX (by exact DF) (by exact DE) (by exact DB) (by first | (simp only [R9, wB, eq_self, Nat.reduceEqDiff, reduceIte]; done) | (simp only [R9, wB, eq_self, Nat.reduceEqDiff, reduceIte]; rfl)) fun z_r16_6 hz_r16_6 hz_r16_6' => ?_)
 have hx := hx0
 refine Ab (h48 _ (Ak (fun hb51 => ?_) (fun hb51 => ?_))); clear h48
 exact absurd ((hz_r16_6' rfl).symm.trans hb51) (by simp)
 refine An ?_
 try simp only [Ae]
 refine h46 _ (Ac ?_); clear h46
 refine Ad ?_
 refine Ao ?_
 refine Ad ?_
 refine Ab ?_
 have hdq : decide (nE (z.take i) ≠ 0) = decide (nE (z.take (i + 1)) ≠ 0) := by rw [hnn]; rfl
 refine h42 _ ⟨i + 1, ?_, ?_, [], ?_⟩
 dsimp only
 omega
 dsimp only
 omega
 dsimp only
 refine ⟨by rfl, ?_, ?_⟩
 refine Aj ?_
 ·(repeat' apply And.intro) <;> (first | (first | exact hdq | exact hdq.symm | rfl | trivial | omega | (simp [hnn]; done) | (simp; omega) | (simp [hnn, hj1, hj2]; done)) | exact Au)
 refine Aj ?_
 ·(repeat' apply And.intro) <;> (first | (first | exact hdq | exact hdq.symm | rfl | trivial | omega | (simp [hnn]; done) | (simp; omega) | (simp [hnn, hj1, hj2]; done)) | exact Au)
 obtain rfl : i = z.length := by have := hb45; (try simp at this); omega
 simp only [List.take_length]
 refine AJ ?_
 simp only [Ae, Nat.reduceEqDiff, reduceIte, eq_self]
 refine h4 _ ⟨(), trivial, [], ?_⟩
 dsimp only
 refine ⟨by rfl, ?_, ?_⟩
 refine Aj ?_
 exact Au
 refine Aj ?_
 exact Au
 cases hg
def Zg : Bq Tryz.prog := Nq.add 178 (Spec.pure Ym) Lu (by kernel_rfl)
