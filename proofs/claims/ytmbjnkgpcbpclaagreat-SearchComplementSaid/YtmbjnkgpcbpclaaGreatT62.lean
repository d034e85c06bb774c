/- Walks, printed by wip/gen/walk.py. -/
import Derived.Test.YtmbjnkgpcbpclaaGreatT61
import Derived.Test.YtmbjnkgpcbpclaaGreatRep6
import Derived.Test.YtmbjnkgpcbpclaaGreatV5
set_option linter.all false
set_option maxRecDepth 100000
set_option maxHeartbeats 4000000
namespace Go.Proofs.YtmbjnkgpcbpclaaGreat
open Go Go.Vc Go.RowKit
def MX (c : UInt8) : Bool := decide (c = 34) || decide (c = 92)
def J7 (c : UInt8) : Bs := if MX c then [92, c] else [c]
def EO (s : Bs) : Bs := s.flatMap J7
def nE (s : Bs) : Nat := s.countP MX
theorem Iu (s : Bs) : (EO s).length = s.length + nE s := by
  induction s with
  | nil => rfl
  | cons c s ih =>
    unfold EO nE at *
    rw [List.flatMap_cons, List.length_append, ih, List.countP_cons, List.length_cons]
    unfold J7
    by_cases h : MX c = true
    · rw [if_pos h, if_pos h]; simp; omega
    · rw [if_neg h, if_neg h]; simp; omega
theorem IV (s : Bs) (c : UInt8) : EO (s ++ [c]) = EO s ++ J7 c := by simp [EO]
theorem UF (s : Bs) (c : UInt8) : nE (s ++ [c]) = nE s + (if MX c then 1 else 0) := by
  unfold nE; rw [List.countP_append]; simp [List.countP_cons]
theorem SI (s : Bs) : nE s = s.count 34 + s.count 92 := by
  unfold nE
  induction s with
  | nil => rfl
  | cons c s ih =>
    rw [List.countP_cons, List.count_cons, List.count_cons, ih]
    unfold MX
    by_cases h1 : c = 34
    · subst h1; simp; omega
    · by_cases h2 : c = 92
      · subst h2; simp; omega
      · simp [h1, h2]
theorem UE {s : Bs} (h : nE s = 0) : EO s = s := by
  unfold nE at h
  rw [List.countP_eq_zero] at h
  unfold EO
  induction s with
  | nil => rfl
  | cons c s ih =>
    rw [List.flatMap_cons, ih fun a ha => h a (List.mem_cons_of_mem _ ha)]
    unfold J7
    rw [if_neg (h c List.mem_cons_self)]; rfl
theorem Gi {s : Bs} {i : Nat} {c : UInt8} (h : s[i]? = some c) : s.take (i + 1) = s.take i ++ [c] := by rw [List.take_add_one, h]; rfl
theorem OV {s : Bs} {i : Nat} (h : i ≤ s.length) : nE (s.take i) ≤ i := by
  unfold nE
  have := List.countP_le_length (p := MX) (l := s.take i)
  rw [List.length_take] at this; omega
theorem SH (s : Bs) (i : Nat) : nE (s.take i) ≤ nE s := by
  unfold nE
  conv => rhs; rw [← List.take_append_drop i s]
  rw [List.countP_append]; omega
def T6 (f : Nat) : D := if f = 34 then .sl (rows eU [92, 34]) else if f = 92 then .sl (rows eU [92, 92]) else .nils
def Cx : List D := (List.range 256).map T6 ++ [.sl (rows eT [[34], [92]])]
theorem Of : Cx.length = 257 := by simp [Cx]
theorem Tf (c : UInt8) : Cx[c.toNat]? = some (if MX c then .sl (rows eU [92, c]) else .nils) := by
  have hc : c.toNat < 256 := c.toNat_lt
  unfold Cx
  rw [List.getElem?_append_left (by simpa using hc), List.getElem?_map, List.getElem?_range hc]
  show some (T6 c.toNat) = _
  unfold T6 MX
  by_cases h1 : c = 34
  · subst h1; rfl
  · by_cases h2 : c = 92
    · subst h2; rfl
    · rw [if_neg (fun h => h1 (by rw [← UInt8.toNat_inj]; exact h)), if_neg (fun h => h2 (by rw [← UInt8.toNat_inj]; exact h))]
      simp [h1, h2]
theorem Pe : Cx[256]? = some (.sl (rows eT [[34], [92]])) := by
  unfold Cx
  rw [List.getElem?_append_right (by simp)]; simp
def cT (s : Bs) : Nat → Nat
  | 0 => 0
  | 1 => s.count 34
  | _ => nE s
def Nx : List AV → Option (Prop × AV)
  | [.d (.str s), .d (.str [c])] => some (True, .d (.int .i64 ((s.count c : Nat) : Int)))
  | _ => none
theorem X3 {P : Program} {f : FuncId} [AU] {w : World} {S : Lays} {n : Nat} {vs : List Value} {s q : Bs} (hl : vs.length = [AV.d (.str s), AV.d (.str q)].length) (hr : ∀ (i : Nat) (c : AV) (u : Value), [AV.d (.str s), AV.d (.str q)][i]? = some c → vs[i]? = some u → R w S n c u) : vs = [.string ⟨s.toArray⟩, .string ⟨q.toArray⟩] := by
  match vs, hl with
  | [a, b], _ =>
    have h1 := R.str_iff.1 (hr 0 _ _ rfl rfl)
    have h2 := R.str_iff.1 (hr 1 _ _ rfl rfl)
    rw [h1, h2]
theorem PM : A5 Tryz.prog 180 (Spec.pure Nx) := by
 refine HO fun args p r hg hp F H n w S vs hH hl hr => ?_
 unfold Nx at hg
 split at hg
 ·rename_i s c
  simp only [Option.some.injEq, Prod.mk.injEq] at hg
  obtain ⟨rfl, rfl⟩ := hg
  rw [X3 (P := Tryz.prog) (f := 0) hl hr]
  refine (Tryz.Rep.countOne ⟨s.toArray⟩ c w).mono ?_
  rintro e w' ⟨rfl, rfl⟩
  exact ⟨_, rfl, Go.RowKit.Below.refl _ _, R.mkInt _ _⟩
 ·cases hg
def VK : List AV → Option (Prop × AV)
  | [.d (.ptr cs), .d (.str s)] => some (cs = Cx ∧ s.length ≤ 1000000, .d (.str (EO s)))
  | _ => none
def WD (n : Nat) : Bs := List.replicate n 0
def F7 (s : Bs) (i : Nat) : Bs := EO (s.take i) ++ WD ((EO s).length - (EO (s.take i)).length)
theorem DS (s : Bs) (i : Nat) : (EO (s.take i)).length ≤ (EO s).length := by
  rw [Iu, Iu, List.length_take]; have := SH s i; omega
theorem LK (s : Bs) (i : Nat) : (F7 s i).length = (EO s).length := by
  unfold F7 WD; rw [List.length_append, List.length_replicate]; have := DS s i; omega
theorem PH (s : Bs) : F7 s 0 = WD (EO s).length := by simp [F7, EO]
theorem R0 (s : Bs) : F7 s s.length = EO s := by simp [F7, WD]
theorem Om {α β : Type} (f : α → β) (xs : List α) (o : Nat) (ys : List α) : Az (xs.map f) o (ys.map f) = (Az xs o ys).map f := by simp [Az]
theorem LL {s : Bs} {i : Nat} {c : UInt8} (h : s[i]? = some c) : Az (F7 s i) (EO (s.take i)).length (J7 c) = F7 s (i + 1) := by
  have h1 := DS s (i + 1)
  unfold F7
  rw [Gi h, IV] at *
  generalize EO (s.take i) = A at *
  generalize (EO s).length = n at *
  generalize J7 c = b at *
  rw [List.length_append] at h1
  unfold Az WD
  rw [List.take_left, List.drop_append, List.drop_of_length_le (by omega), List.nil_append, List.drop_replicate, List.length_append]
  congr 1
  congr 1
  omega
theorem R2 {s : Bs} {i : Nat} {c : UInt8} (h : s[i]? = some c) (he : MX c = true) : Az (rows eU (F7 s i)) (EO (s.take i)).length (rows eU [92, c]) = rows eU (F7 s (i + 1)) := by
  unfold rows; rw [Om, ← LL h]; unfold J7; rw [if_pos he]
theorem R1 {s : Bs} {i : Nat} {c : UInt8} (h : s[i]? = some c) (he : ¬MX c = true) : (rows eU (F7 s i)).set (EO (s.take i)).length (eU c) = rows eU (F7 s (i + 1)) := by
  have hl : (EO (s.take i)).length < (F7 s i).length := by
    rw [LK]
    have h1 := DS s (i + 1)
    rw [Gi h, IV, List.length_append] at h1
    unfold J7 at h1; rw [if_neg he] at h1; simp at h1; omega
  rw [← LL h]
  unfold rows
  rw [← List.map_set]
  congr 1
  unfold J7 Az
  rw [if_neg he, List.set_eq_take_append_cons_drop, if_pos hl]; simp
theorem JZ {s : Bs} {i : Nat} {c : UInt8} (h : s[i]? = some c) : (EO (s.take (i + 1))).length = (EO (s.take i)).length + (if MX c then 2 else 1) := by
  rw [Gi h, IV, List.length_append]; unfold J7; split <;> rfl
theorem Tg (c : UInt8) : (MX c = true ∧ Cx[c.toNat * 1]? = some (.sl (rows eU [92, c]))) ∨ (MX c = false ∧ Cx[c.toNat * 1]? = some .nils) := by
  rw [Nat.mul_one]
  rw [Tf c]
  cases MX c
  · exact .inr ⟨rfl, rfl⟩
  · exact .inl ⟨rfl, rfl⟩
theorem Xt : Cx[34]? = some (.sl (rows eU [92, 34])) := Tf 34
theorem Xu : Cx[92]? = some (.sl (rows eU [92, 92])) := Tf 92
theorem OU {s : Bs} {i : Nat} {c : UInt8} (h : s[i]? = some c) : nE (s.take (i + 1)) = nE (s.take i) + (if MX c then 1 else 0) := by rw [Gi h, UF]
theorem XH (s : Bs) : cT s 2 = s.count 34 + s.count 92 := SI s
theorem TP (n : Nat) : List.replicate n [D.int .u8 0] = rows eU (WD n) := by simp [rows, WD, eU]

def L9 : Bo Tryz.prog := WK.add 180 (Spec.pure Nx) PM (by kernel_rfl)

theorem JW : A5 Tryz.prog 178 (Spec.pure VK) := by
 refine A7 (L9.at_ 122) Tryz.func178 rfl rfl rfl ?_
 intro args p r hg hp
 unfold VK at hg
 split at hg
 rename_i cs z
 simp only [Option.some.injEq, Prod.mk.injEq] at hg
 obtain ⟨rfl, rfl⟩ := hg
 obtain ⟨rfl, hs⟩ := hp
 have hne := OV (Nat.le_refl z.length)
 rw [List.take_length] at hne
 have hel := Iu z
 have hT : (L9).X = T := rfl
 have hx0 := And.intro @Pe (And.intro @Of (And.intro @B7 (And.intro @EC (And.intro @Cu (And.intro @Ct @Tryz.results178)))))
 have hx := hx0
 refine ⟨by rfl, ?_⟩
 intro F W0 hnp hmk
 refine Aa fun N1 h1 => ?_
 refine Ad ?_
 try refine Ac ?_
 refine Ae ?_
 refine Ab ?_
 refine h1 _ ?_; clear h1
 refine Aa fun N2 h2 => ?_
 refine Ad ?_
 try refine Ac ?_
 refine Ae ?_
 refine Bm ?_
 refine Ae ?_
 refine Ab ?_
 refine h2 _ ?_; clear h2
 refine Aa fun N3 h3 => ?_
 refine Ad ?_
 try refine Ac ?_
 refine Ae ?_
 refine Ab ?_
 refine h3 _ ?_; clear h3
 refine FV (σ := Unit) (fun s => (fun u => True) s)
  (fun s => (fun u => [(0, .d (.ptr Cx)), (1, .d (.str z)), (5, .d (.int .i64 ((z.length + nE z : Nat) : Int))), (6, .d (.bool (decide (nE z ≠ 0))))]) s)
  (fun s => (fun u => []) s) hnp ?_ ?_
 rintro u hinv
 dsimp only at hinv ⊢
 refine Aa fun N5 h5 => ?_
 refine Aa fun N6 h6 => ?_
 refine Ad ?_
 try refine Ac ?_
 refine Ae ?_
 refine Ik ?_
 refine Ab ?_
 refine h6 _ ?_; clear h6
 refine Al (fun hb7 => ?_) (fun hb7 => ?_)
 refine Aa fun N8 h8 => ?_
 refine Ad ?_
 try refine Ac ?_
 iterate 2 refine Ae ?_
 refine Ab ?_
 refine h8 _ ?_; clear h8
 refine Ao ?_
 try simp only [Af]
 have h0 : nE z = 0 := by have := hb7; simpa using this
 rw [UE h0]
 refine A3 ?_
 exact At
 have hbz := PH z
 have hzr := TP (EO z).length
 refine An ?_
 try simp only [Af]
 refine h5 _ ?_; clear h5
 refine Aa fun N9 h9 => ?_
 refine Ad ?_
 try refine Ac ?_
 refine Ae ?_
 refine X7 ?_
 refine Ae ?_
 refine Ab ?_
 refine h9 _ ?_; clear h9
 refine Aa fun N10 h10 => ?_
 refine Ad ?_
 try refine Ac ?_
 refine Ae ?_
 refine Ab ?_
 refine h10 _ ?_; clear h10
 refine Aa fun N11 h11 => ?_
 refine Aa fun N12 h12 => ?_
 refine Ad ?_
 try refine Ac ?_
 refine Ae ?_
 refine Ab ?_
 refine h12 _ ?_; clear h12
 refine Aw ?_
 refine A9 (σ := Nat) (fun s => (fun i => i ≤ z.length) s)
  (fun s => (fun i => [(0, .d (.ptr Cx)), (1, .d (.str z)), (12, .sl 0 0 (EO z).length), (13, .d (.int .i64 ((EO (z.take i)).length : Nat))), (14, .d (.int .i64 (i : Nat)))]) s)
  (fun s => (fun i => [some (.vec 5 1 (rows eU (F7 z i)))]) s) (fun s => (fun i => z.length - i) s) hnp 0 ?_ [some 0] ?_ ?_
 dsimp only
 omega
 dsimp only
 refine ⟨by rfl, ?_, ?_⟩
 refine Aj ?_
 ·(repeat' apply And.intro) <;> (first | (first | rfl | trivial | omega | (rw [hbz, ← hzr, hel]; done) | exact Or.inl rfl) | exact At)
 refine Aj ?_
 ·(repeat' apply And.intro) <;> (first | (first | rfl | trivial | omega | (rw [hbz, ← hzr, hel]; done) | exact Or.inl rfl) | exact At)
 rintro i hinv N13 h13
 dsimp only at hinv ⊢
 have i1 := hinv
 refine Aa fun N14 h14 => ?_
 refine Aa fun N15 h15 => ?_
 refine Ad ?_
 try refine Ac ?_
 iterate 2 refine Ae ?_
 refine Bm ?_
 refine Am ?_
 refine Ab ?_
 refine h15 _ ?_; clear h15
 refine Al (fun hb16 => ?_) (fun hb16 => ?_)
 have hiz : i < z.length := by have := hb16; (try simp at this); omega
 obtain ⟨c, hce⟩ := Cb (l := z) (i := i) hiz
 have hnn := OU hce
 have hc256 := c.toNat_lt
 have hel2 := JZ hce
 have hll := SH z (i + 1)
 have hb3 := DS z (i + 1)
 have hbl := LK z i
 have hbu : (rows eU (F7 z i)).length = (EO z).length := by rw [AZ, hbl]
 refine An ?_
 try simp only [Af]
 refine h14 _ ?_; clear h14
 refine Aa fun N17 h17 => ?_
 refine Aw ?_
 refine Aa fun N18 h18 => ?_
 have hx := And.intro @hce hx0
 refine Ad ?_
 try refine Ac ?_
 iterate 2 refine Ae ?_
 refine Au ?_
 refine Ae ?_
 refine Ab ?_
 have hx := hx0
 refine h18 _ ?_; clear h18
 refine Aa fun N19 h19 => ?_
 rcases Tg c with ⟨he, hrc⟩ | ⟨he, hrc⟩
 rw [if_pos he] at hnn hel2
 have hl2 : (rows eU [92, c]).length = 2 := rfl
 have hx := And.intro @hrc hx0
 refine Ad ?_
 try refine Ac ?_
 iterate 2 refine Ae ?_
 refine Bn ?_
 iterate 2 refine Au ?_
 refine Ar ?_
 refine AE (by rfl) (Gg (by exact Da) (by exact CY) (by exact CZ) (by first | (simp only [Pn, wB, eq_self, Nat.reduceEqDiff, reduceIte]; done) | (simp only [Pn, wB, eq_self, Nat.reduceEqDiff, reduceIte]; rfl)) fun z_r27_6 hz_r27_6 hz_r27_6' => ?_)
 refine Ab ?_
 have hx := hx0
 refine h19 _ ?_; clear h19
 refine Al (fun hb20 => ?_) (fun hb20 => ?_)
 have hx := And.intro @hrc hx0
 refine Ad ?_
 try refine Ac ?_
 iterate 3 refine Ae ?_
 refine DI ?_
 iterate 2 refine Ae ?_
 refine Bn ?_
 iterate 2 refine Au ?_
 refine Ar ?_
 refine AE (by rfl) (D1 (by exact Da) (by exact CY) (by simp only [wB, eq_self, Nat.reduceEqDiff, reduceIte]; rfl) (by exact CZ) (by exact CZ) rfl (by exact Da) (by exact CY) (by simp only [BX, wB, eq_self, Nat.reduceEqDiff, reduceIte, wL, Int.toNat_natCast, Int.reduceToNat, Nat.reduceAdd, Nat.reduceMul, Nat.reduceSub, Nat.reduceLeDiff, hx]; rfl) (by (first | (first | exact B7 _ | exact True.intro | (rw [hbu]; omega) | omega) | exact Ay)) (by (first | (first | exact B7 _ | exact True.intro | (rw [hbu]; omega) | omega) | exact Ay)) (by (first | (first | exact B7 _ | exact True.intro | (rw [hbu]; omega) | omega) | exact Ay)) ?_)
 try simp only [wB, eq_self, Nat.reduceEqDiff, reduceIte, wL, Int.toNat_natCast, Int.reduceToNat, Nat.reduceAdd, Nat.reduceMul, Nat.reduceSub, Nat.reduceLeDiff, hx]
 refine Am ?_
 refine Ae ?_
 refine Ab ?_
 have hx := hx0
 refine h17 _ ?_; clear h17
 refine Ad ?_
 try refine Ac ?_
 refine Ae ?_
 refine Am ?_
 refine Ae ?_
 refine Ab ?_
 have hst := R2 hce he
 have htk : List.take ((EO z).length - (EO (z.take i)).length) [92, c] = [92, c] := List.take_of_length_le (by show 2 ≤ _; omega)
 have hmin : min 2 ((EO z).length - (EO (z.take i)).length) = 2 := by omega
 refine h13 _ ⟨i + 1, ?_, ?_, [some 0], ?_⟩
 dsimp only
 omega
 dsimp only
 omega
 dsimp only
 refine ⟨by rfl, ?_, ?_⟩
 refine Aj ?_
 ·(repeat' apply And.intro) <;> (first | (first | (rw [htk, hst]; done) | (left; rw [hmin, hel2]; rfl) | rfl | trivial | omega | (rw [hst]; done) | exact Or.inl rfl) | exact At)
 refine Aj ?_
 ·(repeat' apply And.intro) <;> (first | (first | (rw [htk, hst]; done) | (left; rw [hmin, hel2]; rfl) | rfl | trivial | omega | (rw [hst]; done) | exact Or.inl rfl) | exact At)
 exact absurd (hz_r27_6 hb20) (by simp [H0, rows])
 rw [if_neg (by rw [he]; simp)] at hnn hel2
 obtain ⟨y1, hy1⟩ := Cb (l := F7 z i) (i := (EO (z.take i)).length) (by rw [hbl]; omega)
 have hx := And.intro @hrc hx0
 refine Ad ?_
 try refine Ac ?_
 iterate 2 refine Ae ?_
 refine Bn ?_
 iterate 2 refine Au ?_
 refine Ar ?_
 refine AE (by rfl) (Gg (by exact Da) (by exact CY) (by exact CZ) (by first | (simp only [Pn, wB, eq_self, Nat.reduceEqDiff, reduceIte]; done) | (simp only [Pn, wB, eq_self, Nat.reduceEqDiff, reduceIte]; rfl)) fun z_r27_6 hz_r27_6 hz_r27_6' => ?_)
 refine Ab ?_
 have hx := hx0
 refine h19 _ ?_; clear h19
 refine Al (fun hb21 => ?_) (fun hb21 => ?_)
 exact absurd ((hz_r27_6' rfl).symm.trans hb21) (by simp)
 refine Aa fun N22 h22 => ?_
 have hx := And.intro @hy1 (And.intro @eU.eq_1 hx0)
 refine Ad ?_
 try refine Ac ?_
 iterate 3 refine Ae ?_
 refine Au ?_
 refine A8 ?_
 refine Ab ?_
 have hx := hx0
 refine h22 _ ?_; clear h22
 refine Ad ?_
 try refine Ac ?_
 refine Ae ?_
 refine Am ?_
 refine Ae ?_
 refine Ab ?_
 refine h17 _ ?_; clear h17
 refine Ad ?_
 try refine Ac ?_
 refine Ae ?_
 refine Am ?_
 refine Ae ?_
 refine Ab ?_
 have hst := R1 hce (by rw [he]; simp)
 refine h13 _ ⟨i + 1, ?_, ?_, [some 0], ?_⟩
 dsimp only
 omega
 dsimp only
 omega
 dsimp only
 refine ⟨by rfl, ?_, ?_⟩
 refine Aj ?_
 ·(repeat' apply And.intro) <;> (first | (first | rfl | trivial | omega | (rw [hst]; done) | exact Or.inl rfl) | exact At)
 refine Aj ?_
 ·(repeat' apply And.intro) <;> (first | (first | rfl | trivial | omega | (rw [hst]; done) | exact Or.inl rfl) | exact At)
 obtain rfl : i = z.length := by have := hb16; (try simp at this); omega
 simp only [List.take_length, R0]
 refine Be ?_
 simp only [Af, Nat.reduceEqDiff, reduceIte, eq_self]
 refine h11 _ ?_; clear h11
 refine Aa fun N23 h23 => ?_
 refine Ad ?_
 try refine Ac ?_
 refine Ae ?_
 refine TC ?_
 refine Ae ?_
 refine Ab ?_
 refine h23 _ ?_; clear h23
 refine Ao ?_
 try simp only [Af]
 refine A3 ?_
 exact At
 intro N4 h4
 refine Aa fun N24 h24 => ?_
 refine Ad ?_
 try refine Ac ?_
 refine Ae ?_
 refine Bn ?_
 refine Au ?_
 refine Ar ?_
 refine Bm ?_
 refine Am ?_
 refine Ae ?_
 refine Bm ?_
 refine Am ?_
 refine Ab ?_
 refine h24 _ ?_; clear h24
 refine Al (fun hb25 => ?_) (fun hb25 => ?_)
 refine Aa fun N26 h26 => ?_
 refine Ad ?_
 try refine Ac ?_
 refine Ae ?_
 refine Bn ?_
 refine Au ?_
 refine Ar ?_
 refine Bm ?_
 refine Ae ?_
 refine Ab ?_
 refine h26 _ ?_; clear h26
 refine Aw ?_
 refine A9 (σ := Nat) (fun s => (fun j => j ≤ 2) s)
  (fun s => (fun j => [(0, .d (.ptr Cx)), (1, .d (.str z)), (5, .d (.int .i64 ((z.length + cT z j : Nat) : Int))), (6, .d (.bool (decide (cT z j ≠ 0)))), (30, .d (.sl (rows eT [[34], [92]]))), (31, .d (.int .i64 ([[34], [92]].length : Nat))), (32, .d (.int .i64 (j : Nat)))]) s)
  (fun s => (fun j => []) s) (fun s => (fun j => 2 - j) s) hnp 0 ?_ [] ?_ ?_
 dsimp only
 omega
 dsimp only
 refine ⟨by rfl, ?_, ?_⟩
 refine Aj ?_
 ·(repeat' apply And.intro) <;> (first | (first | exact hdq | exact hdq.symm | rfl | trivial | omega | (simp [hnn]; done) | (simp; omega) | (simp [hnn, hj1, hj2]; done)) | exact At)
 refine Aj ?_
 ·(repeat' apply And.intro) <;> (first | (first | exact hdq | exact hdq.symm | rfl | trivial | omega | (simp [hnn]; done) | (simp; omega) | (simp [hnn, hj1, hj2]; done)) | exact At)
 rintro j hinv N27 h27
 dsimp only at hinv ⊢
 have j1 := hinv
 refine Aa fun N28 h28 => ?_
 refine Ad ?_
 try refine Ac ?_
 refine Am ?_
 refine Ab ?_
 refine h28 _ ?_; clear h28
 refine Aa fun N29 h29 => ?_
 refine Al (fun hb30 => ?_) (fun hb30 => ?_)
 have hj : j < 2 := by have := hb30; (try simp at this); omega
 have hj0 : cT z 0 = 0 := rfl
 have hj1 : cT z 1 = z.count 34 := rfl
 have hj2 := XH z
 have hc3 := List.count_le_length (a := (34 : UInt8)) (l := z)
 have hc9 := List.count_le_length (a := (92 : UInt8)) (l := z)
 have hn2 := SI z
 refine An ?_
 try simp only [Af]
 refine h29 _ ?_; clear h29
 refine Aa fun N31 h31 => ?_
 refine Aw ?_
 refine Aa fun N32 h32 => ?_
 rcases (show j = 0 ∨ j = 1 by omega) with rfl | rfl
 have hrj : ([[34], [92]] : List Bs)[0]? = some [34] := rfl
 have hrc := Xt
 have hl2 : (rows eU [92, 34]).length = 2 := rfl
 have hml : ((z.count 34 : Nat) : Int) * (((rows eU [92, 34]).length : Nat) - 1) = (z.count 34 : Nat) := by rw [hl2]; omega
 have hx := And.intro @hrj (And.intro @eT.eq_1 hx0)
 refine Ad ?_
 try refine Ac ?_
 refine Au ?_
 refine Ar ?_
 refine Ae ?_
 refine Ab ?_
 have hx := hx0
 refine h32 _ ?_; clear h32
 refine Aa fun N33 h33 => ?_
 refine Ad ?_
 try refine Ac ?_
 iterate 2 refine Ae ?_
 have hc := Ah (E := (L9.at_ 122)) (f := 180) (sp := Spec.pure Nx) rfl
 have hs := @Nx.eq_1
 refine BF ?_
 refine Ae ?_
 refine Ab ?_
 refine h33 _ ?_; clear h33
 refine Aa fun N34 h34 => ?_
 refine Ad ?_
 try refine Ac ?_
 refine Ae ?_
 refine Am ?_
 refine Ab ?_
 refine h34 _ ?_; clear h34
 refine Al (fun hb35 => ?_) (fun hb35 => ?_)
 refine Aa fun N36 h36 => ?_
 have hx := And.intro @hrc (And.intro @hml hx0)
 refine Ad ?_
 try refine Ac ?_
 iterate 4 refine Ae ?_
 refine Au ?_
 refine Bn ?_
 iterate 2 refine Au ?_
 refine Ar ?_
 refine Bm ?_
 iterate 3 refine Am ?_
 refine Ae ?_
 refine Ab ?_
 have hx := hx0
 refine h36 _ ?_; clear h36
 refine Ad ?_
 try refine Ac ?_
 refine Ae ?_
 refine Ab ?_
 refine h31 _ ?_; clear h31
 refine Ad ?_
 try refine Ac ?_
 refine Am ?_
 refine Ae ?_
 refine Ab ?_
 have hdq : decide (cT z 1 ≠ 0) = true := decide_eq_true (by have := hb35; (try simp at this); omega)
 refine h27 _ ⟨1, ?_, ?_, [], ?_⟩
 dsimp only
 omega
 dsimp only
 omega
 dsimp only
 refine ⟨by rfl, ?_, ?_⟩
 refine Aj ?_
 ·(repeat' apply And.intro) <;> (first | (first | exact hdq | exact hdq.symm | rfl | trivial | omega | (simp [hnn]; done) | (simp; omega) | (simp [hnn, hj1, hj2]; done)) | exact At)
 refine Aj ?_
 ·(repeat' apply And.intro) <;> (first | (first | exact hdq | exact hdq.symm | rfl | trivial | omega | (simp [hnn]; done) | (simp; omega) | (simp [hnn, hj1, hj2]; done)) | exact At)
 refine An ?_
 try simp only [Af]
 refine h31 _ ?_; clear h31
 refine Ad ?_
 try refine Ac ?_
 refine Am ?_
 refine Ae ?_
 refine Ab ?_
 have hdq : decide (cT z 0 ≠ 0) = decide (cT z 1 ≠ 0) := by rw [show cT z 1 = cT z 0 by have := hb35; (try simp at this); omega]
 refine h27 _ ⟨1, ?_, ?_, [], ?_⟩
 dsimp only
 omega
 dsimp only
 omega
 dsimp only
 refine ⟨by rfl, ?_, ?_⟩
 refine Aj ?_
 ·(repeat' apply And.intro) <;> (first | (first | exact hdq | exact hdq.symm | rfl | trivial | omega | (simp [hnn]; done) | (simp; omega) | (simp [hnn, hj1, hj2]; done)) | exact At)
 refine Aj ?_
 ·(repeat' apply And.intro) <;> (first | (first | exact hdq | exact hdq.symm | rfl | trivial | omega | (simp [hnn]; done) | (simp; omega) | (simp [hnn, hj1, hj2]; done)) | exact At)
 have hrj : ([[34], [92]] : List Bs)[1]? = some [92] := rfl
 have hrc := Xu
 have hl2 : (rows eU [92, 92]).length = 2 := rfl
 have hml : ((z.count 92 : Nat) : Int) * (((rows eU [92, 92]).length : Nat) - 1) = (z.count 92 : Nat) := by rw [hl2]; omega
 have hx := And.intro @hrj (And.intro @eT.eq_1 hx0)
 refine Ad ?_
 try refine Ac ?_
 refine Au ?_
 refine Ar ?_
 refine Ae ?_
 refine Ab ?_
 have hx := hx0
 refine h32 _ ?_; clear h32
 refine Aa fun N37 h37 => ?_
 refine Ad ?_
 try refine Ac ?_
 iterate 2 refine Ae ?_
 have hc := Ah (E := (L9.at_ 122)) (f := 180) (sp := Spec.pure Nx) rfl
 have hs := @Nx.eq_1
 refine BF ?_
 refine Ae ?_
 refine Ab ?_
 refine h37 _ ?_; clear h37
 refine Aa fun N38 h38 => ?_
 refine Ad ?_
 try refine Ac ?_
 refine Ae ?_
 refine Am ?_
 refine Ab ?_
 refine h38 _ ?_; clear h38
 refine Al (fun hb39 => ?_) (fun hb39 => ?_)
 refine Aa fun N40 h40 => ?_
 have hx := And.intro @hrc (And.intro @hml hx0)
 refine Ad ?_
 try refine Ac ?_
 iterate 4 refine Ae ?_
 refine Au ?_
 refine Bn ?_
 iterate 2 refine Au ?_
 refine Ar ?_
 refine Bm ?_
 iterate 3 refine Am ?_
 refine Ae ?_
 refine Ab ?_
 have hx := hx0
 refine h40 _ ?_; clear h40
 refine Ad ?_
 try refine Ac ?_
 refine Ae ?_
 refine Ab ?_
 refine h31 _ ?_; clear h31
 refine Ad ?_
 try refine Ac ?_
 refine Am ?_
 refine Ae ?_
 refine Ab ?_
 have hdq : decide (cT z 2 ≠ 0) = true := decide_eq_true (by have := hb39; (try simp at this); omega)
 refine h27 _ ⟨2, ?_, ?_, [], ?_⟩
 dsimp only
 omega
 dsimp only
 omega
 dsimp only
 refine ⟨by rfl, ?_, ?_⟩
 refine Aj ?_
 ·(repeat' apply And.intro) <;> (first | (first | exact hdq | exact hdq.symm | rfl | trivial | omega | (simp [hnn]; done) | (simp; omega) | (simp [hnn, hj1, hj2]; done)) | exact At)
 refine Aj ?_
 ·(repeat' apply And.intro) <;> (first | (first | exact hdq | exact hdq.symm | rfl | trivial | omega | (simp [hnn]; done) | (simp; omega) | (simp [hnn, hj1, hj2]; done)) | exact At)
 refine An ?_
 try simp only [Af]
 refine h31 _ ?_; clear h31
 refine Ad ?_
 try refine Ac ?_
 refine Am ?_
 refine Ae ?_
 refine Ab ?_
 have hdq : decide (cT z 1 ≠ 0) = decide (cT z 2 ≠ 0) := by rw [show cT z 2 = cT z 1 by have := hb39; (try simp at this); omega]
 refine h27 _ ⟨2, ?_, ?_, [], ?_⟩
 dsimp only
 omega
 dsimp only
 omega
 dsimp only
 refine ⟨by rfl, ?_, ?_⟩
 refine Aj ?_
 ·(repeat' apply And.intro) <;> (first | (first | exact hdq | exact hdq.symm | rfl | trivial | omega | (simp [hnn]; done) | (simp; omega) | (simp [hnn, hj1, hj2]; done)) | exact At)
 refine Aj ?_
 ·(repeat' apply And.intro) <;> (first | (first | exact hdq | exact hdq.symm | rfl | trivial | omega | (simp [hnn]; done) | (simp; omega) | (simp [hnn, hj1, hj2]; done)) | exact At)
 obtain rfl : j = 2 := by have := hb30; (try simp at this); omega
 have hj2 : cT z 2 = nE z := rfl
 rw [hj2]
 refine Be ?_
 simp only [Af, Nat.reduceEqDiff, reduceIte, eq_self]
 refine h4 _ ⟨(), trivial, [], ?_⟩
 dsimp only
 refine ⟨by rfl, ?_, ?_⟩
 refine Aj ?_
 exact At
 refine Aj ?_
 exact At
 refine Aa fun N41 h41 => ?_
 refine Ad ?_
 try refine Ac ?_
 refine Ae ?_
 refine Ab ?_
 refine h41 _ ?_; clear h41
 refine Aw ?_
 refine A9 (σ := Nat) (fun s => (fun i => i ≤ z.length) s)
  (fun s => (fun i => [(0, .d (.ptr Cx)), (1, .d (.str z)), (5, .d (.int .i64 ((z.length + nE (z.take i) : Nat) : Int))), (6, .d (.bool (decide (nE (z.take i) ≠ 0)))), (10, .d (.int .i64 (i : Nat)))]) s)
  (fun s => (fun i => []) s) (fun s => (fun i => z.length - i) s) hnp 0 ?_ [] ?_ ?_
 dsimp only
 omega
 dsimp only
 refine ⟨by rfl, ?_, ?_⟩
 refine Aj ?_
 ·(repeat' apply And.intro) <;> (first | (first | exact hdq | exact hdq.symm | rfl | trivial | omega | (simp [hnn]; done) | (simp; omega) | (simp [hnn, hj1, hj2]; done)) | exact At)
 refine Aj ?_
 ·(repeat' apply And.intro) <;> (first | (first | exact hdq | exact hdq.symm | rfl | trivial | omega | (simp [hnn]; done) | (simp; omega) | (simp [hnn, hj1, hj2]; done)) | exact At)
 rintro i hinv N42 h42
 dsimp only at hinv ⊢
 have i1 := hinv
 have hnt := OV i1
 refine Aa fun N43 h43 => ?_
 refine Aa fun N44 h44 => ?_
 refine Ad ?_
 try refine Ac ?_
 iterate 2 refine Ae ?_
 refine Bm ?_
 refine Am ?_
 refine Ab ?_
 refine h44 _ ?_; clear h44
 refine Al (fun hb45 => ?_) (fun hb45 => ?_)
 have hiz : i < z.length := by have := hb45; (try simp at this); omega
 obtain ⟨c, hce⟩ := Cb (l := z) (i := i) hiz
 have hnn := OU hce
 have hc256 := c.toNat_lt
 have hel2 := JZ hce
 have hll := SH z (i + 1)
 have hb3 := DS z (i + 1)
 refine An ?_
 try simp only [Af]
 refine h43 _ ?_; clear h43
 refine Aa fun N46 h46 => ?_
 refine Aw ?_
 refine Aa fun N47 h47 => ?_
 have hx := And.intro @hce hx0
 refine Ad ?_
 try refine Ac ?_
 iterate 2 refine Ae ?_
 refine Au ?_
 refine Ae ?_
 refine Ab ?_
 have hx := hx0
 refine h47 _ ?_; clear h47
 refine Aa fun N48 h48 => ?_
 rcases Tg c with ⟨he, hrc⟩ | ⟨he, hrc⟩
 rw [if_pos he] at hnn hel2
 have hl2 : (rows eU [92, c]).length = 2 := rfl
 have hx := And.intro @hrc hx0
 refine Ad ?_
 try refine Ac ?_
 iterate 2 refine Ae ?_
 refine Bn ?_
 iterate 2 refine Au ?_
 refine Ar ?_
 refine AE (by rfl) (Gg (by exact Da) (by exact CY) (by exact CZ) (by first | (simp only [Pn, wB, eq_self, Nat.reduceEqDiff, reduceIte]; done) | (simp only [Pn, wB, eq_self, Nat.reduceEqDiff, reduceIte]; rfl)) fun z_r16_6 hz_r16_6 hz_r16_6' => ?_)
 refine Ab ?_
 have hx := hx0
 refine h48 _ ?_; clear h48
 refine Al (fun hb49 => ?_) (fun hb49 => ?_)
 refine Aa fun N50 h50 => ?_
 have hx := And.intro @hrc hx0
 refine Ad ?_
 try refine Ac ?_
 iterate 3 refine Ae ?_
 refine Bn ?_
 iterate 2 refine Au ?_
 refine Ar ?_
 refine Bm ?_
 iterate 2 refine Am ?_
 refine Ae ?_
 refine Ab ?_
 have hx := hx0
 refine h50 _ ?_; clear h50
 refine Ad ?_
 try refine Ac ?_
 refine Ae ?_
 refine Ab ?_
 refine h46 _ ?_; clear h46
 refine Ad ?_
 try refine Ac ?_
 refine Ae ?_
 refine Am ?_
 refine Ae ?_
 refine Ab ?_
 have hdq : decide (nE (z.take (i + 1)) ≠ 0) = true := decide_eq_true (by omega)
 refine h42 _ ⟨i + 1, ?_, ?_, [], ?_⟩
 dsimp only
 omega
 dsimp only
 omega
 dsimp only
 refine ⟨by rfl, ?_, ?_⟩
 refine Aj ?_
 ·(repeat' apply And.intro) <;> (first | (first | exact hdq | exact hdq.symm | rfl | trivial | omega | (simp [hnn]; done) | (simp; omega) | (simp [hnn, hj1, hj2]; done)) | exact At)
 refine Aj ?_
 ·(repeat' apply And.intro) <;> (first | (first | exact hdq | exact hdq.symm | rfl | trivial | omega | (simp [hnn]; done) | (simp; omega) | (simp [hnn, hj1, hj2]; done)) | exact At)
 exact absurd (hz_r16_6 hb49) (by simp [H0, rows])
 rw [if_neg (by rw [he]; simp)] at hnn hel2
 have hx := And.intro @hrc hx0
 refine Ad ?_
 try refine Ac ?_
 iterate 2 refine Ae ?_
 refine Bn ?_
 iterate 2 refine Au ?_
 refine Ar ?_
 refine AE (by rfl) (Gg (by exact Da) (by exact CY) (by exact CZ) (by first | (simp only [Pn, wB, eq_self, Nat.reduceEqDiff, reduceIte]; done) | (simp only [Pn, wB, eq_self, Nat.reduceEqDiff, reduceIte]; rfl)) fun z_r16_6 hz_r16_6 hz_r16_6' => ?_)
 refine Ab ?_
 have hx := hx0
 refine h48 _ ?_; clear h48
 refine Al (fun hb51 => ?_) (fun hb51 => ?_)
 exact absurd ((hz_r16_6' rfl).symm.trans hb51) (by simp)
 refine An ?_
 try simp only [Af]
 refine h46 _ ?_; clear h46
 refine Ad ?_
 try refine Ac ?_
 refine Ae ?_
 refine Am ?_
 refine Ae ?_
 refine Ab ?_
 have hdq : decide (nE (z.take i) ≠ 0) = decide (nE (z.take (i + 1)) ≠ 0) := by rw [hnn]; rfl
 refine h42 _ ⟨i + 1, ?_, ?_, [], ?_⟩
 dsimp only
 omega
 dsimp only
 omega
 dsimp only
 refine ⟨by rfl, ?_, ?_⟩
 refine Aj ?_
 ·(repeat' apply And.intro) <;> (first | (first | exact hdq | exact hdq.symm | rfl | trivial | omega | (simp [hnn]; done) | (simp; omega) | (simp [hnn, hj1, hj2]; done)) | exact At)
 refine Aj ?_
 ·(repeat' apply And.intro) <;> (first | (first | exact hdq | exact hdq.symm | rfl | trivial | omega | (simp [hnn]; done) | (simp; omega) | (simp [hnn, hj1, hj2]; done)) | exact At)
 obtain rfl : i = z.length := by have := hb45; (try simp at this); omega
 simp only [List.take_length]
 refine Be ?_
 simp only [Af, Nat.reduceEqDiff, reduceIte, eq_self]
 refine h4 _ ⟨(), trivial, [], ?_⟩
 dsimp only
 refine ⟨by rfl, ?_, ?_⟩
 refine Aj ?_
 exact At
 refine Aj ?_
 exact At
 cases hg

def WI : Bo Tryz.prog := L9.add 178 (Spec.pure VK) JW (by kernel_rfl)
end Go.Proofs.YtmbjnkgpcbpclaaGreat
