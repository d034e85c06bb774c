/- Walks, printed by wip/gen/walk.py. -/
import Derived.Test.YtmbjnkgpcbpclaaGreatT60
import Derived.Test.YtmbjnkgpcbpclaaGreatV5
import Derived.Test.YtmbjnkgpcbpclaaGreatRep6
set_option linter.all false
set_option maxRecDepth 100000
set_option maxHeartbeats 4000000
namespace Go.Proofs.YtmbjnkgpcbpclaaGreat
open Go Go.Vc Go.RowKit
def VV (k : Int) : Int := if k = 3 then 0 else if k = 2 then 1 else 2
def Uo : List AV → Option (Prop × AV)
  | [.d (.int .i64 k)] => some (True, .d (.int .i64 (VV k)))
  | _ => none
theorem RE : A1 Tryz.prog 66 (Spec.pure Uo) := by
 refine Az (Sb.at_ 8) Tryz.func66 rfl rfl rfl ?_
 intro args p r hg hp
 unfold Uo at hg
 split at hg
 rename_i k
 simp only [Option.some.injEq, Prod.mk.injEq] at hg
 obtain ⟨rfl, rfl⟩ := hg
 have hT : (Sb).X = T := rfl
 have hx0 := @Tryz.results66
 have hx := hx0
 refine ⟨by rfl, ?_⟩
 intro F W0 hnp hmk
 refine Aa fun N1 h1 => ?_
 refine Ad ?_
 try refine Ac ?_
 refine Ae ?_
 refine Ab ?_
 refine h1 _ ?_; clear h1
 refine Aa fun N2 h2 => ?_
 refine Aa fun N3 h3 => ?_
 refine Ad ?_
 try refine Ac ?_
 refine Ae ?_
 refine Ab ?_
 refine h3 _ ?_; clear h3
 refine Au ?_
 refine Aa fun N4 h4 => ?_
 refine Ad ?_
 try refine Ac ?_
 refine Al ?_
 refine Ae ?_
 refine Ab ?_
 refine h4 _ ?_; clear h4
 refine Ai (fun hb5 => ?_) (fun hb5 => ?_)
 refine Aa fun N6 h6 => ?_
 refine Ad ?_
 try refine Ac ?_
 refine Ae ?_
 refine Ab ?_
 refine h6 _ ?_; clear h6
 refine An ?_
 try simp only [Af]
 have hr : VV k = 0 := by
  unfold VV; rw [if_pos (by have := hb5; (try simp at this); omega)]
 rw [hr]
 refine Ax ?_
 exact As
 refine Aa fun N7 h7 => ?_
 refine Ad ?_
 try refine Ac ?_
 refine Al ?_
 refine Ae ?_
 refine Ab ?_
 refine h7 _ ?_; clear h7
 refine Ai (fun hb8 => ?_) (fun hb8 => ?_)
 refine Aa fun N9 h9 => ?_
 refine Ad ?_
 try refine Ac ?_
 refine Ae ?_
 refine Ab ?_
 refine h9 _ ?_; clear h9
 refine An ?_
 try simp only [Af]
 have hr : VV k = 1 := by
  unfold VV; rw [if_neg (by have := hb5; (try simp at this); omega), if_pos (by have := hb8; (try simp at this); omega)]
 rw [hr]
 refine Ax ?_
 exact As
 refine Am ?_
 try simp only [Af]
 refine h2 _ ?_; clear h2
 refine Aa fun N10 h10 => ?_
 refine Ad ?_
 try refine Ac ?_
 refine Ae ?_
 refine Ab ?_
 refine h10 _ ?_; clear h10
 refine An ?_
 try simp only [Af]
 have hr : VV k = 2 := by
  unfold VV; rw [if_neg (by have := hb5; (try simp at this); omega), if_neg (by have := hb8; (try simp at this); omega)]
 rw [hr]
 refine Ax ?_
 exact As
 cases hg

def X8 : Bn Tryz.prog := Sb.add 66 (Spec.pure Uo) RE (by kernel_rfl)
def NJ (c : UInt8) : Bool := decide (c = 34) || decide (c = 92)
def Kc (c : UInt8) : Bs := if NJ c then [92, c] else [c]
def Fc (s : Bs) : Bs := s.flatMap Kc
def nE (s : Bs) : Nat := s.countP NJ
theorem II (s : Bs) : (Fc s).length = s.length + nE s := by
  induction s with
  | nil => rfl
  | cons c s ih =>
    unfold Fc nE at *
    rw [List.flatMap_cons, List.length_append, ih, List.countP_cons, List.length_cons]
    unfold Kc
    by_cases h : NJ c = true
    · rw [if_pos h, if_pos h]; simp; omega
    · rw [if_neg h, if_neg h]; simp; omega
theorem Jt (s : Bs) (c : UInt8) : Fc (s ++ [c]) = Fc s ++ Kc c := by simp [Fc]
theorem VA (s : Bs) (c : UInt8) : nE (s ++ [c]) = nE s + (if NJ c then 1 else 0) := by
  unfold nE; rw [List.countP_append]; simp [List.countP_cons]
theorem TB (s : Bs) : nE s = s.count 34 + s.count 92 := by
  unfold nE
  induction s with
  | nil => rfl
  | cons c s ih =>
    rw [List.countP_cons, List.count_cons, List.count_cons, ih]
    unfold NJ
    by_cases h1 : c = 34
    · subst h1; simp; omega
    · by_cases h2 : c = 92
      · subst h2; simp; omega
      · simp [h1, h2]
theorem V9 {s : Bs} (h : nE s = 0) : Fc s = s := by
  unfold nE at h
  rw [List.countP_eq_zero] at h
  unfold Fc
  induction s with
  | nil => rfl
  | cons c s ih =>
    rw [List.flatMap_cons, ih fun a ha => h a (List.mem_cons_of_mem _ ha)]
    unfold Kc
    rw [if_neg (h c List.mem_cons_self)]; rfl
theorem Gz {s : Bs} {i : Nat} {c : UInt8} (h : s[i]? = some c) : s.take (i + 1) = s.take i ++ [c] := by rw [List.take_add_one, h]; rfl
theorem PE {s : Bs} {i : Nat} (h : i ≤ s.length) : nE (s.take i) ≤ i := by
  unfold nE
  have := List.countP_le_length (p := NJ) (l := s.take i)
  rw [List.length_take] at this; omega
theorem TA (s : Bs) (i : Nat) : nE (s.take i) ≤ nE s := by
  unfold nE
  conv => rhs; rw [← List.take_append_drop i s]
  rw [List.countP_append]; omega
def Uy (f : Nat) : D := if f = 34 then .sl (rows eU [92, 34]) else if f = 92 then .sl (rows eU [92, 92]) else .nils
def C9 : List D := (List.range 256).map Uy ++ [.sl (rows eT [[34], [92]])]
theorem OT : C9.length = 257 := by simp [C9]
theorem Ua (c : UInt8) : C9[c.toNat]? = some (if NJ c then .sl (rows eU [92, c]) else .nils) := by
  have hc : c.toNat < 256 := c.toNat_lt
  unfold C9
  rw [List.getElem?_append_left (by simpa using hc), List.getElem?_map, List.getElem?_range hc]
  show some (Uy c.toNat) = _
  unfold Uy NJ
  by_cases h1 : c = 34
  · subst h1; rfl
  · by_cases h2 : c = 92
    · subst h2; rfl
    · rw [if_neg (fun h => h1 (by rw [← UInt8.toNat_inj]; exact h)), if_neg (fun h => h2 (by rw [← UInt8.toNat_inj]; exact h))]
      simp [h1, h2]
theorem PN : C9[256]? = some (.sl (rows eT [[34], [92]])) := by
  unfold C9
  rw [List.getElem?_append_right (by simp)]; simp
def cT (s : Bs) : Nat → Nat
  | 0 => 0
  | 1 => s.count 34
  | _ => nE s
def Om : List AV → Option (Prop × AV)
  | [.d (.str s), .d (.str [c])] => some (True, .d (.int .i64 ((s.count c : Nat) : Int)))
  | _ => none
theorem Yr {P : Program} {f : FuncId} [Bd] {w : World} {S : Lays} {n : Nat} {vs : List Value} {s q : Bs} (hl : vs.length = [AV.d (.str s), AV.d (.str q)].length) (hr : ∀ (i : Nat) (c : AV) (u : Value), [AV.d (.str s), AV.d (.str q)][i]? = some c → vs[i]? = some u → R w S n c u) : vs = [.string ⟨s.toArray⟩, .string ⟨q.toArray⟩] := by
  match vs, hl with
  | [a, b], _ =>
    have h1 := R.str_iff.1 (hr 0 _ _ rfl rfl)
    have h2 := R.str_iff.1 (hr 1 _ _ rfl rfl)
    rw [h1, h2]
theorem QE : A1 Tryz.prog 180 (Spec.pure Om) := by
 refine Ir fun args p r hg hp F H n w S vs hH hl hr => ?_
 unfold Om at hg
 split at hg
 ·rename_i s c
  simp only [Option.some.injEq, Prod.mk.injEq] at hg
  obtain ⟨rfl, rfl⟩ := hg
  rw [Yr (P := Tryz.prog) (f := 0) hl hr]
  refine (Tryz.Rep.countOne ⟨s.toArray⟩ c w).mono ?_
  rintro e w' ⟨rfl, rfl⟩
  exact ⟨_, rfl, Go.RowKit.Below.refl _ _, R.mkInt _ _⟩
 ·cases hg
def WE : List AV → Option (Prop × AV)
  | [.d (.ptr cs), .d (.str s)] => some (cs = C9 ∧ s.length ≤ 1000000, .d (.str (Fc s)))
  | _ => none
def X1 (n : Nat) : Bs := List.replicate n 0
def FO (s : Bs) (i : Nat) : Bs := Fc (s.take i) ++ X1 ((Fc s).length - (Fc (s.take i)).length)
theorem Eg (s : Bs) (i : Nat) : (Fc (s.take i)).length ≤ (Fc s).length := by
  rw [II, II, List.length_take]; have := TA s i; omega
theorem Mx (s : Bs) (i : Nat) : (FO s i).length = (Fc s).length := by
  unfold FO X1; rw [List.length_append, List.length_replicate]; have := Eg s i; omega
theorem Q8 (s : Bs) : FO s 0 = X1 (Fc s).length := by simp [FO, Fc]
theorem Sz (s : Bs) : FO s s.length = Fc s := by simp [FO, X1]
theorem Pb {α β : Type} (f : α → β) (xs : List α) (o : Nat) (ys : List α) : A2 (xs.map f) o (ys.map f) = (A2 xs o ys).map f := by simp [A2]
theorem My {s : Bs} {i : Nat} {c : UInt8} (h : s[i]? = some c) : A2 (FO s i) (Fc (s.take i)).length (Kc c) = FO s (i + 1) := by
  have h1 := Eg s (i + 1)
  unfold FO
  rw [Gz h, Jt] at *
  generalize Fc (s.take i) = A at *
  generalize (Fc s).length = n at *
  generalize Kc c = b at *
  rw [List.length_append] at h1
  unfold A2 X1
  rw [List.take_left, List.drop_append, List.drop_of_length_le (by omega), List.nil_append, List.drop_replicate, List.length_append]
  congr 1
  congr 1
  omega
theorem S3 {s : Bs} {i : Nat} {c : UInt8} (h : s[i]? = some c) (he : NJ c = true) : A2 (rows eU (FO s i)) (Fc (s.take i)).length (rows eU [92, c]) = rows eU (FO s (i + 1)) := by
  unfold rows; rw [Pb, ← My h]; unfold Kc; rw [if_pos he]
theorem S0 {s : Bs} {i : Nat} {c : UInt8} (h : s[i]? = some c) (he : ¬NJ c = true) : (rows eU (FO s i)).set (Fc (s.take i)).length (eU c) = rows eU (FO s (i + 1)) := by
  have hl : (Fc (s.take i)).length < (FO s i).length := by
    rw [Mx]
    have h1 := Eg s (i + 1)
    rw [Gz h, Jt, List.length_append] at h1
    unfold Kc at h1; rw [if_neg he] at h1; simp at h1; omega
  rw [← My h]
  unfold rows
  rw [← List.map_set]
  congr 1
  unfold Kc A2
  rw [if_neg he, List.set_eq_take_append_cons_drop, if_pos hl]; simp
theorem K3 {s : Bs} {i : Nat} {c : UInt8} (h : s[i]? = some c) : (Fc (s.take (i + 1))).length = (Fc (s.take i)).length + (if NJ c then 2 else 1) := by
  rw [Gz h, Jt, List.length_append]; unfold Kc; split <;> rfl
theorem Ub (c : UInt8) : (NJ c = true ∧ C9[c.toNat * 1]? = some (.sl (rows eU [92, c]))) ∨ (NJ c = false ∧ C9[c.toNat * 1]? = some .nils) := by
  rw [Nat.mul_one]
  rw [Ua c]
  cases NJ c
  · exact .inr ⟨rfl, rfl⟩
  · exact .inl ⟨rfl, rfl⟩
theorem Yh : C9[34]? = some (.sl (rows eU [92, 34])) := Ua 34
theorem Yi : C9[92]? = some (.sl (rows eU [92, 92])) := Ua 92
theorem PD {s : Bs} {i : Nat} {c : UInt8} (h : s[i]? = some c) : nE (s.take (i + 1)) = nE (s.take i) + (if NJ c then 1 else 0) := by rw [Gz h, VA]
theorem Y5 (s : Bs) : cT s 2 = s.count 34 + s.count 92 := TB s
theorem UH (n : Nat) : List.replicate n [D.int .u8 0] = rows eU (X1 n) := by simp [rows, X1, eU]

def Mm : Bn Tryz.prog := X8.add 180 (Spec.pure Om) QE (by kernel_rfl)

theorem K0 : A1 Tryz.prog 178 (Spec.pure WE) := by
 refine Az (Mm.at_ 122) Tryz.func178 rfl rfl rfl ?_
 intro args p r hg hp
 unfold WE at hg
 split at hg
 rename_i cs z
 simp only [Option.some.injEq, Prod.mk.injEq] at hg
 obtain ⟨rfl, rfl⟩ := hg
 obtain ⟨rfl, hs⟩ := hp
 have hne := PE (Nat.le_refl z.length)
 rw [List.take_length] at hne
 have hel := II z
 have hT : (Mm).X = T := rfl
 have hx0 := And.intro @PN (And.intro @OT (And.intro @BH (And.intro @F1 (And.intro @Ci (And.intro @Ch @Tryz.results178)))))
 have hx := hx0
 refine ⟨by rfl, ?_⟩
 intro F W0 hnp hmk
 refine Aa fun N1 h1 => ?_
 refine Ad ?_
 try refine Ac ?_
 refine Ae ?_
 refine Ab ?_
 refine h1 _ ?_; clear h1
 refine Aa fun N2 h2 => ?_
 refine Ad ?_
 try refine Ac ?_
 refine Ae ?_
 refine AZ ?_
 refine Ae ?_
 refine Ab ?_
 refine h2 _ ?_; clear h2
 refine Aa fun N3 h3 => ?_
 refine Ad ?_
 try refine Ac ?_
 refine Ae ?_
 refine Ab ?_
 refine h3 _ ?_; clear h3
 refine Gm (σ := Unit) (fun s => (fun u => True) s)
  (fun s => (fun u => [(0, .d (.ptr C9)), (1, .d (.str z)), (5, .d (.int .i64 ((z.length + nE z : Nat) : Int))), (6, .d (.bool (decide (nE z ≠ 0))))]) s)
  (fun s => (fun u => []) s) hnp ?_ ?_
 rintro u hinv
 dsimp only at hinv ⊢
 refine Aa fun N5 h5 => ?_
 refine Aa fun N6 h6 => ?_
 refine Ad ?_
 try refine Ac ?_
 refine Ae ?_
 refine Gl ?_
 refine Ab ?_
 refine h6 _ ?_; clear h6
 refine Ai (fun hb7 => ?_) (fun hb7 => ?_)
 refine Aa fun N8 h8 => ?_
 refine Ad ?_
 try refine Ac ?_
 iterate 2 refine Ae ?_
 refine Ab ?_
 refine h8 _ ?_; clear h8
 refine An ?_
 try simp only [Af]
 have h0 : nE z = 0 := by have := hb7; simpa using this
 rw [V9 h0]
 refine Ax ?_
 exact As
 have hbz := Q8 z
 have hzr := UH (Fc z).length
 refine Am ?_
 try simp only [Af]
 refine h5 _ ?_; clear h5
 refine Aa fun N9 h9 => ?_
 refine Ad ?_
 try refine Ac ?_
 refine Ae ?_
 refine Yx ?_
 refine Ae ?_
 refine Ab ?_
 refine h9 _ ?_; clear h9
 refine Aa fun N10 h10 => ?_
 refine Ad ?_
 try refine Ac ?_
 refine Ae ?_
 refine Ab ?_
 refine h10 _ ?_; clear h10
 refine Aa fun N11 h11 => ?_
 refine Aa fun N12 h12 => ?_
 refine Ad ?_
 try refine Ac ?_
 refine Ae ?_
 refine Ab ?_
 refine h12 _ ?_; clear h12
 refine Au ?_
 refine A0 (σ := Nat) (fun s => (fun i => i ≤ z.length) s)
  (fun s => (fun i => [(0, .d (.ptr C9)), (1, .d (.str z)), (12, .sl 0 0 (Fc z).length), (13, .d (.int .i64 ((Fc (z.take i)).length : Nat))), (14, .d (.int .i64 (i : Nat)))]) s)
  (fun s => (fun i => [some (.vec 5 1 (rows eU (FO z i)))]) s) (fun s => (fun i => z.length - i) s) hnp 0 ?_ [some 0] ?_ ?_
 dsimp only
 omega
 dsimp only
 refine ⟨by rfl, ?_, ?_⟩
 refine Aj ?_
 ·(repeat' apply And.intro) <;> (first | (first | rfl | trivial | omega | (rw [hbz, ← hzr, hel]; done) | exact Or.inl rfl) | exact As)
 refine Aj ?_
 ·(repeat' apply And.intro) <;> (first | (first | rfl | trivial | omega | (rw [hbz, ← hzr, hel]; done) | exact Or.inl rfl) | exact As)
 rintro i hinv N13 h13
 dsimp only at hinv ⊢
 have i1 := hinv
 refine Aa fun N14 h14 => ?_
 refine Aa fun N15 h15 => ?_
 refine Ad ?_
 try refine Ac ?_
 iterate 2 refine Ae ?_
 refine AZ ?_
 refine Al ?_
 refine Ab ?_
 refine h15 _ ?_; clear h15
 refine Ai (fun hb16 => ?_) (fun hb16 => ?_)
 have hiz : i < z.length := by have := hb16; (try simp at this); omega
 obtain ⟨c, hce⟩ := BG (l := z) (i := i) hiz
 have hnn := PD hce
 have hc256 := c.toNat_lt
 have hel2 := K3 hce
 have hll := TA z (i + 1)
 have hb3 := Eg z (i + 1)
 have hbl := Mx z i
 have hbu : (rows eU (FO z i)).length = (Fc z).length := by rw [Be, hbl]
 refine Am ?_
 try simp only [Af]
 refine h14 _ ?_; clear h14
 refine Aa fun N17 h17 => ?_
 refine Au ?_
 refine Aa fun N18 h18 => ?_
 have hx := And.intro @hce hx0
 refine Ad ?_
 try refine Ac ?_
 iterate 2 refine Ae ?_
 refine At ?_
 refine Ae ?_
 refine Ab ?_
 have hx := hx0
 refine h18 _ ?_; clear h18
 refine Aa fun N19 h19 => ?_
 rcases Ub c with ⟨he, hrc⟩ | ⟨he, hrc⟩
 rw [if_pos he] at hnn hel2
 have hl2 : (rows eU [92, c]).length = 2 := rfl
 have hx := And.intro @hrc hx0
 refine Ad ?_
 try refine Ac ?_
 iterate 2 refine Ae ?_
 refine Bv ?_
 iterate 2 refine At ?_
 refine Ap ?_
 refine AN (by rfl) (Gy (by exact Dq) (by exact Dn) (by exact Dp) (by first | (simp only [PW, wB, eq_self, Nat.reduceEqDiff, reduceIte]; done) | (simp only [PW, wB, eq_self, Nat.reduceEqDiff, reduceIte]; rfl)) fun z_r27_6 hz_r27_6 hz_r27_6' => ?_)
 refine Ab ?_
 have hx := hx0
 refine h19 _ ?_; clear h19
 refine Ai (fun hb20 => ?_) (fun hb20 => ?_)
 have hx := And.intro @hrc hx0
 refine Ad ?_
 try refine Ac ?_
 iterate 3 refine Ae ?_
 refine DL ?_
 iterate 2 refine Ae ?_
 refine Bv ?_
 iterate 2 refine At ?_
 refine Ap ?_
 refine AN (by rfl) (DF (by exact Dq) (by exact Dn) (by simp only [wB, eq_self, Nat.reduceEqDiff, reduceIte]; rfl) (by exact Dp) (by exact Dp) rfl (by exact Dq) (by exact Dn) (by simp only [Cj, wB, eq_self, Nat.reduceEqDiff, reduceIte, wL, Int.toNat_natCast, Int.reduceToNat, Nat.reduceAdd, Nat.reduceMul, Nat.reduceSub, Nat.reduceLeDiff, hx]; rfl) (by (first | (first | exact BH _ | exact True.intro | (rw [hbu]; omega) | omega) | exact A3)) (by (first | (first | exact BH _ | exact True.intro | (rw [hbu]; omega) | omega) | exact A3)) (by (first | (first | exact BH _ | exact True.intro | (rw [hbu]; omega) | omega) | exact A3)) ?_)
 try simp only [wB, eq_self, Nat.reduceEqDiff, reduceIte, wL, Int.toNat_natCast, Int.reduceToNat, Nat.reduceAdd, Nat.reduceMul, Nat.reduceSub, Nat.reduceLeDiff, hx]
 refine Al ?_
 refine Ae ?_
 refine Ab ?_
 have hx := hx0
 refine h17 _ ?_; clear h17
 refine Ad ?_
 try refine Ac ?_
 refine Ae ?_
 refine Al ?_
 refine Ae ?_
 refine Ab ?_
 have hst := S3 hce he
 have htk : List.take ((Fc z).length - (Fc (z.take i)).length) [92, c] = [92, c] := List.take_of_length_le (by show 2 ≤ _; omega)
 have hmin : min 2 ((Fc z).length - (Fc (z.take i)).length) = 2 := by omega
 refine h13 _ ⟨i + 1, ?_, ?_, [some 0], ?_⟩
 dsimp only
 omega
 dsimp only
 omega
 dsimp only
 refine ⟨by rfl, ?_, ?_⟩
 refine Aj ?_
 ·(repeat' apply And.intro) <;> (first | (first | (rw [htk, hst]; done) | (left; rw [hmin, hel2]; rfl) | rfl | trivial | omega | (rw [hst]; done) | exact Or.inl rfl) | exact As)
 refine Aj ?_
 ·(repeat' apply And.intro) <;> (first | (first | (rw [htk, hst]; done) | (left; rw [hmin, hel2]; rfl) | rfl | trivial | omega | (rw [hst]; done) | exact Or.inl rfl) | exact As)
 exact absurd (hz_r27_6 hb20) (by simp [HO, rows])
 rw [if_neg (by rw [he]; simp)] at hnn hel2
 obtain ⟨y1, hy1⟩ := BG (l := FO z i) (i := (Fc (z.take i)).length) (by rw [hbl]; omega)
 have hx := And.intro @hrc hx0
 refine Ad ?_
 try refine Ac ?_
 iterate 2 refine Ae ?_
 refine Bv ?_
 iterate 2 refine At ?_
 refine Ap ?_
 refine AN (by rfl) (Gy (by exact Dq) (by exact Dn) (by exact Dp) (by first | (simp only [PW, wB, eq_self, Nat.reduceEqDiff, reduceIte]; done) | (simp only [PW, wB, eq_self, Nat.reduceEqDiff, reduceIte]; rfl)) fun z_r27_6 hz_r27_6 hz_r27_6' => ?_)
 refine Ab ?_
 have hx := hx0
 refine h19 _ ?_; clear h19
 refine Ai (fun hb21 => ?_) (fun hb21 => ?_)
 exact absurd ((hz_r27_6' rfl).symm.trans hb21) (by simp)
 refine Aa fun N22 h22 => ?_
 have hx := And.intro @hy1 (And.intro @eU.eq_1 hx0)
 refine Ad ?_
 try refine Ac ?_
 iterate 3 refine Ae ?_
 refine At ?_
 refine A4 ?_
 refine Ab ?_
 have hx := hx0
 refine h22 _ ?_; clear h22
 refine Ad ?_
 try refine Ac ?_
 refine Ae ?_
 refine Al ?_
 refine Ae ?_
 refine Ab ?_
 refine h17 _ ?_; clear h17
 refine Ad ?_
 try refine Ac ?_
 refine Ae ?_
 refine Al ?_
 refine Ae ?_
 refine Ab ?_
 have hst := S0 hce (by rw [he]; simp)
 refine h13 _ ⟨i + 1, ?_, ?_, [some 0], ?_⟩
 dsimp only
 omega
 dsimp only
 omega
 dsimp only
 refine ⟨by rfl, ?_, ?_⟩
 refine Aj ?_
 ·(repeat' apply And.intro) <;> (first | (first | rfl | trivial | omega | (rw [hst]; done) | exact Or.inl rfl) | exact As)
 refine Aj ?_
 ·(repeat' apply And.intro) <;> (first | (first | rfl | trivial | omega | (rw [hst]; done) | exact Or.inl rfl) | exact As)
 obtain rfl : i = z.length := by have := hb16; (try simp at this); omega
 simp only [List.take_length, Sz]
 refine AF ?_
 simp only [Af, Nat.reduceEqDiff, reduceIte, eq_self]
 refine h11 _ ?_; clear h11
 refine Aa fun N23 h23 => ?_
 refine Ad ?_
 try refine Ac ?_
 refine Ae ?_
 refine U4 ?_
 refine Ae ?_
 refine Ab ?_
 refine h23 _ ?_; clear h23
 refine An ?_
 try simp only [Af]
 refine Ax ?_
 exact As
 intro N4 h4
 refine Aa fun N24 h24 => ?_
 refine Ad ?_
 try refine Ac ?_
 refine Ae ?_
 refine Bv ?_
 refine At ?_
 refine Ap ?_
 refine AZ ?_
 refine Al ?_
 refine Ae ?_
 refine AZ ?_
 refine Al ?_
 refine Ab ?_
 refine h24 _ ?_; clear h24
 refine Ai (fun hb25 => ?_) (fun hb25 => ?_)
 refine Aa fun N26 h26 => ?_
 refine Ad ?_
 try refine Ac ?_
 refine Ae ?_
 refine Bv ?_
 refine At ?_
 refine Ap ?_
 refine AZ ?_
 refine Ae ?_
 refine Ab ?_
 refine h26 _ ?_; clear h26
 refine Au ?_
 refine A0 (σ := Nat) (fun s => (fun j => j ≤ 2) s)
  (fun s => (fun j => [(0, .d (.ptr C9)), (1, .d (.str z)), (5, .d (.int .i64 ((z.length + cT z j : Nat) : Int))), (6, .d (.bool (decide (cT z j ≠ 0)))), (30, .d (.sl (rows eT [[34], [92]]))), (31, .d (.int .i64 ([[34], [92]].length : Nat))), (32, .d (.int .i64 (j : Nat)))]) s)
  (fun s => (fun j => []) s) (fun s => (fun j => 2 - j) s) hnp 0 ?_ [] ?_ ?_
 dsimp only
 omega
 dsimp only
 refine ⟨by rfl, ?_, ?_⟩
 refine Aj ?_
 ·(repeat' apply And.intro) <;> (first | (first | exact hdq | exact hdq.symm | rfl | trivial | omega | (simp [hnn]; done) | (simp; omega) | (simp [hnn, hj1, hj2]; done)) | exact As)
 refine Aj ?_
 ·(repeat' apply And.intro) <;> (first | (first | exact hdq | exact hdq.symm | rfl | trivial | omega | (simp [hnn]; done) | (simp; omega) | (simp [hnn, hj1, hj2]; done)) | exact As)
 rintro j hinv N27 h27
 dsimp only at hinv ⊢
 have j1 := hinv
 refine Aa fun N28 h28 => ?_
 refine Ad ?_
 try refine Ac ?_
 refine Al ?_
 refine Ab ?_
 refine h28 _ ?_; clear h28
 refine Aa fun N29 h29 => ?_
 refine Ai (fun hb30 => ?_) (fun hb30 => ?_)
 have hj : j < 2 := by have := hb30; (try simp at this); omega
 have hj0 : cT z 0 = 0 := rfl
 have hj1 : cT z 1 = z.count 34 := rfl
 have hj2 := Y5 z
 have hc3 := List.count_le_length (a := (34 : UInt8)) (l := z)
 have hc9 := List.count_le_length (a := (92 : UInt8)) (l := z)
 have hn2 := TB z
 refine Am ?_
 try simp only [Af]
 refine h29 _ ?_; clear h29
 refine Aa fun N31 h31 => ?_
 refine Au ?_
 refine Aa fun N32 h32 => ?_
 rcases (show j = 0 ∨ j = 1 by omega) with rfl | rfl
 have hrj : ([[34], [92]] : List Bs)[0]? = some [34] := rfl
 have hrc := Yh
 have hl2 : (rows eU [92, 34]).length = 2 := rfl
 have hml : ((z.count 34 : Nat) : Int) * (((rows eU [92, 34]).length : Nat) - 1) = (z.count 34 : Nat) := by rw [hl2]; omega
 have hx := And.intro @hrj (And.intro @eT.eq_1 hx0)
 refine Ad ?_
 try refine Ac ?_
 refine At ?_
 refine Ap ?_
 refine Ae ?_
 refine Ab ?_
 have hx := hx0
 refine h32 _ ?_; clear h32
 refine Aa fun N33 h33 => ?_
 refine Ad ?_
 try refine Ac ?_
 iterate 2 refine Ae ?_
 have hc := Ag (E := (Mm.at_ 122)) (f := 180) (sp := Spec.pure Om) rfl
 have hs := @Om.eq_1
 refine AS ?_
 refine Ae ?_
 refine Ab ?_
 refine h33 _ ?_; clear h33
 refine Aa fun N34 h34 => ?_
 refine Ad ?_
 try refine Ac ?_
 refine Ae ?_
 refine Al ?_
 refine Ab ?_
 refine h34 _ ?_; clear h34
 refine Ai (fun hb35 => ?_) (fun hb35 => ?_)
 refine Aa fun N36 h36 => ?_
 have hx := And.intro @hrc (And.intro @hml hx0)
 refine Ad ?_
 try refine Ac ?_
 iterate 4 refine Ae ?_
 refine At ?_
 refine Bv ?_
 iterate 2 refine At ?_
 refine Ap ?_
 refine AZ ?_
 iterate 3 refine Al ?_
 refine Ae ?_
 refine Ab ?_
 have hx := hx0
 refine h36 _ ?_; clear h36
 refine Ad ?_
 try refine Ac ?_
 refine Ae ?_
 refine Ab ?_
 refine h31 _ ?_; clear h31
 refine Ad ?_
 try refine Ac ?_
 refine Al ?_
 refine Ae ?_
 refine Ab ?_
 have hdq : decide (cT z 1 ≠ 0) = true := decide_eq_true (by have := hb35; (try simp at this); omega)
 refine h27 _ ⟨1, ?_, ?_, [], ?_⟩
 dsimp only
 omega
 dsimp only
 omega
 dsimp only
 refine ⟨by rfl, ?_, ?_⟩
 refine Aj ?_
 ·(repeat' apply And.intro) <;> (first | (first | exact hdq | exact hdq.symm | rfl | trivial | omega | (simp [hnn]; done) | (simp; omega) | (simp [hnn, hj1, hj2]; done)) | exact As)
 refine Aj ?_
 ·(repeat' apply And.intro) <;> (first | (first | exact hdq | exact hdq.symm | rfl | trivial | omega | (simp [hnn]; done) | (simp; omega) | (simp [hnn, hj1, hj2]; done)) | exact As)
 refine Am ?_
 try simp only [Af]
 refine h31 _ ?_; clear h31
 refine Ad ?_
 try refine Ac ?_
 refine Al ?_
 refine Ae ?_
 refine Ab ?_
 have hdq : decide (cT z 0 ≠ 0) = decide (cT z 1 ≠ 0) := by rw [show cT z 1 = cT z 0 by have := hb35; (try simp at this); omega]
 refine h27 _ ⟨1, ?_, ?_, [], ?_⟩
 dsimp only
 omega
 dsimp only
 omega
 dsimp only
 refine ⟨by rfl, ?_, ?_⟩
 refine Aj ?_
 ·(repeat' apply And.intro) <;> (first | (first | exact hdq | exact hdq.symm | rfl | trivial | omega | (simp [hnn]; done) | (simp; omega) | (simp [hnn, hj1, hj2]; done)) | exact As)
 refine Aj ?_
 ·(repeat' apply And.intro) <;> (first | (first | exact hdq | exact hdq.symm | rfl | trivial | omega | (simp [hnn]; done) | (simp; omega) | (simp [hnn, hj1, hj2]; done)) | exact As)
 have hrj : ([[34], [92]] : List Bs)[1]? = some [92] := rfl
 have hrc := Yi
 have hl2 : (rows eU [92, 92]).length = 2 := rfl
 have hml : ((z.count 92 : Nat) : Int) * (((rows eU [92, 92]).length : Nat) - 1) = (z.count 92 : Nat) := by rw [hl2]; omega
 have hx := And.intro @hrj (And.intro @eT.eq_1 hx0)
 refine Ad ?_
 try refine Ac ?_
 refine At ?_
 refine Ap ?_
 refine Ae ?_
 refine Ab ?_
 have hx := hx0
 refine h32 _ ?_; clear h32
 refine Aa fun N37 h37 => ?_
 refine Ad ?_
 try refine Ac ?_
 iterate 2 refine Ae ?_
 have hc := Ag (E := (Mm.at_ 122)) (f := 180) (sp := Spec.pure Om) rfl
 have hs := @Om.eq_1
 refine AS ?_
 refine Ae ?_
 refine Ab ?_
 refine h37 _ ?_; clear h37
 refine Aa fun N38 h38 => ?_
 refine Ad ?_
 try refine Ac ?_
 refine Ae ?_
 refine Al ?_
 refine Ab ?_
 refine h38 _ ?_; clear h38
 refine Ai (fun hb39 => ?_) (fun hb39 => ?_)
 refine Aa fun N40 h40 => ?_
 have hx := And.intro @hrc (And.intro @hml hx0)
 refine Ad ?_
 try refine Ac ?_
 iterate 4 refine Ae ?_
 refine At ?_
 refine Bv ?_
 iterate 2 refine At ?_
 refine Ap ?_
 refine AZ ?_
 iterate 3 refine Al ?_
 refine Ae ?_
 refine Ab ?_
 have hx := hx0
 refine h40 _ ?_; clear h40
 refine Ad ?_
 try refine Ac ?_
 refine Ae ?_
 refine Ab ?_
 refine h31 _ ?_; clear h31
 refine Ad ?_
 try refine Ac ?_
 refine Al ?_
 refine Ae ?_
 refine Ab ?_
 have hdq : decide (cT z 2 ≠ 0) = true := decide_eq_true (by have := hb39; (try simp at this); omega)
 refine h27 _ ⟨2, ?_, ?_, [], ?_⟩
 dsimp only
 omega
 dsimp only
 omega
 dsimp only
 refine ⟨by rfl, ?_, ?_⟩
 refine Aj ?_
 ·(repeat' apply And.intro) <;> (first | (first | exact hdq | exact hdq.symm | rfl | trivial | omega | (simp [hnn]; done) | (simp; omega) | (simp [hnn, hj1, hj2]; done)) | exact As)
 refine Aj ?_
 ·(repeat' apply And.intro) <;> (first | (first | exact hdq | exact hdq.symm | rfl | trivial | omega | (simp [hnn]; done) | (simp; omega) | (simp [hnn, hj1, hj2]; done)) | exact As)
 refine Am ?_
 try simp only [Af]
 refine h31 _ ?_; clear h31
 refine Ad ?_
 try refine Ac ?_
 refine Al ?_
 refine Ae ?_
 refine Ab ?_
 have hdq : decide (cT z 1 ≠ 0) = decide (cT z 2 ≠ 0) := by rw [show cT z 2 = cT z 1 by have := hb39; (try simp at this); omega]
 refine h27 _ ⟨2, ?_, ?_, [], ?_⟩
 dsimp only
 omega
 dsimp only
 omega
 dsimp only
 refine ⟨by rfl, ?_, ?_⟩
 refine Aj ?_
 ·(repeat' apply And.intro) <;> (first | (first | exact hdq | exact hdq.symm | rfl | trivial | omega | (simp [hnn]; done) | (simp; omega) | (simp [hnn, hj1, hj2]; done)) | exact As)
 refine Aj ?_
 ·(repeat' apply And.intro) <;> (first | (first | exact hdq | exact hdq.symm | rfl | trivial | omega | (simp [hnn]; done) | (simp; omega) | (simp [hnn, hj1, hj2]; done)) | exact As)
 obtain rfl : j = 2 := by have := hb30; (try simp at this); omega
 have hj2 : cT z 2 = nE z := rfl
 rw [hj2]
 refine AF ?_
 simp only [Af, Nat.reduceEqDiff, reduceIte, eq_self]
 refine h4 _ ⟨(), trivial, [], ?_⟩
 dsimp only
 refine ⟨by rfl, ?_, ?_⟩
 refine Aj ?_
 exact As
 refine Aj ?_
 exact As
 refine Aa fun N41 h41 => ?_
 refine Ad ?_
 try refine Ac ?_
 refine Ae ?_
 refine Ab ?_
 refine h41 _ ?_; clear h41
 refine Au ?_
 refine A0 (σ := Nat) (fun s => (fun i => i ≤ z.length) s)
  (fun s => (fun i => [(0, .d (.ptr C9)), (1, .d (.str z)), (5, .d (.int .i64 ((z.length + nE (z.take i) : Nat) : Int))), (6, .d (.bool (decide (nE (z.take i) ≠ 0)))), (10, .d (.int .i64 (i : Nat)))]) s)
  (fun s => (fun i => []) s) (fun s => (fun i => z.length - i) s) hnp 0 ?_ [] ?_ ?_
 dsimp only
 omega
 dsimp only
 refine ⟨by rfl, ?_, ?_⟩
 refine Aj ?_
 ·(repeat' apply And.intro) <;> (first | (first | exact hdq | exact hdq.symm | rfl | trivial | omega | (simp [hnn]; done) | (simp; omega) | (simp [hnn, hj1, hj2]; done)) | exact As)
 refine Aj ?_
 ·(repeat' apply And.intro) <;> (first | (first | exact hdq | exact hdq.symm | rfl | trivial | omega | (simp [hnn]; done) | (simp; omega) | (simp [hnn, hj1, hj2]; done)) | exact As)
 rintro i hinv N42 h42
 dsimp only at hinv ⊢
 have i1 := hinv
 have hnt := PE i1
 refine Aa fun N43 h43 => ?_
 refine Aa fun N44 h44 => ?_
 refine Ad ?_
 try refine Ac ?_
 iterate 2 refine Ae ?_
 refine AZ ?_
 refine Al ?_
 refine Ab ?_
 refine h44 _ ?_; clear h44
 refine Ai (fun hb45 => ?_) (fun hb45 => ?_)
 have hiz : i < z.length := by have := hb45; (try simp at this); omega
 obtain ⟨c, hce⟩ := BG (l := z) (i := i) hiz
 have hnn := PD hce
 have hc256 := c.toNat_lt
 have hel2 := K3 hce
 have hll := TA z (i + 1)
 have hb3 := Eg z (i + 1)
 refine Am ?_
 try simp only [Af]
 refine h43 _ ?_; clear h43
 refine Aa fun N46 h46 => ?_
 refine Au ?_
 refine Aa fun N47 h47 => ?_
 have hx := And.intro @hce hx0
 refine Ad ?_
 try refine Ac ?_
 iterate 2 refine Ae ?_
 refine At ?_
 refine Ae ?_
 refine Ab ?_
 have hx := hx0
 refine h47 _ ?_; clear h47
 refine Aa fun N48 h48 => ?_
 rcases Ub c with ⟨he, hrc⟩ | ⟨he, hrc⟩
 rw [if_pos he] at hnn hel2
 have hl2 : (rows eU [92, c]).length = 2 := rfl
 have hx := And.intro @hrc hx0
 refine Ad ?_
 try refine Ac ?_
 iterate 2 refine Ae ?_
 refine Bv ?_
 iterate 2 refine At ?_
 refine Ap ?_
 refine AN (by rfl) (Gy (by exact Dq) (by exact Dn) (by exact Dp) (by first | (simp only [PW, wB, eq_self, Nat.reduceEqDiff, reduceIte]; done) | (simp only [PW, wB, eq_self, Nat.reduceEqDiff, reduceIte]; rfl)) fun z_r16_6 hz_r16_6 hz_r16_6' => ?_)
 refine Ab ?_
 have hx := hx0
 refine h48 _ ?_; clear h48
 refine Ai (fun hb49 => ?_) (fun hb49 => ?_)
 refine Aa fun N50 h50 => ?_
 have hx := And.intro @hrc hx0
 refine Ad ?_
 try refine Ac ?_
 iterate 3 refine Ae ?_
 refine Bv ?_
 iterate 2 refine At ?_
 refine Ap ?_
 refine AZ ?_
 iterate 2 refine Al ?_
 refine Ae ?_
 refine Ab ?_
 have hx := hx0
 refine h50 _ ?_; clear h50
 refine Ad ?_
 try refine Ac ?_
 refine Ae ?_
 refine Ab ?_
 refine h46 _ ?_; clear h46
 refine Ad ?_
 try refine Ac ?_
 refine Ae ?_
 refine Al ?_
 refine Ae ?_
 refine Ab ?_
 have hdq : decide (nE (z.take (i + 1)) ≠ 0) = true := decide_eq_true (by omega)
 refine h42 _ ⟨i + 1, ?_, ?_, [], ?_⟩
 dsimp only
 omega
 dsimp only
 omega
 dsimp only
 refine ⟨by rfl, ?_, ?_⟩
 refine Aj ?_
 ·(repeat' apply And.intro) <;> (first | (first | exact hdq | exact hdq.symm | rfl | trivial | omega | (simp [hnn]; done) | (simp; omega) | (simp [hnn, hj1, hj2]; done)) | exact As)
 refine Aj ?_
 ·(repeat' apply And.intro) <;> (first | (first | exact hdq | exact hdq.symm | rfl | trivial | omega | (simp [hnn]; done) | (simp; omega) | (simp [hnn, hj1, hj2]; done)) | exact As)
 exact absurd (hz_r16_6 hb49) (by simp [HO, rows])
 rw [if_neg (by rw [he]; simp)] at hnn hel2
 have hx := And.intro @hrc hx0
 refine Ad ?_
 try refine Ac ?_
 iterate 2 refine Ae ?_
 refine Bv ?_
 iterate 2 refine At ?_
 refine Ap ?_
 refine AN (by rfl) (Gy (by exact Dq) (by exact Dn) (by exact Dp) (by first | (simp only [PW, wB, eq_self, Nat.reduceEqDiff, reduceIte]; done) | (simp only [PW, wB, eq_self, Nat.reduceEqDiff, reduceIte]; rfl)) fun z_r16_6 hz_r16_6 hz_r16_6' => ?_)
 refine Ab ?_
 have hx := hx0
 refine h48 _ ?_; clear h48
 refine Ai (fun hb51 => ?_) (fun hb51 => ?_)
 exact absurd ((hz_r16_6' rfl).symm.trans hb51) (by simp)
 refine Am ?_
 try simp only [Af]
 refine h46 _ ?_; clear h46
 refine Ad ?_
 try refine Ac ?_
 refine Ae ?_
 refine Al ?_
 refine Ae ?_
 refine Ab ?_
 have hdq : decide (nE (z.take i) ≠ 0) = decide (nE (z.take (i + 1)) ≠ 0) := by rw [hnn]; rfl
 refine h42 _ ⟨i + 1, ?_, ?_, [], ?_⟩
 dsimp only
 omega
 dsimp only
 omega
 dsimp only
 refine ⟨by rfl, ?_, ?_⟩
 refine Aj ?_
 ·(repeat' apply And.intro) <;> (first | (first | exact hdq | exact hdq.symm | rfl | trivial | omega | (simp [hnn]; done) | (simp; omega) | (simp [hnn, hj1, hj2]; done)) | exact As)
 refine Aj ?_
 ·(repeat' apply And.intro) <;> (first | (first | exact hdq | exact hdq.symm | rfl | trivial | omega | (simp [hnn]; done) | (simp; omega) | (simp [hnn, hj1, hj2]; done)) | exact As)
 obtain rfl : i = z.length := by have := hb45; (try simp at this); omega
 simp only [List.take_length]
 refine AF ?_
 simp only [Af, Nat.reduceEqDiff, reduceIte, eq_self]
 refine h4 _ ⟨(), trivial, [], ?_⟩
 dsimp only
 refine ⟨by rfl, ?_, ?_⟩
 refine Aj ?_
 exact As
 refine Aj ?_
 exact As
 cases hg

def X7 : Bn Tryz.prog := Mm.add 178 (Spec.pure WE) K0 (by kernel_rfl)
end Go.Proofs.YtmbjnkgpcbpclaaGreat
