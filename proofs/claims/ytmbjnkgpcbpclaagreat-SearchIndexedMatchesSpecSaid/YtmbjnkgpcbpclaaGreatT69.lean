import Derived.Test.YtmbjnkgpcbpclaaGreatT68
set_option linter.all false
set_option maxRecDepth 100000
set_option maxHeartbeats 4000000
namespace Go.Proofs.YtmbjnkgpcbpclaaGreat
open Go Go.Vc Go.RowKit
def J0 (fu : Nat) : DP
  | [.ptr 0 0 0], [some (.one ty [.d (.str t), .d (.int .i64 a), .sl 1 0 n]), some (.vec vt sz xs)] => some (Qn ty vt sz n t a xs ∧ (GW t fu 3 a.toNat (C8 xs)).isSome = true, .d (.int .i64 (rX (GW t fu 3 a.toNat (C8 xs)))), ZW t (GW t fu 3 a.toNat (C8 xs)))
  | _, _ => none
def GI (fu : Nat) : DP
  | [.ptr 0 0 0, .d (.int .i64 l)], [some (.one ty [.d (.str t), .d (.int .i64 a), .sl 1 0 n]), some (.vec vt sz xs)] => some (0 ≤ l ∧ l ≤ 2 ∧ Qn ty vt sz n t a xs ∧ (GW t fu l.toNat a.toNat (C8 xs)).isSome = true, .d (.int .i64 (rX (GW t fu l.toNat a.toNat (C8 xs)))), ZW t (GW t fu l.toNat a.toNat (C8 xs)))
  | _, _ => none
def Ha (n : Nat) (kq : A5 Tryz.prog 42 (Spec.gen (GI n))) (ku : A5 Tryz.prog 63 (Spec.gen (J0 n))) : Bq Tryz.prog :=
  (XJ.add 42 (Spec.gen (GI n)) kq (by kernel_rfl)).add 63 (Spec.gen (J0 n)) ku (by kernel_rfl)
theorem ZG (t : Bs) (f a : Nat) (ns : List Sn) : GW t (f + 1) 3 a ns = ZT (GW t f 3) (GW t f 0) t a ns := by rw [GW]; exact if_pos rfl
theorem ZF (t : Bs) (f a : Nat) (ns : List Sn) : GW t (f + 1) 2 a ns = GW t f 3 a ns := by rw [GW]; rfl
theorem ZE (t : Bs) (f m a : Nat) (ns : List Sn) (h : m < 2) : GW t (f + 1) m a ns = KS (GW t f (m + 1) a ns) fun a' ns' x => UU (GW t f (m + 1)) t m (t.length + 1) a' ns' x := by
  rw [GW]; rw [if_neg (by omega), if_neg (by omega)]
theorem Mo (a : Nat) (ns : List Sn) (x : Nat) (k : Nat → List Sn → Nat → PR) : KS (some (a, ns, x)) k = k a ns x := rfl
theorem Mn {r : PR} {k : Nat → List Sn → Nat → PR} (h : (KS r k).isSome = true) : ∃ a ns x, r = some (a, ns, x) := by
  match r, h with
  | some (a, ns, x), _ => exact ⟨a, ns, x, rfl⟩
theorem Qo {t : Bs} {m : Nat} {q : List Sn} (h1 : q.length ≤ m + 1) (h2 : m + 1 ≤ t.length) (h3 : t.length ≤ 1000) : Qn 75 55 4 q.length t ((m : Int) + 1) (rows Ec q) := EY (m := m + 1) h1 h2 h3
theorem ZR {c d : UInt8} (h : (c.toNat : Int) = (d.toNat : Int)) : c = d := UInt8.toNat_inj.1 (by omega)
theorem Wm (fu : Nat) (kq : A5 Tryz.prog 42 (Spec.gen (GI fu))) (ku : A5 Tryz.prog 63 (Spec.gen (J0 fu))) : A5 Tryz.prog 63 (Spec.gen (J0 (fu + 1))) := by
 refine Bm ((Ha fu kq ku).at_ 60) Tryz.func63 rfl rfl rfl ?_
 intro args bl p r bf hg hp
 unfold J0 at hg
 split at hg
 rename_i ty t a n vt sz xs
 simp only [Option.some.injEq, Prod.mk.injEq] at hg
 obtain ⟨rfl, rfl, rfl⟩ := hg
 obtain ⟨hpr, hsm⟩ := hp
 obtain ⟨rfl, rfl, rfl, he, rfl, ha0, hal, htl, hqa⟩ := hpr
 generalize C8 xs = q at *
 subst he
 obtain ⟨a, rfl⟩ := Int.eq_ofNat_of_zero_le ha0
 simp only [Int.toNat_natCast] at *
 have hal : a ≤ t.length := by omega
 have hqa : q.length ≤ a := by omega
 obtain ⟨k1, k2⟩ := FF hal
 have hps := EY hqa hal htl
 rw [ZG] at hsm ⊢
 unfold ZT at hsm ⊢
 generalize hB : FU t a = B at *
 generalize hC : t.getD B 0 = C at *
 have hb1 : ((B : Int) + 1).toNat = B + 1 := by omega
 have hT : ((Ha fu kq ku)).X = T := rfl
 have hx0 := And.intro @Ci (And.intro @Ch (And.intro @Int.toNat_natCast (And.intro @TN.eq_1 (And.intro @AL (And.intro @BL (And.intro @Xv (And.intro @Ry @Tryz.results63)))))))
 have hx := hx0
 refine ⟨Nat.le_of_ble_eq_true rfl, ?_⟩
 intro F W0 M0 hnp hmk
 have hnp : Bl.np = 2 := hnp
 refine Aa fun N1 h1 => Ac ?_
 refine Az ?_
 refine Ad ?_
 refine Ab (h1 _ (Aa fun N2 h2 => ?_)); clear h1
 have hx := And.intro @hB (And.intro @hC hx0)
 refine Aa fun N3 h3 => Ac ?_
 refine Ad ?_
 have hc := Ag (E := ((Ha fu kq ku).at_ 60)) (f := 64) (sp := Spec.gen K0) rfl
 have hs := @K0.eq_1
 refine BM (hq := by (first | (exact hps) | exact AQ)) ?_
 have hx := hx0
 refine Ab (h3 _ (As ?_)); clear h3
 refine Aa fun N4 h4 => Ac ?_
 refine Ao ?_
 refine Ad ?_
 refine Ab (h4 _ (Ak (fun hb5 => ?_) (fun hb5 => ?_))); clear h4
 have h33 : C = 33 := by have := hb5; first | exact UInt8.toNat_inj.1 (show C.toNat = 33 by (try simp at this); omega) | (simpa using this)
 subst h33
 have hBl := (E4 hC (by decide)).1
 rw [if_pos rfl] at hsm ⊢
 obtain ⟨a1, n1, x, hR⟩ := Mn hsm
 rw [hR, Mo]
 obtain ⟨⟨f1, f2, f3⟩, f4⟩ := FE t fu 3 (B + 1) q (by omega) a1 n1 x hR
 refine Aa fun N6 h6 => Ac ?_
 refine Ad ?_
 refine BB ?_
 refine Ar ?_
 refine Aq ?_
 refine Ao ?_
 refine BB ?_
 refine Ar ?_
 refine A4 ?_
 have hx := And.intro @hb1 (And.intro @hR hx0)
 refine Ab (h6 _ (Aa fun N7 h7 => Ac ?_)); clear h6
 refine Ad ?_
 have hc := Ag (E := ((Ha fu kq ku).at_ 60)) (f := 63) (sp := Spec.gen (J0 fu)) rfl
 have hs := @J0.eq_1
 refine BM (hq := by (first | (refine ⟨Qo (by omega) (by omega) htl, ?_⟩; first | rfl | (rw [hR]; rfl) | (simp only [AL, Int.toNat_natCast, hb1, hR]; rfl)) | exact AQ)) ?_
 refine Ad ?_
 have hx := hx0
 refine Ab (h7 _ (Aa fun N8 h8 => Ac ?_)); clear h7
 iterate 2 refine Ad (hq := AN) ?_
 refine BD (hq := AN) ?_
 have hc := Ag (E := ((Ha fu kq ku).at_ 60)) (f := 65) (sp := Spec.gen JW) rfl
 have hs := @JW.eq_1
 refine BM (hq := AN) ?_
 refine Ad (hq := AN) ?_
 refine Ab (h8 _ (Am ?_)); clear h8
 try simp only [Ae]
 refine Aj ?_
 refine ⟨[some 0, some 1, some 3], by rfl, ?_, ?_⟩
 refine Aj ?_
 exact Au
 refine Aj ?_
 exact Au
 have h33 : C ≠ 33 := by intro h; have := hb5; rw [h] at this; simp at this
 rw [if_neg h33] at hsm ⊢
 refine Aa fun N9 h9 => Ac ?_
 refine Ao ?_
 refine Ad ?_
 refine Ab (h9 _ (Ak (fun hb10 => ?_) (fun hb10 => ?_))); clear h9
 have h40 : C = 40 := by have := hb10; first | exact UInt8.toNat_inj.1 (show C.toNat = 40 by (try simp at this); omega) | (simpa using this)
 subst h40
 have hBl := (E4 hC (by decide)).1
 rw [if_pos rfl] at hsm ⊢
 obtain ⟨a1, n1, x, hR⟩ := Mn hsm
 rw [hR, Mo] at hsm ⊢
 obtain ⟨⟨f1, f2, f3⟩, f4⟩ := FE t fu 0 (B + 1) q (by omega) a1 n1 x hR
 obtain ⟨k3, k4⟩ := FF f2
 have hps2 := EY (t := t) (m := a1) (q := n1) (by omega) f2 htl
 generalize hB1 : FU t a1 = B1 at *
 generalize hC1 : t.getD B1 0 = C1 at *
 have h41 : C1 = 41 := by
  by_cases h : C1 = 41
  ·exact h
  ·rw [if_neg h] at hsm; cases hsm
 subst h41
 rw [if_pos rfl]
 have hB1l := (E4 hC1 (by decide)).1
 refine Aa fun N11 h11 => Ac ?_
 refine Ad ?_
 refine BB ?_
 refine Ar ?_
 refine Aq ?_
 refine Ao ?_
 refine BB ?_
 refine Ar ?_
 refine A4 ?_
 have hx := And.intro @hb1 (And.intro @hR hx0)
 refine Ab (h11 _ (Aa fun N12 h12 => Ac ?_)); clear h11
 refine Ad ?_
 have hc := Ag (E := ((Ha fu kq ku).at_ 60)) (f := 42) (sp := Spec.gen (GI fu)) rfl
 have hs := @GI.eq_1
 refine BM (hq := by (first | (refine ⟨by decide, by decide, Qo (by omega) (by omega) htl, ?_⟩; first | rfl | (rw [hR]; rfl) | (simp only [AL, Int.toNat_natCast, Int.toNat_zero, hb1, hR]; rfl)) | exact AQ)) ?_
 refine Ad ?_
 have hx := hx0
 refine Ab (h12 _ (Aa fun N13 h13 => ?_)); clear h12
 have hx := And.intro @hB1 (And.intro @hC1 hx0)
 refine Aa fun N14 h14 => Ac ?_
 refine Ad ?_
 have hc := Ag (E := ((Ha fu kq ku).at_ 60)) (f := 64) (sp := Spec.gen K0) rfl
 have hs := @K0.eq_1
 refine BM (hq := by (first | (exact hps2) | exact AQ)) ?_
 refine Ao ?_
 have hx := hx0
 refine Ab (h14 _ (Ak (fun hb15 => ?_) (fun hb15 => ?_))); clear h14
 have h := hb15; simp at h
 refine An ?_
 try simp only [Ae]
 refine h13 _ (Aa fun N16 h16 => Ac ?_); clear h13
 refine Ad ?_
 refine BB ?_
 refine Ar ?_
 refine Aq ?_
 refine Ao ?_
 refine BB ?_
 refine Ar ?_
 refine A4 ?_
 refine Ab (h16 _ (Aa fun N17 h17 => Ac ?_)); clear h16
 iterate 2 refine Ad ?_
 refine Ab (h17 _ (Am ?_)); clear h17
 try simp only [Ae]
 refine Aj ?_
 refine ⟨[some 0, some 1, some 2], by rfl, ?_, ?_⟩
 refine Aj ?_
 exact Au
 refine Aj ?_
 exact Au
 have h40 : C ≠ 40 := by intro h; have := hb10; rw [h] at this; simp at this
 rw [if_neg h40] at hsm ⊢
 refine Aa fun N18 h18 => Ac ?_
 refine Ao ?_
 refine Ad ?_
 refine Ab (h18 _ (Ak (fun hb19 => ?_) (fun hb19 => ?_))); clear h18
 have h34 : C = 34 := by have := hb19; first | exact UInt8.toNat_inj.1 (show C.toNat = 34 by (try simp at this); omega) | (simpa using this)
 subst h34
 have hBl := (E4 hC (by decide)).1
 rw [if_pos rfl] at hsm ⊢
 obtain ⟨a1, n1, x, hR⟩ := VT hsm
 rw [hR]
 have hx := And.intro @hR hx0
 refine Aa fun N20 h20 => Ac ?_
 refine Ad ?_
 have hc := Ag (E := ((Ha fu kq ku).at_ 60)) (f := 82) (sp := Spec.gen VB) rfl
 have hs := @VB.eq_1
 refine BM (hq := by (first | (refine ⟨EY (by omega) k2 htl, by omega, ?_⟩; first | rfl | (rw [hR]; rfl) | (simp only [AL, Int.toNat_natCast, hR]; rfl)) | exact AQ)) ?_
 refine Ad ?_
 have hx := hx0
 refine Ab (h20 _ (Am ?_)); clear h20
 try simp only [Ae]
 refine Aj ?_
 refine ⟨[some 0, some 1, some 2], by rfl, ?_, ?_⟩
 refine Aj ?_
 exact Au
 refine Aj ?_
 exact Au
 exfalso
 have h34 : C ≠ 34 := by intro h; have := hb19; rw [h] at this; simp at this
 rw [if_neg h34] at hsm
 cases hsm
 cases hg
theorem VM {m : Nat} (h : m < 2) : (m = 1 ∧ T2 m = 38 ∧ WX m = 2) ∨ (m = 0 ∧ T2 m = 124 ∧ WX m = 3) := by
  match m, h with
  | 0, _ => exact .inr ⟨rfl, rfl, rfl⟩
  | 1, _ => exact .inl ⟨rfl, rfl, rfl⟩
theorem Z4 (sub : Nat → List Sn → PR) (t : Bs) (m g a : Nat) (ns : List Sn) (x : Nat) : UU sub t m (g + 1) a ns x = if t.getD (FU t a) 0 = T2 m then KS (sub (FU t a + 1) ns) fun a' ns' y => UU sub t m g a' (ns' ++ [⟨WX m, [], x, y⟩]) ns'.length else some (FU t a, ns, x) := rfl
theorem Z3 {sub : Nat → List Sn → PR} {t : Bs} {m g a : Nat} {ns : List Sn} {x : Nat} {z : Nat × List Sn × Nat} (h : UU sub t m g a ns x = some z) : ∃ g', g = g' + 1 := by
  match g, h with
  | g + 1, _ => exact ⟨g, rfl⟩
theorem Ip {p : Prop} (h : p := by (repeat' apply And.intro) <;> (first | (simp only [List.length_append, List.length_singleton]; exact Au) | exact Au)) : p := h
theorem VA (fu : Nat) (kq : A5 Tryz.prog 42 (Spec.gen (GI fu))) (ku : A5 Tryz.prog 63 (Spec.gen (J0 fu))) : A5 Tryz.prog 42 (Spec.gen (GI (fu + 1))) := by
 refine Bm ((Ha fu kq ku).at_ 53) Tryz.func42 rfl rfl rfl ?_
 intro args bl p r bf hg hp
 unfold GI at hg
 split at hg
 rename_i l ty t a n vt sz xs
 simp only [Option.some.injEq, Prod.mk.injEq] at hg
 obtain ⟨rfl, rfl, rfl⟩ := hg
 obtain ⟨hl0, hl2, hpr, hsm⟩ := hp
 obtain ⟨m, rfl⟩ := Int.eq_ofNat_of_zero_le hl0
 have hm1 : ((m : Int) + 1).toNat = m + 1 := by omega
 obtain ⟨rfl, rfl, rfl, he, rfl, ha0, hal, htl, hqa⟩ := hpr
 generalize C8 xs = q at *
 subst he
 obtain ⟨a, rfl⟩ := Int.eq_ofNat_of_zero_le ha0
 simp only [Int.toNat_natCast] at *
 have hal : a ≤ t.length := by omega
 have hqa : q.length ≤ a := by omega
 obtain ⟨k1, k2⟩ := FF hal
 have hps := EY hqa hal htl
 have hT : ((Ha fu kq ku)).X = T := rfl
 have hx0 := And.intro @Ci (And.intro @Ch (And.intro @Int.toNat_natCast (And.intro @TN.eq_1 (And.intro @AL (And.intro @BL (And.intro @Xv (And.intro @Ry @Tryz.results42)))))))
 have hx := hx0
 refine ⟨Nat.le_of_ble_eq_true rfl, ?_⟩
 intro F W0 M0 hnp hmk
 have hnp : Bl.np = 2 := hnp
 refine Aa fun N1 h1 => Ac ?_
 refine Az ?_
 refine Ad ?_
 refine Ab (h1 _ (Aa fun N2 h2 => ?_)); clear h1
 refine Aa fun N3 h3 => Ac ?_
 refine Ad ?_
 refine Ao ?_
 refine Ab (h3 _ (Ak (fun hb4 => ?_) (fun hb4 => ?_))); clear h3
 obtain rfl : m = 2 := by have := hb4; (try simp at this); omega
 rw [ZF] at hsm ⊢
 obtain ⟨a1, n1, x, hR⟩ := VT hsm
 rw [hR]
 have hx := And.intro @hR hx0
 refine Aa fun N5 h5 => Ac ?_
 refine Ad ?_
 have hc := Ag (E := ((Ha fu kq ku).at_ 53)) (f := 63) (sp := Spec.gen (J0 fu)) rfl
 have hs := @J0.eq_1
 refine BM (hq := by (first | (refine ⟨hps, ?_⟩; first | rfl | (rw [hR]; rfl) | (simp only [AL, Int.toNat_natCast, hR]; rfl)) | exact AQ)) ?_
 refine Ad ?_
 have hx := hx0
 refine Ab (h5 _ (Am ?_)); clear h5
 try simp only [Ae]
 refine Aj ?_
 refine ⟨[some 0, some 1, some 2], by rfl, ?_, ?_⟩
 refine Aj ?_
 exact Au
 refine Aj ?_
 exact Au
 have hm2 : m < 2 := by have := hb4; (try simp at this); omega
 rw [ZE t fu m a q hm2] at hsm ⊢
 obtain ⟨a0, n0, x0, hR⟩ := Mn hsm
 rw [hR, Mo] at hsm ⊢
 obtain ⟨aF, nF, xF, hF⟩ := VT hsm
 have hall : GW t (fu + 1) m a q = some (aF, nF, xF) := by rw [ZE t fu m a q hm2, hR, Mo, hF]
 obtain ⟨⟨f1, f2, f3⟩, f4⟩ := FE t fu (m + 1) a q hal a0 n0 x0 hR
 have hsc := VM hm2
 refine An ?_
 try simp only [Ae]
 refine h2 _ (Aa fun N6 h6 => Ac ?_); clear h2
 iterate 2 refine Ad ?_
 refine Ab (h6 _ ?_); clear h6
 refine F0 (σ := Unit) (fun s => (fun u => True) s)
  (fun s => (fun u => [(0, .ptr 0 0 0), (1, .d (.int .i64 (m : Nat))), (5, .d (.int .u8 ((T2 m).toNat : Int))), (6, .d (.int .i64 (WX m)))]) s)
  (fun s => (fun u => [some (.one 75 [.d (.str t), .d (.int .i64 (a : Nat)), .sl 1 0 q.length]), some (.vec 55 4 (rows Ec q))]) s) hnp ?_ ?_
 rintro u hinv
 dsimp only at hinv ⊢
 have hx := And.intro @hm1 (And.intro @hR hx0)
 refine Aa fun N8 h8 => Ac ?_
 refine Az ?_
 iterate 2 refine Ad ?_
 refine Ao ?_
 have hc := Ag (E := ((Ha fu kq ku).at_ 53)) (f := 42) (sp := Spec.gen (GI fu)) rfl
 have hs := @GI.eq_1
 refine BM (hq := by (first | (refine ⟨by omega, by omega, hps, ?_⟩; first | rfl | (rw [hR]; rfl) | (simp only [AL, Int.toNat_natCast, hm1, hR]; rfl)) | exact AQ)) ?_
 refine Ad ?_
 have hx := hx0
 refine Ab (h8 _ (Aa fun N9 h9 => As ?_)); clear h8
 refine A3 (σ := Nat × List Sn × Nat × Nat) (fun s => (fun a1 n1 x g => UU (GW t fu (m + 1)) t m g a1 n1 x = some (aF, nF, xF) ∧ a1 ≤ t.length ∧ n1.length ≤ a1) (s.1) (s.2.1) (s.2.2.1) (s.2.2.2))
  (fun s => (fun a1 n1 x g => [(0, .ptr 0 0 0), (1, .d (.int .i64 (m : Nat))), (5, .d (.int .u8 ((T2 m).toNat : Int))), (6, .d (.int .i64 (WX m))), (7, .d (.int .i64 (x : Nat)))]) (s.1) (s.2.1) (s.2.2.1) (s.2.2.2))
  (fun s => (fun a1 n1 x g => [some (.one 75 [.d (.str t), .d (.int .i64 (a1 : Nat)), .sl 2 0 n1.length]), none, some (.vec 55 4 (rows Ec n1))]) (s.1) (s.2.1) (s.2.2.1) (s.2.2.2)) (fun s => (fun a1 n1 x g => g) (s.1) (s.2.1) (s.2.2.1) (s.2.2.2)) hnp (a0, n0, x0, t.length + 1) ?_ [some 0, some 1, some 2] ?_ ?_
 dsimp only
 exact ⟨hF, f2, by omega⟩
 dsimp only
 refine ⟨by rfl, ?_, ?_⟩
 refine Aj ?_
 exact Au
 refine Aj ?_
 exact Au
 rintro ⟨a1, n1, x, g⟩ hinv N10 h10
 dsimp only at hinv ⊢
 obtain ⟨hI, i2, i3⟩ := hinv
 obtain ⟨g', rfl⟩ := Z3 hI
 rw [Z4] at hI
 have hps2 := EY (t := t) (m := a1) (q := n1) i3 i2 htl
 obtain ⟨k3, k4⟩ := FF i2
 generalize hB1 : FU t a1 = B1 at *
 generalize hC1 : t.getD B1 0 = C1 at *
 refine Aa fun N11 h11 => Aa fun N12 h12 => ?_
 by_cases hgo : C1 = T2 m
 rw [if_pos hgo] at hI
 have hB1l := (E4 (hC1.trans hgo) (VN m)).1
 have g1 : ((C1.toNat : Int) = ((T2 m).toNat : Int)) = True := eq_true (by rw [hgo])
 have g2 : ((B1 : Int) < (t.length : Int)) = True := eq_true (by omega)
 obtain ⟨a2, n2, y, hR2, hI2⟩ := G1 hI
 obtain ⟨⟨e1, e2, e3⟩, e4⟩ := FE t fu (m + 1) (B1 + 1) n1 (by omega) a2 n2 y hR2
 have hb1 : ((B1 : Int) + 1).toNat = B1 + 1 := by omega
 have hx := And.intro @hB1 (And.intro @hC1 (And.intro @g1 (And.intro @g2 hx0)))
 refine JF [] [0, 2, 1, 3, 4, 5, 6, 7, 8, 9, 10, 11, 12, 13, 14, 15] ER (by kernel_rfl) ?_
 simp only [Ah, Af]
 refine Az ?_
 iterate 2 refine Ad ?_
 have hc := Ag (E := ((Ha fu kq ku).at_ 53)) (f := 64) (sp := Spec.gen K0) rfl
 have hs := @K0.eq_1
 refine BM (hq := by (first | (exact hps2) | exact AQ)) ?_
 refine Ao ?_
 refine Ad ?_
 refine C3 ?_
 refine XB ?_
 refine CQ ?_
 refine C9 ?_
 refine C3 ?_
 refine XB ?_
 refine CQ ?_
 refine C9 ?_
 refine J2 ?_
 refine DO ?_
 refine AH ?_
 have hx := hx0
 refine Ab (h12 _ (Ak (fun hb13 => ?_) (fun hb13 => ?_))); clear h12
 refine An ?_
 try simp only [Ae]
 refine h11 _ (As ?_); clear h11
 refine Aa fun N14 h14 => Ac ?_
 refine Ad ?_
 refine BB ?_
 refine Ar ?_
 refine Aq ?_
 refine Ao ?_
 refine BB ?_
 refine Ar ?_
 refine A4 ?_
 have hx := And.intro @hm1 (And.intro @hb1 (And.intro @hR2 hx0))
 refine Ab (h14 _ (Aa fun N15 h15 => Ac ?_)); clear h14
 iterate 2 refine Ad ?_
 refine Ao ?_
 have hc := Ag (E := ((Ha fu kq ku).at_ 53)) (f := 42) (sp := Spec.gen (GI fu)) rfl
 have hs := @GI.eq_1
 refine BM (hq := by (first | (refine ⟨by omega, by omega, Qo (by omega) (by omega) htl, ?_⟩; first | rfl | (rw [hR2]; rfl) | (simp only [AL, Int.toNat_natCast, hm1, hb1, hR2]; rfl)) | exact AQ)) ?_
 refine Ad ?_
 have hx := hx0
 refine Ab (h15 _ (Ac ?_)); clear h15
 iterate 4 refine Ad (hq := AN) ?_
 refine BD (hq := AN) ?_
 have hc := Ag (E := ((Ha fu kq ku).at_ 53)) (f := 65) (sp := Spec.gen JW) rfl
 have hs := @JW.eq_1
 refine BM (hq := AN) ?_
 refine Ad (hq := AN) ?_
 refine Ab ?_
 refine h10 _ ⟨(a2, n2 ++ [⟨WX m, [], x, y⟩], n2.length, g'), ?_, ?_, [some 0, some 1, some 4], ?_⟩
 dsimp only
 exact ⟨hI2, e2, by rw [List.length_append, List.length_singleton]; omega⟩
 dsimp only
 omega
 dsimp only
 refine ⟨by rfl, ?_, ?_⟩
 refine Aj ?_
 exact Ip
 refine Aj ?_
 exact Ip
 exact CJ hb13
 rw [if_neg hgo] at hI
 have g1 : ((C1.toNat : Int) = ((T2 m).toNat : Int)) = False := eq_false fun h => hgo (ZR h)
 have g2 := True.intro
 have hR2 := g2
 have hb1 := g2
 have hx := And.intro @hB1 (And.intro @hC1 (And.intro @g1 (And.intro @g2 hx0)))
 refine JF [] [0, 2, 1, 3, 4, 5, 6, 7, 8, 9, 10, 11, 12, 13, 14, 15] ER (by kernel_rfl) ?_
 simp only [Ah, Af]
 refine Az ?_
 iterate 2 refine Ad ?_
 have hc := Ag (E := ((Ha fu kq ku).at_ 53)) (f := 64) (sp := Spec.gen K0) rfl
 have hs := @K0.eq_1
 refine BM (hq := by (first | (exact hps2) | exact AQ)) ?_
 refine Ao ?_
 refine Ad ?_
 refine At Bb ?_
 refine At Bb ?_
 refine At Bb ?_
 refine At Bb ?_
 refine At Bb ?_
 refine At Bb ?_
 refine At Bb ?_
 refine At Bb ?_
 refine At Bb ?_
 refine At Bb ?_
 refine AH ?_
 have hx := hx0
 refine Ab (h12 _ (Ak (fun hb16 => ?_) (fun hb16 => ?_))); clear h12
 exact CJ hb16
 obtain ⟨rfl, rfl, rfl⟩ : B1 = aF ∧ n1 = nF ∧ x = xF := by simpa using hI
 refine AJ ?_
 simp only [Ae, Nat.reduceEqDiff, reduceIte, eq_self]
 refine h9 _ (Aa fun N17 h17 => Ac ?_); clear h9
 iterate 2 refine Ad ?_
 refine Ab (h17 _ (Am ?_)); clear h17
 try simp only [Ae]
 rw [hall]
 refine Aj ?_
 refine ⟨[some 0, some 1, some 2], by rfl, ?_, ?_⟩
 refine Aj ?_
 exact Au
 refine Aj ?_
 exact Au
 intro N7 h7
 refine Aa fun N18 h18 => Ac ?_
 refine Ad ?_
 refine Ao ?_
 refine Ab (h18 _ (Ak (fun hb19 => ?_) (fun hb19 => ?_))); clear h18
 refine Ac ?_
 iterate 2 refine Ad ?_
 refine Ab ?_
 obtain ⟨rfl, e1, e2⟩ : m = 1 ∧ T2 m = 38 ∧ WX m = 2 := hsc.resolve_right fun h => by have := hb19; (try simp at this); omega
 refine h7 _ ⟨(), trivial, [some 0, some 1], ?_⟩
 dsimp only
 refine ⟨by rfl, ?_, ?_⟩
 refine Aj ?_
 ·(repeat' apply And.intro) <;> (first | (first | rfl | (rw [e1]; exact Or.inl rfl) | (rw [e2]; exact Or.inl rfl) | exact Au) | exact Au)
 refine Aj ?_
 ·(repeat' apply And.intro) <;> (first | (first | rfl | (rw [e1]; exact Or.inl rfl) | (rw [e2]; exact Or.inl rfl) | exact Au) | exact Au)
 refine An ?_
 try simp only [Ae]
 obtain ⟨rfl, e1, e2⟩ : m = 0 ∧ T2 m = 124 ∧ WX m = 3 := hsc.resolve_left fun h => by have := hb19; (try simp at this); omega
 refine h7 _ ⟨(), trivial, [some 0, some 1], ?_⟩
 dsimp only
 refine ⟨by rfl, ?_, ?_⟩
 refine Aj ?_
 ·(repeat' apply And.intro) <;> (first | (first | rfl | (rw [e1]; exact Or.inl rfl) | (rw [e2]; exact Or.inl rfl) | exact Au) | exact Au)
 refine Aj ?_
 ·(repeat' apply And.intro) <;> (first | (first | rfl | (rw [e1]; exact Or.inl rfl) | (rw [e2]; exact Or.inl rfl) | exact Au) | exact Au)
 cases hg
