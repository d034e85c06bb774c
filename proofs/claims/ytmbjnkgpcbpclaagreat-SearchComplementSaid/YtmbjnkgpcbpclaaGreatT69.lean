/- Walks, printed by wip/gen/walk.py. -/
import Derived.Test.YtmbjnkgpcbpclaaGreatT68
import Derived.Test.YtmbjnkgpcbpclaaGreatV5
set_option linter.all false
set_option maxRecDepth 100000
set_option maxHeartbeats 4000000
namespace Go.Proofs.YtmbjnkgpcbpclaaGreat
open Go Go.Vc Go.RowKit
def Il (fu : Nat) : Dr
  | [.ptr 0 0 0], [some (.one ty [.d (.str t), .d (.int .i64 a), .sl 1 0 n]), some (.vec vt sz xs)] => some (Oc ty vt sz n t a xs ∧ (Gf t fu 3 a.toNat (C3 xs)).isSome = true, .d (.int .i64 (rX (Gf t fu 3 a.toNat (C3 xs)))), XC t (Gf t fu 3 a.toNat (C3 xs)))
  | _, _ => none
def FP (fu : Nat) : Dr
  | [.ptr 0 0 0, .d (.int .i64 l)], [some (.one ty [.d (.str t), .d (.int .i64 a), .sl 1 0 n]), some (.vec vt sz xs)] => some (0 ≤ l ∧ l ≤ 2 ∧ Oc ty vt sz n t a xs ∧ (Gf t fu l.toNat a.toNat (C3 xs)).isSome = true, .d (.int .i64 (rX (Gf t fu l.toNat a.toNat (C3 xs)))), XC t (Gf t fu l.toNat a.toNat (C3 xs)))
  | _, _ => none
def Gj (n : Nat) (kq : A5 Tryz.prog 42 (Spec.gen (FP n))) (ku : A5 Tryz.prog 63 (Spec.gen (Il n))) : Bo Tryz.prog :=
  (Vp.add 42 (Spec.gen (FP n)) kq (by kernel_rfl)).add 63 (Spec.gen (Il n)) ku (by kernel_rfl)
theorem Xx (t : Bs) (f a : Nat) (ns : List Sn) : Gf t (f + 1) 3 a ns = X8 (Gf t f 3) (Gf t f 0) t a ns := by rw [Gf]; exact if_pos rfl
theorem Xw (t : Bs) (f a : Nat) (ns : List Sn) : Gf t (f + 1) 2 a ns = Gf t f 3 a ns := by rw [Gf]; rfl
theorem Xv (t : Bs) (f m a : Nat) (ns : List Sn) (h : m < 2) : Gf t (f + 1) m a ns = J5 (Gf t f (m + 1) a ns) fun a' ns' x => Sw (Gf t f (m + 1)) t m (t.length + 1) a' ns' x := by
  rw [Gf]; rw [if_neg (by omega), if_neg (by omega)]
theorem KM (a : Nat) (ns : List Sn) (x : Nat) (k : Nat → List Sn → Nat → PR) : J5 (some (a, ns, x)) k = k a ns x := rfl
theorem KL {r : PR} {k : Nat → List Sn → Nat → PR} (h : (J5 r k).isSome = true) : ∃ a ns x, r = some (a, ns, x) := by
  match r, h with
  | some (a, ns, x), _ => exact ⟨a, ns, x, rfl⟩
theorem Od {t : Bs} {m : Nat} {q : List Sn} (h1 : q.length ≤ m + 1) (h2 : m + 1 ≤ t.length) (h3 : t.length ≤ 1000) : Oc 75 55 4 q.length t ((m : Int) + 1) (rows DL q) := Em (m := m + 1) h1 h2 h3
theorem X6 {c d : UInt8} (h : (c.toNat : Int) = (d.toNat : Int)) : c = d := UInt8.toNat_inj.1 (by omega)

theorem TE (fu : Nat) (kq : A5 Tryz.prog 42 (Spec.gen (FP fu))) (ku : A5 Tryz.prog 63 (Spec.gen (Il fu))) : A5 Tryz.prog 63 (Spec.gen (Il (fu + 1))) := by
 refine Bt ((Gj fu kq ku).at_ 60) Tryz.func63 rfl rfl rfl ?_
 intro args bl p r bf hg hp
 unfold Il at hg
 split at hg
 rename_i ty t a n vt sz xs
 simp only [Option.some.injEq, Prod.mk.injEq] at hg
 obtain ⟨rfl, rfl, rfl⟩ := hg
 obtain ⟨hpr, hsm⟩ := hp
 obtain ⟨rfl, rfl, rfl, he, rfl, ha0, hal, htl, hqa⟩ := hpr
 generalize C3 xs = q at *
 subst he
 obtain ⟨a, rfl⟩ := Int.eq_ofNat_of_zero_le ha0
 simp only [Int.toNat_natCast] at *
 have hal : a ≤ t.length := by omega
 have hqa : q.length ≤ a := by omega
 obtain ⟨k1, k2⟩ := EH hal
 have hps := Em hqa hal htl
 rw [Xx] at hsm ⊢
 unfold X8 at hsm ⊢
 generalize hB : EY t a = B at *
 generalize hC : t.getD B 0 = C at *
 have hb1 : ((B : Int) + 1).toNat = B + 1 := by omega
 have hT : ((Gj fu kq ku)).X = T := rfl
 have hx0 := And.intro @Cu (And.intro @Ct (And.intro @Int.toNat_natCast (And.intro @Re.eq_1 (And.intro @AX (And.intro @A0 (And.intro @UO (And.intro @Pb @Tryz.results63)))))))
 have hx := hx0
 refine ⟨Nat.le_of_ble_eq_true rfl, ?_⟩
 intro F W0 M0 hnp hmk
 have hnp : AU.np = 2 := hnp
 refine Aa fun N1 h1 => ?_
 refine Ad ?_
 try refine Ac ?_
 refine Ae ?_
 refine Ab ?_
 refine h1 _ ?_; clear h1
 refine Aa fun N2 h2 => ?_
 refine Aa fun N3 h3 => ?_
 have hx := And.intro @hB (And.intro @hC hx0)
 refine Ad ?_
 try refine Ac ?_
 refine Ae ?_
 have hc := Ah (E := ((Gj fu kq ku).at_ 60)) (f := 64) (sp := Spec.gen Jg) rfl
 have hs := @Jg.eq_1
 refine BD (hq := by (first | (exact hps) | exact Ay)) ?_
 refine Ab ?_
 have hx := hx0
 refine h3 _ ?_; clear h3
 refine Aw ?_
 refine Aa fun N4 h4 => ?_
 refine Ad ?_
 try refine Ac ?_
 refine Am ?_
 refine Ae ?_
 refine Ab ?_
 refine h4 _ ?_; clear h4
 refine Al (fun hb5 => ?_) (fun hb5 => ?_)
 have h33 : C = 33 := by have := hb5; first | exact UInt8.toNat_inj.1 (show C.toNat = 33 by (try simp at this); omega) | (simpa using this)
 subst h33
 have hBl := (DM hC (by decide)).1
 rw [if_pos rfl] at hsm ⊢
 obtain ⟨a1, n1, x, hR⟩ := KL hsm
 rw [hR, KM]
 obtain ⟨⟨f1, f2, f3⟩, f4⟩ := EG t fu 3 (B + 1) q (by omega) a1 n1 x hR
 refine Aa fun N6 h6 => ?_
 refine Ad ?_
 try refine Ac ?_
 refine Ae ?_
 refine Bn ?_
 refine Au ?_
 refine Ar ?_
 refine Am ?_
 refine Bn ?_
 refine Au ?_
 refine A8 ?_
 refine Ab ?_
 refine h6 _ ?_; clear h6
 refine Aa fun N7 h7 => ?_
 have hx := And.intro @hb1 (And.intro @hR hx0)
 refine Ad ?_
 try refine Ac ?_
 refine Ae ?_
 have hc := Ah (E := ((Gj fu kq ku).at_ 60)) (f := 63) (sp := Spec.gen (Il fu)) rfl
 have hs := @Il.eq_1
 refine BD (hq := by (first | (refine ⟨Od (by omega) (by omega) htl, ?_⟩; first | rfl | (rw [hR]; rfl) | (simp only [AX, Int.toNat_natCast, hb1, hR]; rfl)) | exact Ay)) ?_
 refine Ae ?_
 refine Ab ?_
 have hx := hx0
 refine h7 _ ?_; clear h7
 refine Aa fun N8 h8 => ?_
 refine Ad ?_
 try refine Ac ?_
 iterate 2 refine Ae (hq := by exact AW) ?_
 refine BC (hq := by exact AW) ?_
 have hc := Ah (E := ((Gj fu kq ku).at_ 60)) (f := 65) (sp := Spec.gen IC) rfl
 have hs := @IC.eq_1
 refine BD (hq := by exact AW) ?_
 refine Ae (hq := by exact AW) ?_
 refine Ab ?_
 refine h8 _ ?_; clear h8
 refine Ao ?_
 try simp only [Af]
 refine Aj ?_
 refine ⟨[some 0, some 1, some 3], by rfl, ?_, ?_⟩
 refine Aj ?_
 exact At
 refine Aj ?_
 exact At
 have h33 : C ≠ 33 := by intro h; have := hb5; rw [h] at this; simp at this
 rw [if_neg h33] at hsm ⊢
 refine Aa fun N9 h9 => ?_
 refine Ad ?_
 try refine Ac ?_
 refine Am ?_
 refine Ae ?_
 refine Ab ?_
 refine h9 _ ?_; clear h9
 refine Al (fun hb10 => ?_) (fun hb10 => ?_)
 have h40 : C = 40 := by have := hb10; first | exact UInt8.toNat_inj.1 (show C.toNat = 40 by (try simp at this); omega) | (simpa using this)
 subst h40
 have hBl := (DM hC (by decide)).1
 rw [if_pos rfl] at hsm ⊢
 obtain ⟨a1, n1, x, hR⟩ := KL hsm
 rw [hR, KM] at hsm ⊢
 obtain ⟨⟨f1, f2, f3⟩, f4⟩ := EG t fu 0 (B + 1) q (by omega) a1 n1 x hR
 obtain ⟨k3, k4⟩ := EH f2
 have hps2 := Em (t := t) (m := a1) (q := n1) (by omega) f2 htl
 generalize hB1 : EY t a1 = B1 at *
 generalize hC1 : t.getD B1 0 = C1 at *
 have h41 : C1 = 41 := by
  by_cases h : C1 = 41
  ·exact h
  ·rw [if_neg h] at hsm; cases hsm
 subst h41
 rw [if_pos rfl]
 have hB1l := (DM hC1 (by decide)).1
 refine Aa fun N11 h11 => ?_
 refine Ad ?_
 try refine Ac ?_
 refine Ae ?_
 refine Bn ?_
 refine Au ?_
 refine Ar ?_
 refine Am ?_
 refine Bn ?_
 refine Au ?_
 refine A8 ?_
 refine Ab ?_
 refine h11 _ ?_; clear h11
 refine Aa fun N12 h12 => ?_
 have hx := And.intro @hb1 (And.intro @hR hx0)
 refine Ad ?_
 try refine Ac ?_
 refine Ae ?_
 have hc := Ah (E := ((Gj fu kq ku).at_ 60)) (f := 42) (sp := Spec.gen (FP fu)) rfl
 have hs := @FP.eq_1
 refine BD (hq := by (first | (refine ⟨by decide, by decide, Od (by omega) (by omega) htl, ?_⟩; first | rfl | (rw [hR]; rfl) | (simp only [AX, Int.toNat_natCast, Int.toNat_zero, hb1, hR]; rfl)) | exact Ay)) ?_
 refine Ae ?_
 refine Ab ?_
 have hx := hx0
 refine h12 _ ?_; clear h12
 refine Aa fun N13 h13 => ?_
 refine Aa fun N14 h14 => ?_
 have hx := And.intro @hB1 (And.intro @hC1 hx0)
 refine Ad ?_
 try refine Ac ?_
 refine Ae ?_
 have hc := Ah (E := ((Gj fu kq ku).at_ 60)) (f := 64) (sp := Spec.gen Jg) rfl
 have hs := @Jg.eq_1
 refine BD (hq := by (first | (exact hps2) | exact Ay)) ?_
 refine Am ?_
 refine Ab ?_
 have hx := hx0
 refine h14 _ ?_; clear h14
 refine Al (fun hb15 => ?_) (fun hb15 => ?_)
 have h := hb15; simp at h
 refine An ?_
 try simp only [Af]
 refine h13 _ ?_; clear h13
 refine Aa fun N16 h16 => ?_
 refine Ad ?_
 try refine Ac ?_
 refine Ae ?_
 refine Bn ?_
 refine Au ?_
 refine Ar ?_
 refine Am ?_
 refine Bn ?_
 refine Au ?_
 refine A8 ?_
 refine Ab ?_
 refine h16 _ ?_; clear h16
 refine Aa fun N17 h17 => ?_
 refine Ad ?_
 try refine Ac ?_
 iterate 2 refine Ae ?_
 refine Ab ?_
 refine h17 _ ?_; clear h17
 refine Ao ?_
 try simp only [Af]
 refine Aj ?_
 refine ⟨[some 0, some 1, some 2], by rfl, ?_, ?_⟩
 refine Aj ?_
 exact At
 refine Aj ?_
 exact At
 have h40 : C ≠ 40 := by intro h; have := hb10; rw [h] at this; simp at this
 rw [if_neg h40] at hsm ⊢
 refine Aa fun N18 h18 => ?_
 refine Ad ?_
 try refine Ac ?_
 refine Am ?_
 refine Ae ?_
 refine Ab ?_
 refine h18 _ ?_; clear h18
 refine Al (fun hb19 => ?_) (fun hb19 => ?_)
 have h34 : C = 34 := by have := hb19; first | exact UInt8.toNat_inj.1 (show C.toNat = 34 by (try simp at this); omega) | (simpa using this)
 subst h34
 have hBl := (DM hC (by decide)).1
 rw [if_pos rfl] at hsm ⊢
 obtain ⟨a1, n1, x, hR⟩ := Tv hsm
 rw [hR]
 refine Aa fun N20 h20 => ?_
 have hx := And.intro @hR hx0
 refine Ad ?_
 try refine Ac ?_
 refine Ae ?_
 have hc := Ah (E := ((Gj fu kq ku).at_ 60)) (f := 82) (sp := Spec.gen Te) rfl
 have hs := @Te.eq_1
 refine BD (hq := by (first | (refine ⟨Em (by omega) k2 htl, by omega, ?_⟩; first | rfl | (rw [hR]; rfl) | (simp only [AX, Int.toNat_natCast, hR]; rfl)) | exact Ay)) ?_
 refine Ae ?_
 refine Ab ?_
 have hx := hx0
 refine h20 _ ?_; clear h20
 refine Ao ?_
 try simp only [Af]
 refine Aj ?_
 refine ⟨[some 0, some 1, some 2], by rfl, ?_, ?_⟩
 refine Aj ?_
 exact At
 refine Aj ?_
 exact At
 exfalso
 have h34 : C ≠ 34 := by intro h; have := hb19; rw [h] at this; simp at this
 rw [if_neg h34] at hsm
 cases hsm
 cases hg

theorem To {m : Nat} (h : m < 2) : (m = 1 ∧ QI m = 38 ∧ U1 m = 2) ∨ (m = 0 ∧ QI m = 124 ∧ U1 m = 3) := by
  match m, h with
  | 0, _ => exact .inr ⟨rfl, rfl, rfl⟩
  | 1, _ => exact .inl ⟨rfl, rfl, rfl⟩
theorem Xg (sub : Nat → List Sn → PR) (t : Bs) (m g a : Nat) (ns : List Sn) (x : Nat) : Sw sub t m (g + 1) a ns x = if t.getD (EY t a) 0 = QI m then J5 (sub (EY t a + 1) ns) fun a' ns' y => Sw sub t m g a' (ns' ++ [⟨U1 m, [], x, y⟩]) ns'.length else some (EY t a, ns, x) := rfl
theorem Xf {sub : Nat → List Sn → PR} {t : Bs} {m g a : Nat} {ns : List Sn} {x : Nat} {z : Nat × List Sn × Nat} (h : Sw sub t m g a ns x = some z) : ∃ g', g = g' + 1 := by
  match g, h with
  | g + 1, _ => exact ⟨g, rfl⟩

theorem Td (fu : Nat) (kq : A5 Tryz.prog 42 (Spec.gen (FP fu))) (ku : A5 Tryz.prog 63 (Spec.gen (Il fu))) : A5 Tryz.prog 42 (Spec.gen (FP (fu + 1))) := by
 refine Bt ((Gj fu kq ku).at_ 53) Tryz.func42 rfl rfl rfl ?_
 intro args bl p r bf hg hp
 unfold FP at hg
 split at hg
 rename_i l ty t a n vt sz xs
 simp only [Option.some.injEq, Prod.mk.injEq] at hg
 obtain ⟨rfl, rfl, rfl⟩ := hg
 obtain ⟨hl0, hl2, hpr, hsm⟩ := hp
 obtain ⟨m, rfl⟩ := Int.eq_ofNat_of_zero_le hl0
 have hm1 : ((m : Int) + 1).toNat = m + 1 := by omega
 obtain ⟨rfl, rfl, rfl, he, rfl, ha0, hal, htl, hqa⟩ := hpr
 generalize C3 xs = q at *
 subst he
 obtain ⟨a, rfl⟩ := Int.eq_ofNat_of_zero_le ha0
 simp only [Int.toNat_natCast] at *
 have hal : a ≤ t.length := by omega
 have hqa : q.length ≤ a := by omega
 obtain ⟨k1, k2⟩ := EH hal
 have hps := Em hqa hal htl
 have hT : ((Gj fu kq ku)).X = T := rfl
 have hx0 := And.intro @Cu (And.intro @Ct (And.intro @Int.toNat_natCast (And.intro @Re.eq_1 (And.intro @AX (And.intro @A0 (And.intro @UO (And.intro @Pb @Tryz.results42)))))))
 have hx := hx0
 refine ⟨Nat.le_of_ble_eq_true rfl, ?_⟩
 intro F W0 M0 hnp hmk
 have hnp : AU.np = 2 := hnp
 refine Aa fun N1 h1 => ?_
 refine Ad ?_
 try refine Ac ?_
 refine Ae ?_
 refine Ab ?_
 refine h1 _ ?_; clear h1
 refine Aa fun N2 h2 => ?_
 refine Aa fun N3 h3 => ?_
 refine Ad ?_
 try refine Ac ?_
 refine Ae ?_
 refine Am ?_
 refine Ab ?_
 refine h3 _ ?_; clear h3
 refine Al (fun hb4 => ?_) (fun hb4 => ?_)
 obtain rfl : m = 2 := by have := hb4; (try simp at this); omega
 rw [Xw] at hsm ⊢
 obtain ⟨a1, n1, x, hR⟩ := Tv hsm
 rw [hR]
 refine Aa fun N5 h5 => ?_
 have hx := And.intro @hR hx0
 refine Ad ?_
 try refine Ac ?_
 refine Ae ?_
 have hc := Ah (E := ((Gj fu kq ku).at_ 53)) (f := 63) (sp := Spec.gen (Il fu)) rfl
 have hs := @Il.eq_1
 refine BD (hq := by (first | (refine ⟨hps, ?_⟩; first | rfl | (rw [hR]; rfl) | (simp only [AX, Int.toNat_natCast, hR]; rfl)) | exact Ay)) ?_
 refine Ae ?_
 refine Ab ?_
 have hx := hx0
 refine h5 _ ?_; clear h5
 refine Ao ?_
 try simp only [Af]
 refine Aj ?_
 refine ⟨[some 0, some 1, some 2], by rfl, ?_, ?_⟩
 refine Aj ?_
 exact At
 refine Aj ?_
 exact At
 have hm2 : m < 2 := by have := hb4; (try simp at this); omega
 rw [Xv t fu m a q hm2] at hsm ⊢
 obtain ⟨a0, n0, x0, hR⟩ := KL hsm
 rw [hR, KM] at hsm ⊢
 obtain ⟨aF, nF, xF, hF⟩ := Tv hsm
 have hall : Gf t (fu + 1) m a q = some (aF, nF, xF) := by rw [Xv t fu m a q hm2, hR, KM, hF]
 obtain ⟨⟨f1, f2, f3⟩, f4⟩ := EG t fu (m + 1) a q hal a0 n0 x0 hR
 have hsc := To hm2
 refine An ?_
 try simp only [Af]
 refine h2 _ ?_; clear h2
 refine Aa fun N6 h6 => ?_
 refine Ad ?_
 try refine Ac ?_
 iterate 2 refine Ae ?_
 refine Ab ?_
 refine h6 _ ?_; clear h6
 refine FV (σ := Unit) (fun s => (fun u => True) s)
  (fun s => (fun u => [(0, .ptr 0 0 0), (1, .d (.int .i64 (m : Nat))), (5, .d (.int .u8 ((QI m).toNat : Int))), (6, .d (.int .i64 (U1 m)))]) s)
  (fun s => (fun u => [some (.one 75 [.d (.str t), .d (.int .i64 (a : Nat)), .sl 1 0 q.length]), some (.vec 55 4 (rows DL q))]) s) hnp ?_ ?_
 rintro u hinv
 dsimp only at hinv ⊢
 refine Aa fun N8 h8 => ?_
 have hx := And.intro @hm1 (And.intro @hR hx0)
 refine Ad ?_
 try refine Ac ?_
 iterate 2 refine Ae ?_
 refine Am ?_
 have hc := Ah (E := ((Gj fu kq ku).at_ 53)) (f := 42) (sp := Spec.gen (FP fu)) rfl
 have hs := @FP.eq_1
 refine BD (hq := by (first | (refine ⟨by omega, by omega, hps, ?_⟩; first | rfl | (rw [hR]; rfl) | (simp only [AX, Int.toNat_natCast, hm1, hR]; rfl)) | exact Ay)) ?_
 refine Ae ?_
 refine Ab ?_
 have hx := hx0
 refine h8 _ ?_; clear h8
 refine Aa fun N9 h9 => ?_
 refine Aw ?_
 refine A9 (σ := Nat × List Sn × Nat × Nat) (fun s => (fun a1 n1 x g => Sw (Gf t fu (m + 1)) t m g a1 n1 x = some (aF, nF, xF) ∧ a1 ≤ t.length ∧ n1.length ≤ a1) (s.1) (s.2.1) (s.2.2.1) (s.2.2.2))
  (fun s => (fun a1 n1 x g => [(0, .ptr 0 0 0), (1, .d (.int .i64 (m : Nat))), (5, .d (.int .u8 ((QI m).toNat : Int))), (6, .d (.int .i64 (U1 m))), (7, .d (.int .i64 (x : Nat)))]) (s.1) (s.2.1) (s.2.2.1) (s.2.2.2))
  (fun s => (fun a1 n1 x g => [some (.one 75 [.d (.str t), .d (.int .i64 (a1 : Nat)), .sl 2 0 n1.length]), none, some (.vec 55 4 (rows DL n1))]) (s.1) (s.2.1) (s.2.2.1) (s.2.2.2)) (fun s => (fun a1 n1 x g => g) (s.1) (s.2.1) (s.2.2.1) (s.2.2.2)) hnp (a0, n0, x0, t.length + 1) ?_ [some 0, some 1, some 2] ?_ ?_
 dsimp only
 exact ⟨hF, f2, by omega⟩
 dsimp only
 refine ⟨by rfl, ?_, ?_⟩
 refine Aj ?_
 exact At
 refine Aj ?_
 exact At
 rintro ⟨a1, n1, x, g⟩ hinv N10 h10
 dsimp only at hinv ⊢
 obtain ⟨hI, i2, i3⟩ := hinv
 obtain ⟨g', rfl⟩ := Xf hI
 rw [Xg] at hI
 have hps2 := Em (t := t) (m := a1) (q := n1) i3 i2 htl
 obtain ⟨k3, k4⟩ := EH i2
 generalize hB1 : EY t a1 = B1 at *
 generalize hC1 : t.getD B1 0 = C1 at *
 refine Aa fun N11 h11 => ?_
 refine Aa fun N12 h12 => ?_
 by_cases hgo : C1 = QI m
 rw [if_pos hgo] at hI
 have hB1l := (DM (hC1.trans hgo) (Tp m)).1
 have g1 : ((C1.toNat : Int) = ((QI m).toNat : Int)) = True := eq_true (by rw [hgo])
 have g2 : ((B1 : Int) < (t.length : Int)) = True := eq_true (by omega)
 obtain ⟨a2, n2, y, hR2, hI2⟩ := F6 hI
 obtain ⟨⟨e1, e2, e3⟩, e4⟩ := EG t fu (m + 1) (B1 + 1) n1 (by omega) a2 n2 y hR2
 have hb1 : ((B1 : Int) + 1).toNat = B1 + 1 := by omega
 have hx := And.intro @hB1 (And.intro @hC1 (And.intro @g1 (And.intro @g2 hx0)))
 refine Iz [] [0, 2, 1, 3, 4, 5, 6, 7, 8, 9, 10, 11, 12, 13, 14, 15] Gm (by kernel_rfl) ?_
 simp only [Ak, Ai]
 try refine Ac ?_
 iterate 2 refine Ae ?_
 have hc := Ah (E := ((Gj fu kq ku).at_ 53)) (f := 64) (sp := Spec.gen Jg) rfl
 have hs := @Jg.eq_1
 refine BD (hq := by (first | (exact hps2) | exact Ay)) ?_
 refine Am ?_
 refine Ae ?_
 refine Cy ?_
 refine Vf ?_
 refine D7 ?_
 refine DJ ?_
 refine Cy ?_
 refine Vf ?_
 refine D7 ?_
 refine DJ ?_
 refine MV ?_
 refine Fz ?_
 refine AQ ?_
 refine Ab ?_
 have hx := hx0
 refine h12 _ ?_; clear h12
 refine Al (fun hb13 => ?_) (fun hb13 => ?_)
 refine An ?_
 try simp only [Af]
 refine h11 _ ?_; clear h11
 refine Aw ?_
 refine Aa fun N14 h14 => ?_
 refine Ad ?_
 try refine Ac ?_
 refine Ae ?_
 refine Bn ?_
 refine Au ?_
 refine Ar ?_
 refine Am ?_
 refine Bn ?_
 refine Au ?_
 refine A8 ?_
 refine Ab ?_
 refine h14 _ ?_; clear h14
 refine Aa fun N15 h15 => ?_
 have hx := And.intro @hm1 (And.intro @hb1 (And.intro @hR2 hx0))
 refine Ad ?_
 try refine Ac ?_
 iterate 2 refine Ae ?_
 refine Am ?_
 have hc := Ah (E := ((Gj fu kq ku).at_ 53)) (f := 42) (sp := Spec.gen (FP fu)) rfl
 have hs := @FP.eq_1
 refine BD (hq := by (first | (refine ⟨by omega, by omega, Od (by omega) (by omega) htl, ?_⟩; first | rfl | (rw [hR2]; rfl) | (simp only [AX, Int.toNat_natCast, hm1, hb1, hR2]; rfl)) | exact Ay)) ?_
 refine Ae ?_
 refine Ab ?_
 have hx := hx0
 refine h15 _ ?_; clear h15
 refine Ad ?_
 try refine Ac ?_
 iterate 4 refine Ae (hq := by exact AW) ?_
 refine BC (hq := by exact AW) ?_
 have hc := Ah (E := ((Gj fu kq ku).at_ 53)) (f := 65) (sp := Spec.gen IC) rfl
 have hs := @IC.eq_1
 refine BD (hq := by exact AW) ?_
 refine Ae (hq := by exact AW) ?_
 refine Ab ?_
 refine h10 _ ⟨(a2, n2 ++ [⟨U1 m, [], x, y⟩], n2.length, g'), ?_, ?_, [some 0, some 1, some 4], ?_⟩
 dsimp only
 exact ⟨hI2, e2, by rw [List.length_append, List.length_singleton]; omega⟩
 dsimp only
 omega
 dsimp only
 refine ⟨by rfl, ?_, ?_⟩
 refine Aj ?_
 ·(repeat' apply And.intro) <;> (first | (simp only [List.length_append, List.length_singleton]; exact At) | exact At)
 refine Aj ?_
 ·(repeat' apply And.intro) <;> (first | (simp only [List.length_append, List.length_singleton]; exact At) | exact At)
 ·first | omega | exact absurd trivial hb13 | contradiction | (simp_all; done)
 rw [if_neg hgo] at hI
 have g1 : ((C1.toNat : Int) = ((QI m).toNat : Int)) = False := eq_false fun h => hgo (X6 h)
 have g2 := True.intro
 have hR2 := g2
 have hb1 := g2
 have hx := And.intro @hB1 (And.intro @hC1 (And.intro @g1 (And.intro @g2 hx0)))
 refine Iz [] [0, 2, 1, 3, 4, 5, 6, 7, 8, 9, 10, 11, 12, 13, 14, 15] Gm (by kernel_rfl) ?_
 simp only [Ak, Ai]
 try refine Ac ?_
 iterate 2 refine Ae ?_
 have hc := Ah (E := ((Gj fu kq ku).at_ 53)) (f := 64) (sp := Spec.gen Jg) rfl
 have hs := @Jg.eq_1
 refine BD (hq := by (first | (exact hps2) | exact Ay)) ?_
 refine Am ?_
 refine Ae ?_
 refine Av ?_ ?_
 focus (exact Bl)
 refine Av ?_ ?_
 focus (exact Bl)
 refine Av ?_ ?_
 focus (exact Bl)
 refine Av ?_ ?_
 focus (exact Bl)
 refine Av ?_ ?_
 focus (exact Bl)
 refine Av ?_ ?_
 focus (exact Bl)
 refine Av ?_ ?_
 focus (exact Bl)
 refine Av ?_ ?_
 focus (exact Bl)
 refine Av ?_ ?_
 focus (exact Bl)
 refine Av ?_ ?_
 focus (exact Bl)
 refine AQ ?_
 refine Ab ?_
 have hx := hx0
 refine h12 _ ?_; clear h12
 refine Al (fun hb16 => ?_) (fun hb16 => ?_)
 ·first | omega | exact absurd trivial hb16 | contradiction | (simp_all; done)
 obtain ⟨rfl, rfl, rfl⟩ : B1 = aF ∧ n1 = nF ∧ x = xF := by simpa using hI
 refine Be ?_
 simp only [Af, Nat.reduceEqDiff, reduceIte, eq_self]
 refine h9 _ ?_; clear h9
 refine Aa fun N17 h17 => ?_
 refine Ad ?_
 try refine Ac ?_
 iterate 2 refine Ae ?_
 refine Ab ?_
 refine h17 _ ?_; clear h17
 refine Ao ?_
 try simp only [Af]
 rw [hall]
 refine Aj ?_
 refine ⟨[some 0, some 1, some 2], by rfl, ?_, ?_⟩
 refine Aj ?_
 exact At
 refine Aj ?_
 exact At
 intro N7 h7
 refine Aa fun N18 h18 => ?_
 refine Ad ?_
 try refine Ac ?_
 refine Ae ?_
 refine Am ?_
 refine Ab ?_
 refine h18 _ ?_; clear h18
 refine Al (fun hb19 => ?_) (fun hb19 => ?_)
 refine Ad ?_
 try refine Ac ?_
 iterate 2 refine Ae ?_
 refine Ab ?_
 obtain ⟨rfl, e1, e2⟩ : m = 1 ∧ QI m = 38 ∧ U1 m = 2 := hsc.resolve_right fun h => by have := hb19; (try simp at this); omega
 refine h7 _ ⟨(), trivial, [some 0, some 1], ?_⟩
 dsimp only
 refine ⟨by rfl, ?_, ?_⟩
 refine Aj ?_
 ·(repeat' apply And.intro) <;> (first | (first | rfl | (rw [e1]; exact Or.inl rfl) | (rw [e2]; exact Or.inl rfl) | exact At) | exact At)
 refine Aj ?_
 ·(repeat' apply And.intro) <;> (first | (first | rfl | (rw [e1]; exact Or.inl rfl) | (rw [e2]; exact Or.inl rfl) | exact At) | exact At)
 refine An ?_
 try simp only [Af]
 obtain ⟨rfl, e1, e2⟩ : m = 0 ∧ QI m = 124 ∧ U1 m = 3 := hsc.resolve_left fun h => by have := hb19; (try simp at this); omega
 refine h7 _ ⟨(), trivial, [some 0, some 1], ?_⟩
 dsimp only
 refine ⟨by rfl, ?_, ?_⟩
 refine Aj ?_
 ·(repeat' apply And.intro) <;> (first | (first | rfl | (rw [e1]; exact Or.inl rfl) | (rw [e2]; exact Or.inl rfl) | exact At) | exact At)
 refine Aj ?_
 ·(repeat' apply And.intro) <;> (first | (first | rfl | (rw [e1]; exact Or.inl rfl) | (rw [e2]; exact Or.inl rfl) | exact At) | exact At)
 cases hg
end Go.Proofs.YtmbjnkgpcbpclaaGreat
