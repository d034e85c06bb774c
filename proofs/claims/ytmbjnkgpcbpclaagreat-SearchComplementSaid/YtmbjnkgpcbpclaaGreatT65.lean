/- Walks, printed by wip/gen/walk.py. -/
import Derived.Test.YtmbjnkgpcbpclaaGreatT64
import Derived.Test.YtmbjnkgpcbpclaaGreatV5
set_option linter.all false
set_option maxRecDepth 100000
set_option maxHeartbeats 4000000
namespace Go.Proofs.YtmbjnkgpcbpclaaGreat
open Go Go.Vc Go.RowKit
def EL (n : Nat) (ks : A5 Tryz.prog 48 (Spec.pure (EX n))) : Bo Tryz.prog := Vo.add 48 (Spec.pure (EX n)) ks (by kernel_rfl)

theorem Tq (fu : Nat) (ks : A5 Tryz.prog 48 (Spec.pure (EX fu))) : A5 Tryz.prog 48 (Spec.pure (EX (fu + 1))) := by
 refine A7 ((EL fu ks).at_ 71) Tryz.func48 rfl rfl rfl ?_
 intro args p r hg hp
 unfold EX at hg
 split at hg
 rename_i xs i l
 simp only [Option.some.injEq, Prod.mk.injEq] at hg
 obtain ⟨rfl, rfl⟩ := hg
 obtain ⟨he, hok, hi0, hl0, hl2, hsm⟩ := hp
 generalize C3 xs = q at *
 subst he
 obtain ⟨i, rfl⟩ := Int.eq_ofNat_of_zero_le hi0
 obtain ⟨l, rfl⟩ := Int.eq_ofNat_of_zero_le hl0
 simp only [Int.toNat_natCast] at hsm ⊢
 obtain ⟨r, hr⟩ := Option.isSome_iff_exists.1 hsm
 rw [hr, KT]
 obtain ⟨n, S, hn, hS, hSl, hrS⟩ := MK hr
 have hil : i < q.length := (List.getElem?_eq_some_iff.1 hn).1
 have hq40 := hok.1
 have hon := hok.2 n (AF hn)
 have hel := RG n.tx
 obtain ⟨a, b, c, d⟩ := n
 dsimp only at hon hel hrS
 obtain ⟨o1, o2, o3, o4, o5⟩ := hon
 have hlv := Wi a
 have hsv := Wx a
 have hsg := Pj a
 have hl1 : ((NQ a : Int) + 1).toNat = NQ a + 1 := by omega
 have hT : ((EL fu ks)).X = T := rfl
 have hx0 := And.intro @Cu (And.intro @Ct (And.intro @A0 (And.intro @AX (And.intro @EC (And.intro @Int.toNat_natCast (And.intro @KT @Tryz.results48))))))
 have hx := hx0
 refine ⟨by rfl, ?_⟩
 intro F W0 hnp hmk
 refine Aa fun N1 h1 => ?_
 refine Ad ?_
 try refine Ac ?_
 refine FU ?_
 refine Ae ?_
 refine Ab ?_
 refine h1 _ ?_; clear h1
 refine Aa fun N2 h2 => ?_
 have hx := And.intro @hn (And.intro @DL.eq_1 hx0)
 refine Ad ?_
 try refine Ac ?_
 refine Au ?_
 refine Ar ?_
 refine Ae ?_
 refine Au ?_
 refine Ar ?_
 refine B8 ?_
 refine A8 ?_
 refine Ab ?_
 have hx := hx0
 refine h2 _ ?_; clear h2
 refine Aa fun N3 h3 => ?_
 have hx := And.intro @hsv hx0
 refine Ad ?_
 try refine Ac ?_
 refine Au ?_
 refine Ar ?_
 have hc := Ah (E := ((EL fu ks).at_ 71)) (f := 66) (sp := Spec.pure Tt) rfl
 have hs := @Tt.eq_1
 refine BF ?_
 refine Ae ?_
 refine Ab ?_
 have hx := hx0
 refine h3 _ ?_; clear h3
 refine Aa fun N4 h4 => ?_
 refine Ad ?_
 try refine Ac ?_
 refine Ae ?_
 refine Ab ?_
 refine h4 _ ?_; clear h4
 refine FV (σ := Unit) (fun s => (fun u => True) s)
  (fun s => (fun u => [(2, .d (.int .i64 (l : Nat))), (7, .ptr 1 0 0), (8, .d (.int .i64 (NQ a : Nat))), (9, .d (.str S))]) s)
  (fun s => (fun u => [some (.one 25 [.d (.sl (rows DL q))]), some (.one 55 [.d (.int .i64 a), .d (.str b), .d (.int .i64 c), .d (.int .i64 d)])]) s) hnp ?_ ?_
 rintro u hinv
 dsimp only at hinv ⊢
 refine Aa fun N6 h6 => ?_
 refine Aa fun N7 h7 => ?_
 refine Ad ?_
 try refine Ac ?_
 iterate 2 refine Ae ?_
 refine Am ?_
 refine Ab ?_
 refine h7 _ ?_; clear h7
 refine Al (fun hb8 => ?_) (fun hb8 => ?_)
 refine Aa fun N9 h9 => ?_
 refine Ad ?_
 try refine Ac ?_
 refine Ae (hq := by (first | ((simp only [List.length_append, List.length_cons, List.length_nil]; omega)) | exact Ay)) ?_
 refine Am (hq := by (first | ((simp only [List.length_append, List.length_cons, List.length_nil]; omega)) | exact Ay)) ?_
 refine Am (hq := by (first | ((simp only [List.length_append, List.length_cons, List.length_nil]; omega)) | exact Ay)) ?_
 refine Ae (hq := by (first | ((simp only [List.length_append, List.length_cons, List.length_nil]; omega)) | exact Ay)) ?_
 refine Ab ?_
 refine h9 _ ?_; clear h9
 refine Ao ?_
 try simp only [Af]
 rw [hrS, if_pos (by have := hb8; (try simp at this); omega)]
 refine A3 ?_
 exact At
 refine An ?_
 try simp only [Af]
 refine h6 _ ?_; clear h6
 refine Aa fun N10 h10 => ?_
 refine Ad ?_
 try refine Ac ?_
 iterate 2 refine Ae ?_
 refine Ab ?_
 refine h10 _ ?_; clear h10
 refine Ao ?_
 try simp only [Af]
 rw [hrS, if_neg (by have := hb8; (try simp at this); omega)]
 refine A3 ?_
 exact At
 intro N5 h5
 refine Aa fun N11 h11 => ?_
 refine Ad ?_
 try refine Ac ?_
 refine Au ?_
 refine Ar ?_
 refine Ab ?_
 refine h11 _ ?_; clear h11
 refine Aw ?_
 refine Aa fun N12 h12 => ?_
 refine Ad ?_
 try refine Ac ?_
 refine Am ?_
 refine Ae ?_
 refine Ab ?_
 refine h12 _ ?_; clear h12
 refine Al (fun hb13 => ?_) (fun hb13 => ?_)
 have hk := hb13
 have hS2 := hS
 unfold K0 at hS2
 dsimp only at hS2
 rw [if_pos (by (try simp at hk); omega)] at hS2
 obtain rfl := Option.some.inj hS2
 refine Aa fun N14 h14 => ?_
 refine Fs [] (.alt 0 (.alt 1 (.seq [2, 3, 4, 5, 6, 7] .nil) (.alt 2 (.alt 1 (.seq [3, 4, 5, 6, 7] .nil) (.alt 3 (.seq [1, 4, 5, 6, 7] .nil) .nil)) .nil)) (.alt 2 (.alt 0 (.alt 1 (.seq [3, 4, 5, 6, 7] .nil) (.alt 3 (.seq [1, 4, 5, 6, 7] .nil) .nil)) (.alt 3 (.seq [0, 1, 4, 5, 6, 7] .nil) .nil)) .nil)) Gm (by kernel_rfl) ?_
 refine AN ?_ ?_
 simp only [Ak, Ai]
 try refine Ac ?_
 refine GE (hq := by (first | (first | rfl | omega | (simp only [List.length_append, List.length_cons, List.length_nil]; omega)) | exact Ay)) ?_
 refine Ab ?_
 refine AN ?_ ?_
 simp only [Ak, Ai]
 try refine Ac ?_
 have hc := Ah (E := ((EL fu ks).at_ 71)) (f := 67) (sp := Spec.fresh GB) rfl
 have hs := @GB.eq_1
 refine BD (hq := by (first | (first | rfl | omega | (simp only [List.length_append, List.length_cons, List.length_nil]; omega)) | exact Ay)) ?_
 refine Ab ?_
 refine Bb ?_
 simp only [Ak, Ai]
 try refine Ac ?_
 refine Au (hq := by (first | (first | rfl | omega | (simp only [List.length_append, List.length_cons, List.length_nil]; omega)) | exact Ay)) ?_
 refine Ar (hq := by (first | (first | rfl | omega | (simp only [List.length_append, List.length_cons, List.length_nil]; omega)) | exact Ay)) ?_
 have hc := Ah (E := ((EL fu ks).at_ 71)) (f := 68) (sp := Spec.gen GC) rfl
 have hs := @GC.eq_1
 refine BD (hq := by (first | (first | rfl | omega | (simp only [List.length_append, List.length_cons, List.length_nil]; omega)) | exact Ay)) ?_
 refine Am (hq := by (first | (first | rfl | omega | (simp only [List.length_append, List.length_cons, List.length_nil]; omega)) | exact Ay)) ?_
 refine Am (hq := by (first | (first | rfl | omega | (simp only [List.length_append, List.length_cons, List.length_nil]; omega)) | exact Ay)) ?_
 refine Ae (hq := by (first | (first | rfl | omega | (simp only [List.length_append, List.length_cons, List.length_nil]; omega)) | exact Ay)) ?_
 refine Ab ?_
 refine B9 ?_
 refine h14 _ ?_; clear h14
 refine Ao ?_
 try simp only [Af]
 obtain rfl : a = 1 := by omega
 rw [hrS, if_neg (by show ¬2 < l; omega)]
 refine A3 ?_
 exact At
 refine AN ?_ ?_
 simp only [Ak, Ai]
 try refine Ac ?_
 refine Au (hq := by (first | (first | rfl | omega | (simp only [List.length_append, List.length_cons, List.length_nil]; omega)) | exact Ay)) ?_
 refine Ab ?_
 refine AN ?_ ?_
 simp only [Ak, Ai]
 try refine Ac ?_
 have hc := Ah (E := ((EL fu ks).at_ 71)) (f := 67) (sp := Spec.fresh GB) rfl
 have hs := @GB.eq_1
 refine BD (hq := by (first | (first | rfl | omega | (simp only [List.length_append, List.length_cons, List.length_nil]; omega)) | exact Ay)) ?_
 refine Ab ?_
 refine Bb ?_
 simp only [Ak, Ai]
 try refine Ac ?_
 refine Ar (hq := by (first | (first | rfl | omega | (simp only [List.length_append, List.length_cons, List.length_nil]; omega)) | exact Ay)) ?_
 have hc := Ah (E := ((EL fu ks).at_ 71)) (f := 68) (sp := Spec.gen GC) rfl
 have hs := @GC.eq_1
 refine BD (hq := by (first | (first | rfl | omega | (simp only [List.length_append, List.length_cons, List.length_nil]; omega)) | exact Ay)) ?_
 refine Am (hq := by (first | (first | rfl | omega | (simp only [List.length_append, List.length_cons, List.length_nil]; omega)) | exact Ay)) ?_
 refine Am (hq := by (first | (first | rfl | omega | (simp only [List.length_append, List.length_cons, List.length_nil]; omega)) | exact Ay)) ?_
 refine Ae (hq := by (first | (first | rfl | omega | (simp only [List.length_append, List.length_cons, List.length_nil]; omega)) | exact Ay)) ?_
 refine Ab ?_
 refine B9 ?_
 refine h14 _ ?_; clear h14
 refine Ao ?_
 try simp only [Af]
 obtain rfl : a = 1 := by omega
 rw [hrS, if_neg (by show ¬2 < l; omega)]
 refine A3 ?_
 exact At
 refine AN ?_ ?_
 simp only [Ak, Ai]
 try refine Ac ?_
 refine Ar (hq := by (first | (first | rfl | omega | (simp only [List.length_append, List.length_cons, List.length_nil]; omega)) | exact Ay)) ?_
 refine Ab ?_
 refine Bb ?_
 simp only [Ak, Ai]
 try refine Ac ?_
 have hc := Ah (E := ((EL fu ks).at_ 71)) (f := 67) (sp := Spec.fresh GB) rfl
 have hs := @GB.eq_1
 refine BD (hq := by (first | (first | rfl | omega | (simp only [List.length_append, List.length_cons, List.length_nil]; omega)) | exact Ay)) ?_
 have hc := Ah (E := ((EL fu ks).at_ 71)) (f := 68) (sp := Spec.gen GC) rfl
 have hs := @GC.eq_1
 refine BD (hq := by (first | (first | rfl | omega | (simp only [List.length_append, List.length_cons, List.length_nil]; omega)) | exact Ay)) ?_
 refine Am (hq := by (first | (first | rfl | omega | (simp only [List.length_append, List.length_cons, List.length_nil]; omega)) | exact Ay)) ?_
 refine Am (hq := by (first | (first | rfl | omega | (simp only [List.length_append, List.length_cons, List.length_nil]; omega)) | exact Ay)) ?_
 refine Ae (hq := by (first | (first | rfl | omega | (simp only [List.length_append, List.length_cons, List.length_nil]; omega)) | exact Ay)) ?_
 refine Ab ?_
 refine B9 ?_
 refine h14 _ ?_; clear h14
 refine Ao ?_
 try simp only [Af]
 obtain rfl : a = 1 := by omega
 rw [hrS, if_neg (by show ¬2 < l; omega)]
 refine A3 ?_
 exact At
 exact Cl
 exact Cl
 refine AN ?_ ?_
 simp only [Ak, Ai]
 try refine Ac ?_
 refine Au (hq := by (first | (first | rfl | omega | (simp only [List.length_append, List.length_cons, List.length_nil]; omega)) | exact Ay)) ?_
 refine Ab ?_
 refine AN ?_ ?_
 simp only [Ak, Ai]
 try refine Ac ?_
 refine GE (hq := by (first | (first | rfl | omega | (simp only [List.length_append, List.length_cons, List.length_nil]; omega)) | exact Ay)) ?_
 refine Ab ?_
 refine AN ?_ ?_
 simp only [Ak, Ai]
 try refine Ac ?_
 have hc := Ah (E := ((EL fu ks).at_ 71)) (f := 67) (sp := Spec.fresh GB) rfl
 have hs := @GB.eq_1
 refine BD (hq := by (first | (first | rfl | omega | (simp only [List.length_append, List.length_cons, List.length_nil]; omega)) | exact Ay)) ?_
 refine Ab ?_
 refine Bb ?_
 simp only [Ak, Ai]
 try refine Ac ?_
 refine Ar (hq := by (first | (first | rfl | omega | (simp only [List.length_append, List.length_cons, List.length_nil]; omega)) | exact Ay)) ?_
 have hc := Ah (E := ((EL fu ks).at_ 71)) (f := 68) (sp := Spec.gen GC) rfl
 have hs := @GC.eq_1
 refine BD (hq := by (first | (first | rfl | omega | (simp only [List.length_append, List.length_cons, List.length_nil]; omega)) | exact Ay)) ?_
 refine Am (hq := by (first | (first | rfl | omega | (simp only [List.length_append, List.length_cons, List.length_nil]; omega)) | exact Ay)) ?_
 refine Am (hq := by (first | (first | rfl | omega | (simp only [List.length_append, List.length_cons, List.length_nil]; omega)) | exact Ay)) ?_
 refine Ae (hq := by (first | (first | rfl | omega | (simp only [List.length_append, List.length_cons, List.length_nil]; omega)) | exact Ay)) ?_
 refine Ab ?_
 refine B9 ?_
 refine h14 _ ?_; clear h14
 refine Ao ?_
 try simp only [Af]
 obtain rfl : a = 1 := by omega
 rw [hrS, if_neg (by show ¬2 < l; omega)]
 refine A3 ?_
 exact At
 refine AN ?_ ?_
 simp only [Ak, Ai]
 try refine Ac ?_
 refine Ar (hq := by (first | (first | rfl | omega | (simp only [List.length_append, List.length_cons, List.length_nil]; omega)) | exact Ay)) ?_
 refine Ab ?_
 refine Bb ?_
 simp only [Ak, Ai]
 try refine Ac ?_
 have hc := Ah (E := ((EL fu ks).at_ 71)) (f := 67) (sp := Spec.fresh GB) rfl
 have hs := @GB.eq_1
 refine BD (hq := by (first | (first | rfl | omega | (simp only [List.length_append, List.length_cons, List.length_nil]; omega)) | exact Ay)) ?_
 have hc := Ah (E := ((EL fu ks).at_ 71)) (f := 68) (sp := Spec.gen GC) rfl
 have hs := @GC.eq_1
 refine BD (hq := by (first | (first | rfl | omega | (simp only [List.length_append, List.length_cons, List.length_nil]; omega)) | exact Ay)) ?_
 refine Am (hq := by (first | (first | rfl | omega | (simp only [List.length_append, List.length_cons, List.length_nil]; omega)) | exact Ay)) ?_
 refine Am (hq := by (first | (first | rfl | omega | (simp only [List.length_append, List.length_cons, List.length_nil]; omega)) | exact Ay)) ?_
 refine Ae (hq := by (first | (first | rfl | omega | (simp only [List.length_append, List.length_cons, List.length_nil]; omega)) | exact Ay)) ?_
 refine Ab ?_
 refine B9 ?_
 refine h14 _ ?_; clear h14
 refine Ao ?_
 try simp only [Af]
 obtain rfl : a = 1 := by omega
 rw [hrS, if_neg (by show ¬2 < l; omega)]
 refine A3 ?_
 exact At
 exact Cl
 refine AN ?_ ?_
 simp only [Ak, Ai]
 try refine Ac ?_
 refine Ar (hq := by (first | (first | rfl | omega | (simp only [List.length_append, List.length_cons, List.length_nil]; omega)) | exact Ay)) ?_
 refine Ab ?_
 refine Bb ?_
 simp only [Ak, Ai]
 try refine Ac ?_
 refine GE (hq := by (first | (first | rfl | omega | (simp only [List.length_append, List.length_cons, List.length_nil]; omega)) | exact Ay)) ?_
 have hc := Ah (E := ((EL fu ks).at_ 71)) (f := 67) (sp := Spec.fresh GB) rfl
 have hs := @GB.eq_1
 refine BD (hq := by (first | (first | rfl | omega | (simp only [List.length_append, List.length_cons, List.length_nil]; omega)) | exact Ay)) ?_
 have hc := Ah (E := ((EL fu ks).at_ 71)) (f := 68) (sp := Spec.gen GC) rfl
 have hs := @GC.eq_1
 refine BD (hq := by (first | (first | rfl | omega | (simp only [List.length_append, List.length_cons, List.length_nil]; omega)) | exact Ay)) ?_
 refine Am (hq := by (first | (first | rfl | omega | (simp only [List.length_append, List.length_cons, List.length_nil]; omega)) | exact Ay)) ?_
 refine Am (hq := by (first | (first | rfl | omega | (simp only [List.length_append, List.length_cons, List.length_nil]; omega)) | exact Ay)) ?_
 refine Ae (hq := by (first | (first | rfl | omega | (simp only [List.length_append, List.length_cons, List.length_nil]; omega)) | exact Ay)) ?_
 refine Ab ?_
 refine B9 ?_
 refine h14 _ ?_; clear h14
 refine Ao ?_
 try simp only [Af]
 obtain rfl : a = 1 := by omega
 rw [hrS, if_neg (by show ¬2 < l; omega)]
 refine A3 ?_
 exact At
 exact Cl
 exact Cl
 have h33 := hb13
 refine Aa fun N15 h15 => ?_
 refine Ad ?_
 try refine Ac ?_
 refine Am ?_
 refine Ae ?_
 refine Ab ?_
 refine h15 _ ?_; clear h15
 refine Al (fun hb16 => ?_) (fun hb16 => ?_)
 have hk := hb16
 have hS2 := hS
 unfold K0 at hS2
 dsimp only at hS2
 rw [if_neg (by (try simp at h33); omega)] at hS2
 rw [if_pos (by (try simp at hk); omega)] at hS2
 obtain ⟨A, hA, hA2⟩ := Option.map_eq_some_iff.1 hS2
 subst hA2
 have hAl := Hh hA
 refine Aa fun N17 h17 => ?_
 have hx := And.intro @hA hx0
 refine Ad ?_
 try refine Ac ?_
 refine Ar (hq := by (first | (first | omega | (simp only [List.length_append, List.length_cons, List.length_nil]; omega)) | exact Ay)) ?_
 refine Au (hq := by (first | (first | omega | (simp only [List.length_append, List.length_cons, List.length_nil]; omega)) | exact Ay)) ?_
 refine Ar (hq := by (first | (first | omega | (simp only [List.length_append, List.length_cons, List.length_nil]; omega)) | exact Ay)) ?_
 have hc := Ah (E := ((EL fu ks).at_ 71)) (f := 48) (sp := Spec.pure (EX fu)) rfl
 have hs := @EX.eq_1
 refine BF (hq := by (first | ((repeat' apply And.intro) <;> first | rfl | omega | exact hok.2 | (rw [hA]; rfl) | (rw [hB]; rfl) | (simp [hA]; done)) | exact Ay)) ?_
 refine Am (hq := by (first | (first | omega | (simp only [List.length_append, List.length_cons, List.length_nil]; omega)) | exact Ay)) ?_
 refine Ae (hq := by (first | (first | omega | (simp only [List.length_append, List.length_cons, List.length_nil]; omega)) | exact Ay)) ?_
 refine Ab ?_
 have hx := hx0
 refine h17 _ ?_; clear h17
 refine Ao ?_
 try simp only [Af]
 obtain rfl : a = 4 := by omega
 rw [hrS, if_neg (by show ¬2 < l; omega)]
 refine A3 ?_
 exact At
 have h42 := hb16
 refine Aa fun N18 h18 => ?_
 refine Ad ?_
 try refine Ac ?_
 refine Am ?_
 refine Ae ?_
 refine Ab ?_
 refine h18 _ ?_; clear h18
 refine Al (fun hb19 => ?_) (fun hb19 => ?_)
 have hk := hb19
 have hS2 := hS
 unfold K0 at hS2
 dsimp only at hS2
 rw [if_neg (by (try simp at h33); omega)] at hS2
 rw [if_neg (by (try simp at h42); omega)] at hS2
 obtain ⟨A, hA, hS3⟩ := Option.bind_eq_some_iff.1 hS2
 obtain ⟨B, hB, hB2⟩ := Option.map_eq_some_iff.1 hS3
 subst hB2
 have hAl := Hh hA
 have hBl := Hh hB
 obtain rfl : a = 2 := by have := hb19; (try simp at this); omega
 have hsg2 : X1 2 = [32, 38, 32] := rfl
 have hx := And.intro @hl1 (And.intro @hA (And.intro @hB hx0))
 refine Iz [48] [0, 1, 2, 3, 6, 7, 8, 9, 10, 4, 5, 11, 12, 13] Gm (by kernel_rfl) ?_
 simp only [Ak, Ai]
 try refine Ac ?_
 refine Ar (hq := by (first | (first | omega | (simp only [List.length_append, List.length_cons, List.length_nil]; omega)) | exact Ay)) ?_
 refine Au (hq := by (first | (first | omega | (simp only [List.length_append, List.length_cons, List.length_nil]; omega)) | exact Ay)) ?_
 refine Ar (hq := by (first | (first | omega | (simp only [List.length_append, List.length_cons, List.length_nil]; omega)) | exact Ay)) ?_
 refine Ae (hq := by (first | (first | omega | (simp only [List.length_append, List.length_cons, List.length_nil]; omega)) | exact Ay)) ?_
 refine Ar (hq := by (first | (first | omega | (simp only [List.length_append, List.length_cons, List.length_nil]; omega)) | exact Ay)) ?_
 refine Au (hq := by (first | (first | omega | (simp only [List.length_append, List.length_cons, List.length_nil]; omega)) | exact Ay)) ?_
 refine Ar (hq := by (first | (first | omega | (simp only [List.length_append, List.length_cons, List.length_nil]; omega)) | exact Ay)) ?_
 refine Ae (hq := by (first | (first | omega | (simp only [List.length_append, List.length_cons, List.length_nil]; omega)) | exact Ay)) ?_
 refine Am (hq := by (first | (first | omega | (simp only [List.length_append, List.length_cons, List.length_nil]; omega)) | exact Ay)) ?_
 have hc := Ah (E := ((EL fu ks).at_ 71)) (f := 48) (sp := Spec.pure (EX fu)) rfl
 have hs := @EX.eq_1
 refine BF (hq := by (first | ((repeat' apply And.intro) <;> first | rfl | omega | exact hok.2 | (rw [hA]; rfl) | (rw [hB]; rfl) | (simp [hA]; done)) | exact Ay)) ?_
 refine Am (hq := by (first | (first | omega | (simp only [List.length_append, List.length_cons, List.length_nil]; omega)) | exact Ay)) ?_
 have hc := Ah (E := ((EL fu ks).at_ 71)) (f := 48) (sp := Spec.pure (EX fu)) rfl
 have hs := @EX.eq_1
 refine BF (hq := by (first | ((repeat' apply And.intro) <;> first | rfl | omega | exact hok.2 | (rw [hA]; rfl) | (rw [hB]; rfl) | (simp [hA]; done)) | exact Ay)) ?_
 refine Am (hq := by (first | (first | omega | (simp only [List.length_append, List.length_cons, List.length_nil]; omega)) | exact Ay)) ?_
 refine Ae (hq := by (first | (first | omega | (simp only [List.length_append, List.length_cons, List.length_nil]; omega)) | exact Ay)) ?_
 refine Ab ?_
 have hx := hx0
 refine h5 _ ⟨(), trivial, [some 0, some 1], ?_⟩
 dsimp only
 refine ⟨by rfl, ?_, ?_⟩
 refine Aj ?_
 exact At
 refine Aj ?_
 exact At
 have hk := hb19
 have hS2 := hS
 unfold K0 at hS2
 dsimp only at hS2
 rw [if_neg (by (try simp at h33); omega)] at hS2
 rw [if_neg (by (try simp at h42); omega)] at hS2
 obtain ⟨A, hA, hS3⟩ := Option.bind_eq_some_iff.1 hS2
 obtain ⟨B, hB, hB2⟩ := Option.map_eq_some_iff.1 hS3
 subst hB2
 have hAl := Hh hA
 have hBl := Hh hB
 obtain rfl : a = 3 := by have := hb19; (try simp at this); (try simp at h33); (try simp at h42); omega
 have hsg2 : X1 3 = [32, 124, 32] := rfl
 have hx := And.intro @hl1 (And.intro @hA (And.intro @hB hx0))
 refine Iz [48] [0, 1, 2, 3, 6, 7, 8, 9, 10, 4, 5, 11, 12, 13] Gm (by kernel_rfl) ?_
 simp only [Ak, Ai]
 try refine Ac ?_
 refine Ar (hq := by (first | (first | omega | (simp only [List.length_append, List.length_cons, List.length_nil]; omega)) | exact Ay)) ?_
 refine Au (hq := by (first | (first | omega | (simp only [List.length_append, List.length_cons, List.length_nil]; omega)) | exact Ay)) ?_
 refine Ar (hq := by (first | (first | omega | (simp only [List.length_append, List.length_cons, List.length_nil]; omega)) | exact Ay)) ?_
 refine Ae (hq := by (first | (first | omega | (simp only [List.length_append, List.length_cons, List.length_nil]; omega)) | exact Ay)) ?_
 refine Ar (hq := by (first | (first | omega | (simp only [List.length_append, List.length_cons, List.length_nil]; omega)) | exact Ay)) ?_
 refine Au (hq := by (first | (first | omega | (simp only [List.length_append, List.length_cons, List.length_nil]; omega)) | exact Ay)) ?_
 refine Ar (hq := by (first | (first | omega | (simp only [List.length_append, List.length_cons, List.length_nil]; omega)) | exact Ay)) ?_
 refine Ae (hq := by (first | (first | omega | (simp only [List.length_append, List.length_cons, List.length_nil]; omega)) | exact Ay)) ?_
 refine Am (hq := by (first | (first | omega | (simp only [List.length_append, List.length_cons, List.length_nil]; omega)) | exact Ay)) ?_
 have hc := Ah (E := ((EL fu ks).at_ 71)) (f := 48) (sp := Spec.pure (EX fu)) rfl
 have hs := @EX.eq_1
 refine BF (hq := by (first | ((repeat' apply And.intro) <;> first | rfl | omega | exact hok.2 | (rw [hA]; rfl) | (rw [hB]; rfl) | (simp [hA]; done)) | exact Ay)) ?_
 refine Am (hq := by (first | (first | omega | (simp only [List.length_append, List.length_cons, List.length_nil]; omega)) | exact Ay)) ?_
 have hc := Ah (E := ((EL fu ks).at_ 71)) (f := 48) (sp := Spec.pure (EX fu)) rfl
 have hs := @EX.eq_1
 refine BF (hq := by (first | ((repeat' apply And.intro) <;> first | rfl | omega | exact hok.2 | (rw [hA]; rfl) | (rw [hB]; rfl) | (simp [hA]; done)) | exact Ay)) ?_
 refine Am (hq := by (first | (first | omega | (simp only [List.length_append, List.length_cons, List.length_nil]; omega)) | exact Ay)) ?_
 refine Ae (hq := by (first | (first | omega | (simp only [List.length_append, List.length_cons, List.length_nil]; omega)) | exact Ay)) ?_
 refine Ab ?_
 have hx := hx0
 refine h5 _ ⟨(), trivial, [some 0, some 1], ?_⟩
 dsimp only
 refine ⟨by rfl, ?_, ?_⟩
 refine Aj ?_
 exact At
 refine Aj ?_
 exact At
 cases hg
end Go.Proofs.YtmbjnkgpcbpclaaGreat
