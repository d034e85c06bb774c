/- Walks, printed by wip/gen/walk.py. -/
import Derived.Test.YtmbjnkgpcbpclaaGreatT64
import Derived.Test.YtmbjnkgpcbpclaaGreatV5
set_option linter.all false
set_option maxRecDepth 100000
set_option maxHeartbeats 4000000
namespace Go.Proofs.YtmbjnkgpcbpclaaGreat
open Go Go.Vc Go.RowKit
def EZ (n : Nat) (ks : A1 Tryz.prog 48 (Spec.pure (Fl n))) : Bn Tryz.prog := Wi.add 48 (Spec.pure (Fl n)) ks (by kernel_rfl)

theorem Ul (fu : Nat) (ks : A1 Tryz.prog 48 (Spec.pure (Fl fu))) : A1 Tryz.prog 48 (Spec.pure (Fl (fu + 1))) := by
 refine Az ((EZ fu ks).at_ 71) Tryz.func48 rfl rfl rfl ?_
 intro args p r hg hp
 unfold Fl at hg
 split at hg
 rename_i xs i l
 simp only [Option.some.injEq, Prod.mk.injEq] at hg
 obtain ⟨rfl, rfl⟩ := hg
 obtain ⟨he, hok, hi0, hl0, hl2, hsm⟩ := hp
 generalize Cz xs = q at *
 subst he
 obtain ⟨i, rfl⟩ := Int.eq_ofNat_of_zero_le hi0
 obtain ⟨l, rfl⟩ := Int.eq_ofNat_of_zero_le hl0
 simp only [Int.toNat_natCast] at hsm ⊢
 obtain ⟨r, hr⟩ := Option.isSome_iff_exists.1 hsm
 rw [hr, Lx]
 obtain ⟨n, S, hn, hS, hSl, hrS⟩ := Nw hr
 have hil : i < q.length := (List.getElem?_eq_some_iff.1 hn).1
 have hq40 := hok.1
 have hon := hok.2 n (AE hn)
 have hel := SD n.tx
 obtain ⟨a, b, c, d⟩ := n
 dsimp only at hon hel hrS
 obtain ⟨o1, o2, o3, o4, o5⟩ := hon
 have hlv := Xd a
 have hsv := Xn a
 have hsg := PS a
 have hl1 : ((OC a : Int) + 1).toNat = OC a + 1 := by omega
 have hT : ((EZ fu ks)).X = T := rfl
 have hx0 := And.intro @Ci (And.intro @Ch (And.intro @BQ (And.intro @AY (And.intro @F1 (And.intro @Int.toNat_natCast (And.intro @Lx @Tryz.results48))))))
 have hx := hx0
 refine ⟨by rfl, ?_⟩
 intro F W0 hnp hmk
 refine Aa fun N1 h1 => ?_
 refine Ad ?_
 try refine Ac ?_
 refine EX ?_
 refine Ae ?_
 refine Ab ?_
 refine h1 _ ?_; clear h1
 refine Aa fun N2 h2 => ?_
 have hx := And.intro @hn (And.intro @DR.eq_1 hx0)
 refine Ad ?_
 try refine Ac ?_
 refine At ?_
 refine Ap ?_
 refine Ae ?_
 refine At ?_
 refine Ap ?_
 refine Bw ?_
 refine A4 ?_
 refine Ab ?_
 have hx := hx0
 refine h2 _ ?_; clear h2
 refine Aa fun N3 h3 => ?_
 have hx := And.intro @hsv hx0
 refine Ad ?_
 try refine Ac ?_
 refine At ?_
 refine Ap ?_
 have hc := Ag (E := ((EZ fu ks).at_ 71)) (f := 66) (sp := Spec.pure Uo) rfl
 have hs := @Uo.eq_1
 refine AS ?_
 refine Ae ?_
 refine Ab ?_
 have hx := hx0
 refine h3 _ ?_; clear h3
 refine Aa fun N4 h4 => ?_
 refine Ad ?_
 try refine Ac ?_
 refine Ae ?_
 refine Ab ?_
 refine h4 _ ?_; clear h4
 refine Gm (σ := Unit) (fun s => (fun u => True) s)
  (fun s => (fun u => [(2, .d (.int .i64 (l : Nat))), (7, .ptr 1 0 0), (8, .d (.int .i64 (OC a : Nat))), (9, .d (.str S))]) s)
  (fun s => (fun u => [some (.one 25 [.d (.sl (rows DR q))]), some (.one 55 [.d (.int .i64 a), .d (.str b), .d (.int .i64 c), .d (.int .i64 d)])]) s) hnp ?_ ?_
 rintro u hinv
 dsimp only at hinv ⊢
 refine Aa fun N6 h6 => ?_
 refine Aa fun N7 h7 => ?_
 refine Ad ?_
 try refine Ac ?_
 iterate 2 refine Ae ?_
 refine Al ?_
 refine Ab ?_
 refine h7 _ ?_; clear h7
 refine Ai (fun hb8 => ?_) (fun hb8 => ?_)
 refine Aa fun N9 h9 => ?_
 refine Ad ?_
 try refine Ac ?_
 refine Ae (hq := by (first | ((simp only [List.length_append, List.length_cons, List.length_nil]; omega)) | exact A3)) ?_
 refine Al (hq := by (first | ((simp only [List.length_append, List.length_cons, List.length_nil]; omega)) | exact A3)) ?_
 refine Al (hq := by (first | ((simp only [List.length_append, List.length_cons, List.length_nil]; omega)) | exact A3)) ?_
 refine Ae (hq := by (first | ((simp only [List.length_append, List.length_cons, List.length_nil]; omega)) | exact A3)) ?_
 refine Ab ?_
 refine h9 _ ?_; clear h9
 refine An ?_
 try simp only [Af]
 rw [hrS, if_pos (by have := hb8; (try simp at this); omega)]
 refine Ax ?_
 exact As
 refine Am ?_
 try simp only [Af]
 refine h6 _ ?_; clear h6
 refine Aa fun N10 h10 => ?_
 refine Ad ?_
 try refine Ac ?_
 iterate 2 refine Ae ?_
 refine Ab ?_
 refine h10 _ ?_; clear h10
 refine An ?_
 try simp only [Af]
 rw [hrS, if_neg (by have := hb8; (try simp at this); omega)]
 refine Ax ?_
 exact As
 intro N5 h5
 refine Aa fun N11 h11 => ?_
 refine Ad ?_
 try refine Ac ?_
 refine At ?_
 refine Ap ?_
 refine Ab ?_
 refine h11 _ ?_; clear h11
 refine Au ?_
 refine Aa fun N12 h12 => ?_
 refine Ad ?_
 try refine Ac ?_
 refine Al ?_
 refine Ae ?_
 refine Ab ?_
 refine h12 _ ?_; clear h12
 refine Ai (fun hb13 => ?_) (fun hb13 => ?_)
 have hk := hb13
 have hS2 := hS
 unfold KT at hS2
 dsimp only at hS2
 rw [if_pos (by (try simp at hk); omega)] at hS2
 obtain rfl := Option.some.inj hS2
 refine Aa fun N14 h14 => ?_
 refine G1 [] (.alt 0 (.alt 1 (.seq [2, 3, 4, 5, 6, 7] .nil) (.alt 2 (.alt 1 (.seq [3, 4, 5, 6, 7] .nil) (.alt 3 (.seq [1, 4, 5, 6, 7] .nil) .nil)) .nil)) (.alt 2 (.alt 0 (.alt 1 (.seq [3, 4, 5, 6, 7] .nil) (.alt 3 (.seq [1, 4, 5, 6, 7] .nil) .nil)) (.alt 3 (.seq [0, 1, 4, 5, 6, 7] .nil) .nil)) .nil)) Fw (by kernel_rfl) ?_
 refine AX ?_ ?_
 simp only [Ao, Ak]
 try refine Ac ?_
 refine FH (hq := by (first | (first | rfl | omega | (simp only [List.length_append, List.length_cons, List.length_nil]; omega)) | exact A3)) ?_
 refine Ab ?_
 refine AX ?_ ?_
 simp only [Ao, Ak]
 try refine Ac ?_
 have hc := Ag (E := ((EZ fu ks).at_ 71)) (f := 67) (sp := Spec.fresh GT) rfl
 have hs := @GT.eq_1
 refine B8 (hq := by (first | (first | rfl | omega | (simp only [List.length_append, List.length_cons, List.length_nil]; omega)) | exact A3)) ?_
 refine Ab ?_
 refine Bu ?_
 simp only [Ao, Ak]
 try refine Ac ?_
 refine At (hq := by (first | (first | rfl | omega | (simp only [List.length_append, List.length_cons, List.length_nil]; omega)) | exact A3)) ?_
 refine Ap (hq := by (first | (first | rfl | omega | (simp only [List.length_append, List.length_cons, List.length_nil]; omega)) | exact A3)) ?_
 have hc := Ag (E := ((EZ fu ks).at_ 71)) (f := 68) (sp := Spec.gen GU) rfl
 have hs := @GU.eq_1
 refine B8 (hq := by (first | (first | rfl | omega | (simp only [List.length_append, List.length_cons, List.length_nil]; omega)) | exact A3)) ?_
 refine Al (hq := by (first | (first | rfl | omega | (simp only [List.length_append, List.length_cons, List.length_nil]; omega)) | exact A3)) ?_
 refine Al (hq := by (first | (first | rfl | omega | (simp only [List.length_append, List.length_cons, List.length_nil]; omega)) | exact A3)) ?_
 refine Ae (hq := by (first | (first | rfl | omega | (simp only [List.length_append, List.length_cons, List.length_nil]; omega)) | exact A3)) ?_
 refine Ab ?_
 refine BO ?_
 refine h14 _ ?_; clear h14
 refine An ?_
 try simp only [Af]
 obtain rfl : a = 1 := by omega
 rw [hrS, if_neg (by show ¬2 < l; omega)]
 refine Ax ?_
 exact As
 refine AX ?_ ?_
 simp only [Ao, Ak]
 try refine Ac ?_
 refine At (hq := by (first | (first | rfl | omega | (simp only [List.length_append, List.length_cons, List.length_nil]; omega)) | exact A3)) ?_
 refine Ab ?_
 refine AX ?_ ?_
 simp only [Ao, Ak]
 try refine Ac ?_
 have hc := Ag (E := ((EZ fu ks).at_ 71)) (f := 67) (sp := Spec.fresh GT) rfl
 have hs := @GT.eq_1
 refine B8 (hq := by (first | (first | rfl | omega | (simp only [List.length_append, List.length_cons, List.length_nil]; omega)) | exact A3)) ?_
 refine Ab ?_
 refine Bu ?_
 simp only [Ao, Ak]
 try refine Ac ?_
 refine Ap (hq := by (first | (first | rfl | omega | (simp only [List.length_append, List.length_cons, List.length_nil]; omega)) | exact A3)) ?_
 have hc := Ag (E := ((EZ fu ks).at_ 71)) (f := 68) (sp := Spec.gen GU) rfl
 have hs := @GU.eq_1
 refine B8 (hq := by (first | (first | rfl | omega | (simp only [List.length_append, List.length_cons, List.length_nil]; omega)) | exact A3)) ?_
 refine Al (hq := by (first | (first | rfl | omega | (simp only [List.length_append, List.length_cons, List.length_nil]; omega)) | exact A3)) ?_
 refine Al (hq := by (first | (first | rfl | omega | (simp only [List.length_append, List.length_cons, List.length_nil]; omega)) | exact A3)) ?_
 refine Ae (hq := by (first | (first | rfl | omega | (simp only [List.length_append, List.length_cons, List.length_nil]; omega)) | exact A3)) ?_
 refine Ab ?_
 refine BO ?_
 refine h14 _ ?_; clear h14
 refine An ?_
 try simp only [Af]
 obtain rfl : a = 1 := by omega
 rw [hrS, if_neg (by show ¬2 < l; omega)]
 refine Ax ?_
 exact As
 refine AX ?_ ?_
 simp only [Ao, Ak]
 try refine Ac ?_
 refine Ap (hq := by (first | (first | rfl | omega | (simp only [List.length_append, List.length_cons, List.length_nil]; omega)) | exact A3)) ?_
 refine Ab ?_
 refine Bu ?_
 simp only [Ao, Ak]
 try refine Ac ?_
 have hc := Ag (E := ((EZ fu ks).at_ 71)) (f := 67) (sp := Spec.fresh GT) rfl
 have hs := @GT.eq_1
 refine B8 (hq := by (first | (first | rfl | omega | (simp only [List.length_append, List.length_cons, List.length_nil]; omega)) | exact A3)) ?_
 have hc := Ag (E := ((EZ fu ks).at_ 71)) (f := 68) (sp := Spec.gen GU) rfl
 have hs := @GU.eq_1
 refine B8 (hq := by (first | (first | rfl | omega | (simp only [List.length_append, List.length_cons, List.length_nil]; omega)) | exact A3)) ?_
 refine Al (hq := by (first | (first | rfl | omega | (simp only [List.length_append, List.length_cons, List.length_nil]; omega)) | exact A3)) ?_
 refine Al (hq := by (first | (first | rfl | omega | (simp only [List.length_append, List.length_cons, List.length_nil]; omega)) | exact A3)) ?_
 refine Ae (hq := by (first | (first | rfl | omega | (simp only [List.length_append, List.length_cons, List.length_nil]; omega)) | exact A3)) ?_
 refine Ab ?_
 refine BO ?_
 refine h14 _ ?_; clear h14
 refine An ?_
 try simp only [Af]
 obtain rfl : a = 1 := by omega
 rw [hrS, if_neg (by show ¬2 < l; omega)]
 refine Ax ?_
 exact As
 exact C8
 exact C8
 refine AX ?_ ?_
 simp only [Ao, Ak]
 try refine Ac ?_
 refine At (hq := by (first | (first | rfl | omega | (simp only [List.length_append, List.length_cons, List.length_nil]; omega)) | exact A3)) ?_
 refine Ab ?_
 refine AX ?_ ?_
 simp only [Ao, Ak]
 try refine Ac ?_
 refine FH (hq := by (first | (first | rfl | omega | (simp only [List.length_append, List.length_cons, List.length_nil]; omega)) | exact A3)) ?_
 refine Ab ?_
 refine AX ?_ ?_
 simp only [Ao, Ak]
 try refine Ac ?_
 have hc := Ag (E := ((EZ fu ks).at_ 71)) (f := 67) (sp := Spec.fresh GT) rfl
 have hs := @GT.eq_1
 refine B8 (hq := by (first | (first | rfl | omega | (simp only [List.length_append, List.length_cons, List.length_nil]; omega)) | exact A3)) ?_
 refine Ab ?_
 refine Bu ?_
 simp only [Ao, Ak]
 try refine Ac ?_
 refine Ap (hq := by (first | (first | rfl | omega | (simp only [List.length_append, List.length_cons, List.length_nil]; omega)) | exact A3)) ?_
 have hc := Ag (E := ((EZ fu ks).at_ 71)) (f := 68) (sp := Spec.gen GU) rfl
 have hs := @GU.eq_1
 refine B8 (hq := by (first | (first | rfl | omega | (simp only [List.length_append, List.length_cons, List.length_nil]; omega)) | exact A3)) ?_
 refine Al (hq := by (first | (first | rfl | omega | (simp only [List.length_append, List.length_cons, List.length_nil]; omega)) | exact A3)) ?_
 refine Al (hq := by (first | (first | rfl | omega | (simp only [List.length_append, List.length_cons, List.length_nil]; omega)) | exact A3)) ?_
 refine Ae (hq := by (first | (first | rfl | omega | (simp only [List.length_append, List.length_cons, List.length_nil]; omega)) | exact A3)) ?_
 refine Ab ?_
 refine BO ?_
 refine h14 _ ?_; clear h14
 refine An ?_
 try simp only [Af]
 obtain rfl : a = 1 := by omega
 rw [hrS, if_neg (by show ¬2 < l; omega)]
 refine Ax ?_
 exact As
 refine AX ?_ ?_
 simp only [Ao, Ak]
 try refine Ac ?_
 refine Ap (hq := by (first | (first | rfl | omega | (simp only [List.length_append, List.length_cons, List.length_nil]; omega)) | exact A3)) ?_
 refine Ab ?_
 refine Bu ?_
 simp only [Ao, Ak]
 try refine Ac ?_
 have hc := Ag (E := ((EZ fu ks).at_ 71)) (f := 67) (sp := Spec.fresh GT) rfl
 have hs := @GT.eq_1
 refine B8 (hq := by (first | (first | rfl | omega | (simp only [List.length_append, List.length_cons, List.length_nil]; omega)) | exact A3)) ?_
 have hc := Ag (E := ((EZ fu ks).at_ 71)) (f := 68) (sp := Spec.gen GU) rfl
 have hs := @GU.eq_1
 refine B8 (hq := by (first | (first | rfl | omega | (simp only [List.length_append, List.length_cons, List.length_nil]; omega)) | exact A3)) ?_
 refine Al (hq := by (first | (first | rfl | omega | (simp only [List.length_append, List.length_cons, List.length_nil]; omega)) | exact A3)) ?_
 refine Al (hq := by (first | (first | rfl | omega | (simp only [List.length_append, List.length_cons, List.length_nil]; omega)) | exact A3)) ?_
 refine Ae (hq := by (first | (first | rfl | omega | (simp only [List.length_append, List.length_cons, List.length_nil]; omega)) | exact A3)) ?_
 refine Ab ?_
 refine BO ?_
 refine h14 _ ?_; clear h14
 refine An ?_
 try simp only [Af]
 obtain rfl : a = 1 := by omega
 rw [hrS, if_neg (by show ¬2 < l; omega)]
 refine Ax ?_
 exact As
 exact C8
 refine AX ?_ ?_
 simp only [Ao, Ak]
 try refine Ac ?_
 refine Ap (hq := by (first | (first | rfl | omega | (simp only [List.length_append, List.length_cons, List.length_nil]; omega)) | exact A3)) ?_
 refine Ab ?_
 refine Bu ?_
 simp only [Ao, Ak]
 try refine Ac ?_
 refine FH (hq := by (first | (first | rfl | omega | (simp only [List.length_append, List.length_cons, List.length_nil]; omega)) | exact A3)) ?_
 have hc := Ag (E := ((EZ fu ks).at_ 71)) (f := 67) (sp := Spec.fresh GT) rfl
 have hs := @GT.eq_1
 refine B8 (hq := by (first | (first | rfl | omega | (simp only [List.length_append, List.length_cons, List.length_nil]; omega)) | exact A3)) ?_
 have hc := Ag (E := ((EZ fu ks).at_ 71)) (f := 68) (sp := Spec.gen GU) rfl
 have hs := @GU.eq_1
 refine B8 (hq := by (first | (first | rfl | omega | (simp only [List.length_append, List.length_cons, List.length_nil]; omega)) | exact A3)) ?_
 refine Al (hq := by (first | (first | rfl | omega | (simp only [List.length_append, List.length_cons, List.length_nil]; omega)) | exact A3)) ?_
 refine Al (hq := by (first | (first | rfl | omega | (simp only [List.length_append, List.length_cons, List.length_nil]; omega)) | exact A3)) ?_
 refine Ae (hq := by (first | (first | rfl | omega | (simp only [List.length_append, List.length_cons, List.length_nil]; omega)) | exact A3)) ?_
 refine Ab ?_
 refine BO ?_
 refine h14 _ ?_; clear h14
 refine An ?_
 try simp only [Af]
 obtain rfl : a = 1 := by omega
 rw [hrS, if_neg (by show ¬2 < l; omega)]
 refine Ax ?_
 exact As
 exact C8
 exact C8
 have h33 := hb13
 refine Aa fun N15 h15 => ?_
 refine Ad ?_
 try refine Ac ?_
 refine Al ?_
 refine Ae ?_
 refine Ab ?_
 refine h15 _ ?_; clear h15
 refine Ai (fun hb16 => ?_) (fun hb16 => ?_)
 have hk := hb16
 have hS2 := hS
 unfold KT at hS2
 dsimp only at hS2
 rw [if_neg (by (try simp at h33); omega)] at hS2
 rw [if_pos (by (try simp at hk); omega)] at hS2
 obtain ⟨A, hA, hA2⟩ := Option.map_eq_some_iff.1 hS2
 subst hA2
 have hAl := H3 hA
 refine Aa fun N17 h17 => ?_
 have hx := And.intro @hA hx0
 refine Ad ?_
 try refine Ac ?_
 refine Ap (hq := by (first | (first | omega | (simp only [List.length_append, List.length_cons, List.length_nil]; omega)) | exact A3)) ?_
 refine At (hq := by (first | (first | omega | (simp only [List.length_append, List.length_cons, List.length_nil]; omega)) | exact A3)) ?_
 refine Ap (hq := by (first | (first | omega | (simp only [List.length_append, List.length_cons, List.length_nil]; omega)) | exact A3)) ?_
 have hc := Ag (E := ((EZ fu ks).at_ 71)) (f := 48) (sp := Spec.pure (Fl fu)) rfl
 have hs := @Fl.eq_1
 refine AS (hq := by (first | ((repeat' apply And.intro) <;> first | rfl | omega | exact hok.2 | (rw [hA]; rfl) | (rw [hB]; rfl) | (simp [hA]; done)) | exact A3)) ?_
 refine Al (hq := by (first | (first | omega | (simp only [List.length_append, List.length_cons, List.length_nil]; omega)) | exact A3)) ?_
 refine Ae (hq := by (first | (first | omega | (simp only [List.length_append, List.length_cons, List.length_nil]; omega)) | exact A3)) ?_
 refine Ab ?_
 have hx := hx0
 refine h17 _ ?_; clear h17
 refine An ?_
 try simp only [Af]
 obtain rfl : a = 4 := by omega
 rw [hrS, if_neg (by show ¬2 < l; omega)]
 refine Ax ?_
 exact As
 have h42 := hb16
 refine Aa fun N18 h18 => ?_
 refine Ad ?_
 try refine Ac ?_
 refine Al ?_
 refine Ae ?_
 refine Ab ?_
 refine h18 _ ?_; clear h18
 refine Ai (fun hb19 => ?_) (fun hb19 => ?_)
 have hk := hb19
 have hS2 := hS
 unfold KT at hS2
 dsimp only at hS2
 rw [if_neg (by (try simp at h33); omega)] at hS2
 rw [if_neg (by (try simp at h42); omega)] at hS2
 obtain ⟨A, hA, hS3⟩ := Option.bind_eq_some_iff.1 hS2
 obtain ⟨B, hB, hB2⟩ := Option.map_eq_some_iff.1 hS3
 subst hB2
 have hAl := H3 hA
 have hBl := H3 hB
 obtain rfl : a = 2 := by have := hb19; (try simp at this); omega
 have hsg2 : Yp 2 = [32, 38, 32] := rfl
 have hx := And.intro @hl1 (And.intro @hA (And.intro @hB hx0))
 refine G0 [48] [0, 1, 2, 3, 6, 7, 8, 9, 10, 4, 5, 11, 12, 13] Fw (by kernel_rfl) ?_
 simp only [Ao, Ak]
 try refine Ac ?_
 refine Ap (hq := by (first | (first | omega | (simp only [List.length_append, List.length_cons, List.length_nil]; omega)) | exact A3)) ?_
 refine At (hq := by (first | (first | omega | (simp only [List.length_append, List.length_cons, List.length_nil]; omega)) | exact A3)) ?_
 refine Ap (hq := by (first | (first | omega | (simp only [List.length_append, List.length_cons, List.length_nil]; omega)) | exact A3)) ?_
 refine Ae (hq := by (first | (first | omega | (simp only [List.length_append, List.length_cons, List.length_nil]; omega)) | exact A3)) ?_
 refine Ap (hq := by (first | (first | omega | (simp only [List.length_append, List.length_cons, List.length_nil]; omega)) | exact A3)) ?_
 refine At (hq := by (first | (first | omega | (simp only [List.length_append, List.length_cons, List.length_nil]; omega)) | exact A3)) ?_
 refine Ap (hq := by (first | (first | omega | (simp only [List.length_append, List.length_cons, List.length_nil]; omega)) | exact A3)) ?_
 refine Ae (hq := by (first | (first | omega | (simp only [List.length_append, List.length_cons, List.length_nil]; omega)) | exact A3)) ?_
 refine Al (hq := by (first | (first | omega | (simp only [List.length_append, List.length_cons, List.length_nil]; omega)) | exact A3)) ?_
 have hc := Ag (E := ((EZ fu ks).at_ 71)) (f := 48) (sp := Spec.pure (Fl fu)) rfl
 have hs := @Fl.eq_1
 refine AS (hq := by (first | ((repeat' apply And.intro) <;> first | rfl | omega | exact hok.2 | (rw [hA]; rfl) | (rw [hB]; rfl) | (simp [hA]; done)) | exact A3)) ?_
 refine Al (hq := by (first | (first | omega | (simp only [List.length_append, List.length_cons, List.length_nil]; omega)) | exact A3)) ?_
 have hc := Ag (E := ((EZ fu ks).at_ 71)) (f := 48) (sp := Spec.pure (Fl fu)) rfl
 have hs := @Fl.eq_1
 refine AS (hq := by (first | ((repeat' apply And.intro) <;> first | rfl | omega | exact hok.2 | (rw [hA]; rfl) | (rw [hB]; rfl) | (simp [hA]; done)) | exact A3)) ?_
 refine Al (hq := by (first | (first | omega | (simp only [List.length_append, List.length_cons, List.length_nil]; omega)) | exact A3)) ?_
 refine Ae (hq := by (first | (first | omega | (simp only [List.length_append, List.length_cons, List.length_nil]; omega)) | exact A3)) ?_
 refine Ab ?_
 have hx := hx0
 refine h5 _ ⟨(), trivial, [some 0, some 1], ?_⟩
 dsimp only
 refine ⟨by rfl, ?_, ?_⟩
 refine Aj ?_
 exact As
 refine Aj ?_
 exact As
 have hk := hb19
 have hS2 := hS
 unfold KT at hS2
 dsimp only at hS2
 rw [if_neg (by (try simp at h33); omega)] at hS2
 rw [if_neg (by (try simp at h42); omega)] at hS2
 obtain ⟨A, hA, hS3⟩ := Option.bind_eq_some_iff.1 hS2
 obtain ⟨B, hB, hB2⟩ := Option.map_eq_some_iff.1 hS3
 subst hB2
 have hAl := H3 hA
 have hBl := H3 hB
 obtain rfl : a = 3 := by have := hb19; (try simp at this); (try simp at h33); (try simp at h42); omega
 have hsg2 : Yp 3 = [32, 124, 32] := rfl
 have hx := And.intro @hl1 (And.intro @hA (And.intro @hB hx0))
 refine G0 [48] [0, 1, 2, 3, 6, 7, 8, 9, 10, 4, 5, 11, 12, 13] Fw (by kernel_rfl) ?_
 simp only [Ao, Ak]
 try refine Ac ?_
 refine Ap (hq := by (first | (first | omega | (simp only [List.length_append, List.length_cons, List.length_nil]; omega)) | exact A3)) ?_
 refine At (hq := by (first | (first | omega | (simp only [List.length_append, List.length_cons, List.length_nil]; omega)) | exact A3)) ?_
 refine Ap (hq := by (first | (first | omega | (simp only [List.length_append, List.length_cons, List.length_nil]; omega)) | exact A3)) ?_
 refine Ae (hq := by (first | (first | omega | (simp only [List.length_append, List.length_cons, List.length_nil]; omega)) | exact A3)) ?_
 refine Ap (hq := by (first | (first | omega | (simp only [List.length_append, List.length_cons, List.length_nil]; omega)) | exact A3)) ?_
 refine At (hq := by (first | (first | omega | (simp only [List.length_append, List.length_cons, List.length_nil]; omega)) | exact A3)) ?_
 refine Ap (hq := by (first | (first | omega | (simp only [List.length_append, List.length_cons, List.length_nil]; omega)) | exact A3)) ?_
 refine Ae (hq := by (first | (first | omega | (simp only [List.length_append, List.length_cons, List.length_nil]; omega)) | exact A3)) ?_
 refine Al (hq := by (first | (first | omega | (simp only [List.length_append, List.length_cons, List.length_nil]; omega)) | exact A3)) ?_
 have hc := Ag (E := ((EZ fu ks).at_ 71)) (f := 48) (sp := Spec.pure (Fl fu)) rfl
 have hs := @Fl.eq_1
 refine AS (hq := by (first | ((repeat' apply And.intro) <;> first | rfl | omega | exact hok.2 | (rw [hA]; rfl) | (rw [hB]; rfl) | (simp [hA]; done)) | exact A3)) ?_
 refine Al (hq := by (first | (first | omega | (simp only [List.length_append, List.length_cons, List.length_nil]; omega)) | exact A3)) ?_
 have hc := Ag (E := ((EZ fu ks).at_ 71)) (f := 48) (sp := Spec.pure (Fl fu)) rfl
 have hs := @Fl.eq_1
 refine AS (hq := by (first | ((repeat' apply And.intro) <;> first | rfl | omega | exact hok.2 | (rw [hA]; rfl) | (rw [hB]; rfl) | (simp [hA]; done)) | exact A3)) ?_
 refine Al (hq := by (first | (first | omega | (simp only [List.length_append, List.length_cons, List.length_nil]; omega)) | exact A3)) ?_
 refine Ae (hq := by (first | (first | omega | (simp only [List.length_append, List.length_cons, List.length_nil]; omega)) | exact A3)) ?_
 refine Ab ?_
 have hx := hx0
 refine h5 _ ⟨(), trivial, [some 0, some 1], ?_⟩
 dsimp only
 refine ⟨by rfl, ?_, ?_⟩
 refine Aj ?_
 exact As
 refine Aj ?_
 exact As
 cases hg
end Go.Proofs.YtmbjnkgpcbpclaaGreat
