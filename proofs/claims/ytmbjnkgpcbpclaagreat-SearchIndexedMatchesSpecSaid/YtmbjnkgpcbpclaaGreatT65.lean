import Derived.Test.YtmbjnkgpcbpclaaGreatT64
set_option linter.all false
set_option maxRecDepth 100000
set_option maxHeartbeats 4000000
namespace Go.Proofs.YtmbjnkgpcbpclaaGreat
open Go Go.Vc Go.RowKit
def FH (n : Nat) (ks : A5 Tryz.prog 48 (Spec.pure (FT n))) : Bq Tryz.prog := XI.add 48 (Spec.pure (FT n)) ks (by kernel_rfl)
theorem Fb {p : Prop} (h : p := by (first | ((simp only [List.length_append, List.length_cons, List.length_nil]; omega)) | exact AQ)) : p := h
theorem Ay {p : Prop} (h : p := by (first | (first | rfl | omega | (simp only [List.length_append, List.length_cons, List.length_nil]; omega)) | exact AQ)) : p := h
theorem AC {p : Prop} (h : p := by (first | (first | omega | (simp only [List.length_append, List.length_cons, List.length_nil]; omega)) | exact AQ)) : p := h
theorem VO (fu : Nat) (ks : A5 Tryz.prog 48 (Spec.pure (FT fu))) : A5 Tryz.prog 48 (Spec.pure (FT (fu + 1))) := by
 refine A1 ((FH fu ks).at_ 71) Tryz.func48 rfl rfl rfl ?_
 intro args p r hg hp
 unfold FT at hg
 split at hg
 rename_i xs i l
 simp only [Option.some.injEq, Prod.mk.injEq] at hg
 obtain ⟨rfl, rfl⟩ := hg
 obtain ⟨he, hok, hi0, hl0, hl2, hsm⟩ := hp
 generalize C8 xs = q at *
 subst he
 obtain ⟨i, rfl⟩ := Int.eq_ofNat_of_zero_le hi0
 obtain ⟨l, rfl⟩ := Int.eq_ofNat_of_zero_le hl0
 simp only [Int.toNat_natCast] at hsm ⊢
 obtain ⟨r, hr⟩ := Option.isSome_iff_exists.1 hsm
 rw [hr, M3]
 obtain ⟨n, S, hn, hS, hSl, hrS⟩ := OS hr
 have hil : i < q.length := (List.getElem?_eq_some_iff.1 hn).1
 have hq40 := hok.1
 have hon := hok.2 n (AB hn)
 have hel := Uu n.tx
 obtain ⟨a, b, c, d⟩ := n
 dsimp only at hon hel hrS
 obtain ⟨o1, o2, o3, o4, o5⟩ := hon
 have hlv := Y8 a
 have hsv := YM a
 have hsg := R5 a
 have hl1 : ((Qa a : Int) + 1).toNat = Qa a + 1 := by omega
 have hT : ((FH fu ks)).X = T := rfl
 have hx0 := And.intro @Ci (And.intro @Ch (And.intro @BL (And.intro @AL (And.intro @DG (And.intro @Int.toNat_natCast (And.intro @M3 @Tryz.results48))))))
 have hx := hx0
 refine ⟨by rfl, ?_⟩
 intro F W0 hnp hmk
 refine Aa fun N1 h1 => Ac ?_
 refine Az ?_
 refine Fz ?_
 refine Ad ?_
 have hx := And.intro @hn (And.intro @Ec.eq_1 hx0)
 refine Ab (h1 _ (Aa fun N2 h2 => Ac ?_)); clear h1
 refine Ar ?_
 refine Aq ?_
 refine Ad ?_
 refine Ar ?_
 refine Aq ?_
 refine Bj ?_
 refine A4 ?_
 have hx := And.intro @hsv hx0
 refine Ab (h2 _ (Aa fun N3 h3 => Ac ?_)); clear h2
 refine Ar ?_
 refine Aq ?_
 have hc := Ag (E := ((FH fu ks).at_ 71)) (f := 66) (sp := Spec.pure VS) rfl
 have hs := @VS.eq_1
 refine Ba ?_
 refine Ad ?_
 have hx := hx0
 refine Ab (h3 _ (Aa fun N4 h4 => Ac ?_)); clear h3
 refine Ad ?_
 refine Ab (h4 _ ?_); clear h4
 refine F0 (σ := Unit) (fun s => (fun u => True) s)
  (fun s => (fun u => [(2, .d (.int .i64 (l : Nat))), (7, .ptr 1 0 0), (8, .d (.int .i64 (Qa a : Nat))), (9, .d (.str S))]) s)
  (fun s => (fun u => [some (.one 25 [.d (.sl (rows Ec q))]), some (.one 55 [.d (.int .i64 a), .d (.str b), .d (.int .i64 c), .d (.int .i64 d)])]) s) hnp ?_ ?_
 rintro u hinv
 dsimp only at hinv ⊢
 refine Aa fun N6 h6 => ?_
 refine Aa fun N7 h7 => Ac ?_
 refine Az ?_
 iterate 2 refine Ad ?_
 refine Ao ?_
 refine Ab (h7 _ (Ak (fun hb8 => ?_) (fun hb8 => ?_))); clear h7
 refine Aa fun N9 h9 => Ac ?_
 refine Ad (hq := Fb) ?_
 refine Ao (hq := Fb) ?_
 refine Ao (hq := Fb) ?_
 refine Ad (hq := Fb) ?_
 refine Ab (h9 _ (Am ?_)); clear h9
 try simp only [Ae]
 rw [hrS, if_pos (by have := hb8; (try simp at this); omega)]
 refine Aw ?_
 exact Au
 refine An ?_
 try simp only [Ae]
 refine h6 _ (Aa fun N10 h10 => Ac ?_); clear h6
 iterate 2 refine Ad ?_
 refine Ab (h10 _ (Am ?_)); clear h10
 try simp only [Ae]
 rw [hrS, if_neg (by have := hb8; (try simp at this); omega)]
 refine Aw ?_
 exact Au
 intro N5 h5
 refine Aa fun N11 h11 => Ac ?_
 refine Ar ?_
 refine Aq ?_
 refine Ab (h11 _ (As ?_)); clear h11
 refine Aa fun N12 h12 => Ac ?_
 refine Ao ?_
 refine Ad ?_
 refine Ab (h12 _ (Ak (fun hb13 => ?_) (fun hb13 => ?_))); clear h12
 have hk := hb13
 have hS2 := hS
 unfold LM at hS2
 dsimp only at hS2
 rw [if_pos (by (try simp at hk); omega)] at hS2
 obtain rfl := Option.some.inj hS2
 refine Aa fun N14 h14 => ?_
 refine EA [] (.alt 0 (.alt 1 (.seq [2, 3, 4, 5, 6, 7] .nil) (.alt 2 (.alt 1 (.seq [3, 4, 5, 6, 7] .nil) (.alt 3 (.seq [1, 4, 5, 6, 7] .nil) .nil)) .nil)) (.alt 2 (.alt 0 (.alt 1 (.seq [3, 4, 5, 6, 7] .nil) (.alt 3 (.seq [1, 4, 5, 6, 7] .nil) .nil)) (.alt 3 (.seq [0, 1, 4, 5, 6, 7] .nil) .nil)) .nil)) ER (by kernel_rfl) ?_
 refine A0 ?_ ?_
 simp only [Ah, Af]
 refine Di (hq := Ay) ?_
 refine Ab ?_
 refine A0 ?_ ?_
 simp only [Ah, Af]
 have hc := Ag (E := ((FH fu ks).at_ 71)) (f := 67) (sp := Spec.fresh H9) rfl
 have hs := @H9.eq_1
 refine BM (hq := Ay) ?_
 refine Ab ?_
 refine A7 ?_
 simp only [Ah, Af]
 refine Ar (hq := Ay) ?_
 refine Aq (hq := Ay) ?_
 have hc := Ag (E := ((FH fu ks).at_ 71)) (f := 68) (sp := Spec.gen HA) rfl
 have hs := @HA.eq_1
 refine BM (hq := Ay) ?_
 refine Ao (hq := Ay) ?_
 refine Ao (hq := Ay) ?_
 refine Ad (hq := Ay) ?_
 refine Ab ?_
 refine AK ?_
 refine h14 _ (Am ?_); clear h14
 try simp only [Ae]
 obtain rfl : a = 1 := by omega
 rw [hrS, if_neg (by show ¬2 < l; omega)]
 refine Aw ?_
 exact Au
 refine A0 ?_ ?_
 simp only [Ah, Af]
 refine Ar (hq := Ay) ?_
 refine Ab ?_
 refine A0 ?_ ?_
 simp only [Ah, Af]
 have hc := Ag (E := ((FH fu ks).at_ 71)) (f := 67) (sp := Spec.fresh H9) rfl
 have hs := @H9.eq_1
 refine BM (hq := Ay) ?_
 refine Ab ?_
 refine A7 ?_
 simp only [Ah, Af]
 refine Aq (hq := Ay) ?_
 have hc := Ag (E := ((FH fu ks).at_ 71)) (f := 68) (sp := Spec.gen HA) rfl
 have hs := @HA.eq_1
 refine BM (hq := Ay) ?_
 refine Ao (hq := Ay) ?_
 refine Ao (hq := Ay) ?_
 refine Ad (hq := Ay) ?_
 refine Ab ?_
 refine AK ?_
 refine h14 _ (Am ?_); clear h14
 try simp only [Ae]
 obtain rfl : a = 1 := by omega
 rw [hrS, if_neg (by show ¬2 < l; omega)]
 refine Aw ?_
 exact Au
 refine A0 ?_ ?_
 simp only [Ah, Af]
 refine Aq (hq := Ay) ?_
 refine Ab ?_
 refine A7 ?_
 simp only [Ah, Af]
 have hc := Ag (E := ((FH fu ks).at_ 71)) (f := 67) (sp := Spec.fresh H9) rfl
 have hs := @H9.eq_1
 refine BM (hq := Ay) ?_
 have hc := Ag (E := ((FH fu ks).at_ 71)) (f := 68) (sp := Spec.gen HA) rfl
 have hs := @HA.eq_1
 refine BM (hq := Ay) ?_
 refine Ao (hq := Ay) ?_
 refine Ao (hq := Ay) ?_
 refine Ad (hq := Ay) ?_
 refine Ab ?_
 refine AK ?_
 refine h14 _ (Am ?_); clear h14
 try simp only [Ae]
 obtain rfl : a = 1 := by omega
 rw [hrS, if_neg (by show ¬2 < l; omega)]
 refine Aw ?_
 exact Au
 exact Bh
 exact Bh
 refine A0 ?_ ?_
 simp only [Ah, Af]
 refine Ar (hq := Ay) ?_
 refine Ab ?_
 refine A0 ?_ ?_
 simp only [Ah, Af]
 refine Di (hq := Ay) ?_
 refine Ab ?_
 refine A0 ?_ ?_
 simp only [Ah, Af]
 have hc := Ag (E := ((FH fu ks).at_ 71)) (f := 67) (sp := Spec.fresh H9) rfl
 have hs := @H9.eq_1
 refine BM (hq := Ay) ?_
 refine Ab ?_
 refine A7 ?_
 simp only [Ah, Af]
 refine Aq (hq := Ay) ?_
 have hc := Ag (E := ((FH fu ks).at_ 71)) (f := 68) (sp := Spec.gen HA) rfl
 have hs := @HA.eq_1
 refine BM (hq := Ay) ?_
 refine Ao (hq := Ay) ?_
 refine Ao (hq := Ay) ?_
 refine Ad (hq := Ay) ?_
 refine Ab ?_
 refine AK ?_
 refine h14 _ (Am ?_); clear h14
 try simp only [Ae]
 obtain rfl : a = 1 := by omega
 rw [hrS, if_neg (by show ¬2 < l; omega)]
 refine Aw ?_
 exact Au
 refine A0 ?_ ?_
 simp only [Ah, Af]
 refine Aq (hq := Ay) ?_
 refine Ab ?_
 refine A7 ?_
 simp only [Ah, Af]
 have hc := Ag (E := ((FH fu ks).at_ 71)) (f := 67) (sp := Spec.fresh H9) rfl
 have hs := @H9.eq_1
 refine BM (hq := Ay) ?_
 have hc := Ag (E := ((FH fu ks).at_ 71)) (f := 68) (sp := Spec.gen HA) rfl
 have hs := @HA.eq_1
 refine BM (hq := Ay) ?_
 refine Ao (hq := Ay) ?_
 refine Ao (hq := Ay) ?_
 refine Ad (hq := Ay) ?_
 refine Ab ?_
 refine AK ?_
 refine h14 _ (Am ?_); clear h14
 try simp only [Ae]
 obtain rfl : a = 1 := by omega
 rw [hrS, if_neg (by show ¬2 < l; omega)]
 refine Aw ?_
 exact Au
 exact Bh
 refine A0 ?_ ?_
 simp only [Ah, Af]
 refine Aq (hq := Ay) ?_
 refine Ab ?_
 refine A7 ?_
 simp only [Ah, Af]
 refine Di (hq := Ay) ?_
 have hc := Ag (E := ((FH fu ks).at_ 71)) (f := 67) (sp := Spec.fresh H9) rfl
 have hs := @H9.eq_1
 refine BM (hq := Ay) ?_
 have hc := Ag (E := ((FH fu ks).at_ 71)) (f := 68) (sp := Spec.gen HA) rfl
 have hs := @HA.eq_1
 refine BM (hq := Ay) ?_
 refine Ao (hq := Ay) ?_
 refine Ao (hq := Ay) ?_
 refine Ad (hq := Ay) ?_
 refine Ab ?_
 refine AK ?_
 refine h14 _ (Am ?_); clear h14
 try simp only [Ae]
 obtain rfl : a = 1 := by omega
 rw [hrS, if_neg (by show ¬2 < l; omega)]
 refine Aw ?_
 exact Au
 exact Bh
 exact Bh
 have h33 := hb13
 refine Aa fun N15 h15 => Ac ?_
 refine Ao ?_
 refine Ad ?_
 refine Ab (h15 _ (Ak (fun hb16 => ?_) (fun hb16 => ?_))); clear h15
 have hk := hb16
 have hS2 := hS
 unfold LM at hS2
 dsimp only at hS2
 rw [if_neg (by (try simp at h33); omega)] at hS2
 rw [if_pos (by (try simp at hk); omega)] at hS2
 obtain ⟨A, hA, hA2⟩ := Option.map_eq_some_iff.1 hS2
 subst hA2
 have hAl := Ir hA
 have hx := And.intro @hA hx0
 refine Aa fun N17 h17 => Ac ?_
 refine Aq (hq := AC) ?_
 refine Ar (hq := AC) ?_
 refine Aq (hq := AC) ?_
 have hc := Ag (E := ((FH fu ks).at_ 71)) (f := 48) (sp := Spec.pure (FT fu)) rfl
 have hs := @FT.eq_1
 refine Ba (hq := by (first | ((repeat' apply And.intro) <;> first | rfl | omega | exact hok.2 | (rw [hA]; rfl) | (rw [hB]; rfl) | (simp [hA]; done)) | exact AQ)) ?_
 refine Ao (hq := AC) ?_
 refine Ad (hq := AC) ?_
 have hx := hx0
 refine Ab (h17 _ (Am ?_)); clear h17
 try simp only [Ae]
 obtain rfl : a = 4 := by omega
 rw [hrS, if_neg (by show ¬2 < l; omega)]
 refine Aw ?_
 exact Au
 have h42 := hb16
 refine Aa fun N18 h18 => Ac ?_
 refine Ao ?_
 refine Ad ?_
 refine Ab (h18 _ (Ak (fun hb19 => ?_) (fun hb19 => ?_))); clear h18
 have hk := hb19
 have hS2 := hS
 unfold LM at hS2
 dsimp only at hS2
 rw [if_neg (by (try simp at h33); omega)] at hS2
 rw [if_neg (by (try simp at h42); omega)] at hS2
 obtain ⟨A, hA, hS3⟩ := Option.bind_eq_some_iff.1 hS2
 obtain ⟨B, hB, hB2⟩ := Option.map_eq_some_iff.1 hS3
 subst hB2
 have hAl := Ir hA
 have hBl := Ir hB
 obtain rfl : a = 2 := by have := hb19; (try simp at this); omega
 have hsg2 : ZK 2 = [32, 38, 32] := rfl
 have hx := And.intro @hl1 (And.intro @hA (And.intro @hB hx0))
 refine JF [48] [0, 1, 2, 3, 6, 7, 8, 9, 10, 4, 5, 11, 12, 13] ER (by kernel_rfl) ?_
 simp only [Ah, Af]
 refine Aq (hq := AC) ?_
 refine Ar (hq := AC) ?_
 refine Aq (hq := AC) ?_
 refine Ad (hq := AC) ?_
 refine Aq (hq := AC) ?_
 refine Ar (hq := AC) ?_
 refine Aq (hq := AC) ?_
 refine Ad (hq := AC) ?_
 refine Ao (hq := AC) ?_
 have hc := Ag (E := ((FH fu ks).at_ 71)) (f := 48) (sp := Spec.pure (FT fu)) rfl
 have hs := @FT.eq_1
 refine Ba (hq := by (first | ((repeat' apply And.intro) <;> first | rfl | omega | exact hok.2 | (rw [hA]; rfl) | (rw [hB]; rfl) | (simp [hA]; done)) | exact AQ)) ?_
 refine Ao (hq := AC) ?_
 have hc := Ag (E := ((FH fu ks).at_ 71)) (f := 48) (sp := Spec.pure (FT fu)) rfl
 have hs := @FT.eq_1
 refine Ba (hq := by (first | ((repeat' apply And.intro) <;> first | rfl | omega | exact hok.2 | (rw [hA]; rfl) | (rw [hB]; rfl) | (simp [hA]; done)) | exact AQ)) ?_
 refine Ao (hq := AC) ?_
 refine Ad (hq := AC) ?_
 refine Ab ?_
 have hx := hx0
 refine h5 _ ⟨(), trivial, [some 0, some 1], ?_⟩
 dsimp only
 refine ⟨by rfl, ?_, ?_⟩
 refine Aj ?_
 exact Au
 refine Aj ?_
 exact Au
 have hk := hb19
 have hS2 := hS
 unfold LM at hS2
 dsimp only at hS2
 rw [if_neg (by (try simp at h33); omega)] at hS2
 rw [if_neg (by (try simp at h42); omega)] at hS2
 obtain ⟨A, hA, hS3⟩ := Option.bind_eq_some_iff.1 hS2
 obtain ⟨B, hB, hB2⟩ := Option.map_eq_some_iff.1 hS3
 subst hB2
 have hAl := Ir hA
 have hBl := Ir hB
 obtain rfl : a = 3 := by have := hb19; (try simp at this); (try simp at h33); (try simp at h42); omega
 have hsg2 : ZK 3 = [32, 124, 32] := rfl
 have hx := And.intro @hl1 (And.intro @hA (And.intro @hB hx0))
 refine JF [48] [0, 1, 2, 3, 6, 7, 8, 9, 10, 4, 5, 11, 12, 13] ER (by kernel_rfl) ?_
 simp only [Ah, Af]
 refine Aq (hq := AC) ?_
 refine Ar (hq := AC) ?_
 refine Aq (hq := AC) ?_
 refine Ad (hq := AC) ?_
 refine Aq (hq := AC) ?_
 refine Ar (hq := AC) ?_
 refine Aq (hq := AC) ?_
 refine Ad (hq := AC) ?_
 refine Ao (hq := AC) ?_
 have hc := Ag (E := ((FH fu ks).at_ 71)) (f := 48) (sp := Spec.pure (FT fu)) rfl
 have hs := @FT.eq_1
 refine Ba (hq := by (first | ((repeat' apply And.intro) <;> first | rfl | omega | exact hok.2 | (rw [hA]; rfl) | (rw [hB]; rfl) | (simp [hA]; done)) | exact AQ)) ?_
 refine Ao (hq := AC) ?_
 have hc := Ag (E := ((FH fu ks).at_ 71)) (f := 48) (sp := Spec.pure (FT fu)) rfl
 have hs := @FT.eq_1
 refine Ba (hq := by (first | ((repeat' apply And.intro) <;> first | rfl | omega | exact hok.2 | (rw [hA]; rfl) | (rw [hB]; rfl) | (simp [hA]; done)) | exact AQ)) ?_
 refine Ao (hq := AC) ?_
 refine Ad (hq := AC) ?_
 refine Ab ?_
 have hx := hx0
 refine h5 _ ⟨(), trivial, [some 0, some 1], ?_⟩
 dsimp only
 refine ⟨by rfl, ?_, ?_⟩
 refine Aj ?_
 exact Au
 refine Aj ?_
 exact Au
 cases hg
