import Derived.Test.YtmbjnkgpcbpclaaGreatT17
import Derived.Test.YtmbjnkgpcbpclaaGreatV6
set_option linter.all false
set_option maxRecDepth 100000
set_option maxHeartbeats 4000000
namespace Go.Proofs.YtmbjnkgpcbpclaaGreat
open Go Go.Vc Go.RowKit
def HZ : List AV → Option (Prop × AV)
  | [.d (.sl ns), .d (.sl xs)] => some (xs = rows eT (dT xs) ∧ ns = rows eI (Cp (dT xs).length) ∧ (dT xs).length ≤ 20 ∧ ∀ s ∈ dT xs, s.length ≤ 400, .agg [.d (.sl (rows eI (Cp (dT xs).length))), .d (.sl (rows eP (C2 (dT xs) (dT xs).length)))])
  | _ => none
theorem WC {P : List AR} {n : Int} {s : Bs} {k : Nat} (h : k = s.length - 2) : Be P n s k = KQ P n s := by rw [h]; rfl
theorem SL (ts : List Bs) (k : Nat) {s : Bs} (h : ts[k]? = some s) : KQ (C2 ts k) k s = C2 ts (k + 1) := by rw [C2, B5 h]
theorem UC {n i : Nat} (h : i < n) : (Cp n)[i]? = some (i : Int) := by unfold Cp; rw [List.getElem?_map, List.getElem?_range h]; rfl
theorem PX : A5 Tryz.prog 28 (Spec.pure HZ) := by
 refine A1 (HC.at_ 50) Tryz.func28 rfl rfl rfl ?_
 intro args p r hg hp
 unfold HZ at hg
 split at hg
 rename_i ns xs
 simp only [Option.some.injEq, Prod.mk.injEq] at hg
 obtain ⟨rfl, rfl⟩ := hg
 obtain ⟨he, rfl, hl, hsl⟩ := hp
 generalize dT xs = l at *
 subst he
 have hT : (HC).X = T := rfl
 have hx0 := And.intro @DG (And.intro @eT.eq_1 (And.intro @DW (And.intro @AE (And.intro @BH @Tryz.results28))))
 have hx := hx0
 refine ⟨by rfl, ?_⟩
 intro F W0 hnp hmk
 refine Aa fun N1 h1 => Ac ?_
 refine Az ?_
 refine Bj ?_
 refine Ab (h1 _ (Aa fun N2 h2 => Ac ?_)); clear h1
 refine BD ?_
 refine Bj ?_
 refine A4 ?_
 refine Ab (h2 _ (Aa fun N3 h3 => Aa fun N4 h4 => ?_)); clear h2
 refine Iw 1 1 _ 2 (JG 85 2) rfl rfl rfl ?_
 simp only [Cc, List.set, List.cons_append, List.nil_append]
 refine Ac ?_
 refine Ad ?_
 refine Ab (h4 _ (As ?_)); clear h4
 refine A3 (σ := Nat) (fun s => (fun i => i ≤ l.length) s)
  (fun s => (fun i => [(0, .d (.sl (rows eI (Cp l.length)))), (1, .d (.sl (rows eT l))), (4, .ptr 0 0 0), (5, .ptr 1 0 0), (6, .d (.int .i64 (i : Nat)))]) s)
  (fun s => (fun i => [some (.one 49 [.d .nils, .d .nils]), some (.one 49 [.d (.sl (rows eI (Cp i))), .sl 2 0 (C2 l i).length]), some (.vec 85 2 (rows eP (C2 l i)))]) s) (fun s => (fun i => l.length - i) s) hnp 0 ?_ [some 0, some 1, some 2] ?_ ?_
 dsimp only
 omega
 dsimp only
 refine ⟨by rfl, ?_, ?_⟩
 refine Aj ?_
 exact Au
 refine Aj ?_
 exact Au
 rintro i hinv N5 h5
 dsimp only at hinv ⊢
 have i1 := hinv
 have hg := Fg l i
 obtain ⟨hb1, hb2⟩ := Kk hsl i
 refine Aa fun N6 h6 => ?_
 refine Aa fun N7 h7 => Ac ?_
 refine Az ?_
 iterate 2 refine Ad ?_
 refine AU ?_
 refine Ao ?_
 refine Ab (h7 _ (Ak (fun hb8 => ?_) (fun hb8 => ?_))); clear h7
 have hil : i < l.length := by have := hb8; rw [Bn] at this; omega
 obtain ⟨x, hxe⟩ := BA hil
 have hxl := hsl x (AB hxe)
 have hni := UC hil
 have hii := Bn i
 refine An ?_
 try simp only [Ae]
 refine h6 _ (Aa fun N9 h9 => As ?_); clear h6
 have hx := And.intro @hni (And.intro @eI.eq_1 (And.intro @AE hx0))
 refine Aa fun N10 h10 => Ac ?_
 refine Ar ?_
 refine Aq ?_
 iterate 2 refine Ad ?_
 refine Ar ?_
 refine Aq ?_
 have hc := Ag (E := (HC.at_ 50)) (f := 59) (sp := Spec.pure PQ) rfl
 have hs := @PQ.eq_1
 refine Fc ?_
 refine Ar ?_
 refine A4 ?_
 have hx := hx0
 refine Ab (h10 _ (Aa fun N11 h11 => Ac ?_)); clear h10
 refine Ad ?_
 refine Ab (h11 _ (As ?_)); clear h11
 refine A3 (σ := Nat) (fun s => (fun k => k ≤ x.length - 2) s)
  (fun s => (fun k => [(0, .d (.sl (rows eI (Cp l.length)))), (1, .d (.sl (rows eT l))), (4, .ptr 0 0 0), (5, .ptr 1 0 0), (6, .d (.int .i64 (i : Nat))), (7, .d (.int .i64 (k : Nat)))]) s)
  (fun s => (fun k => [some (.one 49 [.d .nils, .d .nils]), some (.one 49 [.d (.sl (rows eI (Cp (i + 1)))), .sl 2 0 (Be (C2 l i) i x k).length]), some (.vec 85 2 (rows eP (Be (C2 l i) i x k)))]) s) (fun s => (fun k => x.length - k) s) hnp 0 ?_ [some 0, some 1, some 2] ?_ ?_
 dsimp only
 omega
 dsimp only
 refine ⟨by rfl, ?_, ?_⟩
 refine Aj ?_
 ·(repeat' apply And.intro) <;> (first | (first | rfl | trivial | (rw [Fu]; done) | exact Or.inl (by rw [Fu]) | (simp [Fu]; done)) | exact Au)
 refine Aj ?_
 ·(repeat' apply And.intro) <;> (first | (first | rfl | trivial | (rw [Fu]; done) | exact Or.inl (by rw [Fu]) | (simp [Fu]; done)) | exact Au)
 rintro k hinv N12 h12
 dsimp only at hinv ⊢
 have k1 := hinv
 refine Aa fun N13 h13 => ?_
 have hx := And.intro @hxe hx0
 refine Aa fun N14 h14 => Ac ?_
 refine Az ?_
 refine Ad ?_
 refine Ao ?_
 iterate 2 refine Ad ?_
 refine Ar ?_
 refine Aq ?_
 refine AU ?_
 refine Ao ?_
 have hx := hx0
 refine Ab (h14 _ (Ak (fun hb15 => ?_) (fun hb15 => ?_))); clear h14
 have hk3 : k + 3 ≤ x.length := by have := hb15; omega
 have hgr : List.take (((k : Int) + 3).toNat - k) (x.drop k) = gr x k := by unfold gr; congr 1; omega
 have hgk := FK (n := i) (s := x) hg k
 have hpk := HK (P := C2 l i) (n := i) (s := x) k
 have hmk := HL (n := i) (s := x) (M := 400 * i + 1) (by omega) hb2 k
 refine An ?_
 try simp only [Ae]
 have hx := And.intro @hxe (And.intro @hni (And.intro @eI.eq_1 (And.intro @hgr hx0)))
 refine h13 _ (Aa fun N16 h16 => As (Ac ?_)); clear h13
 refine Ar ?_
 refine Aq ?_
 iterate 2 refine Ad ?_
 refine Ar ?_
 refine Aq ?_
 iterate 2 refine Ad ?_
 refine Ao ?_
 refine BZ ?_
 iterate 2 refine Ad ?_
 refine Ar ?_
 refine Aq ?_
 have hc := Ag (E := (HC.at_ 50)) (f := 60) (sp := Spec.gen K3) rfl
 have hs := @K3.eq_1
 refine BM (hq := by (first | (exact ⟨hgk.sort, by omega, fun p hp => by have := hmk p hp; omega⟩) | exact AQ)) ?_
 refine Ar ?_
 refine A4 ?_
 have hx := hx0
 refine Ab (h16 _ (Ac ?_)); clear h16
 refine Ad ?_
 refine Ao ?_
 refine Ad ?_
 refine Ab ?_
 refine h12 _ ⟨k + 1, ?_, ?_, [some 0, some 1, some 3], ?_⟩
 dsimp only
 omega
 dsimp only
 omega
 dsimp only
 refine ⟨by rfl, ?_, ?_⟩
 refine Aj ?_
 exact Au
 refine Aj ?_
 exact Au
 refine AJ ?_
 simp only [Ae, Nat.reduceEqDiff, reduceIte, eq_self]
 refine h9 _ (Ac ?_); clear h9
 refine Ad ?_
 refine Ao ?_
 refine Ad ?_
 refine Ab ?_
 have hke : k = x.length - 2 := by have := hb15; omega
 have hks := SL l i hxe
 rw [← WC hke] at hks
 rw [hks]
 refine h5 _ ⟨i + 1, ?_, ?_, [some 0, some 1, some 2], ?_⟩
 dsimp only
 omega
 dsimp only
 omega
 dsimp only
 refine ⟨by rfl, ?_, ?_⟩
 refine Aj ?_
 exact Au
 refine Aj ?_
 exact Au
 refine AJ ?_
 simp only [Ae, Nat.reduceEqDiff, reduceIte, eq_self]
 refine h3 _ (Aa fun N17 h17 => Ac ?_); clear h3
 refine Aq ?_
 refine A4 ?_
 refine Ab (h17 _ (Am ?_)); clear h17
 try simp only [Ae]
 obtain rfl : i = l.length := by have := hb8; rw [Bn] at this; omega
 refine Aw ?_
 ·(repeat' apply And.intro) <;> (first | (first | rfl | exact Or.inl rfl | trivial | (rw [List.take_length]; done) | (simp [List.take_length]; done)) | exact Au)
 cases hg
def Ye : Bq Tryz.prog := HC.add 28 (Spec.pure HZ) PX (by kernel_rfl)
