import Derived.Test.YtmbjnkgpcbpclaaGreatT50
import Derived.Test.YtmbjnkgpcbpclaaGreatSo
set_option linter.all false
set_option maxRecDepth 100000
set_option maxHeartbeats 4000000
namespace Go.Proofs.YtmbjnkgpcbpclaaGreat
open Go Go.Vc Go.RowKit
theorem Ai.below [Bl] {W0 : World} {M0 : Nat → Prop} {H : Av} {n : Nat} {w w' : World} {S : Lays} (hH : Ai W0 M0 H n w S) (h : Go.RowKit.Below w.heap.size w w') : Ai W0 M0 H n w' S ∧ Cu w S n w' S n := by
  have hs : ∀ b, b < w.heap.size → w'.heap[b]? = w.heap[b]? := fun b hb => h.block b hb
  have hE : Cu w S n w' S n := ⟨Nat.le_refl _, h.size, fun _ _ => .inl rfl, fun _ _ h => h, fun b hb _ => hs b hb⟩
  refine ⟨⟨hH.bnd, fun i l b h1 h2 => Nat.lt_of_lt_of_le (hH.lt2 i l b h1 h2) h.size, fun id b hb => ?_, hH.inj2, hH.nod, hH.plain, hH.mut2, h.os.trans hH.os, h.tape.trans hH.tape, h.output.trans hH.output, Nat.le_trans hH.size h.size, fun b hb hM => (hs b (Nat.lt_of_lt_of_le hb hH.size)).trans (hH.same b hb hM), fun b hb => ⟨(hH.far b hb).1, (hH.far b hb).2⟩, hH.pin, hH.glx hE⟩, hE⟩
  obtain ⟨l, hl, hb'⟩ := hH.box id b hb
  exact ⟨l, hl, hb'.ext hE (fun k hk => hs k (hH.lt2 id l k hl hk))⟩
theorem Jf {P : Program} {f : FuncId} {g : List AV → Option (Prop × AV)} (h : ∀ args p r, g args = some (p, r) → p → ∀ [Bl] (H : Av) (n : Nat) (w : World) (S : Lays) (vs : List Value), Ai w (Gq H S) H n w S → vs.length = args.length → (∀ (i : Nat) (c : AV) (u : Value), args[i]? = some c → vs[i]? = some u → R w S n c u) →
    Calls P f vs.toArray w fun e w' => ∃ v, e = .returned v ∧ Go.RowKit.Below w.heap.size w w' ∧ R w' S n r v) : A5 P f (Spec.pure g) := by
  intro args H n p r o hrun hp F w S vs hH hl hr
  simp only [Spec.pure] at hrun
  split at hrun
  · rename_i p' r' hg
    simp only [Option.some.injEq, Prod.mk.injEq] at hrun
    obtain ⟨rfl, rfl, rfl⟩ := hrun
    refine (h args p' r' hg hp H n w S vs hH hl hr).mono ?_
    rintro e w' ⟨v, rfl, hb, hR⟩
    obtain ⟨h1, e1⟩ := Ai.below hH hb
    exact ⟨v, S, rfl, ⟨h1, e1, fun _ _ _ => rfl, fun i hi _ => hH.bnd i hi⟩, fun _ => ⟨rfl, fun b hb' => hb.block b hb'⟩, hR⟩
  · cases hrun
def Ke : List AV → Option (Prop × AV)
  | [.d (.str s), .d (.str p)] => some (s.length ≤ 1000000000, .d (.bool (Lib.contains s p)))
  | _ => none
theorem str2 {P : Program} {f : FuncId} [Bl] {w : World} {S : Lays} {n : Nat} {s p : List UInt8} {vs : List Value} (hl : vs.length = 2) (hr : ∀ (i : Nat) (c : AV) (u : Value), [AV.d (.str s), .d (.str p)][i]? = some c → vs[i]? = some u → R w S n c u) :
    vs = [.string ⟨s.toArray⟩, .string ⟨p.toArray⟩] := by
  match vs, hl with
  | [u, v], _ =>
    have h1 := R.str_iff.1 (hr 0 _ u rfl rfl)
    have h2 := R.str_iff.1 (hr 1 _ v rfl rfl)
    rw [h1, h2]
theorem Z6 [Bl] {W0 : World} {M0 : Nat → Prop} {H : Av} {n : Nat} {w : World} {S : Lays} (hH : Ai W0 M0 H n w S) : w.cell? ⟨0, 0, none⟩ = some (.int .i64 Bl.mx) := by
  have h := hH.gl (0, [.int .i64 Bl.mx]) (by unfold GA; simp)
  cases h.rd with | ptr _ b o u hb hO hc hr =>
  have h1 := hc 0 _ rfl
  have h2 := hr 0 _ rfl
  generalize u 0 = z at h1 h2
  cases h2
  exact h1
theorem PC : A5 Tryz.prog 61 (Spec.pure Ke) := by
 refine Jf fun args p r hg hp F H n w S vs hH hl hr => ?_
 unfold Ke at hg
 split at hg
 ·rename_i s q
  simp only [Option.some.injEq, Prod.mk.injEq] at hg
  obtain ⟨rfl, rfl⟩ := hg
  rw [str2 (P := Tryz.prog) (f := 0) hl hr]
  refine (Any.strings_Contains Tryz.lays144 _ _ Bl.mx w (Nat.lt_of_le_of_lt hp (by decide)) (Z6 hH)).mono ?_
  rintro e w' ⟨rfl, rfl⟩
  exact ⟨_, rfl, Go.RowKit.Below.refl _ _, R.mkBool _⟩
 ·cases hg
def Pn : Bq Tryz.prog := Ye.add 61 (Spec.pure Ke) PC (by kernel_rfl)
theorem NN (s p : Bs) : Lib.contains s p = DZ s p := by
  unfold Lib.contains
  rcases Lib.index_spec s p with ⟨h1, h2⟩ | ⟨i, h1, h2, h3, h4⟩
  · rw [h1, decide_eq_false (by omega), II]
    intro j hj he
    have := h2 j
    unfold Lib.occAt at this
    rw [List.isPrefixOf_iff_prefix.2 (by rw [← he]; exact List.take_prefix _ _)] at this
    first | exact absurd (this (by omega)) (by simp) | exact absurd this (by simp)
  · rw [h1, decide_eq_true (by omega)]
    unfold Lib.occAt at h3
    have hp := List.isPrefixOf_iff_prefix.1 h3
    have hl := hp.length_le
    rw [List.length_drop] at hl
    have he : (s.drop i).take p.length = p := (List.prefix_iff_eq_take.1 hp).symm
    by_cases hi : i < s.length + 1 - p.length
    · exact (Gb hi he).symm
    · have : p.length = 0 := by omega
      exact (Gb (i := 0) (by omega) (by rw [this]; simp [List.eq_nil_of_length_eq_zero this])).symm
theorem Rd (s : Bs) (c : UInt8) : DZ s [c] = decide (c ∈ s) := by
  by_cases h : c ∈ s
  · rw [decide_eq_true h]
    obtain ⟨i, hi⟩ := List.getElem?_of_mem h
    have hlt := (List.getElem?_eq_some_iff.1 hi).1
    exact Gb (i := i) (by simp only [List.length_singleton]; omega) (by rw [List.length_singleton, List.take_one, List.head?_drop, hi]; rfl)
  · rw [decide_eq_false h]
    refine II fun j hj he => h ?_
    have : c ∈ (s.drop j).take [c].length := by rw [he]; exact List.mem_singleton.2 rfl
    exact List.mem_of_mem_drop (List.mem_of_mem_take this)
def FS : List AV → Option (Prop × AV)
  | [.d (.int .i64 k)] => some (True, .d (.int .i64 ((CE k : Nat) : Int)))
  | _ => none
def MA : List AV → Option (Prop × AV)
  | [.d (.str s)] => some (s.length ≤ 9223372036854775807, .d (.bool (Gr s)))
  | _ => none
def NJ : DP
  | [.agg [.d (.int .i64 a), .d (.str b), .d (.int .i64 c), .d (.int .i64 e)], .sl 0 0 m], [some (.vec t s xs)] => some (xs = rows eI (dI xs) ∧ t = 3 ∧ s = 1 ∧ m = (dI xs).length ∧ (dI xs).length ≤ 1000 ∧ b.length ≤ 9223372036854775807, .d (.int .i64 (I0 ⟨a, b, c, e⟩ (dI xs))), [some (.vec 3 1 (rows eI (dI xs)))])
  | _, _ => none
theorem RJ (l : List Int) {k : Nat} (h : k ≤ l.length) (h2 : k ≤ 2) : A6 [[D.int .i64 0], [D.int .i64 0]] 0 (rows eI (List.take 2 (List.take k (List.drop (l.length - k) l)))) = [[.int .i64 (FG l k 0)], [.int .i64 (FG l k 1)]] := by
  have hl : (l.drop (l.length - k)).length = k := by rw [List.length_drop]; omega
  rw [List.take_of_length_le (l := List.drop _ l) (by omega), List.take_of_length_le (by omega)]
  unfold FG
  generalize l.drop (l.length - k) = r at hl ⊢
  match k, h2, r, hl with
  | 0, _, [], _ => rfl
  | 1, _, [a], _ => rfl
  | 2, _, [a, b], _ => rfl
theorem Qx : A5 Tryz.prog 34 (Spec.pure FS) := by
 refine A1 (Pn.at_ 9) Tryz.func34 rfl rfl rfl ?_
 intro args p r hg hp
 unfold FS at hg
 split at hg
 rename_i k
 simp only [Option.some.injEq, Prod.mk.injEq] at hg
 obtain ⟨rfl, rfl⟩ := hg
 have hT : (Pn).X = T := rfl
 have hx0 := @Tryz.results34
 have hx := hx0
 refine ⟨by rfl, ?_⟩
 intro F W0 hnp hmk
 refine Aa fun N1 h1 => Ac ?_
 refine Az ?_
 refine Ad ?_
 refine Ab (h1 _ (Aa fun N2 h2 => ?_)); clear h1
 refine Aa fun N3 h3 => Ac ?_
 refine Ad ?_
 refine Ab (h3 _ (As (Aa fun N4 h4 => ?_))); clear h3
 refine Aa fun N5 h5 => Ac ?_
 refine Ao ?_
 refine Ad ?_
 refine Ab (h5 _ (Ak (fun hb6 => ?_) (fun hb6 => ?_))); clear h5
 refine An ?_
 try simp only [Ae]
 refine h4 _ (Ak (fun hb7 => ?_) (fun hb7 => ?_)); clear h4
 refine Aa fun N8 h8 => Ac ?_
 refine Ad ?_
 refine Ab (h8 _ (Am ?_)); clear h8
 try simp only [Ae]
 have hr : CE k = 2 := by
  unfold CE; rw [if_pos (.inl (by have := hb7; (try simp at this); omega))]
 rw [hr]
 refine Aw ?_
 exact Au
 ·exfalso; first | omega | contradiction | (simp_all; done) | (simp_all; omega)
 have hk2 : ¬k = 2 := by have := hb6; (try simp at this); omega
 refine Ac ?_
 refine Ao ?_
 refine Ad ?_
 refine Ab (h4 _ (Ak (fun hb9 => ?_) (fun hb9 => ?_))); clear h4
 refine Aa fun N10 h10 => Ac ?_
 refine Ad ?_
 refine Ab (h10 _ (Am ?_)); clear h10
 try simp only [Ae]
 have hr : CE k = 2 := by
  unfold CE; rw [if_pos (.inr (by have := hb9; (try simp at this); omega))]
 rw [hr]
 refine Aw ?_
 exact Au
 have hk3 : ¬k = 3 := by have := hb9; (try simp at this); omega
 refine Aa fun N11 h11 => Ac ?_
 refine Ao ?_
 refine Ad ?_
 refine Ab (h11 _ (Ak (fun hb12 => ?_) (fun hb12 => ?_))); clear h11
 refine Aa fun N13 h13 => Ac ?_
 refine Ad ?_
 refine Ab (h13 _ (Am ?_)); clear h13
 try simp only [Ae]
 have hr : CE k = 1 := by
  have hk4 : k = 4 := (by have := hb12; (try simp at this); omega)
  rw [hk4]; rfl
 rw [hr]
 refine Aw ?_
 exact Au
 refine An ?_
 try simp only [Ae]
 refine h2 _ (Aa fun N14 h14 => Ac ?_); clear h2
 refine Ad ?_
 refine Ab (h14 _ (Am ?_)); clear h14
 try simp only [Ae]
 have hr : CE k = 0 := by
  unfold CE; rw [if_neg (fun h => h.elim hk2 hk3), if_neg (by have := hb12; (try simp at this); omega)]
 rw [hr]
 refine Aw ?_
 exact Au
 cases hg
def Pr : Bq Tryz.prog := Pn.add 34 (Spec.pure FS) Qx (by kernel_rfl)
theorem MX : A5 Tryz.prog 37 (Spec.pure FS) := by
 refine A1 (Pr.at_ 9) Tryz.func37 rfl rfl rfl ?_
 intro args p r hg hp
 unfold FS at hg
 split at hg
 rename_i k
 simp only [Option.some.injEq, Prod.mk.injEq] at hg
 obtain ⟨rfl, rfl⟩ := hg
 have hT : (Pr).X = T := rfl
 have hx0 := @Tryz.results37
 have hx := hx0
 refine ⟨by rfl, ?_⟩
 intro F W0 hnp hmk
 refine Aa fun N1 h1 => Ac ?_
 refine Az ?_
 refine Ad ?_
 refine Ab (h1 _ (Aa fun N2 h2 => ?_)); clear h1
 refine Aa fun N3 h3 => Ac ?_
 refine Ad ?_
 refine Ab (h3 _ (As (Aa fun N4 h4 => ?_))); clear h3
 refine Aa fun N5 h5 => Ac ?_
 refine Ao ?_
 refine Ad ?_
 refine Ab (h5 _ (Ak (fun hb6 => ?_) (fun hb6 => ?_))); clear h5
 refine An ?_
 try simp only [Ae]
 refine h4 _ (Ak (fun hb7 => ?_) (fun hb7 => ?_)); clear h4
 refine Aa fun N8 h8 => Ac ?_
 refine Ad ?_
 refine Ab (h8 _ (Am ?_)); clear h8
 try simp only [Ae]
 have hr : CE k = 2 := by
  unfold CE; rw [if_pos (.inl (by have := hb7; (try simp at this); omega))]
 rw [hr]
 refine Aw ?_
 exact Au
 ·exfalso; first | omega | contradiction | (simp_all; done) | (simp_all; omega)
 have hk2 : ¬k = 2 := by have := hb6; (try simp at this); omega
 refine Ac ?_
 refine Ao ?_
 refine Ad ?_
 refine Ab (h4 _ (Ak (fun hb9 => ?_) (fun hb9 => ?_))); clear h4
 refine Aa fun N10 h10 => Ac ?_
 refine Ad ?_
 refine Ab (h10 _ (Am ?_)); clear h10
 try simp only [Ae]
 have hr : CE k = 2 := by
  unfold CE; rw [if_pos (.inr (by have := hb9; (try simp at this); omega))]
 rw [hr]
 refine Aw ?_
 exact Au
 have hk3 : ¬k = 3 := by have := hb9; (try simp at this); omega
 refine Aa fun N11 h11 => Ac ?_
 refine Ao ?_
 refine Ad ?_
 refine Ab (h11 _ (Ak (fun hb12 => ?_) (fun hb12 => ?_))); clear h11
 refine Aa fun N13 h13 => Ac ?_
 refine Ad ?_
 refine Ab (h13 _ (Am ?_)); clear h13
 try simp only [Ae]
 have hr : CE k = 1 := by
  have hk4 : k = 4 := (by have := hb12; (try simp at this); omega)
  rw [hk4]; rfl
 rw [hr]
 refine Aw ?_
 exact Au
 refine An ?_
 try simp only [Ae]
 refine h2 _ (Aa fun N14 h14 => Ac ?_); clear h2
 refine Ad ?_
 refine Ab (h14 _ (Am ?_)); clear h14
 try simp only [Ae]
 have hr : CE k = 0 := by
  unfold CE; rw [if_neg (fun h => h.elim hk2 hk3), if_neg (by have := hb12; (try simp at this); omega)]
 rw [hr]
 refine Aw ?_
 exact Au
 cases hg
def HF : Bq Tryz.prog := Pr.add 37 (Spec.pure FS) MX (by kernel_rfl)
theorem SO : A5 Tryz.prog 62 (Spec.pure MA) := by
 refine A1 (HF.at_ 16) Tryz.func62 rfl rfl rfl ?_
 intro args p r hg hp
 unfold MA at hg
 split at hg
 rename_i z
 simp only [Option.some.injEq, Prod.mk.injEq] at hg
 obtain ⟨rfl, rfl⟩ := hg
 have hzl := hp
 have hm := Rd z 10
 have hch := NN z [10]
 have hT : (HF).X = T := rfl
 have hx0 := And.intro @Ci (And.intro @Ch @Tryz.results62)
 have hx := hx0
 refine ⟨by rfl, ?_⟩
 intro F W0 hnp hmk
 refine Aa fun N1 h1 => Ac ?_
 refine Az ?_
 refine Ad ?_
 refine Ab (h1 _ (Aa fun N2 h2 => ?_)); clear h1
 rcases (show z.length = 0 ∨ 80 < z.length ∨ (1 ≤ z.length ∧ z.length ≤ 80) by omega) with g1 | g1 | ⟨g1, g2⟩
 have f1 : (1 ≤ (z.length : Int)) = False := eq_false (by omega)
 have f2 := True.intro
 have hr : Gr z = false := by unfold Gr; rw [decide_eq_false (by omega)]; rfl
 have hx := And.intro @f1 (And.intro @f2 (And.intro @hch hx0))
 refine Ac ?_
 refine Ad ?_
 refine AU ?_
 refine Ao ?_
 refine Ad ?_
 refine At Bb ?_
 refine At Bb ?_
 refine At Bb ?_
 refine AH ?_
 refine Ad ?_
 refine At Bb ?_
 refine At Bb ?_
 refine At Bb ?_
 refine AH ?_
 refine Ad ?_
 have hx := hx0
 refine Ab (h2 _ (Am ?_)); clear h2
 try simp only [Ae]
 rw [hr]
 refine Aw ?_
 exact Au
 have f1 : (1 ≤ (z.length : Int)) = True := eq_true (by omega)
 have f2 : ((z.length : Int) ≤ 80) = False := eq_false (by omega)
 have hr : Gr z = false := by unfold Gr; rw [decide_eq_false (p := z.length ≤ 80) (by omega)]; simp
 have hx := And.intro @f1 (And.intro @f2 (And.intro @hch hx0))
 refine Ac ?_
 refine Ad ?_
 refine AU ?_
 refine Ao ?_
 refine Ad ?_
 refine C3 ?_
 refine J2 ?_
 refine DO ?_
 refine AH ?_
 refine Ad ?_
 refine At Bb ?_
 refine At Bb ?_
 refine At Bb ?_
 refine AH ?_
 refine Ad ?_
 have hx := hx0
 refine Ab (h2 _ (Am ?_)); clear h2
 try simp only [Ae]
 rw [hr]
 refine Aw ?_
 exact Au
 have f1 : (1 ≤ (z.length : Int)) = True := eq_true (by omega)
 have f2 : ((z.length : Int) ≤ 80) = True := eq_true (by omega)
 have hr : Gr z = !(DZ z [10]) := by unfold Gr; rw [decide_eq_true g1, decide_eq_true g2, hm]; rfl
 have hx := And.intro @f1 (And.intro @f2 (And.intro @hch hx0))
 refine Ac ?_
 refine Ad ?_
 refine AU ?_
 refine Ao ?_
 refine Ad ?_
 refine C3 ?_
 refine J2 ?_
 refine DO ?_
 refine AH ?_
 refine Ad ?_
 refine C3 ?_
 have hc := Ag (E := (HF.at_ 16)) (f := 61) (sp := Spec.pure Ke) rfl
 have hs := @Ke.eq_1
 refine Lf (hq := AN) ?_
 refine Wp ?_
 refine AH ?_
 refine Ad ?_
 have hx := hx0
 refine Ab (h2 _ (Am ?_)); clear h2
 try simp only [Ae]
 rw [hr]
 refine Aw ?_
 exact Au
 cases hg
def Lh : Bq Tryz.prog := HF.add 62 (Spec.pure MA) SO (by kernel_rfl)
