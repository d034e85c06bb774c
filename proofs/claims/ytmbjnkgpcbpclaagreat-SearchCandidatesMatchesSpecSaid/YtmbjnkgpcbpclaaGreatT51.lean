/- Walks, printed by wip/gen/walk.py. -/
import Derived.Test.YtmbjnkgpcbpclaaGreatT50
import Derived.Test.YtmbjnkgpcbpclaaGreatSo
import Derived.Test.YtmbjnkgpcbpclaaGreatV5
set_option linter.all false
set_option maxRecDepth 100000
set_option maxHeartbeats 4000000
namespace Go.Proofs.YtmbjnkgpcbpclaaGreat
open Go Go.Vc Go.RowKit
theorem Ah.below [Bd] {W0 : World} {M0 : Nat → Prop} {H : Av} {n : Nat} {w w' : World} {S : Lays} (hH : Ah W0 M0 H n w S) (h : Go.RowKit.Below w.heap.size w w') : Ah W0 M0 H n w' S ∧ Cb w S n w' S n := by
  have hs : ∀ b, b < w.heap.size → w'.heap[b]? = w.heap[b]? := fun b hb => h.block b hb
  have hE : Cb w S n w' S n := ⟨Nat.le_refl _, h.size, fun _ _ => .inl rfl, fun _ _ h => h, fun b hb _ => hs b hb⟩
  refine ⟨⟨hH.bnd, fun i l b h1 h2 => Nat.lt_of_lt_of_le (hH.lt2 i l b h1 h2) h.size, fun id b hb => ?_, hH.inj2, hH.nod, hH.plain, hH.mut2, h.os.trans hH.os, h.tape.trans hH.tape, h.output.trans hH.output, Nat.le_trans hH.size h.size, fun b hb hM => (hs b (Nat.lt_of_lt_of_le hb hH.size)).trans (hH.same b hb hM), fun b hb => ⟨(hH.far b hb).1, (hH.far b hb).2⟩, hH.pin, hH.glx hE⟩, hE⟩
  obtain ⟨l, hl, hb'⟩ := hH.box id b hb
  exact ⟨l, hl, hb'.ext hE (fun k hk => hs k (hH.lt2 id l k hl hk))⟩
theorem Ir {P : Program} {f : FuncId} {g : List AV → Option (Prop × AV)} (h : ∀ args p r, g args = some (p, r) → p → ∀ [Bd] (H : Av) (n : Nat) (w : World) (S : Lays) (vs : List Value), Ah w (FB H S) H n w S → vs.length = args.length → (∀ (i : Nat) (c : AV) (u : Value), args[i]? = some c → vs[i]? = some u → R w S n c u) →
    Calls P f vs.toArray w fun e w' => ∃ v, e = .returned v ∧ Go.RowKit.Below w.heap.size w w' ∧ R w' S n r v) : A1 P f (Spec.pure g) := by
  intro args H n p r o hrun hp F w S vs hH hl hr
  simp only [Spec.pure] at hrun
  split at hrun
  · rename_i p' r' hg
    simp only [Option.some.injEq, Prod.mk.injEq] at hrun
    obtain ⟨rfl, rfl, rfl⟩ := hrun
    refine (h args p' r' hg hp H n w S vs hH hl hr).mono ?_
    rintro e w' ⟨v, rfl, hb, hR⟩
    obtain ⟨h1, e1⟩ := Ah.below hH hb
    exact ⟨v, S, rfl, ⟨h1, e1, fun _ _ _ => rfl, fun i hi _ => hH.bnd i hi⟩, fun _ => ⟨rfl, fun b hb' => hb.block b hb'⟩, hR⟩
  · cases hrun

def Jp : List AV → Option (Prop × AV)
  | [.d (.str s), .d (.str p)] => some (s.length ≤ 1000000000, .d (.bool (Lib.contains s p)))
  | _ => none

theorem YR {P : Program} {f : FuncId} [Bd] {w : World} {S : Lays} {n : Nat} {s p : List UInt8} {vs : List Value} (hl : vs.length = 2) (hr : ∀ (i : Nat) (c : AV) (u : Value), [AV.d (.str s), .d (.str p)][i]? = some c → vs[i]? = some u → R w S n c u) :
    vs = [.string ⟨s.toArray⟩, .string ⟨p.toArray⟩] := by
  match vs, hl with
  | [u, v], _ =>
    have h1 := R.str_iff.1 (hr 0 _ u rfl rfl)
    have h2 := R.str_iff.1 (hr 1 _ v rfl rfl)
    rw [h1, h2]

theorem XZ [Bd] {W0 : World} {M0 : Nat → Prop} {H : Av} {n : Nat} {w : World} {S : Lays} (hH : Ah W0 M0 H n w S) : w.cell? ⟨0, 0, none⟩ = some (.int .i64 Bd.mx) := by
  have h := hH.gl (0, [.int .i64 Bd.mx]) (by unfold FW; simp)
  cases h.rd with | ptr _ b o u hb hO hc hr =>
  have h1 := hc 0 _ rfl
  have h2 := hr 0 _ rfl
  generalize u 0 = z at h1 h2
  cases h2
  exact h1
theorem Oq : A1 Tryz.prog 61 (Spec.pure Jp) := by
 refine Ir fun args p r hg hp F H n w S vs hH hl hr => ?_
 unfold Jp at hg
 split at hg
 ·rename_i s q
  simp only [Option.some.injEq, Prod.mk.injEq] at hg
  obtain ⟨rfl, rfl⟩ := hg
  rw [YR (P := Tryz.prog) (f := 0) hl hr]
  refine (Any.strings_Contains Tryz.lays144 _ _ Bd.mx w (Nat.lt_of_le_of_lt hp (by decide)) (XZ hH)).mono ?_
  rintro e w' ⟨rfl, rfl⟩
  exact ⟨_, rfl, Go.RowKit.Below.refl _ _, R.mkBool _⟩
 ·cases hg

def NM : Bn Tryz.prog := Qk.add 61 (Spec.pure Jp) Oq (by kernel_rfl)

theorem MB (s p : Bs) : Lib.contains s p = DS s p := by
  unfold Lib.contains
  rcases Lib.index_spec s p with ⟨h1, h2⟩ | ⟨i, h1, h2, h3, h4⟩
  · rw [h1, decide_eq_false (by omega), HS]
    intro j hj he
    have := h2 j
    unfold Lib.occAt at this
    rw [List.isPrefixOf_iff_prefix.2 (by rw [← he]; exact List.take_prefix _ _)] at this
    first | exact absurd (this (by omega)) (by simp) | exact absurd this (by simp)
  · rw [h1, decide_eq_true (by omega)]
    unfold Lib.occAt at h3
    have hp := List.isPrefixOf_iff_prefix.1 h3
    have hl := hp.length_le
    rw [List.length_drop] at hl
    have he : (s.drop i).take p.length = p := (List.prefix_iff_eq_take.1 hp).symm
    by_cases hi : i < s.length + 1 - p.length
    · exact (Fv hi he).symm
    · have : p.length = 0 := by omega
      exact (Fv (i := 0) (by omega) (by rw [this]; simp [List.eq_nil_of_length_eq_zero this])).symm
theorem P7 (s : Bs) (c : UInt8) : DS s [c] = decide (c ∈ s) := by
  by_cases h : c ∈ s
  · rw [decide_eq_true h]
    obtain ⟨i, hi⟩ := List.getElem?_of_mem h
    have hlt := (List.getElem?_eq_some_iff.1 hi).1
    exact Fv (i := i) (by simp only [List.length_singleton]; omega) (by rw [List.length_singleton, List.take_one, List.head?_drop, hi]; rfl)
  · rw [decide_eq_false h]
    refine HS fun j hj he => h ?_
    have : c ∈ (s.drop j).take [c].length := by rw [he]; exact List.mem_singleton.2 rfl
    exact List.mem_of_mem_drop (List.mem_of_mem_take this)
def Fk : List AV → Option (Prop × AV)
  | [.d (.int .i64 k)] => some (True, .d (.int .i64 ((Cm k : Nat) : Int)))
  | _ => none
def L3 : List AV → Option (Prop × AV)
  | [.d (.str s)] => some (s.length ≤ 9223372036854775807, .d (.bool (FC s)))
  | _ => none
def M7 : D3
  | [.agg [.d (.int .i64 a), .d (.str b), .d (.int .i64 c), .d (.int .i64 e)], .sl 0 0 m], [some (.vec t s xs)] => some (xs = rows eI (dI xs) ∧ t = 3 ∧ s = 1 ∧ m = (dI xs).length ∧ (dI xs).length ≤ 1000 ∧ b.length ≤ 9223372036854775807, .d (.int .i64 (H9 ⟨a, b, c, e⟩ (dI xs))), [some (.vec 3 1 (rows eI (dI xs)))])
  | _, _ => none
theorem Qb (l : List Int) {k : Nat} (h : k ≤ l.length) (h2 : k ≤ 2) : A2 [[D.int .i64 0], [D.int .i64 0]] 0 (rows eI (List.take 2 (List.take k (List.drop (l.length - k) l)))) = [[.int .i64 (EY l k 0)], [.int .i64 (EY l k 1)]] := by
  have hl : (l.drop (l.length - k)).length = k := by rw [List.length_drop]; omega
  rw [List.take_of_length_le (l := List.drop _ l) (by omega), List.take_of_length_le (by omega)]
  unfold EY
  generalize l.drop (l.length - k) = r at hl ⊢
  match k, h2, r, hl with
  | 0, _, [], _ => rfl
  | 1, _, [a], _ => rfl
  | 2, _, [a, b], _ => rfl

theorem Pa : A1 Tryz.prog 34 (Spec.pure Fk) := by
 refine Az (NM.at_ 9) Tryz.func34 rfl rfl rfl ?_
 intro args p r hg hp
 unfold Fk at hg
 split at hg
 rename_i k
 simp only [Option.some.injEq, Prod.mk.injEq] at hg
 obtain ⟨rfl, rfl⟩ := hg
 have hT : (NM).X = T := rfl
 have hx0 := @Tryz.results34
 have hx := hx0
 refine ⟨by rfl, ?_⟩
 intro F W0 hnp hmk
 refine Aa fun N1 h1 => ?_
 refine Ad ?_
 try refine Ac ?_
 refine Ae ?_
 refine Ab ?_
 refine h1 _ ?_; clear h1
 refine Aa fun N2 h2 => ?_
 refine Aa fun N3 h3 => ?_
 refine Ad ?_
 try refine Ac ?_
 refine Ae ?_
 refine Ab ?_
 refine h3 _ ?_; clear h3
 refine Au ?_
 refine Aa fun N4 h4 => ?_
 refine Aa fun N5 h5 => ?_
 refine Ad ?_
 try refine Ac ?_
 refine Al ?_
 refine Ae ?_
 refine Ab ?_
 refine h5 _ ?_; clear h5
 refine Ai (fun hb6 => ?_) (fun hb6 => ?_)
 refine Am ?_
 try simp only [Af]
 refine h4 _ ?_; clear h4
 refine Ai (fun hb7 => ?_) (fun hb7 => ?_)
 refine Aa fun N8 h8 => ?_
 refine Ad ?_
 try refine Ac ?_
 refine Ae ?_
 refine Ab ?_
 refine h8 _ ?_; clear h8
 refine An ?_
 try simp only [Af]
 have hr : Cm k = 2 := by
  unfold Cm; rw [if_pos (.inl (by have := hb7; (try simp at this); omega))]
 rw [hr]
 refine Ax ?_
 exact As
 ·exfalso; first | omega | contradiction | (simp_all; done) | (simp_all; omega)
 have hk2 : ¬k = 2 := by have := hb6; (try simp at this); omega
 refine Ad ?_
 try refine Ac ?_
 refine Al ?_
 refine Ae ?_
 refine Ab ?_
 refine h4 _ ?_; clear h4
 refine Ai (fun hb9 => ?_) (fun hb9 => ?_)
 refine Aa fun N10 h10 => ?_
 refine Ad ?_
 try refine Ac ?_
 refine Ae ?_
 refine Ab ?_
 refine h10 _ ?_; clear h10
 refine An ?_
 try simp only [Af]
 have hr : Cm k = 2 := by
  unfold Cm; rw [if_pos (.inr (by have := hb9; (try simp at this); omega))]
 rw [hr]
 refine Ax ?_
 exact As
 have hk3 : ¬k = 3 := by have := hb9; (try simp at this); omega
 refine Aa fun N11 h11 => ?_
 refine Ad ?_
 try refine Ac ?_
 refine Al ?_
 refine Ae ?_
 refine Ab ?_
 refine h11 _ ?_; clear h11
 refine Ai (fun hb12 => ?_) (fun hb12 => ?_)
 refine Aa fun N13 h13 => ?_
 refine Ad ?_
 try refine Ac ?_
 refine Ae ?_
 refine Ab ?_
 refine h13 _ ?_; clear h13
 refine An ?_
 try simp only [Af]
 have hr : Cm k = 1 := by
  have hk4 : k = 4 := (by have := hb12; (try simp at this); omega)
  rw [hk4]; rfl
 rw [hr]
 refine Ax ?_
 exact As
 refine Am ?_
 try simp only [Af]
 refine h2 _ ?_; clear h2
 refine Aa fun N14 h14 => ?_
 refine Ad ?_
 try refine Ac ?_
 refine Ae ?_
 refine Ab ?_
 refine h14 _ ?_; clear h14
 refine An ?_
 try simp only [Af]
 have hr : Cm k = 0 := by
  unfold Cm; rw [if_neg (fun h => h.elim hk2 hk3), if_neg (by have := hb12; (try simp at this); omega)]
 rw [hr]
 refine Ax ?_
 exact As
 cases hg

def NR : Bn Tryz.prog := NM.add 34 (Spec.pure Fk) Pa (by kernel_rfl)

theorem LU : A1 Tryz.prog 37 (Spec.pure Fk) := by
 refine Az (NR.at_ 9) Tryz.func37 rfl rfl rfl ?_
 intro args p r hg hp
 unfold Fk at hg
 split at hg
 rename_i k
 simp only [Option.some.injEq, Prod.mk.injEq] at hg
 obtain ⟨rfl, rfl⟩ := hg
 have hT : (NR).X = T := rfl
 have hx0 := @Tryz.results37
 have hx := hx0
 refine ⟨by rfl, ?_⟩
 intro F W0 hnp hmk
 refine Aa fun N1 h1 => ?_
 refine Ad ?_
 try refine Ac ?_
 refine Ae ?_
 refine Ab ?_
 refine h1 _ ?_; clear h1
 refine Aa fun N2 h2 => ?_
 refine Aa fun N3 h3 => ?_
 refine Ad ?_
 try refine Ac ?_
 refine Ae ?_
 refine Ab ?_
 refine h3 _ ?_; clear h3
 refine Au ?_
 refine Aa fun N4 h4 => ?_
 refine Aa fun N5 h5 => ?_
 refine Ad ?_
 try refine Ac ?_
 refine Al ?_
 refine Ae ?_
 refine Ab ?_
 refine h5 _ ?_; clear h5
 refine Ai (fun hb6 => ?_) (fun hb6 => ?_)
 refine Am ?_
 try simp only [Af]
 refine h4 _ ?_; clear h4
 refine Ai (fun hb7 => ?_) (fun hb7 => ?_)
 refine Aa fun N8 h8 => ?_
 refine Ad ?_
 try refine Ac ?_
 refine Ae ?_
 refine Ab ?_
 refine h8 _ ?_; clear h8
 refine An ?_
 try simp only [Af]
 have hr : Cm k = 2 := by
  unfold Cm; rw [if_pos (.inl (by have := hb7; (try simp at this); omega))]
 rw [hr]
 refine Ax ?_
 exact As
 ·exfalso; first | omega | contradiction | (simp_all; done) | (simp_all; omega)
 have hk2 : ¬k = 2 := by have := hb6; (try simp at this); omega
 refine Ad ?_
 try refine Ac ?_
 refine Al ?_
 refine Ae ?_
 refine Ab ?_
 refine h4 _ ?_; clear h4
 refine Ai (fun hb9 => ?_) (fun hb9 => ?_)
 refine Aa fun N10 h10 => ?_
 refine Ad ?_
 try refine Ac ?_
 refine Ae ?_
 refine Ab ?_
 refine h10 _ ?_; clear h10
 refine An ?_
 try simp only [Af]
 have hr : Cm k = 2 := by
  unfold Cm; rw [if_pos (.inr (by have := hb9; (try simp at this); omega))]
 rw [hr]
 refine Ax ?_
 exact As
 have hk3 : ¬k = 3 := by have := hb9; (try simp at this); omega
 refine Aa fun N11 h11 => ?_
 refine Ad ?_
 try refine Ac ?_
 refine Al ?_
 refine Ae ?_
 refine Ab ?_
 refine h11 _ ?_; clear h11
 refine Ai (fun hb12 => ?_) (fun hb12 => ?_)
 refine Aa fun N13 h13 => ?_
 refine Ad ?_
 try refine Ac ?_
 refine Ae ?_
 refine Ab ?_
 refine h13 _ ?_; clear h13
 refine An ?_
 try simp only [Af]
 have hr : Cm k = 1 := by
  have hk4 : k = 4 := (by have := hb12; (try simp at this); omega)
  rw [hk4]; rfl
 rw [hr]
 refine Ax ?_
 exact As
 refine Am ?_
 try simp only [Af]
 refine h2 _ ?_; clear h2
 refine Aa fun N14 h14 => ?_
 refine Ad ?_
 try refine Ac ?_
 refine Ae ?_
 refine Ab ?_
 refine h14 _ ?_; clear h14
 refine An ?_
 try simp only [Af]
 have hr : Cm k = 0 := by
  unfold Cm; rw [if_neg (fun h => h.elim hk2 hk3), if_neg (by have := hb12; (try simp at this); omega)]
 rw [hr]
 refine Ax ?_
 exact As
 cases hg

def Ha : Bn Tryz.prog := NR.add 37 (Spec.pure Fk) LU (by kernel_rfl)

theorem QX : A1 Tryz.prog 62 (Spec.pure L3) := by
 refine Az (Ha.at_ 16) Tryz.func62 rfl rfl rfl ?_
 intro args p r hg hp
 unfold L3 at hg
 split at hg
 rename_i z
 simp only [Option.some.injEq, Prod.mk.injEq] at hg
 obtain ⟨rfl, rfl⟩ := hg
 have hzl := hp
 have hm := P7 z 10
 have hch := MB z [10]
 have hT : (Ha).X = T := rfl
 have hx0 := And.intro @Ci (And.intro @Ch @Tryz.results62)
 have hx := hx0
 refine ⟨by rfl, ?_⟩
 intro F W0 hnp hmk
 refine Aa fun N1 h1 => ?_
 refine Ad ?_
 try refine Ac ?_
 refine Ae ?_
 refine Ab ?_
 refine h1 _ ?_; clear h1
 refine Aa fun N2 h2 => ?_
 rcases (show z.length = 0 ∨ 80 < z.length ∨ (1 ≤ z.length ∧ z.length ≤ 80) by omega) with g1 | g1 | ⟨g1, g2⟩
 have f1 : (1 ≤ (z.length : Int)) = False := eq_false (by omega)
 have f2 := True.intro
 have hr : FC z = false := by unfold FC; rw [decide_eq_false (by omega)]; rfl
 have hx := And.intro @f1 (And.intro @f2 (And.intro @hch hx0))
 refine Ad ?_
 try refine Ac ?_
 refine Ae ?_
 refine AZ ?_
 refine Al ?_
 refine Ae ?_
 refine Ar ?_ ?_
 focus (exact AP)
 refine Ar ?_ ?_
 focus (exact AP)
 refine Ar ?_ ?_
 focus (exact AP)
 refine A7 ?_
 refine Ae ?_
 refine Ar ?_ ?_
 focus (exact AP)
 refine Ar ?_ ?_
 focus (exact AP)
 refine Ar ?_ ?_
 focus (exact AP)
 refine A7 ?_
 refine Ae ?_
 refine Ab ?_
 have hx := hx0
 refine h2 _ ?_; clear h2
 refine An ?_
 try simp only [Af]
 rw [hr]
 refine Ax ?_
 exact As
 have f1 : (1 ≤ (z.length : Int)) = True := eq_true (by omega)
 have f2 : ((z.length : Int) ≤ 80) = False := eq_false (by omega)
 have hr : FC z = false := by unfold FC; rw [decide_eq_false (p := z.length ≤ 80) (by omega)]; simp
 have hx := And.intro @f1 (And.intro @f2 (And.intro @hch hx0))
 refine Ad ?_
 try refine Ac ?_
 refine Ae ?_
 refine AZ ?_
 refine Al ?_
 refine Ae ?_
 refine Cl ?_
 refine JR ?_
 refine DW ?_
 refine A7 ?_
 refine Ae ?_
 refine Ar ?_ ?_
 focus (exact AP)
 refine Ar ?_ ?_
 focus (exact AP)
 refine Ar ?_ ?_
 focus (exact AP)
 refine A7 ?_
 refine Ae ?_
 refine Ab ?_
 have hx := hx0
 refine h2 _ ?_; clear h2
 refine An ?_
 try simp only [Af]
 rw [hr]
 refine Ax ?_
 exact As
 have f1 : (1 ≤ (z.length : Int)) = True := eq_true (by omega)
 have f2 : ((z.length : Int) ≤ 80) = True := eq_true (by omega)
 have hr : FC z = !(DS z [10]) := by unfold FC; rw [decide_eq_true g1, decide_eq_true g2, hm]; rfl
 have hx := And.intro @f1 (And.intro @f2 (And.intro @hch hx0))
 refine Ad ?_
 try refine Ac ?_
 refine Ae ?_
 refine AZ ?_
 refine Al ?_
 refine Ae ?_
 refine Cl ?_
 refine JR ?_
 refine DW ?_
 refine A7 ?_
 refine Ae ?_
 refine Cl ?_
 have hc := Ag (E := (Ha.at_ 16)) (f := 61) (sp := Spec.pure Jp) rfl
 have hs := @Jp.eq_1
 refine Kl (hq := by exact AD) ?_
 refine U9 ?_
 refine A7 ?_
 refine Ae ?_
 refine Ab ?_
 have hx := hx0
 refine h2 _ ?_; clear h2
 refine An ?_
 try simp only [Af]
 rw [hr]
 refine Ax ?_
 exact As
 cases hg

def Kn : Bn Tryz.prog := Ha.add 62 (Spec.pure L3) QX (by kernel_rfl)
end Go.Proofs.YtmbjnkgpcbpclaaGreat
