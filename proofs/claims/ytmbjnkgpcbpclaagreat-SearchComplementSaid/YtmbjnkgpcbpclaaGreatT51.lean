/- Walks, printed by wip/gen/walk.py. -/
import Derived.Test.YtmbjnkgpcbpclaaGreatT50
import Derived.Test.YtmbjnkgpcbpclaaGreatSo
import Derived.Test.YtmbjnkgpcbpclaaGreatV5
set_option linter.all false
set_option maxRecDepth 100000
set_option maxHeartbeats 4000000
namespace Go.Proofs.YtmbjnkgpcbpclaaGreat
open Go Go.Vc Go.RowKit
theorem Ag.below [AU] {W0 : World} {M0 : Nat → Prop} {H : Ap} {n : Nat} {w w' : World} {S : Lays} (hH : Ag W0 M0 H n w S) (h : Go.RowKit.Below w.heap.size w w') : Ag W0 M0 H n w' S ∧ BS w S n w' S n := by
  have hs : ∀ b, b < w.heap.size → w'.heap[b]? = w.heap[b]? := fun b hb => h.block b hb
  have hE : BS w S n w' S n := ⟨Nat.le_refl _, h.size, fun _ _ => .inl rfl, fun _ _ h => h, fun b hb _ => hs b hb⟩
  refine ⟨⟨hH.bnd, fun i l b h1 h2 => Nat.lt_of_lt_of_le (hH.lt2 i l b h1 h2) h.size, fun id b hb => ?_, hH.inj2, hH.nod, hH.plain, hH.mut2, h.os.trans hH.os, h.tape.trans hH.tape, h.output.trans hH.output, Nat.le_trans hH.size h.size, fun b hb hM => (hs b (Nat.lt_of_lt_of_le hb hH.size)).trans (hH.same b hb hM), fun b hb => ⟨(hH.far b hb).1, (hH.far b hb).2⟩, hH.pin, hH.glx hE⟩, hE⟩
  obtain ⟨l, hl, hb'⟩ := hH.box id b hb
  exact ⟨l, hl, hb'.ext hE (fun k hk => hs k (hH.lt2 id l k hl hk))⟩
theorem HO {P : Program} {f : FuncId} {g : List AV → Option (Prop × AV)} (h : ∀ args p r, g args = some (p, r) → p → ∀ [AU] (H : Ap) (n : Nat) (w : World) (S : Lays) (vs : List Value), Ag w (Fv H S) H n w S → vs.length = args.length → (∀ (i : Nat) (c : AV) (u : Value), args[i]? = some c → vs[i]? = some u → R w S n c u) →
    Calls P f vs.toArray w fun e w' => ∃ v, e = .returned v ∧ Go.RowKit.Below w.heap.size w w' ∧ R w' S n r v) : A5 P f (Spec.pure g) := by
  intro args H n p r o hrun hp F w S vs hH hl hr
  simp only [Spec.pure] at hrun
  split at hrun
  · rename_i p' r' hg
    simp only [Option.some.injEq, Prod.mk.injEq] at hrun
    obtain ⟨rfl, rfl, rfl⟩ := hrun
    refine (h args p' r' hg hp H n w S vs hH hl hr).mono ?_
    rintro e w' ⟨v, rfl, hb, hR⟩
    obtain ⟨h1, e1⟩ := Ag.below hH hb
    exact ⟨v, S, rfl, ⟨h1, e1, fun _ _ _ => rfl, fun i hi _ => hH.bnd i hi⟩, fun _ => ⟨rfl, fun b hb' => hb.block b hb'⟩, hR⟩
  · cases hrun

def IP : List AV → Option (Prop × AV)
  | [.d (.str s), .d (.str p)] => some (s.length ≤ 1000000000, .d (.bool (Lib.contains s p)))
  | _ => none

theorem Yg {P : Program} {f : FuncId} [AU] {w : World} {S : Lays} {n : Nat} {s p : List UInt8} {vs : List Value} (hl : vs.length = 2) (hr : ∀ (i : Nat) (c : AV) (u : Value), [AV.d (.str s), .d (.str p)][i]? = some c → vs[i]? = some u → R w S n c u) :
    vs = [.string ⟨s.toArray⟩, .string ⟨p.toArray⟩] := by
  match vs, hl with
  | [u, v], _ =>
    have h1 := R.str_iff.1 (hr 0 _ u rfl rfl)
    have h2 := R.str_iff.1 (hr 1 _ v rfl rfl)
    rw [h1, h2]

theorem Xl [AU] {W0 : World} {M0 : Nat → Prop} {H : Ap} {n : Nat} {w : World} {S : Lays} (hH : Ag W0 M0 H n w S) : w.cell? ⟨0, 0, none⟩ = some (.int .i64 AU.mx) := by
  have h := hH.gl (0, [.int .i64 AU.mx]) (by unfold FE; simp)
  cases h.rd with | ptr _ b o u hb hO hc hr =>
  have h1 := hc 0 _ rfl
  have h2 := hr 0 _ rfl
  generalize u 0 = z at h1 h2
  cases h2
  exact h1
theorem Nz : A5 Tryz.prog 61 (Spec.pure IP) := by
 refine HO fun args p r hg hp F H n w S vs hH hl hr => ?_
 unfold IP at hg
 split at hg
 ·rename_i s q
  simp only [Option.some.injEq, Prod.mk.injEq] at hg
  obtain ⟨rfl, rfl⟩ := hg
  rw [Yg (P := Tryz.prog) (f := 0) hl hr]
  refine (Any.strings_Contains Tryz.lays144 _ _ AU.mx w (Nat.lt_of_le_of_lt hp (by decide)) (Xl hH)).mono ?_
  rintro e w' ⟨rfl, rfl⟩
  exact ⟨_, rfl, Go.RowKit.Below.refl _ _, R.mkBool _⟩
 ·cases hg

def Na : Bo Tryz.prog := TW.add 61 (Spec.pure IP) Nz (by kernel_rfl)

theorem LW (s p : Bs) : Lib.contains s p = ED s p := by
  unfold Lib.contains
  rcases Lib.index_spec s p with ⟨h1, h2⟩ | ⟨i, h1, h2, h3, h4⟩
  · rw [h1, decide_eq_false (by omega), Ke]
    intro j hj he
    have := h2 j
    unfold Lib.occAt at this
    rw [List.isPrefixOf_iff_prefix.2 (by rw [← he]; exact List.take_prefix _ _)] at this
    first | exact absurd (this (by omega)) (by simp) | exact absurd this (by simp)
  · rw [h1, decide_eq_true (by omega)]
    unfold Lib.occAt at h3
    have hp := List.isPrefixOf_iff_prefix.1 h3
    have hl := hp.length_le
    rw [List.length_drop] at hl
    have he : (s.drop i).take p.length = p := (List.prefix_iff_eq_take.1 hp).symm
    by_cases hi : i < s.length + 1 - p.length
    · exact (G7 hi he).symm
    · have : p.length = 0 := by omega
      exact (G7 (i := 0) (by omega) (by rw [this]; simp [List.eq_nil_of_length_eq_zero this])).symm
theorem Uy (s : Bs) (c : UInt8) : ED s [c] = decide (c ∈ s) := by
  by_cases h : c ∈ s
  · rw [decide_eq_true h]
    obtain ⟨i, hi⟩ := List.getElem?_of_mem h
    have hlt := (List.getElem?_eq_some_iff.1 hi).1
    exact G7 (i := i) (by simp only [List.length_singleton]; omega) (by rw [List.length_singleton, List.take_one, List.head?_drop, hi]; rfl)
  · rw [decide_eq_false h]
    refine Ke fun j hj he => h ?_
    have : c ∈ (s.drop j).take [c].length := by rw [he]; exact List.mem_singleton.2 rfl
    exact List.mem_of_mem_drop (List.mem_of_mem_take this)
def Lv : List AV → Option (Prop × AV)
  | [.d (.int .i64 k)] => some (True, .d (.int .i64 ((Dh k : Nat) : Int)))
  | _ => none
def La : List AV → Option (Prop × AV)
  | [.d (.str s)] => some (s.length ≤ 9223372036854775807, .d (.bool (Gu s)))
  | _ => none
def LR : Dr
  | [.agg [.d (.int .i64 a), .d (.str b), .d (.int .i64 c), .d (.int .i64 e)], .sl 0 0 m], [some (.vec t s xs)] => some (xs = rows eI (dI xs) ∧ t = 3 ∧ s = 1 ∧ m = (dI xs).length ∧ (dI xs).length ≤ 1000 ∧ b.length ≤ 9223372036854775807, .d (.int .i64 (Hi ⟨a, b, c, e⟩ (dI xs))), [some (.vec 3 1 (rows eI (dI xs)))])
  | _, _ => none
theorem Pr (l : List Int) {k : Nat} (h : k ≤ l.length) (h2 : k ≤ 2) : Az [[D.int .i64 0], [D.int .i64 0]] 0 (rows eI (List.take 2 (List.take k (List.drop (l.length - k) l)))) = [[.int .i64 (EJ l k 0)], [.int .i64 (EJ l k 1)]] := by
  have hl : (l.drop (l.length - k)).length = k := by rw [List.length_drop]; omega
  rw [List.take_of_length_le (l := List.drop _ l) (by omega), List.take_of_length_le (by omega)]
  unfold EJ
  generalize l.drop (l.length - k) = r at hl ⊢
  match k, h2, r, hl with
  | 0, _, [], _ => rfl
  | 1, _, [a], _ => rfl
  | 2, _, [a, b], _ => rfl

theorem Ol : A5 Tryz.prog 34 (Spec.pure Lv) := by
 refine A7 (Na.at_ 9) Tryz.func34 rfl rfl rfl ?_
 intro args p r hg hp
 unfold Lv at hg
 split at hg
 rename_i k
 simp only [Option.some.injEq, Prod.mk.injEq] at hg
 obtain ⟨rfl, rfl⟩ := hg
 have hT : (Na).X = T := rfl
 have hx0 := @Tryz.results34
 have hx := hx0
 refine ⟨by rfl, ?_⟩
 intro F W0 hnp hmk
 refine Aa fun N1 h1 => ?_
 refine Ad ?_
 try refine Ac ?_
 refine Ae ?_
 refine Ab ?_
 refine h1 _ ?_; clear h1
 refine Aa fun N2 h2 => ?_
 refine Aa fun N3 h3 => ?_
 refine Ad ?_
 try refine Ac ?_
 refine Ae ?_
 refine Ab ?_
 refine h3 _ ?_; clear h3
 refine Aw ?_
 refine Aa fun N4 h4 => ?_
 refine Aa fun N5 h5 => ?_
 refine Ad ?_
 try refine Ac ?_
 refine Am ?_
 refine Ae ?_
 refine Ab ?_
 refine h5 _ ?_; clear h5
 refine Al (fun hb6 => ?_) (fun hb6 => ?_)
 refine An ?_
 try simp only [Af]
 refine h4 _ ?_; clear h4
 refine Al (fun hb7 => ?_) (fun hb7 => ?_)
 refine Aa fun N8 h8 => ?_
 refine Ad ?_
 try refine Ac ?_
 refine Ae ?_
 refine Ab ?_
 refine h8 _ ?_; clear h8
 refine Ao ?_
 try simp only [Af]
 have hr : Dh k = 2 := by
  unfold Dh; rw [if_pos (.inl (by have := hb7; (try simp at this); omega))]
 rw [hr]
 refine A3 ?_
 exact At
 ·exfalso; first | omega | contradiction | (simp_all; done) | (simp_all; omega)
 have hk2 : ¬k = 2 := by have := hb6; (try simp at this); omega
 refine Ad ?_
 try refine Ac ?_
 refine Am ?_
 refine Ae ?_
 refine Ab ?_
 refine h4 _ ?_; clear h4
 refine Al (fun hb9 => ?_) (fun hb9 => ?_)
 refine Aa fun N10 h10 => ?_
 refine Ad ?_
 try refine Ac ?_
 refine Ae ?_
 refine Ab ?_
 refine h10 _ ?_; clear h10
 refine Ao ?_
 try simp only [Af]
 have hr : Dh k = 2 := by
  unfold Dh; rw [if_pos (.inr (by have := hb9; (try simp at this); omega))]
 rw [hr]
 refine A3 ?_
 exact At
 have hk3 : ¬k = 3 := by have := hb9; (try simp at this); omega
 refine Aa fun N11 h11 => ?_
 refine Ad ?_
 try refine Ac ?_
 refine Am ?_
 refine Ae ?_
 refine Ab ?_
 refine h11 _ ?_; clear h11
 refine Al (fun hb12 => ?_) (fun hb12 => ?_)
 refine Aa fun N13 h13 => ?_
 refine Ad ?_
 try refine Ac ?_
 refine Ae ?_
 refine Ab ?_
 refine h13 _ ?_; clear h13
 refine Ao ?_
 try simp only [Af]
 have hr : Dh k = 1 := by
  have hk4 : k = 4 := (by have := hb12; (try simp at this); omega)
  rw [hk4]; rfl
 rw [hr]
 refine A3 ?_
 exact At
 refine An ?_
 try simp only [Af]
 refine h2 _ ?_; clear h2
 refine Aa fun N14 h14 => ?_
 refine Ad ?_
 try refine Ac ?_
 refine Ae ?_
 refine Ab ?_
 refine h14 _ ?_; clear h14
 refine Ao ?_
 try simp only [Af]
 have hr : Dh k = 0 := by
  unfold Dh; rw [if_neg (fun h => h.elim hk2 hk3), if_neg (by have := hb12; (try simp at this); omega)]
 rw [hr]
 refine A3 ?_
 exact At
 cases hg

def KB : Bo Tryz.prog := Na.add 34 (Spec.pure Lv) Ol (by kernel_rfl)

theorem Qe : A5 Tryz.prog 62 (Spec.pure La) := by
 refine A7 (KB.at_ 16) Tryz.func62 rfl rfl rfl ?_
 intro args p r hg hp
 unfold La at hg
 split at hg
 rename_i z
 simp only [Option.some.injEq, Prod.mk.injEq] at hg
 obtain ⟨rfl, rfl⟩ := hg
 have hzl := hp
 have hm := Uy z 10
 have hch := LW z [10]
 have hT : (KB).X = T := rfl
 have hx0 := And.intro @Cu (And.intro @Ct @Tryz.results62)
 have hx := hx0
 refine ⟨by rfl, ?_⟩
 intro F W0 hnp hmk
 refine Aa fun N1 h1 => ?_
 refine Ad ?_
 try refine Ac ?_
 refine Ae ?_
 refine Ab ?_
 refine h1 _ ?_; clear h1
 refine Aa fun N2 h2 => ?_
 rcases (show z.length = 0 ∨ 80 < z.length ∨ (1 ≤ z.length ∧ z.length ≤ 80) by omega) with g1 | g1 | ⟨g1, g2⟩
 have f1 : (1 ≤ (z.length : Int)) = False := eq_false (by omega)
 have f2 := True.intro
 have hr : Gu z = false := by unfold Gu; rw [decide_eq_false (by omega)]; rfl
 have hx := And.intro @f1 (And.intro @f2 (And.intro @hch hx0))
 refine Ad ?_
 try refine Ac ?_
 refine Ae ?_
 refine Bm ?_
 refine Am ?_
 refine Ae ?_
 refine Av ?_ ?_
 focus (exact Bl)
 refine Av ?_ ?_
 focus (exact Bl)
 refine Av ?_ ?_
 focus (exact Bl)
 refine AQ ?_
 refine Ae ?_
 refine Av ?_ ?_
 focus (exact Bl)
 refine Av ?_ ?_
 focus (exact Bl)
 refine Av ?_ ?_
 focus (exact Bl)
 refine AQ ?_
 refine Ae ?_
 refine Ab ?_
 have hx := hx0
 refine h2 _ ?_; clear h2
 refine Ao ?_
 try simp only [Af]
 rw [hr]
 refine A3 ?_
 exact At
 have f1 : (1 ≤ (z.length : Int)) = True := eq_true (by omega)
 have f2 : ((z.length : Int) ≤ 80) = False := eq_false (by omega)
 have hr : Gu z = false := by unfold Gu; rw [decide_eq_false (p := z.length ≤ 80) (by omega)]; simp
 have hx := And.intro @f1 (And.intro @f2 (And.intro @hch hx0))
 refine Ad ?_
 try refine Ac ?_
 refine Ae ?_
 refine Bm ?_
 refine Am ?_
 refine Ae ?_
 refine Cy ?_
 refine MV ?_
 refine Fz ?_
 refine AQ ?_
 refine Ae ?_
 refine Av ?_ ?_
 focus (exact Bl)
 refine Av ?_ ?_
 focus (exact Bl)
 refine Av ?_ ?_
 focus (exact Bl)
 refine AQ ?_
 refine Ae ?_
 refine Ab ?_
 have hx := hx0
 refine h2 _ ?_; clear h2
 refine Ao ?_
 try simp only [Af]
 rw [hr]
 refine A3 ?_
 exact At
 have f1 : (1 ≤ (z.length : Int)) = True := eq_true (by omega)
 have f2 : ((z.length : Int) ≤ 80) = True := eq_true (by omega)
 have hr : Gu z = !(ED z [10]) := by unfold Gu; rw [decide_eq_true g1, decide_eq_true g2, hm]; rfl
 have hx := And.intro @f1 (And.intro @f2 (And.intro @hch hx0))
 refine Ad ?_
 try refine Ac ?_
 refine Ae ?_
 refine Bm ?_
 refine Am ?_
 refine Ae ?_
 refine Cy ?_
 refine MV ?_
 refine Fz ?_
 refine AQ ?_
 refine Ae ?_
 refine Cy ?_
 have hc := Ah (E := (KB.at_ 16)) (f := 61) (sp := Spec.pure IP) rfl
 have hs := @IP.eq_1
 refine TH (hq := by exact AW) ?_
 refine W8 ?_
 refine AQ ?_
 refine Ae ?_
 refine Ab ?_
 have hx := hx0
 refine h2 _ ?_; clear h2
 refine Ao ?_
 try simp only [Af]
 rw [hr]
 refine A3 ?_
 exact At
 cases hg

def JI : Bo Tryz.prog := KB.add 62 (Spec.pure La) Qe (by kernel_rfl)
end Go.Proofs.YtmbjnkgpcbpclaaGreat
