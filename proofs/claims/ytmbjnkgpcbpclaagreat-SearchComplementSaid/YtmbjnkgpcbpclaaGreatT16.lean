/- Walks, printed by wip/gen/walk.py. -/
import Derived.Test.YtmbjnkgpcbpclaaGreatT15
import Derived.Test.YtmbjnkgpcbpclaaGreatV5
set_option linter.all false
set_option maxRecDepth 100000
set_option maxHeartbeats 4000000
namespace Go.Proofs.YtmbjnkgpcbpclaaGreat
open Go Go.Vc Go.RowKit
def Fc (ty : TypeId) : Dr
  | [.d (.sl xs)], [] => some (Cs 1 xs ∧ xs.length ≤ 1000000000, .sl 0 0 xs.length, [some (.vec ty 1 xs)])
  | _, _ => none
def Hd (is : Bool) (k : Int) (P : List AM) (x : Int) : Bool := !(is && decide (x ∈ (P.getD k.toNat ([], [])).2))
def IR (Q : Int → Bool) (l : List Int) : List Int := l.filter fun x => !Q x
def IJ : List AV → Option (Prop × AV)
  | [.d (.int .i64 p), .d (.ptr [.bool b]), .d (.ptr [z, .sl ps]), .d (.ptr [.int .i64 k])] => some (ps = rows eP (dP ps) ∧ Fo (dP ps) ∧ (b = true → 0 ≤ k ∧ k < (dP ps).length), .d (.bool (Hd b k (dP ps) p)))
  | _ => none
def Mr : List AV → Option (Prop × AV)
  | [.d (.sl xs), .clo (.func 86) [.d (.ptr [.bool b]), .d (.ptr [z, .sl ps]), .d (.ptr [.int .i64 k])]] => some (xs = rows eI (dI xs) ∧ (dI xs).length ≤ 9223372036854775807 ∧ ps = rows eP (dP ps) ∧ Fo (dP ps) ∧ (b = true → 0 ≤ k ∧ k < (dP ps).length), .d (.int .i64 (IW (Hd b k (dP ps)) (dI xs))))
  | _ => none
def C4 : Dr
  | [.sl 0 0 n, .clo (.func 86) [.ptr 1 0 0, .ptr 2 0 0, .ptr 3 0 0]], [some (.vec t s xs), some (.one tb [.d (.bool b)]), some (.one tx [.d z, .d (.sl ps)]), some (.one ti [.d (.int .i64 k)])] =>
    some (t = 3 ∧ s = 1 ∧ xs = rows eI (dI xs) ∧ n = (dI xs).length ∧ (dI xs).length ≤ 1000000000 ∧ ps = rows eP (dP ps) ∧ Fo (dP ps) ∧ (b = true → 0 ≤ k ∧ k < (dP ps).length),
      .sl 0 0 (IR (Hd b k (dP ps)) (dI xs)).length, [some (.vec 3 1 (rows eI (IR (Hd b k (dP ps)) (dI xs)))), some (.one tb [.d (.bool b)]), some (.one tx [.d z, .d (.sl ps)]), some (.one ti [.d (.int .i64 k)])])
  | _, _ => none
theorem Us (Q : Int → Bool) (l : List Int) : (IW Q l = -1 ∧ ∀ y ∈ l, Q y = false) ∨ ∃ i : Nat, ∃ x, IW Q l = (i : Int) ∧ l[i]? = some x ∧ Q x = true ∧ ∀ y ∈ l.take i, Q y = false := by
  unfold IW
  split
  · rename_i h
    have hlt := List.findIdx_lt_length.2 (List.any_eq_true.1 h)
    refine .inr ⟨_, _, rfl, List.getElem?_eq_getElem hlt, List.findIdx_getElem, fun y hy => ?_⟩
    obtain ⟨j, hj⟩ := List.getElem?_of_mem hy
    rw [List.getElem?_take] at hj
    split at hj
    · rename_i hjl
      have := List.not_of_lt_findIdx hjl
      have h2 := (List.getElem?_eq_some_iff.1 hj).2
      rw [h2] at this
      simpa using this
    · cases hj
  · rename_i h
    refine .inl ⟨rfl, fun y hy => ?_⟩
    cases hq : Q y with
    | false => rfl
    | true => exact absurd (List.any_eq_true.2 ⟨y, hy, hq⟩) h
theorem JY {Q : Int → Bool} {l : List Int} (h : ∀ y ∈ l, Q y = false) : IR Q l = l := List.filter_eq_self.2 fun x hx => by rw [h x hx]; rfl
structure Dq (Q : Int → Bool) (l m : List Int) (i j : Nat) : Prop where
  len : m.length = l.length
  le : i < j
  jl : j ≤ l.length
  low : m.take i = IR Q (l.take j)
  high : m.drop j = l.drop j
theorem Dq.start {Q : Int → Bool} {l : List Int} {i : Nat} {x : Int} (hx : l[i]? = some x) (hq : Q x = true) (hn : ∀ y ∈ l.take i, Q y = false) : Dq Q l l i (i + 1) := by
  refine ⟨rfl, by omega, (List.getElem?_eq_some_iff.1 hx).1, ?_, rfl⟩
  unfold IR
  rw [List.take_add_one, hx, List.filter_append, show List.filter (fun x => !Q x) (Option.toList (some x)) = [] by simp [hq], List.append_nil]
  exact (JY hn).symm
theorem Dq.get {Q : Int → Bool} {l m : List Int} {i j : Nat} (h : Dq Q l m i j) (hj : j < l.length) : ∃ x, m[j]? = some x ∧ l[j]? = some x := by
  obtain ⟨x, hx⟩ := Cb hj
  refine ⟨x, ?_, hx⟩
  have := congrArg (fun z => z[0]?) h.high
  simpa [List.getElem?_drop, hx] using this
theorem Dq.keep {Q : Int → Bool} {l m : List Int} {i j : Nat} {x : Int} (h : Dq Q l m i j) (hx : l[j]? = some x) (hq : Q x = false) : Dq Q l (m.set i x) (i + 1) (j + 1) := by
  have hj := (List.getElem?_eq_some_iff.1 hx).1
  have := h.le; have := h.len
  refine ⟨by simp [h.len], by omega, by omega, ?_, ?_⟩
  · rw [List.take_add_one, List.take_set_of_le (Nat.le_refl _), h.low, List.getElem?_set]
    unfold IR
    rw [List.take_add_one, hx, List.filter_append]
    simp [hq, show i < m.length by omega]
  · rw [List.drop_set_of_lt (by omega), ← List.drop_drop, ← List.drop_drop, h.high]
theorem Dq.skip {Q : Int → Bool} {l m : List Int} {i j : Nat} {x : Int} (h : Dq Q l m i j) (hx : l[j]? = some x) (hq : Q x = true) : Dq Q l m i (j + 1) := by
  have hj := (List.getElem?_eq_some_iff.1 hx).1
  have := h.le
  refine ⟨h.len, by omega, by omega, ?_, by rw [← List.drop_drop, ← List.drop_drop, h.high]⟩
  rw [h.low]; unfold IR
  rw [List.take_add_one, hx, List.filter_append]
  simp [hq]
theorem Dq.fin {Q : Int → Bool} {l m : List Int} {i : Nat} (h : Dq Q l m i l.length) : m.take i = IR Q l ∧ (IR Q l).length = i := by
  have h1 := h.low; rw [List.take_length] at h1
  refine ⟨h1, ?_⟩
  rw [← h1, List.length_take]; have := h.le; have := h.len; omega
theorem Xd {P : List AM} {k : Int} (h : 0 ≤ k ∧ k < P.length) : ∃ g t, P[k.toNat]? = some (g, t) ∧ P.getD k.toNat ([], []) = (g, t) := by
  obtain ⟨⟨g, t⟩, hx⟩ := Cb (l := P) (i := k.toNat) (by omega)
  exact ⟨g, t, hx, BG hx⟩

theorem KQ : A5 Tryz.prog 76 (Spec.fresh (Fc 3)) := by
 refine E7 (Nf.at_ 8) Tryz.func76 rfl rfl rfl ?_
 intro args bl p r bf hg hp
 unfold Fc at hg
 split at hg
 rename_i xs
 simp only [Option.some.injEq, Prod.mk.injEq] at hg
 obtain ⟨rfl, rfl, rfl⟩ := hg
 obtain ⟨hr, hb⟩ := hp
 have hT : (Nf).X = T := rfl
 have hx0 := @Tryz.results76
 have hx := hx0
 refine ⟨Nat.le_of_ble_eq_true rfl, ?_⟩
 intro F W0 M0 hnp hmk
 have hnp : AU.np = 0 := hnp
 refine Aa fun N1 h1 => ?_
 refine Ad ?_
 try refine Ac ?_
 refine Ae ?_
 refine Ab ?_
 refine h1 _ ?_; clear h1
 refine Aa fun N2 h2 => ?_
 refine Aa fun N3 h3 => ?_
 refine Ad ?_
 try refine Ac ?_
 refine Ae ?_
 refine AE (by rfl) (QG (by exact Da) (by exact CY) (by exact CZ) (by first | (simp only [Pn, wB, eq_self, Nat.reduceEqDiff, reduceIte]; done) | (simp only [Pn, wB, eq_self, Nat.reduceEqDiff, reduceIte]; rfl)) fun z_r1_1 hz_r1_1 hz_r1_1' => ?_)
 refine Ab ?_
 refine h3 _ ?_; clear h3
 refine Al (fun hb4 => ?_) (fun hb4 => ?_)
 have hz := hz_r1_1 hb4
 unfold H0 at hz
 subst hz
 refine Aa fun N5 h5 => ?_
 refine Ad ?_
 try refine Ac ?_
 refine Ae ?_
 refine Ab ?_
 refine h5 _ ?_; clear h5
 refine Ao ?_
 try simp only [Af]
 refine Aj ?_
 refine ⟨[none], by rfl, ?_, ?_⟩
 refine Aj ?_
 exact At
 refine Aj ?_
 exact At
 refine An ?_
 try simp only [Af]
 refine h2 _ ?_; clear h2
 refine Aa fun N6 h6 => ?_
 refine Ad ?_
 try refine Ac ?_
 refine GE ?_
 refine Ae ?_
 refine Ij (hq := by (first | (exact ⟨hr, by omega⟩) | exact Ay)) ?_
 refine Ae ?_
 refine Ab ?_
 refine h6 _ ?_; clear h6
 refine Ao ?_
 try simp only [Af]
 refine Aj ?_
 refine ⟨[some 1], by rfl, ?_, ?_⟩
 refine Aj ?_
 exact At
 refine Aj ?_
 exact At
 cases hg

def F2 : Bo Tryz.prog := Nf.add 76 (Spec.fresh (Fc 3)) KQ (by kernel_rfl)

theorem Nr : A5 Tryz.prog 86 (Spec.pure IJ) := by
 refine A7 (F2.at_ 19) Tryz.func86 rfl rfl rfl ?_
 intro args p r hg hp
 unfold IJ at hg
 split at hg
 rename_i p b z ps k
 simp only [Option.some.injEq, Prod.mk.injEq] at hg
 obtain ⟨rfl, rfl⟩ := hg
 obtain ⟨he, hsm, hk⟩ := hp
 generalize dP ps = P at *
 subst he
 have hT : (F2).X = T := rfl
 have hx0 := And.intro @AJ (And.intro @Vu (And.intro @Cu (And.intro @Ct @Tryz.results86)))
 have hx := hx0
 refine ⟨by rfl, ?_⟩
 intro F W0 hnp hmk
 refine Aa fun N1 h1 => ?_
 refine Ad ?_
 try refine Ac ?_
 refine Ae ?_
 refine Ab ?_
 refine h1 _ ?_; clear h1
 refine Aa fun N2 h2 => ?_
 cases b
 have hr : Hd false k P p = true := rfl
 have hr2 := hsm
 have hx := And.intro @hr2 (And.intro @EB hx0)
 refine Ad ?_
 try refine Ac ?_
 refine Ar ?_
 refine Ik ?_
 refine Ae ?_
 refine Cn ?_
 iterate 2 refine Cm ?_
 iterate 2 refine Cn ?_
 refine Cm ?_
 refine Dp ?_
 have hc := Ah (E := (F2.at_ 19)) (f := 73) (sp := Spec.pure C2) rfl
 have hs := @C2.eq_1
 refine H3 ?_
 refine Mh ?_
 refine AQ ?_
 refine Ae ?_
 refine Ab ?_
 have hx := hx0
 refine h2 _ ?_; clear h2
 refine Ao ?_
 try simp only [Af]
 rw [hr]
 refine A3 ?_
 exact At
 obtain ⟨g, t, hxe, hxd⟩ := Xd (hk rfl)
 have hk0 := hk rfl
 have hpm : t.length ≤ 9223372036854775807 := (hsm _ (AF hxe)).2
 have hr : Hd true k P p = !decide (p ∈ t) := by unfold Hd; rw [hxd]; rfl
 have hr2 := hxe
 have hx := And.intro @hr2 (And.intro @EB hx0)
 refine Ad ?_
 try refine Ac ?_
 refine Ar ?_
 refine Ik ?_
 refine Ae ?_
 refine Cn ?_
 iterate 2 refine Cm ?_
 iterate 2 refine Cn ?_
 refine Cm ?_
 refine Dp ?_
 have hc := Ah (E := (F2.at_ 19)) (f := 73) (sp := Spec.pure C2) rfl
 have hs := @C2.eq_1
 refine H3 ?_
 refine Mh ?_
 refine AQ ?_
 refine Ae ?_
 refine Ab ?_
 have hx := hx0
 refine h2 _ ?_; clear h2
 refine Ao ?_
 try simp only [Af]
 rw [hr]
 refine A3 ?_
 exact At
 cases hg

def K7 : Bo Tryz.prog := F2.add 86 (Spec.pure IJ) Nr (by kernel_rfl)

theorem NL : A5 Tryz.prog 80 (Spec.pure Mr) := by
 refine A7 (K7.at_ 19) Tryz.func80 rfl rfl rfl ?_
 intro args p r hg hp
 unfold Mr at hg
 split at hg
 rename_i xs b z ps k
 simp only [Option.some.injEq, Prod.mk.injEq] at hg
 obtain ⟨rfl, rfl⟩ := hg
 obtain ⟨he, hl, hf, hsm, hk⟩ := hp
 generalize dI xs = l at *
 generalize dP ps = P at *
 subst he hf
 have hT : (K7).X = T := rfl
 have hx0 := And.intro @B6 @Tryz.results80
 have hx := hx0
 refine ⟨by rfl, ?_⟩
 intro F W0 hnp hmk
 refine Aa fun N1 h1 => ?_
 refine Ad ?_
 try refine Ac ?_
 refine Ae ?_
 refine Ab ?_
 refine h1 _ ?_; clear h1
 refine Aa fun N2 h2 => ?_
 refine Aa fun N3 h3 => ?_
 refine Ad ?_
 try refine Ac ?_
 refine Ae ?_
 refine Bm ?_
 refine Ae ?_
 refine Ab ?_
 refine h3 _ ?_; clear h3
 refine Aw ?_
 refine A9 (σ := Nat) (fun s => (fun k' => k' ≤ l.length ∧ ∀ y ∈ l.take k', Hd b k P y = false) s)
  (fun s => (fun k' => [(0, .d (.sl (rows eI l))), (1, .clo (.func 86) [.d (.ptr [.bool b]), .d (.ptr [z, .sl (rows eP P)]), .d (.ptr [.int .i64 k])]), (6, .d (.sl (rows eI l))), (7, .d (.int .i64 (l.length : Nat))), (8, .d (.int .i64 (k' : Nat)))]) s)
  (fun s => (fun k' => []) s) (fun s => (fun k' => l.length - k') s) hnp 0 ?_ [] ?_ ?_
 dsimp only
 simp
 dsimp only
 refine ⟨by rfl, ?_, ?_⟩
 refine Aj ?_
 exact At
 refine Aj ?_
 exact At
 rintro k' hinv N4 h4
 dsimp only at hinv ⊢
 obtain ⟨k1, k2⟩ := hinv
 refine Aa fun N5 h5 => ?_
 refine Ad ?_
 try refine Ac ?_
 refine Am ?_
 refine Ab ?_
 refine h5 _ ?_; clear h5
 refine Aa fun N6 h6 => ?_
 refine Al (fun hb7 => ?_) (fun hb7 => ?_)
 obtain ⟨x, hxe⟩ := Cb (l := l) (i := k') (by omega)
 refine An ?_
 try simp only [Af]
 refine h6 _ ?_; clear h6
 refine Aa fun N8 h8 => ?_
 refine Aw ?_
 refine Aa fun N9 h9 => ?_
 refine Ad ?_
 try refine Ac ?_
 iterate 2 refine Ae ?_
 refine Ab ?_
 refine h9 _ ?_; clear h9
 refine Aa fun N10 h10 => ?_
 have hx := And.intro @hxe (And.intro @eI.eq_1 hx0)
 refine Ad ?_
 try refine Ac ?_
 iterate 3 refine Ae ?_
 refine Au ?_
 refine Ar ?_
 have hc := (rfl : ((K7.at_ 19)).Γ 86 = some (Spec.pure IJ))
 have hs := (@IJ.eq_1)
 refine Ve (hq := by (first | (first | exact ⟨hsm, hk⟩ | exact ⟨rfl, hsm, hk⟩ | (rw [B6]; first | exact ⟨rfl, hsm, hk⟩ | exact ⟨⟨trivial, trivial, trivial⟩, rfl, hsm, hk⟩)) | exact Ay)) ?_
 refine Ab ?_
 have hx := hx0
 refine h10 _ ?_; clear h10
 refine Al (fun hb11 => ?_) (fun hb11 => ?_)
 have ht := hb11
 try simp only [B6] at ht
 refine Aa fun N12 h12 => ?_
 refine Ad ?_
 try refine Ac ?_
 iterate 2 refine Ae ?_
 refine Ab ?_
 refine h12 _ ?_; clear h12
 refine Ao ?_
 try simp only [Af]
 rw [OI hxe (by simpa using ht) k2]
 refine A3 ?_
 exact At
 have ht := hb11
 try simp only [B6] at ht
 refine An ?_
 try simp only [Af]
 refine h8 _ ?_; clear h8
 refine Ad ?_
 try refine Ac ?_
 refine Am ?_
 refine Ae ?_
 refine Ab ?_
 refine h4 _ ⟨k' + 1, ?_, ?_, [], ?_⟩
 dsimp only
 exact ⟨by omega, F5 k2 hxe (by simpa using ht)⟩
 dsimp only
 omega
 dsimp only
 refine ⟨by rfl, ?_, ?_⟩
 refine Aj ?_
 exact At
 refine Aj ?_
 exact At
 refine Be ?_
 simp only [Af, Nat.reduceEqDiff, reduceIte, eq_self]
 refine h2 _ ?_; clear h2
 refine Aa fun N13 h13 => ?_
 refine Ad ?_
 try refine Ac ?_
 refine Ae ?_
 refine Ab ?_
 refine h13 _ ?_; clear h13
 refine Ao ?_
 try simp only [Af]
 rw [Ka (by rw [List.take_of_length_le (by omega)] at k2; exact k2)]
 refine A3 ?_
 exact At
 cases hg

def I4 : Bo Tryz.prog := K7.add 80 (Spec.pure Mr) NL (by kernel_rfl)

theorem LX : A5 Tryz.prog 57 (Spec.gen C4) := by
 refine Bt (I4.at_ 42) Tryz.func57 rfl rfl rfl ?_
 intro args bl p r bf hg hp
 unfold C4 at hg
 split at hg
 rename_i n t s xs tb b tx z ps ti k
 simp only [Option.some.injEq, Prod.mk.injEq] at hg
 obtain ⟨rfl, rfl, rfl⟩ := hg
 obtain ⟨rfl, rfl, he, rfl, hl, hf, hsm, hk⟩ := hp
 generalize dI xs = l at *
 generalize dP ps = P at *
 subst he hf
 have hT : (I4).X = T := rfl
 have hx0 := And.intro @B6 @Tryz.results57
 have hx := hx0
 refine ⟨Nat.le_of_ble_eq_true rfl, ?_⟩
 intro F W0 M0 hnp hmk
 have hnp : AU.np = 4 := hnp
 refine Aa fun N1 h1 => ?_
 refine Ad ?_
 try refine Ac ?_
 refine Ae ?_
 refine Ab ?_
 refine h1 _ ?_; clear h1
 refine Aa fun N2 h2 => ?_
 refine Ad ?_
 try refine Ac ?_
 iterate 2 refine Ae ?_
 have hc := Ah (E := (I4.at_ 42)) (f := 80) (sp := Spec.pure Mr) rfl
 have hs := @Mr.eq_1
 refine BF (hq := by (first | (exact ⟨Nat.le_refl _, by simp; omega, hsm, hk⟩) | exact Ay)) ?_
 refine Ae ?_
 refine Ab ?_
 simp only [List.take_length]
 refine h2 _ ?_; clear h2
 refine Aa fun N3 h3 => ?_
 refine Aa fun N4 h4 => ?_
 rcases Us (Hd b k P) l with ⟨hf1, hf2⟩ | ⟨i0, x0, hf1, hf2, hf3, hf4⟩
 have hdl := JY hf2
 have hx := And.intro @hf1 hx0
 refine Ad ?_
 try refine Ac ?_
 refine Ae ?_
 refine Am ?_
 refine Ab ?_
 have hx := hx0
 refine h4 _ ?_; clear h4
 refine Al (fun hb5 => ?_) (fun hb5 => ?_)
 refine Aa fun N6 h6 => ?_
 refine Ad ?_
 try refine Ac ?_
 iterate 2 refine Ae ?_
 refine Ab ?_
 refine h6 _ ?_; clear h6
 refine Ao ?_
 try simp only [Af]
 rw [hdl]
 refine Aj ?_
 refine ⟨[some 0, some 1, some 2, some 3], by rfl, ?_, ?_⟩
 refine Aj ?_
 exact At
 refine Aj ?_
 exact At
 ·first | omega | exact absurd trivial hb5 | contradiction | (simp_all; done)
 have hst := Dq.start hf2 hf3 hf4
 have hi0 := (List.getElem?_eq_some_iff.1 hf2).1
 have hx := And.intro @hf1 hx0
 refine Ad ?_
 try refine Ac ?_
 refine Ae ?_
 refine Am ?_
 refine Ab ?_
 have hx := hx0
 refine h4 _ ?_; clear h4
 refine Al (fun hb7 => ?_) (fun hb7 => ?_)
 ·first | omega | exact absurd trivial hb7 | contradiction | (simp_all; done)
 refine An ?_
 try simp only [Af]
 refine h3 _ ?_; clear h3
 refine Aa fun N8 h8 => ?_
 refine Aa fun N9 h9 => ?_
 refine Ad ?_
 try refine Ac ?_
 refine Ae ?_
 refine Am ?_
 refine Ae ?_
 refine Ab ?_
 refine h9 _ ?_; clear h9
 refine Aw ?_
 refine A9 (σ := Nat × Nat × List Int) (fun s => (fun i j m => Dq (Hd b k P) l m i j) (s.1) (s.2.1) (s.2.2))
  (fun s => (fun i j m => [(0, .sl 0 0 l.length), (1, .clo (.func 86) [.ptr 1 0 0, .ptr 2 0 0, .ptr 3 0 0]), (5, .d (.int .i64 (i : Nat))), (6, .d (.int .i64 (j : Nat)))]) (s.1) (s.2.1) (s.2.2))
  (fun s => (fun i j m => [some (.vec 3 1 (rows eI m)), some (.one tb [.d (.bool b)]), some (.one tx [.d z, .d (.sl (rows eP P))]), some (.one ti [.d (.int .i64 k)])]) (s.1) (s.2.1) (s.2.2)) (fun s => (fun i j m => l.length - j) (s.1) (s.2.1) (s.2.2)) hnp (i0, i0 + 1, l) ?_ [some 0, some 1, some 2, some 3] ?_ ?_
 dsimp only
 exact hst
 dsimp only
 refine ⟨by rfl, ?_, ?_⟩
 refine Aj ?_
 exact At
 refine Aj ?_
 exact At
 rintro ⟨i, j, m⟩ hinv N10 h10
 dsimp only at hinv ⊢
 have hiv := hinv
 have hml := hinv.len
 have hij := hinv.le
 have hjl := hinv.jl
 refine Aa fun N11 h11 => ?_
 refine Aa fun N12 h12 => ?_
 refine Ad ?_
 try refine Ac ?_
 iterate 2 refine Ae ?_
 refine Bm ?_
 refine Am ?_
 refine Ab ?_
 refine h12 _ ?_; clear h12
 refine Al (fun hb13 => ?_) (fun hb13 => ?_)
 obtain ⟨x, hmx, hlx⟩ := hiv.get (by have := hiv.len; omega)
 refine An ?_
 try simp only [Af]
 refine h11 _ ?_; clear h11
 refine Aa fun N14 h14 => ?_
 refine Aw ?_
 refine Aa fun N15 h15 => ?_
 have hx := And.intro @hmx (And.intro @eI.eq_1 hx0)
 refine Ad ?_
 try refine Ac ?_
 iterate 2 refine Ae ?_
 refine Au ?_
 refine Ar ?_
 refine Ae ?_
 refine Ab ?_
 have hx := hx0
 refine h15 _ ?_; clear h15
 refine Aa fun N16 h16 => ?_
 refine Ad ?_
 try refine Ac ?_
 iterate 2 refine Ae ?_
 have hc := (rfl : ((I4.at_ 42)).Γ 86 = some (Spec.pure IJ))
 have hs := (@IJ.eq_1)
 refine Ve (hq := by (first | (first | exact ⟨hsm, hk⟩ | exact ⟨rfl, hsm, hk⟩ | (rw [B6]; first | exact ⟨rfl, hsm, hk⟩ | exact ⟨⟨trivial, trivial, trivial⟩, rfl, hsm, hk⟩)) | exact Ay)) ?_
 refine Ik ?_
 refine Ab ?_
 refine h16 _ ?_; clear h16
 refine Al (fun hb17 => ?_) (fun hb17 => ?_)
 have hq : Hd b k P x = false := by have := hb17; (try simp only [B6] at this); simpa using this
 obtain ⟨y, hye⟩ := Cb (l := m) (i := i) (by omega)
 refine Aa fun N18 h18 => ?_
 have hx := And.intro @hye (And.intro @eI.eq_1 hx0)
 refine Ad ?_
 try refine Ac ?_
 iterate 3 refine Ae ?_
 refine Au ?_
 refine A8 ?_
 refine Ab ?_
 have hx := hx0
 refine h18 _ ?_; clear h18
 refine Ad ?_
 try refine Ac ?_
 refine Ae ?_
 refine Am ?_
 refine Ae ?_
 refine Ab ?_
 refine h14 _ ?_; clear h14
 refine Ad ?_
 try refine Ac ?_
 refine Ae ?_
 refine Am ?_
 refine Ae ?_
 refine Ab ?_
 refine h10 _ ⟨(i + 1, j + 1, m.set i x), ?_, ?_, [some 0, some 1, some 2, some 3], ?_⟩
 dsimp only
 exact hiv.keep hlx hq
 dsimp only
 omega
 dsimp only
 refine ⟨by rfl, ?_, ?_⟩
 refine Aj ?_
 ·(repeat' apply And.intro) <;> (first | (first | rfl | trivial | (simp [rows, eI]; done)) | exact At)
 refine Aj ?_
 ·(repeat' apply And.intro) <;> (first | (first | rfl | trivial | (simp [rows, eI]; done)) | exact At)
 have hq : Hd b k P x = true := by have := hb17; (try simp only [B6] at this); simpa using this
 refine An ?_
 try simp only [Af]
 refine h14 _ ?_; clear h14
 refine Ad ?_
 try refine Ac ?_
 refine Ae ?_
 refine Am ?_
 refine Ae ?_
 refine Ab ?_
 refine h10 _ ⟨(i, j + 1, m), ?_, ?_, [some 0, some 1, some 2, some 3], ?_⟩
 dsimp only
 exact hiv.skip hlx hq
 dsimp only
 omega
 dsimp only
 refine ⟨by rfl, ?_, ?_⟩
 refine Aj ?_
 ·(repeat' apply And.intro) <;> (first | (first | rfl | trivial | (simp [rows, eI]; done)) | exact At)
 refine Aj ?_
 ·(repeat' apply And.intro) <;> (first | (first | rfl | trivial | (simp [rows, eI]; done)) | exact At)
 refine Be ?_
 simp only [Af, Nat.reduceEqDiff, reduceIte, eq_self]
 refine h8 _ ?_; clear h8
 refine Aa fun N19 h19 => ?_
 refine Ad ?_
 try refine Ac ?_
 iterate 2 refine Ae ?_
 refine DI ?_
 refine AE (by rfl) (QF (by exact Da) (by exact CY) (by simp only [wB, eq_self, Nat.reduceEqDiff, reduceIte]; rfl) (by exact CZ) (by exact CZ) rfl ?_)
 try simp only [wB, eq_self, Nat.reduceEqDiff, reduceIte, wL, Int.toNat_natCast, Int.reduceToNat, Nat.reduceAdd, Nat.reduceMul, Nat.reduceSub, Nat.reduceLeDiff, hx]
 refine Ab ?_
 refine h19 _ ?_; clear h19
 refine Aa fun N20 h20 => ?_
 refine Ad ?_
 try refine Ac ?_
 iterate 2 refine Ae ?_
 refine DI ?_
 refine Ae ?_
 refine Ab ?_
 refine h20 _ ?_; clear h20
 refine Ao ?_
 try simp only [Af]
 obtain rfl : j = l.length := by omega
 obtain ⟨hfi, hfl⟩ := hiv.fin
 rw [hfl, ← hfi]
 refine Aj ?_
 refine ⟨[some 0, some 1, some 2, some 3], by rfl, ?_, ?_⟩
 refine Aj ?_
 ·(repeat' apply And.intro) <;> (first | (first | rfl | trivial | omega | (simp [rows, Az, List.map_take]; done) | (simp [rows, Az, List.map_take]; omega)) | exact At)
 refine Aj ?_
 ·(repeat' apply And.intro) <;> (first | (first | rfl | trivial | omega | (simp [rows, Az, List.map_take]; done) | (simp [rows, Az, List.map_take]; omega)) | exact At)
 cases hg

def Cz : Bo Tryz.prog := I4.add 57 (Spec.gen C4) LX (by kernel_rfl)
end Go.Proofs.YtmbjnkgpcbpclaaGreat
