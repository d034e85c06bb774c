/- Walks, printed by wip/gen/walk.py. -/
import Derived.Test.YtmbjnkgpcbpclaaGreatT67
import Derived.Test.YtmbjnkgpcbpclaaGreatV5
set_option linter.all false
set_option maxRecDepth 100000
set_option maxHeartbeats 4000000
namespace Go.Proofs.YtmbjnkgpcbpclaaGreat
open Go Go.Vc Go.RowKit
def rX (r : PR) : Int := match r with | some (_, _, x) => (x : Int) | none => 0
def XC (t : Bs) (r : PR) : List (Option Bk) := match r with
  | some (a, ns, _) => [Re t (a : Nat) (.sl 2 0 ns.length), none, some (.vec 55 4 (rows DL ns))]
  | none => [none, none, none]
theorem UO (a : Nat) (ns : List Sn) (x : Nat) : rX (some (a, ns, x)) = (x : Int) := rfl
theorem Pb (t : Bs) (a : Nat) (ns : List Sn) (x : Nat) : XC t (some (a, ns, x)) = [Re t (a : Nat) (.sl 2 0 ns.length), none, some (.vec 55 4 (rows DL ns))] := rfl
theorem Tv {r : PR} (h : r.isSome = true) : ∃ a ns x, r = some (a, ns, x) := by
  match r, h with
  | some (a, ns, x), _ => exact ⟨a, ns, x, rfl⟩
def Te : Dr
  | [.ptr 0 0 0], [some (.one ty [.d (.str t), .d (.int .i64 a), .sl 1 0 n]), some (.vec vt sz xs)] => some (Oc ty vt sz n t a xs ∧ a < t.length ∧ (TV t a.toNat (C3 xs)).isSome = true, .d (.int .i64 (rX (TV t a.toNat (C3 xs)))), XC t (TV t a.toNat (C3 xs)))
  | _, _ => none
theorem UN {t : Bs} {a : Nat} {ns : List Sn} (h : (TV t a ns).isSome = true) : ∃ e S, qd t (t.length + 1) (a + 1) [] = some (e, S) ∧ Gu S = true ∧ e < t.length ∧ a + 1 ≤ e ∧ S.length ≤ e - (a + 1) ∧ TV t a ns = some (e + 1, ns ++ [⟨1, S, 0, 0⟩], ns.length) := by
  unfold TV at h
  split at h
  · rename_i e S he
    have := Jl he
    split at h
    · rename_i ho
      exact ⟨e, S, he, ho, this.2.1, this.1, by simpa using this.2.2, by unfold TV; rw [he]; exact if_pos ho⟩
    · cases h
  · cases h
def Ya (i : Nat) : Bool → AV
  | true => .ptr i 0 0
  | false => .d .nilp
theorem Eh (i : Nat) : Ya i true = .ptr i 0 0 := rfl
theorem OW (i : Nat) : Ya i false = .d .nilp := rfl
theorem Xq (c : UInt8) : UInt8.ofNat c.toNat = c := by simp
theorem Yf {t : Bs} {f a : Nat} {s : Bs} {c : UInt8} {z : Nat × Bs} (hc : t[a]? = some c) (h : qd t (f + 1) a s = some z) : (c = 34 ∧ z = (a, s)) ∨ (c ≠ 34 ∧ c ≠ 10 ∧ c ≠ 92 ∧ qd t f (a + 1) (s ++ [c]) = some z) ∨ (c = 92 ∧ ∃ d, t[a + 1]? = some d ∧ (d = 34 ∨ d = 92) ∧ qd t f (a + 2) (s ++ [d]) = some z) := by
  unfold qd at h
  rw [hc] at h
  dsimp only at h
  split at h
  · rename_i h34; cases h; exact .inl ⟨h34, rfl⟩
  · rename_i h34
    split at h
    · cases h
    · rename_i h10
      split at h
      · rename_i h92
        split at h
        · cases h
        · rename_i d hd
          split at h
          · rename_i h2; exact .inr (.inr ⟨h92, d, hd, h2, h⟩)
          · cases h
      · rename_i h92; exact .inr (.inl ⟨h34, h10, h92, h⟩)
theorem Tc {t : Bs} {f a : Nat} {s : Bs} {z : Nat × Bs} (h : qd t f a s = some z) : ∃ g, f = g + 1 ∧ a < t.length := by
  match f, h with
  | f + 1, h => exact ⟨f, rfl, by have := Jl (e := z.1) (r := z.2) h; omega⟩

def XF : Bo Tryz.prog := VA.add 95 (Spec.gen Oz) TM (by kernel_rfl)

def DP : Bo Tryz.prog := XF.add 96 (Spec.gen II) PG (by kernel_rfl)

theorem Q1 : A5 Tryz.prog 82 (Spec.gen Te) := by
 refine Bt (DP.at_ 127) Tryz.func82 rfl rfl rfl ?_
 intro args bl p r bf hg hp
 unfold Te at hg
 split at hg
 rename_i ty t a n vt sz xs
 simp only [Option.some.injEq, Prod.mk.injEq] at hg
 obtain ⟨rfl, rfl, rfl⟩ := hg
 obtain ⟨hpr, hlt, hsm⟩ := hp
 obtain ⟨rfl, rfl, rfl, he, rfl, ha0, hal, htl, hqa⟩ := hpr
 generalize C3 xs = q at *
 subst he
 obtain ⟨a, rfl⟩ := Int.eq_ofNat_of_zero_le ha0
 simp only [Int.toNat_natCast] at *
 have hal : a ≤ t.length := by omega
 have hqa : q.length ≤ a := by omega
 obtain ⟨k1, k2⟩ := EH hal
 have hlt : a < t.length := by omega
 obtain ⟨e, S, hq, hok, he, hae, hSl, hR⟩ := UN hsm
 rw [hR]
 have hT : (DP).X = T := rfl
 have hx0 := And.intro @Cu (And.intro @Ct (And.intro @Int.toNat_natCast (And.intro @Re.eq_1 (And.intro @AX (And.intro @A0 (And.intro @UO (And.intro @Pb (And.intro @Xq @Tryz.results82))))))))
 have hx := hx0
 refine ⟨Nat.le_of_ble_eq_true rfl, ?_⟩
 intro F W0 M0 hnp hmk
 have hnp : AU.np = 2 := hnp
 refine Aa fun N1 h1 => ?_
 refine Ad ?_
 try refine Ac ?_
 refine Ae ?_
 refine Ab ?_
 refine h1 _ ?_; clear h1
 refine Aa fun N2 h2 => ?_
 refine Ad ?_
 try refine Ac ?_
 refine Ae ?_
 refine Bn ?_
 refine Au ?_
 refine Ar ?_
 refine Ae ?_
 refine Ab ?_
 refine h2 _ ?_; clear h2
 refine Aa fun N3 h3 => ?_
 refine Ad ?_
 try refine Ac ?_
 refine B8 ?_
 refine Ab ?_
 refine h3 _ ?_; clear h3
 refine Aa fun N4 h4 => ?_
 refine Aa fun N5 h5 => ?_
 refine Iy 2 1 (.ob (.bfr 5 [] false)) 1 (fun _ _ _ => ⟨rfl, .inl ⟨rfl, rfl, rfl⟩⟩) rfl rfl rfl ?_
 simp only [BI, List.set, List.cons_append, List.nil_append]
 refine Ad ?_
 try refine Ac ?_
 refine Ae ?_
 refine Bn ?_
 refine Au ?_
 refine Ar ?_
 refine Am ?_
 refine Bn ?_
 refine Au ?_
 refine A8 ?_
 refine Ab ?_
 refine h5 _ ?_; clear h5
 refine Aw ?_
 refine A9 (σ := Nat × Bs × Bool × Nat) (fun s => (fun i s2 b g => qd t g i s2 = some (e, S) ∧ i < t.length ∧ a + 1 ≤ i ∧ s2.length ≤ i) (s.1) (s.2.1) (s.2.2.1) (s.2.2.2))
  (fun s => (fun i s2 b g => [(0, .ptr 0 0 0), (4, .ptr 2 0 0)]) (s.1) (s.2.1) (s.2.2.1) (s.2.2.2))
  (fun s => (fun i s2 b g => [some (.one 75 [.d (.str t), .d (.int .i64 (i : Nat)), .sl 1 0 q.length]), some (.vec 55 4 (rows DL q)), some (.one 143 [Ya 2 b, .sl 3 0 s2.length]), some (.ob (.bfr 5 s2 false))]) (s.1) (s.2.1) (s.2.2.1) (s.2.2.2)) (fun s => (fun i s2 b g => g) (s.1) (s.2.1) (s.2.2.1) (s.2.2.2)) hnp (a + 1, [], false, t.length + 1) ?_ [some 0, some 1, some 2, some 3] ?_ ?_
 dsimp only
 exact ⟨hq, by omega, by omega, Nat.zero_le _⟩
 dsimp only
 refine ⟨by rfl, ?_, ?_⟩
 refine Aj ?_
 exact At
 refine Aj ?_
 exact At
 rintro ⟨i, s2, b, g⟩ hinv N6 h6
 dsimp only at hinv ⊢
 obtain ⟨hI, i2, i3, i4⟩ := hinv
 obtain ⟨g0, rfl, -⟩ := Tc hI
 refine Aa fun N7 h7 => ?_
 refine Aw ?_
 refine Aa fun N8 h8 => ?_
 refine Aa fun N9 h9 => ?_
 refine Ad ?_
 try refine Ac ?_
 refine Ae ?_
 refine Bn ?_
 refine Au ?_
 refine Ar ?_
 refine Ae ?_
 refine Bn ?_
 refine Au ?_
 refine Ar ?_
 refine Bm ?_
 refine Am ?_
 refine Ab ?_
 refine h9 _ ?_; clear h9
 refine Al (fun hb10 => ?_) (fun hb10 => ?_)
 ·first | omega | exact absurd trivial hb10 | contradiction | (simp_all; done)
 obtain ⟨c, hc⟩ := Cb (l := t) (i := i) i2
 have hS4 := Yf hc hI
 refine An ?_
 try simp only [Af]
 refine h8 _ ?_; clear h8
 refine Aa fun N11 h11 => ?_
 have hx := And.intro @hc hx0
 refine Ad ?_
 try refine Ac ?_
 refine Ae ?_
 refine Bn ?_
 refine Au ?_
 refine Ar ?_
 refine Ae ?_
 refine Bn ?_
 refine Au ?_
 refine Ar ?_
 refine Au ?_
 refine Ae ?_
 refine Ab ?_
 have hx := hx0
 refine h11 _ ?_; clear h11
 refine Aa fun N12 h12 => ?_
 refine Aa fun N13 h13 => ?_
 refine Ad ?_
 try refine Ac ?_
 refine Ae ?_
 refine Am ?_
 refine Ab ?_
 refine h13 _ ?_; clear h13
 refine Al (fun hb14 => ?_) (fun hb14 => ?_)
 have h34 : c = 34 := by have := hb14; first | exact UInt8.toNat_inj.1 (show c.toNat = 34 by (try simp at this); omega) | (simpa using this)
 have hz : (e, S) = (i, s2) := by
  rcases hS4 with ⟨_, h⟩ | ⟨h, _⟩ | ⟨h, _⟩
  ·exact h
  ·exact absurd h34 h
  ·rw [h34] at h; exact absurd h (by decide)
 obtain ⟨rfl, rfl⟩ := Prod.mk.injEq .. ▸ hz
 refine Be ?_
 simp only [Af, Nat.reduceEqDiff, reduceIte, eq_self]
 refine h4 _ ?_; clear h4
 refine Aa fun N15 h15 => ?_
 refine Ad ?_
 try refine Ac ?_
 refine Ae ?_
 refine Bn ?_
 refine Au ?_
 refine Ar ?_
 refine Am ?_
 refine Bn ?_
 refine Au ?_
 refine A8 ?_
 refine Ab ?_
 refine h15 _ ?_; clear h15
 refine Aa fun N16 h16 => ?_
 refine Aa fun N17 h17 => ?_
 cases b
 simp only [OW]
 have hx := And.intro @hok hx0
 refine Ad ?_
 try refine Ac ?_
 have hc := Ah (E := (DP.at_ 127)) (f := 96) (sp := Spec.gen II) rfl
 have hs := @II.eq_1
 refine BD ?_
 have hc := Ah (E := (DP.at_ 127)) (f := 62) (sp := Spec.pure La) rfl
 have hs := @La.eq_1
 refine BF ?_
 refine Ik ?_
 refine Ab ?_
 have hx := hx0
 refine h17 _ ?_; clear h17
 refine Al (fun hb18 => ?_) (fun hb18 => ?_)
 ·first | omega | exact absurd trivial hb18 | contradiction | (simp_all; done)
 refine An ?_
 try simp only [Af]
 refine h16 _ ?_; clear h16
 refine Aa fun N19 h19 => ?_
 refine Ad ?_
 try refine Ac ?_
 refine Ae ?_
 have hc := Ah (E := (DP.at_ 127)) (f := 96) (sp := Spec.gen II) rfl
 have hs := @II.eq_1
 refine BD ?_
 refine BC ?_
 have hc := Ah (E := (DP.at_ 127)) (f := 65) (sp := Spec.gen IC) rfl
 have hs := @IC.eq_1
 refine BD ?_
 refine Ae ?_
 refine Ab ?_
 refine h19 _ ?_; clear h19
 refine Ao ?_
 try simp only [Af]
 refine Aj ?_
 refine ⟨[some 0, some 1, some 4], by rfl, ?_, ?_⟩
 refine Aj ?_
 exact At
 refine Aj ?_
 exact At
 simp only [Eh]
 have hx := And.intro @hok hx0
 refine Ad ?_
 try refine Ac ?_
 have hc := Ah (E := (DP.at_ 127)) (f := 96) (sp := Spec.gen II) rfl
 have hs := @II.eq_1
 refine BD ?_
 have hc := Ah (E := (DP.at_ 127)) (f := 62) (sp := Spec.pure La) rfl
 have hs := @La.eq_1
 refine BF ?_
 refine Ik ?_
 refine Ab ?_
 have hx := hx0
 refine h17 _ ?_; clear h17
 refine Al (fun hb20 => ?_) (fun hb20 => ?_)
 ·first | omega | exact absurd trivial hb20 | contradiction | (simp_all; done)
 refine An ?_
 try simp only [Af]
 refine h16 _ ?_; clear h16
 refine Aa fun N21 h21 => ?_
 refine Ad ?_
 try refine Ac ?_
 refine Ae ?_
 have hc := Ah (E := (DP.at_ 127)) (f := 96) (sp := Spec.gen II) rfl
 have hs := @II.eq_1
 refine BD ?_
 refine BC ?_
 have hc := Ah (E := (DP.at_ 127)) (f := 65) (sp := Spec.gen IC) rfl
 have hs := @IC.eq_1
 refine BD ?_
 refine Ae ?_
 refine Ab ?_
 refine h21 _ ?_; clear h21
 refine Ao ?_
 try simp only [Af]
 refine Aj ?_
 refine ⟨[some 0, some 1, some 4], by rfl, ?_, ?_⟩
 refine Aj ?_
 exact At
 refine Aj ?_
 exact At
 have h34 : c ≠ 34 := by intro h; have := hb14; subst h; simp at this
 have hS5 := hS4.resolve_left fun h => h34 h.1
 refine An ?_
 try simp only [Af]
 refine h12 _ ?_; clear h12
 refine Aa fun N22 h22 => ?_
 refine Aa fun N23 h23 => ?_
 refine Ad ?_
 try refine Ac ?_
 refine Ae ?_
 refine Am ?_
 refine Ab ?_
 refine h23 _ ?_; clear h23
 refine Al (fun hb24 => ?_) (fun hb24 => ?_)
 exfalso
 rcases hS5 with ⟨_, h, _⟩ | ⟨h, _⟩
 exact h (by have := hb24; first | exact UInt8.toNat_inj.1 (show c.toNat = 10 by (try simp at this); omega) | (simpa using this))
 subst h; have := hb24; simp at this
 refine An ?_
 try simp only [Af]
 refine h22 _ ?_; clear h22
 refine Aa fun N25 h25 => ?_
 refine Aa fun N26 h26 => ?_
 refine Ad ?_
 try refine Ac ?_
 refine Ae ?_
 refine Am ?_
 refine Ab ?_
 refine h26 _ ?_; clear h26
 refine Al (fun hb27 => ?_) (fun hb27 => ?_)
 have h92 : c = 92 := by have := hb27; first | exact UInt8.toNat_inj.1 (show c.toNat = 92 by (try simp at this); omega) | (simpa using this)
 obtain ⟨d, hd, hd2, hn⟩ : ∃ d, t[i + 1]? = some d ∧ (d = 34 ∨ d = 92) ∧ qd t g0 (i + 2) (s2 ++ [d]) = some (e, S) := by
  rcases hS5 with ⟨_, _, h, _⟩ | ⟨_, h⟩
  ·exact absurd h92 h
  ·exact h
 have hd1 := (List.getElem?_eq_some_iff.1 hd).1
 obtain ⟨_, _, hnl⟩ := Tc hn
 have hi1 : ((i : Int) + 1).toNat = i + 1 := by omega
 refine Aa fun N28 h28 => ?_
 refine Aa fun N29 h29 => ?_
 refine Ad ?_
 try refine Ac ?_
 refine Ae ?_
 refine Bn ?_
 refine Au ?_
 refine Ar ?_
 refine Am ?_
 refine Ae ?_
 refine Bn ?_
 refine Au ?_
 refine Ar ?_
 refine Bm ?_
 refine Am ?_
 refine Ab ?_
 refine h29 _ ?_; clear h29
 refine Al (fun hb30 => ?_) (fun hb30 => ?_)
 ·first | omega | exact absurd trivial hb30 | contradiction | (simp_all; done)
 refine An ?_
 try simp only [Af]
 refine h28 _ ?_; clear h28
 refine Aa fun N31 h31 => ?_
 refine Aa fun N32 h32 => ?_
 have hx := And.intro @hi1 (And.intro @hd hx0)
 refine Ad ?_
 try refine Ac ?_
 refine Ae ?_
 refine Bn ?_
 refine Au ?_
 refine Ar ?_
 refine Ae ?_
 refine Bn ?_
 refine Au ?_
 refine Ar ?_
 refine Am ?_
 refine Au ?_
 refine Ae ?_
 refine Ab ?_
 have hx := hx0
 refine h32 _ ?_; clear h32
 refine Aa fun N33 h33 => ?_
 rcases hd2 with rfl | rfl
 skip
 refine Ad ?_
 try refine Ac ?_
 refine Ae ?_
 refine Am ?_
 refine Ae ?_
 refine Av ?_ ?_
 focus (exact Bl)
 refine Av ?_ ?_
 focus (exact Bl)
 refine AQ ?_
 refine Ab ?_
 refine h33 _ ?_; clear h33
 refine Al (fun hb34 => ?_) (fun hb34 => ?_)
 ·first | omega | exact absurd trivial hb34 | contradiction | (simp_all; done)
 refine An ?_
 try simp only [Af]
 refine h31 _ ?_; clear h31
 refine Ad ?_
 try refine Ac ?_
 refine Ae ?_
 refine Bn ?_
 refine Au ?_
 refine Ar ?_
 refine Am ?_
 refine Bn ?_
 refine Au ?_
 refine A8 ?_
 refine Ab ?_
 refine h25 _ ?_; clear h25
 cases b
 simp only [OW]
 refine Ad ?_
 try refine Ac ?_
 refine Ae ?_
 have hc := Ah (E := (DP.at_ 127)) (f := 95) (sp := Spec.gen Oz) rfl
 have hs := @Oz.eq_1
 refine BD (hq := by (first | ((refine ⟨rfl, ?_, ?_, by omega⟩ <;> first | (have := c.toNat_lt; omega) | decide)) | exact Ay)) ?_
 refine Ab ?_
 refine h7 _ ?_; clear h7
 refine Ad ?_
 try refine Ac ?_
 refine Ae ?_
 refine Bn ?_
 refine Au ?_
 refine Ar ?_
 refine Am ?_
 refine Bn ?_
 refine Au ?_
 refine A8 ?_
 refine Ab ?_
 refine h6 _ ⟨(i + 2, s2 ++ [34], true, g0), ?_, ?_, [some 0, some 1, some 2, some 4], ?_⟩
 dsimp only
 exact ⟨hn, hnl, by omega, by simp; omega⟩
 dsimp only
 omega
 dsimp only
 refine ⟨by rfl, ?_, ?_⟩
 refine Aj ?_
 ·(repeat' apply And.intro) <;> (first | (simp only [Eh, List.length_append, List.length_singleton]; exact At) | exact At)
 refine Aj ?_
 ·(repeat' apply And.intro) <;> (first | (simp only [Eh, List.length_append, List.length_singleton]; exact At) | exact At)
 simp only [Eh]
 refine Ad ?_
 try refine Ac ?_
 refine Ae ?_
 have hc := Ah (E := (DP.at_ 127)) (f := 95) (sp := Spec.gen Oz) rfl
 have hs := @Oz.eq_1
 refine BD (hq := by (first | ((refine ⟨rfl, ?_, ?_, by omega⟩ <;> first | (have := c.toNat_lt; omega) | decide)) | exact Ay)) ?_
 refine Ab ?_
 refine h7 _ ?_; clear h7
 refine Ad ?_
 try refine Ac ?_
 refine Ae ?_
 refine Bn ?_
 refine Au ?_
 refine Ar ?_
 refine Am ?_
 refine Bn ?_
 refine Au ?_
 refine A8 ?_
 refine Ab ?_
 refine h6 _ ⟨(i + 2, s2 ++ [34], true, g0), ?_, ?_, [some 0, some 1, some 2, some 4], ?_⟩
 dsimp only
 exact ⟨hn, hnl, by omega, by simp; omega⟩
 dsimp only
 omega
 dsimp only
 refine ⟨by rfl, ?_, ?_⟩
 refine Aj ?_
 ·(repeat' apply And.intro) <;> (first | (simp only [Eh, List.length_append, List.length_singleton]; exact At) | exact At)
 refine Aj ?_
 ·(repeat' apply And.intro) <;> (first | (simp only [Eh, List.length_append, List.length_singleton]; exact At) | exact At)
 skip
 refine Ad ?_
 try refine Ac ?_
 refine Ae ?_
 refine Am ?_
 refine Ae ?_
 refine Cy ?_
 refine Fz ?_
 refine AQ ?_
 refine Ab ?_
 refine h33 _ ?_; clear h33
 refine Al (fun hb35 => ?_) (fun hb35 => ?_)
 ·first | omega | exact absurd trivial hb35 | contradiction | (simp_all; done)
 refine An ?_
 try simp only [Af]
 refine h31 _ ?_; clear h31
 refine Ad ?_
 try refine Ac ?_
 refine Ae ?_
 refine Bn ?_
 refine Au ?_
 refine Ar ?_
 refine Am ?_
 refine Bn ?_
 refine Au ?_
 refine A8 ?_
 refine Ab ?_
 refine h25 _ ?_; clear h25
 cases b
 simp only [OW]
 refine Ad ?_
 try refine Ac ?_
 refine Ae ?_
 have hc := Ah (E := (DP.at_ 127)) (f := 95) (sp := Spec.gen Oz) rfl
 have hs := @Oz.eq_1
 refine BD (hq := by (first | ((refine ⟨rfl, ?_, ?_, by omega⟩ <;> first | (have := c.toNat_lt; omega) | decide)) | exact Ay)) ?_
 refine Ab ?_
 refine h7 _ ?_; clear h7
 refine Ad ?_
 try refine Ac ?_
 refine Ae ?_
 refine Bn ?_
 refine Au ?_
 refine Ar ?_
 refine Am ?_
 refine Bn ?_
 refine Au ?_
 refine A8 ?_
 refine Ab ?_
 refine h6 _ ⟨(i + 2, s2 ++ [92], true, g0), ?_, ?_, [some 0, some 1, some 2, some 4], ?_⟩
 dsimp only
 exact ⟨hn, hnl, by omega, by simp; omega⟩
 dsimp only
 omega
 dsimp only
 refine ⟨by rfl, ?_, ?_⟩
 refine Aj ?_
 ·(repeat' apply And.intro) <;> (first | (simp only [Eh, List.length_append, List.length_singleton]; exact At) | exact At)
 refine Aj ?_
 ·(repeat' apply And.intro) <;> (first | (simp only [Eh, List.length_append, List.length_singleton]; exact At) | exact At)
 simp only [Eh]
 refine Ad ?_
 try refine Ac ?_
 refine Ae ?_
 have hc := Ah (E := (DP.at_ 127)) (f := 95) (sp := Spec.gen Oz) rfl
 have hs := @Oz.eq_1
 refine BD (hq := by (first | ((refine ⟨rfl, ?_, ?_, by omega⟩ <;> first | (have := c.toNat_lt; omega) | decide)) | exact Ay)) ?_
 refine Ab ?_
 refine h7 _ ?_; clear h7
 refine Ad ?_
 try refine Ac ?_
 refine Ae ?_
 refine Bn ?_
 refine Au ?_
 refine Ar ?_
 refine Am ?_
 refine Bn ?_
 refine Au ?_
 refine A8 ?_
 refine Ab ?_
 refine h6 _ ⟨(i + 2, s2 ++ [92], true, g0), ?_, ?_, [some 0, some 1, some 2, some 4], ?_⟩
 dsimp only
 exact ⟨hn, hnl, by omega, by simp; omega⟩
 dsimp only
 omega
 dsimp only
 refine ⟨by rfl, ?_, ?_⟩
 refine Aj ?_
 ·(repeat' apply And.intro) <;> (first | (simp only [Eh, List.length_append, List.length_singleton]; exact At) | exact At)
 refine Aj ?_
 ·(repeat' apply And.intro) <;> (first | (simp only [Eh, List.length_append, List.length_singleton]; exact At) | exact At)
 have h92 : c ≠ 92 := by intro h; have := hb27; subst h; simp at this
 have hn : qd t g0 (i + 1) (s2 ++ [c]) = some (e, S) := by
  rcases hS5 with ⟨_, _, _, h⟩ | ⟨h, _⟩
  ·exact h
  ·exact absurd h h92
 obtain ⟨_, _, hnl⟩ := Tc hn
 refine An ?_
 try simp only [Af]
 refine h25 _ ?_; clear h25
 cases b
 simp only [OW]
 refine Ad ?_
 try refine Ac ?_
 refine Ae ?_
 have hc := Ah (E := (DP.at_ 127)) (f := 95) (sp := Spec.gen Oz) rfl
 have hs := @Oz.eq_1
 refine BD (hq := by (first | ((refine ⟨rfl, ?_, ?_, by omega⟩ <;> first | (have := c.toNat_lt; omega) | decide)) | exact Ay)) ?_
 refine Ab ?_
 refine h7 _ ?_; clear h7
 refine Ad ?_
 try refine Ac ?_
 refine Ae ?_
 refine Bn ?_
 refine Au ?_
 refine Ar ?_
 refine Am ?_
 refine Bn ?_
 refine Au ?_
 refine A8 ?_
 refine Ab ?_
 refine h6 _ ⟨(i + 1, s2 ++ [c], true, g0), ?_, ?_, [some 0, some 1, some 2, some 4], ?_⟩
 dsimp only
 exact ⟨hn, hnl, by omega, by simp; omega⟩
 dsimp only
 omega
 dsimp only
 refine ⟨by rfl, ?_, ?_⟩
 refine Aj ?_
 ·(repeat' apply And.intro) <;> (first | (simp only [Eh, List.length_append, List.length_singleton]; exact At) | exact At)
 refine Aj ?_
 ·(repeat' apply And.intro) <;> (first | (simp only [Eh, List.length_append, List.length_singleton]; exact At) | exact At)
 simp only [Eh]
 refine Ad ?_
 try refine Ac ?_
 refine Ae ?_
 have hc := Ah (E := (DP.at_ 127)) (f := 95) (sp := Spec.gen Oz) rfl
 have hs := @Oz.eq_1
 refine BD (hq := by (first | ((refine ⟨rfl, ?_, ?_, by omega⟩ <;> first | (have := c.toNat_lt; omega) | decide)) | exact Ay)) ?_
 refine Ab ?_
 refine h7 _ ?_; clear h7
 refine Ad ?_
 try refine Ac ?_
 refine Ae ?_
 refine Bn ?_
 refine Au ?_
 refine Ar ?_
 refine Am ?_
 refine Bn ?_
 refine Au ?_
 refine A8 ?_
 refine Ab ?_
 refine h6 _ ⟨(i + 1, s2 ++ [c], true, g0), ?_, ?_, [some 0, some 1, some 2, some 4], ?_⟩
 dsimp only
 exact ⟨hn, hnl, by omega, by simp; omega⟩
 dsimp only
 omega
 dsimp only
 refine ⟨by rfl, ?_, ?_⟩
 refine Aj ?_
 ·(repeat' apply And.intro) <;> (first | (simp only [Eh, List.length_append, List.length_singleton]; exact At) | exact At)
 refine Aj ?_
 ·(repeat' apply And.intro) <;> (first | (simp only [Eh, List.length_append, List.length_singleton]; exact At) | exact At)
 cases hg

def Vp : Bo Tryz.prog := DP.add 82 (Spec.gen Te) Q1 (by kernel_rfl)
end Go.Proofs.YtmbjnkgpcbpclaaGreat
