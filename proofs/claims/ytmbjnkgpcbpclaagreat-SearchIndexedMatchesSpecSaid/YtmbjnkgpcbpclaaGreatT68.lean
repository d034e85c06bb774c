import Derived.Test.YtmbjnkgpcbpclaaGreatT67
set_option linter.all false
set_option maxRecDepth 100000
set_option maxHeartbeats 4000000
namespace Go.Proofs.YtmbjnkgpcbpclaaGreat
open Go Go.Vc Go.RowKit
def rX (r : PR) : Int := match r with | some (_, _, x) => (x : Int) | none => 0
def ZW (t : Bs) (r : PR) : List (Option B7) := match r with
  | some (a, ns, _) => [TN t (a : Nat) (.sl 2 0 ns.length), none, some (.vec 55 4 (rows Ec ns))]
  | none => [none, none, none]
theorem Xv (a : Nat) (ns : List Sn) (x : Nat) : rX (some (a, ns, x)) = (x : Int) := rfl
theorem Ry (t : Bs) (a : Nat) (ns : List Sn) (x : Nat) : ZW t (some (a, ns, x)) = [TN t (a : Nat) (.sl 2 0 ns.length), none, some (.vec 55 4 (rows Ec ns))] := rfl
theorem VT {r : PR} (h : r.isSome = true) : ∃ a ns x, r = some (a, ns, x) := by
  match r, h with
  | some (a, ns, x), _ => exact ⟨a, ns, x, rfl⟩
def VB : DP
  | [.ptr 0 0 0], [some (.one ty [.d (.str t), .d (.int .i64 a), .sl 1 0 n]), some (.vec vt sz xs)] => some (Qn ty vt sz n t a xs ∧ a < t.length ∧ (W3 t a.toNat (C8 xs)).isSome = true, .d (.int .i64 (rX (W3 t a.toNat (C8 xs)))), ZW t (W3 t a.toNat (C8 xs)))
  | _, _ => none
theorem Xu {t : Bs} {a : Nat} {ns : List Sn} (h : (W3 t a ns).isSome = true) : ∃ e S, qd t (t.length + 1) (a + 1) [] = some (e, S) ∧ Gr S = true ∧ e < t.length ∧ a + 1 ≤ e ∧ S.length ≤ e - (a + 1) ∧ W3 t a ns = some (e + 1, ns ++ [⟨1, S, 0, 0⟩], ns.length) := by
  unfold W3 at h
  split at h
  · rename_i e S he
    have := K6 he
    split at h
    · rename_i ho
      exact ⟨e, S, he, ho, this.2.1, this.1, by simpa using this.2.2, by unfold W3; rw [he]; exact if_pos ho⟩
    · cases h
  · cases h
def ndP (i : Nat) : Bool → AV
  | true => .ptr i 0 0
  | false => .d .nilp
theorem O6 (i : Nat) : ndP i true = .ptr i 0 0 := rfl
theorem Rt (i : Nat) : ndP i false = .d .nilp := rfl
theorem Z8 (c : UInt8) : UInt8.ofNat c.toNat = c := by simp
theorem qd_s {t : Bs} {f a : Nat} {s : Bs} {c : UInt8} {z : Nat × Bs} (hc : t[a]? = some c) (h : qd t (f + 1) a s = some z) : (c = 34 ∧ z = (a, s)) ∨ (c ≠ 34 ∧ c ≠ 10 ∧ c ≠ 92 ∧ qd t f (a + 1) (s ++ [c]) = some z) ∨ (c = 92 ∧ ∃ d, t[a + 1]? = some d ∧ (d = 34 ∨ d = 92) ∧ qd t f (a + 2) (s ++ [d]) = some z) := by
  unfold qd at h
  rw [hc] at h
  dsimp only at h
  split at h
  · rename_i h34; cases h; exact .inl ⟨h34, rfl⟩
  · rename_i h34
    split at h
    · cases h
    · rename_i h10
      split at h
      · rename_i h92
        split at h
        · cases h
        · rename_i d hd
          split at h
          · rename_i h2; exact .inr (.inr ⟨h92, d, hd, h2, h⟩)
          · cases h
      · rename_i h92; exact .inr (.inl ⟨h34, h10, h92, h⟩)
theorem V9 {t : Bs} {f a : Nat} {s : Bs} {z : Nat × Bs} (h : qd t f a s = some z) : ∃ g, f = g + 1 ∧ a < t.length := by
  match f, h with
  | f + 1, h => exact ⟨f, rfl, by have := K6 (e := z.1) (r := z.2) h; omega⟩
def ZY : Bq Tryz.prog := Yb.add 95 (Spec.gen QF) Wu (by kernel_rfl)
def EB : Bq Tryz.prog := ZY.add 96 (Spec.gen JZ) Ss (by kernel_rfl)
theorem BW {p : Prop} (h : p := by (repeat' apply And.intro) <;> (first | (simp only [O6, List.length_append, List.length_singleton]; exact Au) | exact Au)) : p := h
theorem Tn : A5 Tryz.prog 82 (Spec.gen VB) := by
 refine Bm (EB.at_ 127) Tryz.func82 rfl rfl rfl ?_
 intro args bl p r bf hg hp
 unfold VB at hg
 split at hg
 rename_i ty t a n vt sz xs
 simp only [Option.some.injEq, Prod.mk.injEq] at hg
 obtain ⟨rfl, rfl, rfl⟩ := hg
 obtain ⟨hpr, hlt, hsm⟩ := hp
 obtain ⟨rfl, rfl, rfl, he, rfl, ha0, hal, htl, hqa⟩ := hpr
 generalize C8 xs = q at *
 subst he
 obtain ⟨a, rfl⟩ := Int.eq_ofNat_of_zero_le ha0
 simp only [Int.toNat_natCast] at *
 have hal : a ≤ t.length := by omega
 have hqa : q.length ≤ a := by omega
 obtain ⟨k1, k2⟩ := FF hal
 have hlt : a < t.length := by omega
 obtain ⟨e, S, hq, hok, he, hae, hSl, hR⟩ := Xu hsm
 rw [hR]
 have hT : (EB).X = T := rfl
 have hx0 := And.intro @Ci (And.intro @Ch (And.intro @Int.toNat_natCast (And.intro @TN.eq_1 (And.intro @AL (And.intro @BL (And.intro @Xv (And.intro @Ry (And.intro @Z8 @Tryz.results82))))))))
 have hx := hx0
 refine ⟨Nat.le_of_ble_eq_true rfl, ?_⟩
 intro F W0 M0 hnp hmk
 have hnp : Bl.np = 2 := hnp
 refine Aa fun N1 h1 => Ac ?_
 refine Az ?_
 refine Ad ?_
 refine Ab (h1 _ (Aa fun N2 h2 => Ac ?_)); clear h1
 refine Ad ?_
 refine BB ?_
 refine Ar ?_
 refine Aq ?_
 refine Ad ?_
 refine Ab (h2 _ (Aa fun N3 h3 => Ac ?_)); clear h2
 refine Bj ?_
 refine Ab (h3 _ (Aa fun N4 h4 => Aa fun N5 h5 => ?_)); clear h3
 refine Iw 2 1 (.ob (.bfr 5 [] false)) 1 (fun _ _ _ => ⟨rfl, .inl ⟨rfl, rfl, rfl⟩⟩) rfl rfl rfl ?_
 simp only [Cc, List.set, List.cons_append, List.nil_append]
 refine Ac ?_
 refine Ad ?_
 refine BB ?_
 refine Ar ?_
 refine Aq ?_
 refine Ao ?_
 refine BB ?_
 refine Ar ?_
 refine A4 ?_
 refine Ab (h5 _ (As ?_)); clear h5
 refine A3 (σ := Nat × Bs × Bool × Nat) (fun s => (fun i s2 b g => qd t g i s2 = some (e, S) ∧ i < t.length ∧ a + 1 ≤ i ∧ s2.length ≤ i) (s.1) (s.2.1) (s.2.2.1) (s.2.2.2))
  (fun s => (fun i s2 b g => [(0, .ptr 0 0 0), (4, .ptr 2 0 0)]) (s.1) (s.2.1) (s.2.2.1) (s.2.2.2))
  (fun s => (fun i s2 b g => [some (.one 75 [.d (.str t), .d (.int .i64 (i : Nat)), .sl 1 0 q.length]), some (.vec 55 4 (rows Ec q)), some (.one 143 [ndP 2 b, .sl 3 0 s2.length]), some (.ob (.bfr 5 s2 false))]) (s.1) (s.2.1) (s.2.2.1) (s.2.2.2)) (fun s => (fun i s2 b g => g) (s.1) (s.2.1) (s.2.2.1) (s.2.2.2)) hnp (a + 1, [], false, t.length + 1) ?_ [some 0, some 1, some 2, some 3] ?_ ?_
 dsimp only
 exact ⟨hq, by omega, by omega, Nat.zero_le _⟩
 dsimp only
 refine ⟨by rfl, ?_, ?_⟩
 refine Aj ?_
 exact Au
 refine Aj ?_
 exact Au
 rintro ⟨i, s2, b, g⟩ hinv N6 h6
 dsimp only at hinv ⊢
 obtain ⟨hI, i2, i3, i4⟩ := hinv
 obtain ⟨g0, rfl, -⟩ := V9 hI
 refine Aa fun N7 h7 => As (Aa fun N8 h8 => ?_)
 refine Aa fun N9 h9 => Ac ?_
 refine Az ?_
 refine Ad ?_
 refine BB ?_
 refine Ar ?_
 refine Aq ?_
 refine Ad ?_
 refine BB ?_
 refine Ar ?_
 refine Aq ?_
 refine AU ?_
 refine Ao ?_
 refine Ab (h9 _ (Ak (fun hb10 => ?_) (fun hb10 => ?_))); clear h9
 exact CJ hb10
 obtain ⟨c, hc⟩ := BA (l := t) (i := i) i2
 have hS4 := qd_s hc hI
 refine An ?_
 try simp only [Ae]
 have hx := And.intro @hc hx0
 refine h8 _ (Aa fun N11 h11 => Ac ?_); clear h8
 refine Ad ?_
 refine BB ?_
 refine Ar ?_
 refine Aq ?_
 refine Ad ?_
 refine BB ?_
 refine Ar ?_
 refine Aq ?_
 refine Ar ?_
 refine Ad ?_
 have hx := hx0
 refine Ab (h11 _ (Aa fun N12 h12 => ?_)); clear h11
 refine Aa fun N13 h13 => Ac ?_
 refine Ad ?_
 refine Ao ?_
 refine Ab (h13 _ (Ak (fun hb14 => ?_) (fun hb14 => ?_))); clear h13
 have h34 : c = 34 := by have := hb14; first | exact UInt8.toNat_inj.1 (show c.toNat = 34 by (try simp at this); omega) | (simpa using this)
 have hz : (e, S) = (i, s2) := by
  rcases hS4 with ⟨_, h⟩ | ⟨h, _⟩ | ⟨h, _⟩
  ·exact h
  ·exact absurd h34 h
  ·rw [h34] at h; exact absurd h (by decide)
 obtain ⟨rfl, rfl⟩ := Prod.mk.injEq .. ▸ hz
 refine AJ ?_
 simp only [Ae, Nat.reduceEqDiff, reduceIte, eq_self]
 refine h4 _ (Aa fun N15 h15 => Ac ?_); clear h4
 refine Ad ?_
 refine BB ?_
 refine Ar ?_
 refine Aq ?_
 refine Ao ?_
 refine BB ?_
 refine Ar ?_
 refine A4 ?_
 refine Ab (h15 _ (Aa fun N16 h16 => Aa fun N17 h17 => ?_)); clear h15
 cases b
 simp only [Rt]
 have hx := And.intro @hok hx0
 refine Ac ?_
 have hc := Ag (E := (EB.at_ 127)) (f := 96) (sp := Spec.gen JZ) rfl
 have hs := @JZ.eq_1
 refine BM ?_
 have hc := Ag (E := (EB.at_ 127)) (f := 62) (sp := Spec.pure MA) rfl
 have hs := @MA.eq_1
 refine Ba ?_
 refine EL ?_
 have hx := hx0
 refine Ab (h17 _ (Ak (fun hb18 => ?_) (fun hb18 => ?_))); clear h17
 exact CJ hb18
 refine An ?_
 try simp only [Ae]
 refine h16 _ (Aa fun N19 h19 => Ac ?_); clear h16
 refine Ad ?_
 have hc := Ag (E := (EB.at_ 127)) (f := 96) (sp := Spec.gen JZ) rfl
 have hs := @JZ.eq_1
 refine BM ?_
 refine BD ?_
 have hc := Ag (E := (EB.at_ 127)) (f := 65) (sp := Spec.gen JW) rfl
 have hs := @JW.eq_1
 refine BM ?_
 refine Ad ?_
 refine Ab (h19 _ (Am ?_)); clear h19
 try simp only [Ae]
 refine Aj ?_
 refine ⟨[some 0, some 1, some 4], by rfl, ?_, ?_⟩
 refine Aj ?_
 exact Au
 refine Aj ?_
 exact Au
 simp only [O6]
 have hx := And.intro @hok hx0
 refine Ac ?_
 have hc := Ag (E := (EB.at_ 127)) (f := 96) (sp := Spec.gen JZ) rfl
 have hs := @JZ.eq_1
 refine BM ?_
 have hc := Ag (E := (EB.at_ 127)) (f := 62) (sp := Spec.pure MA) rfl
 have hs := @MA.eq_1
 refine Ba ?_
 refine EL ?_
 have hx := hx0
 refine Ab (h17 _ (Ak (fun hb20 => ?_) (fun hb20 => ?_))); clear h17
 exact CJ hb20
 refine An ?_
 try simp only [Ae]
 refine h16 _ (Aa fun N21 h21 => Ac ?_); clear h16
 refine Ad ?_
 have hc := Ag (E := (EB.at_ 127)) (f := 96) (sp := Spec.gen JZ) rfl
 have hs := @JZ.eq_1
 refine BM ?_
 refine BD ?_
 have hc := Ag (E := (EB.at_ 127)) (f := 65) (sp := Spec.gen JW) rfl
 have hs := @JW.eq_1
 refine BM ?_
 refine Ad ?_
 refine Ab (h21 _ (Am ?_)); clear h21
 try simp only [Ae]
 refine Aj ?_
 refine ⟨[some 0, some 1, some 4], by rfl, ?_, ?_⟩
 refine Aj ?_
 exact Au
 refine Aj ?_
 exact Au
 have h34 : c ≠ 34 := by intro h; have := hb14; subst h; simp at this
 have hS5 := hS4.resolve_left fun h => h34 h.1
 refine An ?_
 try simp only [Ae]
 refine h12 _ (Aa fun N22 h22 => ?_); clear h12
 refine Aa fun N23 h23 => Ac ?_
 refine Ad ?_
 refine Ao ?_
 refine Ab (h23 _ (Ak (fun hb24 => ?_) (fun hb24 => ?_))); clear h23
 exfalso
 rcases hS5 with ⟨_, h, _⟩ | ⟨h, _⟩
 exact h (by have := hb24; first | exact UInt8.toNat_inj.1 (show c.toNat = 10 by (try simp at this); omega) | (simpa using this))
 subst h; have := hb24; simp at this
 refine An ?_
 try simp only [Ae]
 refine h22 _ (Aa fun N25 h25 => ?_); clear h22
 refine Aa fun N26 h26 => Ac ?_
 refine Ad ?_
 refine Ao ?_
 refine Ab (h26 _ (Ak (fun hb27 => ?_) (fun hb27 => ?_))); clear h26
 have h92 : c = 92 := by have := hb27; first | exact UInt8.toNat_inj.1 (show c.toNat = 92 by (try simp at this); omega) | (simpa using this)
 obtain ⟨d, hd, hd2, hn⟩ : ∃ d, t[i + 1]? = some d ∧ (d = 34 ∨ d = 92) ∧ qd t g0 (i + 2) (s2 ++ [d]) = some (e, S) := by
  rcases hS5 with ⟨_, _, h, _⟩ | ⟨_, h⟩
  ·exact absurd h92 h
  ·exact h
 have hd1 := (List.getElem?_eq_some_iff.1 hd).1
 obtain ⟨_, _, hnl⟩ := V9 hn
 have hi1 : ((i : Int) + 1).toNat = i + 1 := by omega
 refine Aa fun N28 h28 => ?_
 refine Aa fun N29 h29 => Ac ?_
 refine Ad ?_
 refine BB ?_
 refine Ar ?_
 refine Aq ?_
 refine Ao ?_
 refine Ad ?_
 refine BB ?_
 refine Ar ?_
 refine Aq ?_
 refine AU ?_
 refine Ao ?_
 refine Ab (h29 _ (Ak (fun hb30 => ?_) (fun hb30 => ?_))); clear h29
 exact CJ hb30
 refine An ?_
 try simp only [Ae]
 refine h28 _ (Aa fun N31 h31 => ?_); clear h28
 have hx := And.intro @hi1 (And.intro @hd hx0)
 refine Aa fun N32 h32 => Ac ?_
 refine Ad ?_
 refine BB ?_
 refine Ar ?_
 refine Aq ?_
 refine Ad ?_
 refine BB ?_
 refine Ar ?_
 refine Aq ?_
 refine Ao ?_
 refine Ar ?_
 refine Ad ?_
 have hx := hx0
 refine Ab (h32 _ (Aa fun N33 h33 => ?_)); clear h32
 rcases hd2 with rfl | rfl
 skip
 refine Ac ?_
 refine Ad ?_
 refine Ao ?_
 refine Ad ?_
 refine At Bb ?_
 refine At Bb ?_
 refine AH ?_
 refine Ab (h33 _ (Ak (fun hb34 => ?_) (fun hb34 => ?_))); clear h33
 exact CJ hb34
 refine An ?_
 try simp only [Ae]
 refine h31 _ (Ac ?_); clear h31
 refine Ad ?_
 refine BB ?_
 refine Ar ?_
 refine Aq ?_
 refine Ao ?_
 refine BB ?_
 refine Ar ?_
 refine A4 ?_
 refine Ab (h25 _ ?_); clear h25
 cases b
 simp only [Rt]
 refine Ac ?_
 refine Ad ?_
 have hc := Ag (E := (EB.at_ 127)) (f := 95) (sp := Spec.gen QF) rfl
 have hs := @QF.eq_1
 refine BM (hq := by (first | ((refine ⟨rfl, ?_, ?_, by omega⟩ <;> first | (have := c.toNat_lt; omega) | decide)) | exact AQ)) ?_
 refine Ab (h7 _ (Ac ?_)); clear h7
 refine Ad ?_
 refine BB ?_
 refine Ar ?_
 refine Aq ?_
 refine Ao ?_
 refine BB ?_
 refine Ar ?_
 refine A4 ?_
 refine Ab ?_
 refine h6 _ ⟨(i + 2, s2 ++ [34], true, g0), ?_, ?_, [some 0, some 1, some 2, some 4], ?_⟩
 dsimp only
 exact ⟨hn, hnl, by omega, by simp; omega⟩
 dsimp only
 omega
 dsimp only
 refine ⟨by rfl, ?_, ?_⟩
 refine Aj ?_
 exact BW
 refine Aj ?_
 exact BW
 simp only [O6]
 refine Ac ?_
 refine Ad ?_
 have hc := Ag (E := (EB.at_ 127)) (f := 95) (sp := Spec.gen QF) rfl
 have hs := @QF.eq_1
 refine BM (hq := by (first | ((refine ⟨rfl, ?_, ?_, by omega⟩ <;> first | (have := c.toNat_lt; omega) | decide)) | exact AQ)) ?_
 refine Ab (h7 _ (Ac ?_)); clear h7
 refine Ad ?_
 refine BB ?_
 refine Ar ?_
 refine Aq ?_
 refine Ao ?_
 refine BB ?_
 refine Ar ?_
 refine A4 ?_
 refine Ab ?_
 refine h6 _ ⟨(i + 2, s2 ++ [34], true, g0), ?_, ?_, [some 0, some 1, some 2, some 4], ?_⟩
 dsimp only
 exact ⟨hn, hnl, by omega, by simp; omega⟩
 dsimp only
 omega
 dsimp only
 refine ⟨by rfl, ?_, ?_⟩
 refine Aj ?_
 exact BW
 refine Aj ?_
 exact BW
 skip
 refine Ac ?_
 refine Ad ?_
 refine Ao ?_
 refine Ad ?_
 refine C3 ?_
 refine DO ?_
 refine AH ?_
 refine Ab (h33 _ (Ak (fun hb35 => ?_) (fun hb35 => ?_))); clear h33
 exact CJ hb35
 refine An ?_
 try simp only [Ae]
 refine h31 _ (Ac ?_); clear h31
 refine Ad ?_
 refine BB ?_
 refine Ar ?_
 refine Aq ?_
 refine Ao ?_
 refine BB ?_
 refine Ar ?_
 refine A4 ?_
 refine Ab (h25 _ ?_); clear h25
 cases b
 simp only [Rt]
 refine Ac ?_
 refine Ad ?_
 have hc := Ag (E := (EB.at_ 127)) (f := 95) (sp := Spec.gen QF) rfl
 have hs := @QF.eq_1
 refine BM (hq := by (first | ((refine ⟨rfl, ?_, ?_, by omega⟩ <;> first | (have := c.toNat_lt; omega) | decide)) | exact AQ)) ?_
 refine Ab (h7 _ (Ac ?_)); clear h7
 refine Ad ?_
 refine BB ?_
 refine Ar ?_
 refine Aq ?_
 refine Ao ?_
 refine BB ?_
 refine Ar ?_
 refine A4 ?_
 refine Ab ?_
 refine h6 _ ⟨(i + 2, s2 ++ [92], true, g0), ?_, ?_, [some 0, some 1, some 2, some 4], ?_⟩
 dsimp only
 exact ⟨hn, hnl, by omega, by simp; omega⟩
 dsimp only
 omega
 dsimp only
 refine ⟨by rfl, ?_, ?_⟩
 refine Aj ?_
 exact BW
 refine Aj ?_
 exact BW
 simp only [O6]
 refine Ac ?_
 refine Ad ?_
 have hc := Ag (E := (EB.at_ 127)) (f := 95) (sp := Spec.gen QF) rfl
 have hs := @QF.eq_1
 refine BM (hq := by (first | ((refine ⟨rfl, ?_, ?_, by omega⟩ <;> first | (have := c.toNat_lt; omega) | decide)) | exact AQ)) ?_
 refine Ab (h7 _ (Ac ?_)); clear h7
 refine Ad ?_
 refine BB ?_
 refine Ar ?_
 refine Aq ?_
 refine Ao ?_
 refine BB ?_
 refine Ar ?_
 refine A4 ?_
 refine Ab ?_
 refine h6 _ ⟨(i + 2, s2 ++ [92], true, g0), ?_, ?_, [some 0, some 1, some 2, some 4], ?_⟩
 dsimp only
 exact ⟨hn, hnl, by omega, by simp; omega⟩
 dsimp only
 omega
 dsimp only
 refine ⟨by rfl, ?_, ?_⟩
 refine Aj ?_
 exact BW
 refine Aj ?_
 exact BW
 have h92 : c ≠ 92 := by intro h; have := hb27; subst h; simp at this
 have hn : qd t g0 (i + 1) (s2 ++ [c]) = some (e, S) := by
  rcases hS5 with ⟨_, _, _, h⟩ | ⟨h, _⟩
  ·exact h
  ·exact absurd h h92
 obtain ⟨_, _, hnl⟩ := V9 hn
 refine An ?_
 try simp only [Ae]
 refine h25 _ ?_; clear h25
 cases b
 simp only [Rt]
 refine Ac ?_
 refine Ad ?_
 have hc := Ag (E := (EB.at_ 127)) (f := 95) (sp := Spec.gen QF) rfl
 have hs := @QF.eq_1
 refine BM (hq := by (first | ((refine ⟨rfl, ?_, ?_, by omega⟩ <;> first | (have := c.toNat_lt; omega) | decide)) | exact AQ)) ?_
 refine Ab (h7 _ (Ac ?_)); clear h7
 refine Ad ?_
 refine BB ?_
 refine Ar ?_
 refine Aq ?_
 refine Ao ?_
 refine BB ?_
 refine Ar ?_
 refine A4 ?_
 refine Ab ?_
 refine h6 _ ⟨(i + 1, s2 ++ [c], true, g0), ?_, ?_, [some 0, some 1, some 2, some 4], ?_⟩
 dsimp only
 exact ⟨hn, hnl, by omega, by simp; omega⟩
 dsimp only
 omega
 dsimp only
 refine ⟨by rfl, ?_, ?_⟩
 refine Aj ?_
 exact BW
 refine Aj ?_
 exact BW
 simp only [O6]
 refine Ac ?_
 refine Ad ?_
 have hc := Ag (E := (EB.at_ 127)) (f := 95) (sp := Spec.gen QF) rfl
 have hs := @QF.eq_1
 refine BM (hq := by (first | ((refine ⟨rfl, ?_, ?_, by omega⟩ <;> first | (have := c.toNat_lt; omega) | decide)) | exact AQ)) ?_
 refine Ab (h7 _ (Ac ?_)); clear h7
 refine Ad ?_
 refine BB ?_
 refine Ar ?_
 refine Aq ?_
 refine Ao ?_
 refine BB ?_
 refine Ar ?_
 refine A4 ?_
 refine Ab ?_
 refine h6 _ ⟨(i + 1, s2 ++ [c], true, g0), ?_, ?_, [some 0, some 1, some 2, some 4], ?_⟩
 dsimp only
 exact ⟨hn, hnl, by omega, by simp; omega⟩
 dsimp only
 omega
 dsimp only
 refine ⟨by rfl, ?_, ?_⟩
 refine Aj ?_
 exact BW
 refine Aj ?_
 exact BW
 cases hg
def XJ : Bq Tryz.prog := EB.add 82 (Spec.gen VB) Tn (by kernel_rfl)
