import Derived.Test.YtmbjnkgpcbpclaaGreatT66
set_option linter.all false
set_option maxRecDepth 100000
set_option maxHeartbeats 4000000
namespace Go.Proofs.YtmbjnkgpcbpclaaGreat
open Go Go.Vc Go.RowKit
abbrev PR := Option (Nat × List Sn × Nat)
def KS (r : PR) (k : Nat → List Sn → Nat → PR) : PR := match r with
  | some (a, ns, x) => k a ns x
  | none => none
def FU (t : Bs) (a : Nat) : Nat := a + ((t.drop a).takeWhile (· = 32)).length
theorem FF {t : Bs} {a : Nat} (h : a ≤ t.length) : a ≤ FU t a ∧ FU t a ≤ t.length := by
  unfold FU
  have h1 := (List.takeWhile_sublist (· = 32) (l := t.drop a)).length_le
  rw [List.length_drop] at h1
  omega
theorem VP {t : Bs} {i : Nat} (h : t[i]? = some 32) : FU t (i + 1) = FU t i := by
 obtain ⟨hl, he⟩ := List.getElem?_eq_some_iff.1 h
 unfold FU
 rw [List.drop_eq_getElem_cons hl, he, List.takeWhile_cons]
 simp; omega
theorem OT {t : Bs} {i : Nat} (h : t[i]? ≠ some 32) : FU t i = i := by
  unfold FU
  by_cases hl : i < t.length
  · rw [List.drop_eq_getElem_cons hl, List.takeWhile_cons]
    rw [List.getElem?_eq_getElem hl] at h
    simp only [ne_eq, Option.some.injEq] at h
    simp [h]
  · rw [List.drop_of_length_le (by omega)]; rfl
def qd (t : Bs) : Nat → Nat → Bs → Option (Nat × Bs)
  | 0, _, _ => none
  | f + 1, a, s => match t[a]? with
    | none => none
    | some c => if c = 34 then some (a, s) else if c = 10 then none else if c = 92 then match t[a + 1]? with
      | none => none
      | some d => if d = 34 ∨ d = 92 then qd t f (a + 2) (s ++ [d]) else none
      else qd t f (a + 1) (s ++ [c])
def W3 (t : Bs) (a : Nat) (ns : List Sn) : PR := match qd t (t.length + 1) (a + 1) [] with
  | some (e, s) => if Gr s = true then some (e + 1, ns ++ [⟨1, s, 0, 0⟩], ns.length) else none
  | none => none
def T2 (m : Nat) : UInt8 := if m = 1 then 38 else 124
def WX (m : Nat) : Int := if m = 1 then 2 else 3
def UU (sub : Nat → List Sn → PR) (t : Bs) (m : Nat) : Nat → Nat → List Sn → Nat → PR
  | 0, _, _, _ => none
  | g + 1, a, ns, x => if t.getD (FU t a) 0 = T2 m then KS (sub (FU t a + 1) ns) fun a' ns' y => UU sub t m g a' (ns' ++ [⟨WX m, [], x, y⟩]) ns'.length else some (FU t a, ns, x)
def ZT (un qu : Nat → List Sn → PR) (t : Bs) (a : Nat) (ns : List Sn) : PR :=
  if t.getD (FU t a) 0 = 33 then KS (un (FU t a + 1) ns) fun a' ns' x => some (a', ns' ++ [⟨4, [], x, 0⟩], ns'.length)
  else if t.getD (FU t a) 0 = 40 then KS (qu (FU t a + 1) ns) fun a' ns' x => if t.getD (FU t a') 0 = 41 then some (FU t a' + 1, ns', x) else none
  else if t.getD (FU t a) 0 = 34 then W3 t (FU t a) ns else none
def GW (t : Bs) : Nat → Nat → Nat → List Sn → PR
  | 0, _, _, _ => none
  | f + 1, m, a, ns => if m = 3 then ZT (GW t f 3) (GW t f 0) t a ns else if m = 2 then GW t f 3 a ns else KS (GW t f (m + 1) a ns) fun a' ns' x => UU (GW t f (m + 1)) t m (t.length + 1) a' ns' x
theorem E4 {t : Bs} {i : Nat} {c : UInt8} (h : t.getD i 0 = c) (hc : c ≠ 0) : i < t.length ∧ t[i]? = some c := by
  by_cases hl : i < t.length
  · rw [List.getD_eq_getElem?_getD, List.getElem?_eq_getElem hl] at h
    exact ⟨hl, by rw [List.getElem?_eq_getElem hl, ← h]; rfl⟩
  · rw [List.getD_eq_getElem?_getD, List.getElem?_eq_none (by omega)] at h
    exact absurd h.symm hc
theorem K6 {t : Bs} : ∀ {f a : Nat} {s : Bs} {e : Nat} {r : Bs}, qd t f a s = some (e, r) → a ≤ e ∧ e < t.length ∧ r.length ≤ s.length + (e - a)
  | 0, _, _, _, _, h => by cases h
  | f + 1, a, s, e, r, h => by
    unfold qd at h
    split at h
    · cases h
    · rename_i c hc
      have hl := (List.getElem?_eq_some_iff.1 hc).1
      split at h
      · cases h; exact ⟨Nat.le_refl _, hl, by omega⟩
      · split at h
        · cases h
        · split at h
          · split at h
            · cases h
            · split at h
              · have := K6 h; simp at this; omega
              · cases h
          · have := K6 h; simp at this; omega
def YJ (t : Bs) (a : Nat) (ns : List Sn) (a' : Nat) (ns' : List Sn) : Prop := a ≤ a' ∧ a' ≤ t.length ∧ ns'.length + a ≤ ns.length + a'
def Zi (t : Bs) (sub : Nat → List Sn → PR) : Prop := ∀ a ns, a ≤ t.length → ∀ a' ns' x, sub a ns = some (a', ns', x) → YJ t a ns a' ns' ∧ a + 1 ≤ a'
theorem YH {t : Bs} {a : Nat} {ns : List Sn} (hl : a < t.length) {a' : Nat} {ns' : List Sn} {x : Nat} (h : W3 t a ns = some (a', ns', x)) : YJ t a ns a' ns' ∧ a + 1 ≤ a' := by
  unfold W3 at h
  split at h
  · rename_i e s he
    have := K6 he
    split at h
    · cases h
      refine ⟨⟨by omega, by omega, ?_⟩, by omega⟩
      simp; omega
    · cases h
  · cases h
theorem G1 {r : PR} {k : Nat → List Sn → Nat → PR} {z : Nat × List Sn × Nat} (h : KS r k = some z) : ∃ a ns x, r = some (a, ns, x) ∧ k a ns x = some z := by
  match r, h with
  | some (a, ns, x), h => exact ⟨a, ns, x, rfl, h⟩
theorem VN (m : Nat) : T2 m ≠ 0 := by unfold T2; split <;> decide
theorem UV {sub : Nat → List Sn → PR} {t : Bs} {m : Nat} (hs : Zi t sub) : ∀ {g a : Nat} {ns : List Sn} {x : Nat} {a' : Nat} {ns' : List Sn} {x' : Nat}, a ≤ t.length → UU sub t m g a ns x = some (a', ns', x') → YJ t a ns a' ns'
  | 0, _, _, _, _, _, _, _, h => by cases h
  | g + 1, a, ns, x, a', ns', x', hf, h => by
    unfold UU at h
    have hk := FF hf
    split at h
    · rename_i hc
      have hlt := (E4 hc (VN m)).1
      obtain ⟨a1, n1, y, h1, h2⟩ := G1 h
      obtain ⟨⟨f1, f2, f3⟩, _⟩ := hs _ _ (by omega) _ _ _ h1
      obtain ⟨g1, g2, g3⟩ := UV hs f2 h2
      rw [List.length_append, List.length_singleton] at g3
      exact ⟨by omega, g2, by omega⟩
    · cases h
      exact ⟨hk.1, hk.2, by omega⟩
theorem YW {un qu : Nat → List Sn → PR} {t : Bs} (hu : Zi t un) (hq : Zi t qu) : Zi t (ZT un qu t) := by
  intro a ns ha a' ns' x h
  unfold ZT at h
  have hk := FF ha
  split at h
  · rename_i hc
    have hlt := (E4 hc (by decide)).1
    obtain ⟨a1, n1, y, h1, h2⟩ := G1 h
    obtain ⟨⟨f1, f2, f3⟩, f4⟩ := hu _ _ (by omega) _ _ _ h1
    cases h2
    refine ⟨⟨by omega, f2, ?_⟩, by omega⟩
    rw [List.length_append, List.length_singleton]; omega
  · split at h
    · rename_i hc
      have hlt := (E4 hc (by decide)).1
      obtain ⟨a1, n1, y, h1, h2⟩ := G1 h
      obtain ⟨⟨f1, f2, f3⟩, f4⟩ := hq _ _ (by omega) _ _ _ h1
      have hk2 := FF f2
      split at h2
      · rename_i hc2
        have hlt2 := (E4 hc2 (by decide)).1
        cases h2
        exact ⟨⟨by omega, by omega, by omega⟩, by omega⟩
      · cases h2
    · split at h
      · rename_i hc
        have hlt := (E4 hc (by decide)).1
        obtain ⟨⟨f1, f2, f3⟩, f4⟩ := YH hlt h
        exact ⟨⟨by omega, f2, by omega⟩, by omega⟩
      · cases h
theorem FE (t : Bs) : ∀ f m, Zi t (GW t f m)
  | 0, _ => fun _ _ _ _ _ _ h => by cases h
  | f + 1, m => fun a ns ha a' ns' x h => by
    unfold GW at h
    split at h
    · exact YW (FE t f 3) (FE t f 0) a ns ha a' ns' x h
    · split at h
      · exact FE t f 3 a ns ha a' ns' x h
      · obtain ⟨a1, n1, y, h1, h2⟩ := G1 h
        obtain ⟨⟨f1, f2, f3⟩, f4⟩ := FE t f (m + 1) _ _ ha _ _ _ h1
        obtain ⟨g1, g2, g3⟩ := UV (FE t f (m + 1)) f2 h2
        exact ⟨⟨by omega, g2, by omega⟩, by omega⟩
def TN (t : Bs) (a : Int) (nd : AV) : Option B7 := some (.one 75 [.d (.str t), .d (.int .i64 a), nd])
def Qn (ty vt sz : Nat) (n : Nat) (t : Bs) (a : Int) (xs : List (List D)) : Prop := ty = 75 ∧ vt = 55 ∧ sz = 4 ∧ xs = rows Ec (C8 xs) ∧ n = (C8 xs).length ∧ 0 ≤ a ∧ a ≤ t.length ∧ t.length ≤ 1000 ∧ ((C8 xs).length : Int) ≤ a
theorem EY {t : Bs} {m : Nat} {q : List Sn} (h1 : q.length ≤ m) (h2 : m ≤ t.length) (h3 : t.length ≤ 1000) : Qn 75 55 4 q.length t (m : Nat) (rows Ec q) :=
  ⟨rfl, rfl, rfl, by rw [AL], by rw [AL], by omega, by omega, h3, by rw [AL]; omega⟩
def P0 : DP
  | [.ptr 0 0 0], [some (.one ty [.d (.str t), .d (.int .i64 a), .sl 1 0 n]), some (.vec vt sz xs)] => some (Qn ty vt sz n t a xs, .tup [], [TN t (FU t a.toNat : Nat) (.sl 1 0 n), some (.vec vt sz xs)])
  | _, _ => none
def K0 : DP
  | [.ptr 0 0 0], [some (.one ty [.d (.str t), .d (.int .i64 a), .sl 1 0 n]), some (.vec vt sz xs)] => some (Qn ty vt sz n t a xs, .d (.int .u8 ((t.getD (FU t a.toNat) 0).toNat : Int)), [TN t (FU t a.toNat : Nat) (.sl 1 0 n), some (.vec vt sz xs)])
  | _, _ => none
def JW : DP
  | [.ptr 0 0 0, .agg [.d (.int .i64 f), .d (.str g), .d (.int .i64 h), .d (.int .i64 i)]], [some (.one ty [.d (.str t), .d (.int .i64 a), .sl 1 0 n]), some (.vec vt sz xs)] => some (ty = 75 ∧ vt = 55 ∧ sz = 4 ∧ xs = rows Ec (C8 xs) ∧ n = (C8 xs).length ∧ (C8 xs).length ≤ 1000000, .d (.int .i64 ((C8 xs).length : Nat)), [TN t a (.sl 2 0 ((C8 xs).length + 1)), none, some (.vec 55 4 (rows Ec (C8 xs ++ [⟨f, g, h, i⟩])))])
  | _, _ => none
theorem Sg (l : List Sn) (f : Int) (g : Bs) (h i : Int) : rows Ec l ++ [[.int .i64 f, .str g, .int .i64 h, .int .i64 i]] = rows Ec (l ++ [⟨f, g, h, i⟩]) := by simp [rows, Ec]
theorem Sp : A5 Tryz.prog 43 (Spec.gen P0) := by
 refine Bm (QO.at_ 31) Tryz.func43 rfl rfl rfl ?_
 intro args bl p r bf hg hp
 unfold P0 at hg
 split at hg
 rename_i ty t a n vt sz xs
 simp only [Option.some.injEq, Prod.mk.injEq] at hg
 obtain ⟨rfl, rfl, rfl⟩ := hg
 obtain ⟨rfl, rfl, rfl, he, rfl, ha0, hal, htl, hqa⟩ := hp
 generalize C8 xs = q at *
 subst he
 obtain ⟨a, rfl⟩ := Int.eq_ofNat_of_zero_le ha0
 simp only [Int.toNat_natCast] at *
 have hal : a ≤ t.length := by omega
 have hqa : q.length ≤ a := by omega
 obtain ⟨k1, k2⟩ := FF hal
 have hT : (QO).X = T := rfl
 have hx0 := And.intro @Ci (And.intro @Ch (And.intro @Int.toNat_natCast (And.intro @TN.eq_1 (And.intro @AL (And.intro @BL @Tryz.results43)))))
 have hx := hx0
 refine ⟨Nat.le_of_ble_eq_true rfl, ?_⟩
 intro F W0 M0 hnp hmk
 have hnp : Bl.np = 2 := hnp
 refine As ?_
 refine A3 (σ := Nat) (fun s => (fun i => a ≤ i ∧ i ≤ t.length ∧ FU t i = FU t a) s)
  (fun s => (fun i => [(0, .ptr 0 0 0)]) s)
  (fun s => (fun i => [some (.one 75 [.d (.str t), .d (.int .i64 (i : Nat)), .sl 1 0 q.length]), some (.vec 55 4 (rows Ec q))]) s) (fun s => (fun i => t.length - i) s) hnp a ?_ [some 0, some 1] ?_ ?_
 dsimp only
 exact ⟨Nat.le_refl _, hal, rfl⟩
 dsimp only
 refine ⟨by rfl, ?_, ?_⟩
 refine Aj ?_
 exact Au
 refine Aj ?_
 exact Au
 rintro i hinv N1 h1
 dsimp only at hinv ⊢
 obtain ⟨i1, i2, i3⟩ := hinv
 refine Aa fun N2 h2 => Aa fun N3 h3 => ?_
 rcases Nat.lt_or_ge i t.length with hit | hit
 obtain ⟨c, hc⟩ := BA (l := t) (i := i) hit
 have f1 : ((i : Int) < (t.length : Int)) = True := eq_true (by omega)
 have hx := And.intro @f1 (And.intro @hc hx0)
 refine Ac ?_
 refine Az ?_
 refine Ad ?_
 refine BB ?_
 refine Ar ?_
 refine Aq ?_
 refine Ad ?_
 refine BB ?_
 refine Ar ?_
 refine Aq ?_
 refine AU ?_
 refine Ao ?_
 refine Ad ?_
 refine C3 ?_
 refine XB ?_
 refine CQ ?_
 refine C9 ?_
 refine C3 ?_
 refine XB ?_
 refine CQ ?_
 refine C9 ?_
 refine CQ ?_
 refine DO ?_
 refine AH ?_
 have hx := hx0
 refine Ab (h3 _ (Ak (fun hb4 => ?_) (fun hb4 => ?_))); clear h3
 have h32 : c = 32 := by have := hb4; first | exact UInt8.toNat_inj.1 (show c.toNat = 32 by (try simp at this); omega) | (simpa using this)
 subst h32
 have hst := VP hc
 refine An ?_
 try simp only [Ae]
 refine h2 _ (As (Ac ?_)); clear h2
 refine Ad ?_
 refine BB ?_
 refine Ar ?_
 refine Aq ?_
 refine Ao ?_
 refine BB ?_
 refine Ar ?_
 refine A4 ?_
 refine Ab ?_
 refine h1 _ ⟨i + 1, ?_, ?_, [some 0, some 1], ?_⟩
 dsimp only
 exact ⟨by omega, by omega, by rw [hst]; exact i3⟩
 dsimp only
 omega
 dsimp only
 refine ⟨by rfl, ?_, ?_⟩
 refine Aj ?_
 exact Au
 refine Aj ?_
 exact Au
 have hst := OT (t := t) (i := i) (by rw [hc]; intro he; cases he; have := hb4; simp at this)
 refine AJ ?_
 simp only [Ae, Nat.reduceEqDiff, reduceIte, eq_self]
 rw [← i3, hst]
 refine Aj ?_
 refine ⟨[some 0, some 1], by rfl, ?_, ?_⟩
 refine Aj ?_
 exact Au
 refine Aj ?_
 exact Au
 have f1 : ((i : Int) < (t.length : Int)) = False := eq_false (by omega)
 have hc := f1
 have hx := And.intro @f1 (And.intro @hc hx0)
 refine Ac ?_
 refine Az ?_
 refine Ad ?_
 refine BB ?_
 refine Ar ?_
 refine Aq ?_
 refine Ad ?_
 refine BB ?_
 refine Ar ?_
 refine Aq ?_
 refine AU ?_
 refine Ao ?_
 refine Ad ?_
 refine At Bb ?_
 refine At Bb ?_
 refine At Bb ?_
 refine At Bb ?_
 refine At Bb ?_
 refine At Bb ?_
 refine At Bb ?_
 refine At Bb ?_
 refine At Bb ?_
 refine At Bb ?_
 refine AH ?_
 have hx := hx0
 refine Ab (h3 _ (Ak (fun hb5 => ?_) (fun hb5 => ?_))); clear h3
 exact CJ hb5
 have hst := OT (t := t) (i := i) (by rw [List.getElem?_eq_none hit]; intro h; cases h)
 refine AJ ?_
 simp only [Ae, Nat.reduceEqDiff, reduceIte, eq_self]
 rw [← i3, hst]
 refine Aj ?_
 refine ⟨[some 0, some 1], by rfl, ?_, ?_⟩
 refine Aj ?_
 exact Au
 refine Aj ?_
 exact Au
 cases hg
def QJ : Bq Tryz.prog := QO.add 43 (Spec.gen P0) Sp (by kernel_rfl)
theorem Tg : A5 Tryz.prog 64 (Spec.gen K0) := by
 refine Bm (QJ.at_ 24) Tryz.func64 rfl rfl rfl ?_
 intro args bl p r bf hg hp
 unfold K0 at hg
 split at hg
 rename_i ty t a n vt sz xs
 simp only [Option.some.injEq, Prod.mk.injEq] at hg
 obtain ⟨rfl, rfl, rfl⟩ := hg
 obtain ⟨rfl, rfl, rfl, he, rfl, ha0, hal, htl, hqa⟩ := hp
 generalize C8 xs = q at *
 subst he
 obtain ⟨a, rfl⟩ := Int.eq_ofNat_of_zero_le ha0
 simp only [Int.toNat_natCast] at *
 have hal : a ≤ t.length := by omega
 have hqa : q.length ≤ a := by omega
 obtain ⟨k1, k2⟩ := FF hal
 have hpr := EY hqa hal htl
 generalize hB : FU t a = B at *
 have hT : (QJ).X = T := rfl
 have hx0 := And.intro @Ci (And.intro @Ch (And.intro @Int.toNat_natCast (And.intro @TN.eq_1 (And.intro @AL (And.intro @BL @Tryz.results64)))))
 have hx := hx0
 refine ⟨Nat.le_of_ble_eq_true rfl, ?_⟩
 intro F W0 M0 hnp hmk
 have hnp : Bl.np = 2 := hnp
 refine Aa fun N1 h1 => Ac ?_
 refine Az ?_
 refine Ad ?_
 refine Ab (h1 _ (Aa fun N2 h2 => ?_)); clear h1
 have hx := And.intro @hB hx0
 refine Aa fun N3 h3 => Ac ?_
 refine Ad ?_
 have hc := Ag (E := (QJ.at_ 24)) (f := 43) (sp := Spec.gen P0) rfl
 have hs := @P0.eq_1
 refine BM (hq := by (first | (exact hpr) | exact AQ)) ?_
 have hx := hx0
 refine Ab (h3 _ (Aa fun N4 h4 => Ac ?_)); clear h3
 refine Ad ?_
 refine BB ?_
 refine Ar ?_
 refine Aq ?_
 refine Ad ?_
 refine BB ?_
 refine Ar ?_
 refine Aq ?_
 refine AU ?_
 refine Ao ?_
 refine Ab (h4 _ (Ak (fun hb5 => ?_) (fun hb5 => ?_))); clear h4
 have hbl : B < t.length := by have := hb5; (try simp at this); omega
 obtain ⟨c, hc⟩ := BA (l := t) (i := B) hbl
 have hgd : t.getD B 0 = c := by rw [List.getD_eq_getElem?_getD, hc]; rfl
 rw [hgd]
 have hx := And.intro @hc hx0
 refine Aa fun N6 h6 => Ac ?_
 refine Ad ?_
 refine BB ?_
 refine Ar ?_
 refine Aq ?_
 refine Ad ?_
 refine BB ?_
 refine Ar ?_
 refine Aq ?_
 refine Ar ?_
 refine Ad ?_
 have hx := hx0
 refine Ab (h6 _ (Am ?_)); clear h6
 try simp only [Ae]
 refine Aj ?_
 refine ⟨[some 0, some 1], by rfl, ?_, ?_⟩
 refine Aj ?_
 ·(repeat' apply And.intro) <;> (first | (first | rfl | exact Or.inl rfl | trivial | (rw [hgd]; exact Or.inl rfl) | exact Au | omega) | exact Au)
 refine Aj ?_
 ·(repeat' apply And.intro) <;> (first | (first | rfl | exact Or.inl rfl | trivial | (rw [hgd]; exact Or.inl rfl) | exact Au | omega) | exact Au)
 have hgd : t.getD B 0 = 0 := by rw [List.getD_eq_getElem?_getD, List.getElem?_eq_none (by have := hb5; (try simp at this); omega)]; rfl
 rw [hgd]
 refine An ?_
 try simp only [Ae]
 refine h2 _ (Aa fun N7 h7 => Ac ?_); clear h2
 refine Ad ?_
 refine Ab (h7 _ (Am ?_)); clear h7
 try simp only [Ae]
 refine Aj ?_
 refine ⟨[some 0, some 1], by rfl, ?_, ?_⟩
 refine Aj ?_
 ·(repeat' apply And.intro) <;> (first | (first | rfl | exact Or.inl rfl | trivial | (rw [hgd]; exact Or.inl rfl) | exact Au | omega) | exact Au)
 refine Aj ?_
 ·(repeat' apply And.intro) <;> (first | (first | rfl | exact Or.inl rfl | trivial | (rw [hgd]; exact Or.inl rfl) | exact Au | omega) | exact Au)
 cases hg
def TR : Bq Tryz.prog := QJ.add 64 (Spec.gen K0) Tg (by kernel_rfl)
theorem Pw : A5 Tryz.prog 65 (Spec.gen JW) := by
 refine Bm (TR.at_ 21) Tryz.func65 rfl rfl rfl ?_
 intro args bl p r bf hg hp
 unfold JW at hg
 split at hg
 rename_i f g h i ty t a n vt sz xs
 simp only [Option.some.injEq, Prod.mk.injEq] at hg
 obtain ⟨rfl, rfl, rfl⟩ := hg
 obtain ⟨rfl, rfl, rfl, he, rfl, hl⟩ := hp
 generalize C8 xs = q at *
 subst he
 have hap := Sg q f g h i
 have hT : (TR).X = T := rfl
 have hx0 := And.intro @Ci (And.intro @Ch (And.intro @AL (And.intro @BL (And.intro @TN.eq_1 @Tryz.results65))))
 have hx := hx0
 refine ⟨Nat.le_of_ble_eq_true rfl, ?_⟩
 intro F W0 M0 hnp hmk
 have hnp : Bl.np = 2 := hnp
 refine Aa fun N1 h1 => Ac ?_
 refine Az ?_
 refine Fz (hq := AN) ?_
 refine Ad (hq := AN) ?_
 refine Ab (h1 _ (Aa fun N2 h2 => Ac ?_)); clear h1
 iterate 2 refine Ad (hq := AN) ?_
 refine BB (hq := AN) ?_
 refine Ar (hq := AN) ?_
 iterate 2 refine Aq (hq := AN) ?_
 refine Di (hq := AN) ?_
 refine Bf (hq := AN) ?_
 refine BB (hq := AN) ?_
 refine Ar (hq := AN) ?_
 refine A4 (hq := AN) ?_
 refine Ab (h2 _ (Aa fun N3 h3 => Ac ?_)); clear h2
 refine Ad (hq := AN) ?_
 refine BB (hq := AN) ?_
 refine Ar (hq := AN) ?_
 refine Aq (hq := AN) ?_
 refine AU (hq := AN) ?_
 refine Ao (hq := AN) ?_
 refine Ad (hq := AN) ?_
 refine Ab (h3 _ (Am ?_)); clear h3
 try simp only [Ae]
 refine Aj ?_
 refine ⟨[some 0, some 1, some 4], by rfl, ?_, ?_⟩
 refine Aj ?_
 ·(repeat' apply And.intro) <;> (first | (first | rfl | (rw [hap]; done) | (rw [List.take_length, hap]; done) | (rw [List.take_of_length_le (Nat.le_refl _), hap]; done) | omega) | exact Au)
 refine Aj ?_
 ·(repeat' apply And.intro) <;> (first | (first | rfl | (rw [hap]; done) | (rw [List.take_length, hap]; done) | (rw [List.take_of_length_le (Nat.le_refl _), hap]; done) | omega) | exact Au)
 cases hg
def Yb : Bq Tryz.prog := TR.add 65 (Spec.gen JW) Pw (by kernel_rfl)
