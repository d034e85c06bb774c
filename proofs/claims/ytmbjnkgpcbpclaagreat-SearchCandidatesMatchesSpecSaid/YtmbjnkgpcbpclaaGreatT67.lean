/- Walks, printed by wip/gen/walk.py. -/
import Derived.Test.YtmbjnkgpcbpclaaGreatT66
import Derived.Test.YtmbjnkgpcbpclaaGreatV5
set_option linter.all false
set_option maxRecDepth 100000
set_option maxHeartbeats 4000000
namespace Go.Proofs.YtmbjnkgpcbpclaaGreat
open Go Go.Vc Go.RowKit
abbrev PR := Option (Nat × List Sn × Nat)
def Ka (r : PR) (k : Nat → List Sn → Nat → PR) : PR := match r with
  | some (a, ns, x) => k a ns x
  | none => none
def Fm (t : Bs) (a : Nat) : Nat := a + ((t.drop a).takeWhile (· = 32)).length
theorem EW {t : Bs} {a : Nat} (h : a ≤ t.length) : a ≤ Fm t a ∧ Fm t a ≤ t.length := by
  unfold Fm
  have h1 := (List.takeWhile_sublist (· = 32) (l := t.drop a)).length_le
  rw [List.length_drop] at h1
  omega
theorem Um {t : Bs} {i : Nat} (h : t[i]? = some 32) : Fm t (i + 1) = Fm t i := by
 obtain ⟨hl, he⟩ := List.getElem?_eq_some_iff.1 h
 unfold Fm
 rw [List.drop_eq_getElem_cons hl, he, List.takeWhile_cons]
 simp; omega
theorem Nx {t : Bs} {i : Nat} (h : t[i]? ≠ some 32) : Fm t i = i := by
  unfold Fm
  by_cases hl : i < t.length
  · rw [List.drop_eq_getElem_cons hl, List.takeWhile_cons]
    rw [List.getElem?_eq_getElem hl] at h
    simp only [ne_eq, Option.some.injEq] at h
    simp [h]
  · rw [List.drop_of_length_le (by omega)]; rfl
def qd (t : Bs) : Nat → Nat → Bs → Option (Nat × Bs)
  | 0, _, _ => none
  | f + 1, a, s => match t[a]? with
    | none => none
    | some c => if c = 34 then some (a, s) else if c = 10 then none else if c = 92 then match t[a + 1]? with
      | none => none
      | some d => if d = 34 ∨ d = 92 then qd t f (a + 2) (s ++ [d]) else none
      else qd t f (a + 1) (s ++ [c])
def UN (t : Bs) (a : Nat) (ns : List Sn) : PR := match qd t (t.length + 1) (a + 1) [] with
  | some (e, s) => if FC s = true then some (e + 1, ns ++ [⟨1, s, 0, 0⟩], ns.length) else none
  | none => none
def R9 (m : Nat) : UInt8 := if m = 1 then 38 else 124
def Vv (m : Nat) : Int := if m = 1 then 2 else 3
def Tq (sub : Nat → List Sn → PR) (t : Bs) (m : Nat) : Nat → Nat → List Sn → Nat → PR
  | 0, _, _, _ => none
  | g + 1, a, ns, x => if t.getD (Fm t a) 0 = R9 m then Ka (sub (Fm t a + 1) ns) fun a' ns' y => Tq sub t m g a' (ns' ++ [⟨Vv m, [], x, y⟩]) ns'.length else some (Fm t a, ns, x)
def Yy (un qu : Nat → List Sn → PR) (t : Bs) (a : Nat) (ns : List Sn) : PR :=
  if t.getD (Fm t a) 0 = 33 then Ka (un (Fm t a + 1) ns) fun a' ns' x => some (a', ns' ++ [⟨4, [], x, 0⟩], ns'.length)
  else if t.getD (Fm t a) 0 = 40 then Ka (qu (Fm t a + 1) ns) fun a' ns' x => if t.getD (Fm t a') 0 = 41 then some (Fm t a' + 1, ns', x) else none
  else if t.getD (Fm t a) 0 = 34 then UN t (Fm t a) ns else none
def Gx (t : Bs) : Nat → Nat → Nat → List Sn → PR
  | 0, _, _, _ => none
  | f + 1, m, a, ns => if m = 3 then Yy (Gx t f 3) (Gx t f 0) t a ns else if m = 2 then Gx t f 3 a ns else Ka (Gx t f (m + 1) a ns) fun a' ns' x => Tq (Gx t f (m + 1)) t m (t.length + 1) a' ns' x
theorem DY {t : Bs} {i : Nat} {c : UInt8} (h : t.getD i 0 = c) (hc : c ≠ 0) : i < t.length ∧ t[i]? = some c := by
  by_cases hl : i < t.length
  · rw [List.getD_eq_getElem?_getD, List.getElem?_eq_getElem hl] at h
    exact ⟨hl, by rw [List.getElem?_eq_getElem hl, ← h]; rfl⟩
  · rw [List.getD_eq_getElem?_getD, List.getElem?_eq_none (by omega)] at h
    exact absurd h.symm hc
theorem JD {t : Bs} : ∀ {f a : Nat} {s : Bs} {e : Nat} {r : Bs}, qd t f a s = some (e, r) → a ≤ e ∧ e < t.length ∧ r.length ≤ s.length + (e - a)
  | 0, _, _, _, _, h => by cases h
  | f + 1, a, s, e, r, h => by
    unfold qd at h
    split at h
    · cases h
    · rename_i c hc
      have hl := (List.getElem?_eq_some_iff.1 hc).1
      split at h
      · cases h; exact ⟨Nat.le_refl _, hl, by omega⟩
      · split at h
        · cases h
        · split at h
          · split at h
            · cases h
            · split at h
              · have := JD h; simp at this; omega
              · cases h
          · have := JD h; simp at this; omega
def Xl (t : Bs) (a : Nat) (ns : List Sn) (a' : Nat) (ns' : List Sn) : Prop := a ≤ a' ∧ a' ≤ t.length ∧ ns'.length + a ≤ ns.length + a'
def X9 (t : Bs) (sub : Nat → List Sn → PR) : Prop := ∀ a ns, a ≤ t.length → ∀ a' ns' x, sub a ns = some (a', ns', x) → Xl t a ns a' ns' ∧ a + 1 ≤ a'
theorem Xj {t : Bs} {a : Nat} {ns : List Sn} (hl : a < t.length) {a' : Nat} {ns' : List Sn} {x : Nat} (h : UN t a ns = some (a', ns', x)) : Xl t a ns a' ns' ∧ a + 1 ≤ a' := by
  unfold UN at h
  split at h
  · rename_i e s he
    have := JD he
    split at h
    · cases h
      refine ⟨⟨by omega, by omega, ?_⟩, by omega⟩
      simp; omega
    · cases h
  · cases h
theorem FN {r : PR} {k : Nat → List Sn → Nat → PR} {z : Nat × List Sn × Nat} (h : Ka r k = some z) : ∃ a ns x, r = some (a, ns, x) ∧ k a ns x = some z := by
  match r, h with
  | some (a, ns, x), h => exact ⟨a, ns, x, rfl, h⟩
theorem Uk (m : Nat) : R9 m ≠ 0 := by unfold R9; split <;> decide
theorem Tr {sub : Nat → List Sn → PR} {t : Bs} {m : Nat} (hs : X9 t sub) : ∀ {g a : Nat} {ns : List Sn} {x : Nat} {a' : Nat} {ns' : List Sn} {x' : Nat}, a ≤ t.length → Tq sub t m g a ns x = some (a', ns', x') → Xl t a ns a' ns'
  | 0, _, _, _, _, _, _, _, h => by cases h
  | g + 1, a, ns, x, a', ns', x', hf, h => by
    unfold Tq at h
    have hk := EW hf
    split at h
    · rename_i hc
      have hlt := (DY hc (Uk m)).1
      obtain ⟨a1, n1, y, h1, h2⟩ := FN h
      obtain ⟨⟨f1, f2, f3⟩, _⟩ := hs _ _ (by omega) _ _ _ h1
      obtain ⟨g1, g2, g3⟩ := Tr hs f2 h2
      rw [List.length_append, List.length_singleton] at g3
      exact ⟨by omega, g2, by omega⟩
    · cases h
      exact ⟨hk.1, hk.2, by omega⟩
theorem Xw {un qu : Nat → List Sn → PR} {t : Bs} (hu : X9 t un) (hq : X9 t qu) : X9 t (Yy un qu t) := by
  intro a ns ha a' ns' x h
  unfold Yy at h
  have hk := EW ha
  split at h
  · rename_i hc
    have hlt := (DY hc (by decide)).1
    obtain ⟨a1, n1, y, h1, h2⟩ := FN h
    obtain ⟨⟨f1, f2, f3⟩, f4⟩ := hu _ _ (by omega) _ _ _ h1
    cases h2
    refine ⟨⟨by omega, f2, ?_⟩, by omega⟩
    rw [List.length_append, List.length_singleton]; omega
  · split at h
    · rename_i hc
      have hlt := (DY hc (by decide)).1
      obtain ⟨a1, n1, y, h1, h2⟩ := FN h
      obtain ⟨⟨f1, f2, f3⟩, f4⟩ := hq _ _ (by omega) _ _ _ h1
      have hk2 := EW f2
      split at h2
      · rename_i hc2
        have hlt2 := (DY hc2 (by decide)).1
        cases h2
        exact ⟨⟨by omega, by omega, by omega⟩, by omega⟩
      · cases h2
    · split at h
      · rename_i hc
        have hlt := (DY hc (by decide)).1
        obtain ⟨⟨f1, f2, f3⟩, f4⟩ := Xj hlt h
        exact ⟨⟨by omega, f2, by omega⟩, by omega⟩
      · cases h
theorem EV (t : Bs) : ∀ f m, X9 t (Gx t f m)
  | 0, _ => fun _ _ _ _ _ _ h => by cases h
  | f + 1, m => fun a ns ha a' ns' x h => by
    unfold Gx at h
    split at h
    · exact Xw (EV t f 3) (EV t f 0) a ns ha a' ns' x h
    · split at h
      · exact EV t f 3 a ns ha a' ns' x h
      · obtain ⟨a1, n1, y, h1, h2⟩ := FN h
        obtain ⟨⟨f1, f2, f3⟩, f4⟩ := EV t f (m + 1) _ _ ha _ _ _ h1
        obtain ⟨g1, g2, g3⟩ := Tr (EV t f (m + 1)) f2 h2
        exact ⟨⟨by omega, g2, by omega⟩, by omega⟩
def RZ (t : Bs) (a : Int) (nd : AV) : Option Bt := some (.one 75 [.d (.str t), .d (.int .i64 a), nd])
def OP (ty vt sz : Nat) (n : Nat) (t : Bs) (a : Int) (xs : List (List D)) : Prop := ty = 75 ∧ vt = 55 ∧ sz = 4 ∧ xs = rows DR (Cz xs) ∧ n = (Cz xs).length ∧ 0 ≤ a ∧ a ≤ t.length ∧ t.length ≤ 1000 ∧ ((Cz xs).length : Int) ≤ a
theorem E1 {t : Bs} {m : Nat} {q : List Sn} (h1 : q.length ≤ m) (h2 : m ≤ t.length) (h3 : t.length ≤ 1000) : OP 75 55 4 q.length t (m : Nat) (rows DR q) :=
  ⟨rfl, rfl, rfl, by rw [AY], by rw [AY], by omega, by omega, h3, by rw [AY]; omega⟩
def Oc : D3
  | [.ptr 0 0 0], [some (.one ty [.d (.str t), .d (.int .i64 a), .sl 1 0 n]), some (.vec vt sz xs)] => some (OP ty vt sz n t a xs, .tup [], [RZ t (Fm t a.toNat : Nat) (.sl 1 0 n), some (.vec vt sz xs)])
  | _, _ => none
def J8 : D3
  | [.ptr 0 0 0], [some (.one ty [.d (.str t), .d (.int .i64 a), .sl 1 0 n]), some (.vec vt sz xs)] => some (OP ty vt sz n t a xs, .d (.int .u8 ((t.getD (Fm t a.toNat) 0).toNat : Int)), [RZ t (Fm t a.toNat : Nat) (.sl 1 0 n), some (.vec vt sz xs)])
  | _, _ => none
def Jd : D3
  | [.ptr 0 0 0, .agg [.d (.int .i64 f), .d (.str g), .d (.int .i64 h), .d (.int .i64 i)]], [some (.one ty [.d (.str t), .d (.int .i64 a), .sl 1 0 n]), some (.vec vt sz xs)] => some (ty = 75 ∧ vt = 55 ∧ sz = 4 ∧ xs = rows DR (Cz xs) ∧ n = (Cz xs).length ∧ (Cz xs).length ≤ 1000000, .d (.int .i64 ((Cz xs).length : Nat)), [RZ t a (.sl 2 0 ((Cz xs).length + 1)), none, some (.vec 55 4 (rows DR (Cz xs ++ [⟨f, g, h, i⟩])))])
  | _, _ => none
theorem Qy (l : List Sn) (f : Int) (g : Bs) (h i : Int) : rows DR l ++ [[.int .i64 f, .str g, .int .i64 h, .int .i64 i]] = rows DR (l ++ [⟨f, g, h, i⟩]) := by simp [rows, DR]

theorem Q4 : A1 Tryz.prog 43 (Spec.gen Oc) := by
 refine Bq (Pu.at_ 31) Tryz.func43 rfl rfl rfl ?_
 intro args bl p r bf hg hp
 unfold Oc at hg
 split at hg
 rename_i ty t a n vt sz xs
 simp only [Option.some.injEq, Prod.mk.injEq] at hg
 obtain ⟨rfl, rfl, rfl⟩ := hg
 obtain ⟨rfl, rfl, rfl, he, rfl, ha0, hal, htl, hqa⟩ := hp
 generalize Cz xs = q at *
 subst he
 obtain ⟨a, rfl⟩ := Int.eq_ofNat_of_zero_le ha0
 simp only [Int.toNat_natCast] at *
 have hal : a ≤ t.length := by omega
 have hqa : q.length ≤ a := by omega
 obtain ⟨k1, k2⟩ := EW hal
 have hT : (Pu).X = T := rfl
 have hx0 := And.intro @Ci (And.intro @Ch (And.intro @Int.toNat_natCast (And.intro @RZ.eq_1 (And.intro @AY (And.intro @BQ @Tryz.results43)))))
 have hx := hx0
 refine ⟨Nat.le_of_ble_eq_true rfl, ?_⟩
 intro F W0 M0 hnp hmk
 have hnp : Bd.np = 2 := hnp
 refine Au ?_
 refine A0 (σ := Nat) (fun s => (fun i => a ≤ i ∧ i ≤ t.length ∧ Fm t i = Fm t a) s)
  (fun s => (fun i => [(0, .ptr 0 0 0)]) s)
  (fun s => (fun i => [some (.one 75 [.d (.str t), .d (.int .i64 (i : Nat)), .sl 1 0 q.length]), some (.vec 55 4 (rows DR q))]) s) (fun s => (fun i => t.length - i) s) hnp a ?_ [some 0, some 1] ?_ ?_
 dsimp only
 exact ⟨Nat.le_refl _, hal, rfl⟩
 dsimp only
 refine ⟨by rfl, ?_, ?_⟩
 refine Aj ?_
 exact As
 refine Aj ?_
 exact As
 rintro i hinv N1 h1
 dsimp only at hinv ⊢
 obtain ⟨i1, i2, i3⟩ := hinv
 refine Aa fun N2 h2 => ?_
 refine Aa fun N3 h3 => ?_
 rcases Nat.lt_or_ge i t.length with hit | hit
 obtain ⟨c, hc⟩ := BG (l := t) (i := i) hit
 have f1 : ((i : Int) < (t.length : Int)) = True := eq_true (by omega)
 have hx := And.intro @f1 (And.intro @hc hx0)
 refine Ad ?_
 try refine Ac ?_
 refine Ae ?_
 refine Bv ?_
 refine At ?_
 refine Ap ?_
 refine Ae ?_
 refine Bv ?_
 refine At ?_
 refine Ap ?_
 refine AZ ?_
 refine Al ?_
 refine Ae ?_
 refine Cl ?_
 refine Wc ?_
 refine CG ?_
 refine CF ?_
 refine Cl ?_
 refine Wc ?_
 refine CG ?_
 refine CF ?_
 refine CG ?_
 refine DW ?_
 refine A7 ?_
 refine Ab ?_
 have hx := hx0
 refine h3 _ ?_; clear h3
 refine Ai (fun hb4 => ?_) (fun hb4 => ?_)
 have h32 : c = 32 := by have := hb4; first | exact UInt8.toNat_inj.1 (show c.toNat = 32 by (try simp at this); omega) | (simpa using this)
 subst h32
 have hst := Um hc
 refine Am ?_
 try simp only [Af]
 refine h2 _ ?_; clear h2
 refine Au ?_
 refine Ad ?_
 try refine Ac ?_
 refine Ae ?_
 refine Bv ?_
 refine At ?_
 refine Ap ?_
 refine Al ?_
 refine Bv ?_
 refine At ?_
 refine A4 ?_
 refine Ab ?_
 refine h1 _ ⟨i + 1, ?_, ?_, [some 0, some 1], ?_⟩
 dsimp only
 exact ⟨by omega, by omega, by rw [hst]; exact i3⟩
 dsimp only
 omega
 dsimp only
 refine ⟨by rfl, ?_, ?_⟩
 refine Aj ?_
 exact As
 refine Aj ?_
 exact As
 have hst := Nx (t := t) (i := i) (by rw [hc]; intro he; cases he; have := hb4; simp at this)
 refine AF ?_
 simp only [Af, Nat.reduceEqDiff, reduceIte, eq_self]
 rw [← i3, hst]
 refine Aj ?_
 refine ⟨[some 0, some 1], by rfl, ?_, ?_⟩
 refine Aj ?_
 exact As
 refine Aj ?_
 exact As
 have f1 : ((i : Int) < (t.length : Int)) = False := eq_false (by omega)
 have hc := f1
 have hx := And.intro @f1 (And.intro @hc hx0)
 refine Ad ?_
 try refine Ac ?_
 refine Ae ?_
 refine Bv ?_
 refine At ?_
 refine Ap ?_
 refine Ae ?_
 refine Bv ?_
 refine At ?_
 refine Ap ?_
 refine AZ ?_
 refine Al ?_
 refine Ae ?_
 refine Ar ?_ ?_
 focus (exact AP)
 refine Ar ?_ ?_
 focus (exact AP)
 refine Ar ?_ ?_
 focus (exact AP)
 refine Ar ?_ ?_
 focus (exact AP)
 refine Ar ?_ ?_
 focus (exact AP)
 refine Ar ?_ ?_
 focus (exact AP)
 refine Ar ?_ ?_
 focus (exact AP)
 refine Ar ?_ ?_
 focus (exact AP)
 refine Ar ?_ ?_
 focus (exact AP)
 refine Ar ?_ ?_
 focus (exact AP)
 refine A7 ?_
 refine Ab ?_
 have hx := hx0
 refine h3 _ ?_; clear h3
 refine Ai (fun hb5 => ?_) (fun hb5 => ?_)
 ·first | omega | exact absurd trivial hb5 | contradiction | (simp_all; done)
 have hst := Nx (t := t) (i := i) (by rw [List.getElem?_eq_none hit]; intro h; cases h)
 refine AF ?_
 simp only [Af, Nat.reduceEqDiff, reduceIte, eq_self]
 rw [← i3, hst]
 refine Aj ?_
 refine ⟨[some 0, some 1], by rfl, ?_, ?_⟩
 refine Aj ?_
 exact As
 refine Aj ?_
 exact As
 cases hg

def Pr : Bn Tryz.prog := Pu.add 43 (Spec.gen Oc) Q4 (by kernel_rfl)

theorem Rl : A1 Tryz.prog 64 (Spec.gen J8) := by
 refine Bq (Pr.at_ 24) Tryz.func64 rfl rfl rfl ?_
 intro args bl p r bf hg hp
 unfold J8 at hg
 split at hg
 rename_i ty t a n vt sz xs
 simp only [Option.some.injEq, Prod.mk.injEq] at hg
 obtain ⟨rfl, rfl, rfl⟩ := hg
 obtain ⟨rfl, rfl, rfl, he, rfl, ha0, hal, htl, hqa⟩ := hp
 generalize Cz xs = q at *
 subst he
 obtain ⟨a, rfl⟩ := Int.eq_ofNat_of_zero_le ha0
 simp only [Int.toNat_natCast] at *
 have hal : a ≤ t.length := by omega
 have hqa : q.length ≤ a := by omega
 obtain ⟨k1, k2⟩ := EW hal
 have hpr := E1 hqa hal htl
 generalize hB : Fm t a = B at *
 have hT : (Pr).X = T := rfl
 have hx0 := And.intro @Ci (And.intro @Ch (And.intro @Int.toNat_natCast (And.intro @RZ.eq_1 (And.intro @AY (And.intro @BQ @Tryz.results64)))))
 have hx := hx0
 refine ⟨Nat.le_of_ble_eq_true rfl, ?_⟩
 intro F W0 M0 hnp hmk
 have hnp : Bd.np = 2 := hnp
 refine Aa fun N1 h1 => ?_
 refine Ad ?_
 try refine Ac ?_
 refine Ae ?_
 refine Ab ?_
 refine h1 _ ?_; clear h1
 refine Aa fun N2 h2 => ?_
 refine Aa fun N3 h3 => ?_
 have hx := And.intro @hB hx0
 refine Ad ?_
 try refine Ac ?_
 refine Ae ?_
 have hc := Ag (E := (Pr.at_ 24)) (f := 43) (sp := Spec.gen Oc) rfl
 have hs := @Oc.eq_1
 refine B8 (hq := by (first | (exact hpr) | exact A3)) ?_
 refine Ab ?_
 have hx := hx0
 refine h3 _ ?_; clear h3
 refine Aa fun N4 h4 => ?_
 refine Ad ?_
 try refine Ac ?_
 refine Ae ?_
 refine Bv ?_
 refine At ?_
 refine Ap ?_
 refine Ae ?_
 refine Bv ?_
 refine At ?_
 refine Ap ?_
 refine AZ ?_
 refine Al ?_
 refine Ab ?_
 refine h4 _ ?_; clear h4
 refine Ai (fun hb5 => ?_) (fun hb5 => ?_)
 have hbl : B < t.length := by have := hb5; (try simp at this); omega
 obtain ⟨c, hc⟩ := BG (l := t) (i := B) hbl
 have hgd : t.getD B 0 = c := by rw [List.getD_eq_getElem?_getD, hc]; rfl
 rw [hgd]
 refine Aa fun N6 h6 => ?_
 have hx := And.intro @hc hx0
 refine Ad ?_
 try refine Ac ?_
 refine Ae ?_
 refine Bv ?_
 refine At ?_
 refine Ap ?_
 refine Ae ?_
 refine Bv ?_
 refine At ?_
 refine Ap ?_
 refine At ?_
 refine Ae ?_
 refine Ab ?_
 have hx := hx0
 refine h6 _ ?_; clear h6
 refine An ?_
 try simp only [Af]
 refine Aj ?_
 refine ⟨[some 0, some 1], by rfl, ?_, ?_⟩
 refine Aj ?_
 ·(repeat' apply And.intro) <;> (first | (first | rfl | exact Or.inl rfl | trivial | (rw [hgd]; exact Or.inl rfl) | exact As | omega) | exact As)
 refine Aj ?_
 ·(repeat' apply And.intro) <;> (first | (first | rfl | exact Or.inl rfl | trivial | (rw [hgd]; exact Or.inl rfl) | exact As | omega) | exact As)
 have hgd : t.getD B 0 = 0 := by rw [List.getD_eq_getElem?_getD, List.getElem?_eq_none (by have := hb5; (try simp at this); omega)]; rfl
 rw [hgd]
 refine Am ?_
 try simp only [Af]
 refine h2 _ ?_; clear h2
 refine Aa fun N7 h7 => ?_
 refine Ad ?_
 try refine Ac ?_
 refine Ae ?_
 refine Ab ?_
 refine h7 _ ?_; clear h7
 refine An ?_
 try simp only [Af]
 refine Aj ?_
 refine ⟨[some 0, some 1], by rfl, ?_, ?_⟩
 refine Aj ?_
 ·(repeat' apply And.intro) <;> (first | (first | rfl | exact Or.inl rfl | trivial | (rw [hgd]; exact Or.inl rfl) | exact As | omega) | exact As)
 refine Aj ?_
 ·(repeat' apply And.intro) <;> (first | (first | rfl | exact Or.inl rfl | trivial | (rw [hgd]; exact Or.inl rfl) | exact As | omega) | exact As)
 cases hg

def Sd : Bn Tryz.prog := Pr.add 64 (Spec.gen J8) Rl (by kernel_rfl)

theorem NY : A1 Tryz.prog 65 (Spec.gen Jd) := by
 refine Bq (Sd.at_ 21) Tryz.func65 rfl rfl rfl ?_
 intro args bl p r bf hg hp
 unfold Jd at hg
 split at hg
 rename_i f g h i ty t a n vt sz xs
 simp only [Option.some.injEq, Prod.mk.injEq] at hg
 obtain ⟨rfl, rfl, rfl⟩ := hg
 obtain ⟨rfl, rfl, rfl, he, rfl, hl⟩ := hp
 generalize Cz xs = q at *
 subst he
 have hap := Qy q f g h i
 have hT : (Sd).X = T := rfl
 have hx0 := And.intro @Ci (And.intro @Ch (And.intro @AY (And.intro @BQ (And.intro @RZ.eq_1 @Tryz.results65))))
 have hx := hx0
 refine ⟨Nat.le_of_ble_eq_true rfl, ?_⟩
 intro F W0 M0 hnp hmk
 have hnp : Bd.np = 2 := hnp
 refine Aa fun N1 h1 => ?_
 refine Ad ?_
 try refine Ac ?_
 refine EX (hq := by exact AD) ?_
 refine Ae (hq := by exact AD) ?_
 refine Ab ?_
 refine h1 _ ?_; clear h1
 refine Aa fun N2 h2 => ?_
 refine Ad ?_
 try refine Ac ?_
 iterate 2 refine Ae (hq := by exact AD) ?_
 refine Bv (hq := by exact AD) ?_
 refine At (hq := by exact AD) ?_
 iterate 2 refine Ap (hq := by exact AD) ?_
 refine FH (hq := by exact AD) ?_
 refine Ih (hq := by exact AD) ?_
 refine Bv (hq := by exact AD) ?_
 refine At (hq := by exact AD) ?_
 refine A4 (hq := by exact AD) ?_
 refine Ab ?_
 refine h2 _ ?_; clear h2
 refine Aa fun N3 h3 => ?_
 refine Ad ?_
 try refine Ac ?_
 refine Ae (hq := by exact AD) ?_
 refine Bv (hq := by exact AD) ?_
 refine At (hq := by exact AD) ?_
 refine Ap (hq := by exact AD) ?_
 refine AZ (hq := by exact AD) ?_
 refine Al (hq := by exact AD) ?_
 refine Ae (hq := by exact AD) ?_
 refine Ab ?_
 refine h3 _ ?_; clear h3
 refine An ?_
 try simp only [Af]
 refine Aj ?_
 refine ⟨[some 0, some 1, some 4], by rfl, ?_, ?_⟩
 refine Aj ?_
 ·(repeat' apply And.intro) <;> (first | (first | rfl | (rw [hap]; done) | (rw [List.take_length, hap]; done) | (rw [List.take_of_length_le (Nat.le_refl _), hap]; done) | omega) | exact As)
 refine Aj ?_
 ·(repeat' apply And.intro) <;> (first | (first | rfl | (rw [hap]; done) | (rw [List.take_length, hap]; done) | (rw [List.take_of_length_le (Nat.le_refl _), hap]; done) | omega) | exact As)
 cases hg

def W5 : Bn Tryz.prog := Sd.add 65 (Spec.gen Jd) NY (by kernel_rfl)
end Go.Proofs.YtmbjnkgpcbpclaaGreat
