/- Walks, printed by wip/gen/walk.py. -/
import Derived.Test.YtmbjnkgpcbpclaaGreatT66
import Derived.Test.YtmbjnkgpcbpclaaGreatV5
set_option linter.all false
set_option maxRecDepth 100000
set_option maxHeartbeats 4000000
namespace Go.Proofs.YtmbjnkgpcbpclaaGreat
open Go Go.Vc Go.RowKit
abbrev PR := Option (Nat × List Sn × Nat)
def J5 (r : PR) (k : Nat → List Sn → Nat → PR) : PR := match r with
  | some (a, ns, x) => k a ns x
  | none => none
def EY (t : Bs) (a : Nat) : Nat := a + ((t.drop a).takeWhile (· = 32)).length
theorem EH {t : Bs} {a : Nat} (h : a ≤ t.length) : a ≤ EY t a ∧ EY t a ≤ t.length := by
  unfold EY
  have h1 := (List.takeWhile_sublist (· = 32) (l := t.drop a)).length_le
  rw [List.length_drop] at h1
  omega
theorem Tr {t : Bs} {i : Nat} (h : t[i]? = some 32) : EY t (i + 1) = EY t i := by
 obtain ⟨hl, he⟩ := List.getElem?_eq_some_iff.1 h
 unfold EY
 rw [List.drop_eq_getElem_cons hl, he, List.takeWhile_cons]
 simp; omega
theorem ML {t : Bs} {i : Nat} (h : t[i]? ≠ some 32) : EY t i = i := by
  unfold EY
  by_cases hl : i < t.length
  · rw [List.drop_eq_getElem_cons hl, List.takeWhile_cons]
    rw [List.getElem?_eq_getElem hl] at h
    simp only [ne_eq, Option.some.injEq] at h
    simp [h]
  · rw [List.drop_of_length_le (by omega)]; rfl
def qd (t : Bs) : Nat → Nat → Bs → Option (Nat × Bs)
  | 0, _, _ => none
  | f + 1, a, s => match t[a]? with
    | none => none
    | some c => if c = 34 then some (a, s) else if c = 10 then none else if c = 92 then match t[a + 1]? with
      | none => none
      | some d => if d = 34 ∨ d = 92 then qd t f (a + 2) (s ++ [d]) else none
      else qd t f (a + 1) (s ++ [c])
def TV (t : Bs) (a : Nat) (ns : List Sn) : PR := match qd t (t.length + 1) (a + 1) [] with
  | some (e, s) => if Gu s = true then some (e + 1, ns ++ [⟨1, s, 0, 0⟩], ns.length) else none
  | none => none
def QI (m : Nat) : UInt8 := if m = 1 then 38 else 124
def U1 (m : Nat) : Int := if m = 1 then 2 else 3
def Sw (sub : Nat → List Sn → PR) (t : Bs) (m : Nat) : Nat → Nat → List Sn → Nat → PR
  | 0, _, _, _ => none
  | g + 1, a, ns, x => if t.getD (EY t a) 0 = QI m then J5 (sub (EY t a + 1) ns) fun a' ns' y => Sw sub t m g a' (ns' ++ [⟨U1 m, [], x, y⟩]) ns'.length else some (EY t a, ns, x)
def X8 (un qu : Nat → List Sn → PR) (t : Bs) (a : Nat) (ns : List Sn) : PR :=
  if t.getD (EY t a) 0 = 33 then J5 (un (EY t a + 1) ns) fun a' ns' x => some (a', ns' ++ [⟨4, [], x, 0⟩], ns'.length)
  else if t.getD (EY t a) 0 = 40 then J5 (qu (EY t a + 1) ns) fun a' ns' x => if t.getD (EY t a') 0 = 41 then some (EY t a' + 1, ns', x) else none
  else if t.getD (EY t a) 0 = 34 then TV t (EY t a) ns else none
def Gf (t : Bs) : Nat → Nat → Nat → List Sn → PR
  | 0, _, _, _ => none
  | f + 1, m, a, ns => if m = 3 then X8 (Gf t f 3) (Gf t f 0) t a ns else if m = 2 then Gf t f 3 a ns else J5 (Gf t f (m + 1) a ns) fun a' ns' x => Sw (Gf t f (m + 1)) t m (t.length + 1) a' ns' x
theorem DM {t : Bs} {i : Nat} {c : UInt8} (h : t.getD i 0 = c) (hc : c ≠ 0) : i < t.length ∧ t[i]? = some c := by
  by_cases hl : i < t.length
  · rw [List.getD_eq_getElem?_getD, List.getElem?_eq_getElem hl] at h
    exact ⟨hl, by rw [List.getElem?_eq_getElem hl, ← h]; rfl⟩
  · rw [List.getD_eq_getElem?_getD, List.getElem?_eq_none (by omega)] at h
    exact absurd h.symm hc
theorem Jl {t : Bs} : ∀ {f a : Nat} {s : Bs} {e : Nat} {r : Bs}, qd t f a s = some (e, r) → a ≤ e ∧ e < t.length ∧ r.length ≤ s.length + (e - a)
  | 0, _, _, _, _, h => by cases h
  | f + 1, a, s, e, r, h => by
    unfold qd at h
    split at h
    · cases h
    · rename_i c hc
      have hl := (List.getElem?_eq_some_iff.1 hc).1
      split at h
      · cases h; exact ⟨Nat.le_refl _, hl, by omega⟩
      · split at h
        · cases h
        · split at h
          · split at h
            · cases h
            · split at h
              · have := Jl h; simp at this; omega
              · cases h
          · have := Jl h; simp at this; omega
def Wu (t : Bs) (a : Nat) (ns : List Sn) (a' : Nat) (ns' : List Sn) : Prop := a ≤ a' ∧ a' ≤ t.length ∧ ns'.length + a ≤ ns.length + a'
def WL (t : Bs) (sub : Nat → List Sn → PR) : Prop := ∀ a ns, a ≤ t.length → ∀ a' ns' x, sub a ns = some (a', ns', x) → Wu t a ns a' ns' ∧ a + 1 ≤ a'
theorem Wt {t : Bs} {a : Nat} {ns : List Sn} (hl : a < t.length) {a' : Nat} {ns' : List Sn} {x : Nat} (h : TV t a ns = some (a', ns', x)) : Wu t a ns a' ns' ∧ a + 1 ≤ a' := by
  unfold TV at h
  split at h
  · rename_i e s he
    have := Jl he
    split at h
    · cases h
      refine ⟨⟨by omega, by omega, ?_⟩, by omega⟩
      simp; omega
    · cases h
  · cases h
theorem F6 {r : PR} {k : Nat → List Sn → Nat → PR} {z : Nat × List Sn × Nat} (h : J5 r k = some z) : ∃ a ns x, r = some (a, ns, x) ∧ k a ns x = some z := by
  match r, h with
  | some (a, ns, x), h => exact ⟨a, ns, x, rfl, h⟩
theorem Tp (m : Nat) : QI m ≠ 0 := by unfold QI; split <;> decide
theorem Sx {sub : Nat → List Sn → PR} {t : Bs} {m : Nat} (hs : WL t sub) : ∀ {g a : Nat} {ns : List Sn} {x : Nat} {a' : Nat} {ns' : List Sn} {x' : Nat}, a ≤ t.length → Sw sub t m g a ns x = some (a', ns', x') → Wu t a ns a' ns'
  | 0, _, _, _, _, _, _, _, h => by cases h
  | g + 1, a, ns, x, a', ns', x', hf, h => by
    unfold Sw at h
    have hk := EH hf
    split at h
    · rename_i hc
      have hlt := (DM hc (Tp m)).1
      obtain ⟨a1, n1, y, h1, h2⟩ := F6 h
      obtain ⟨⟨f1, f2, f3⟩, _⟩ := hs _ _ (by omega) _ _ _ h1
      obtain ⟨g1, g2, g3⟩ := Sx hs f2 h2
      rw [List.length_append, List.length_singleton] at g3
      exact ⟨by omega, g2, by omega⟩
    · cases h
      exact ⟨hk.1, hk.2, by omega⟩
theorem W6 {un qu : Nat → List Sn → PR} {t : Bs} (hu : WL t un) (hq : WL t qu) : WL t (X8 un qu t) := by
  intro a ns ha a' ns' x h
  unfold X8 at h
  have hk := EH ha
  split at h
  · rename_i hc
    have hlt := (DM hc (by decide)).1
    obtain ⟨a1, n1, y, h1, h2⟩ := F6 h
    obtain ⟨⟨f1, f2, f3⟩, f4⟩ := hu _ _ (by omega) _ _ _ h1
    cases h2
    refine ⟨⟨by omega, f2, ?_⟩, by omega⟩
    rw [List.length_append, List.length_singleton]; omega
  · split at h
    · rename_i hc
      have hlt := (DM hc (by decide)).1
      obtain ⟨a1, n1, y, h1, h2⟩ := F6 h
      obtain ⟨⟨f1, f2, f3⟩, f4⟩ := hq _ _ (by omega) _ _ _ h1
      have hk2 := EH f2
      split at h2
      · rename_i hc2
        have hlt2 := (DM hc2 (by decide)).1
        cases h2
        exact ⟨⟨by omega, by omega, by omega⟩, by omega⟩
      · cases h2
    · split at h
      · rename_i hc
        have hlt := (DM hc (by decide)).1
        obtain ⟨⟨f1, f2, f3⟩, f4⟩ := Wt hlt h
        exact ⟨⟨by omega, f2, by omega⟩, by omega⟩
      · cases h
theorem EG (t : Bs) : ∀ f m, WL t (Gf t f m)
  | 0, _ => fun _ _ _ _ _ _ h => by cases h
  | f + 1, m => fun a ns ha a' ns' x h => by
    unfold Gf at h
    split at h
    · exact W6 (EG t f 3) (EG t f 0) a ns ha a' ns' x h
    · split at h
      · exact EG t f 3 a ns ha a' ns' x h
      · obtain ⟨a1, n1, y, h1, h2⟩ := F6 h
        obtain ⟨⟨f1, f2, f3⟩, f4⟩ := EG t f (m + 1) _ _ ha _ _ _ h1
        obtain ⟨g1, g2, g3⟩ := Sx (EG t f (m + 1)) f2 h2
        exact ⟨⟨by omega, g2, by omega⟩, by omega⟩
def Re (t : Bs) (a : Int) (nd : AV) : Option Bk := some (.one 75 [.d (.str t), .d (.int .i64 a), nd])
def Oc (ty vt sz : Nat) (n : Nat) (t : Bs) (a : Int) (xs : List (List D)) : Prop := ty = 75 ∧ vt = 55 ∧ sz = 4 ∧ xs = rows DL (C3 xs) ∧ n = (C3 xs).length ∧ 0 ≤ a ∧ a ≤ t.length ∧ t.length ≤ 1000 ∧ ((C3 xs).length : Int) ≤ a
theorem Em {t : Bs} {m : Nat} {q : List Sn} (h1 : q.length ≤ m) (h2 : m ≤ t.length) (h3 : t.length ≤ 1000) : Oc 75 55 4 q.length t (m : Nat) (rows DL q) :=
  ⟨rfl, rfl, rfl, by rw [AX], by rw [AX], by omega, by omega, h3, by rw [AX]; omega⟩
def Nn : Dr
  | [.ptr 0 0 0], [some (.one ty [.d (.str t), .d (.int .i64 a), .sl 1 0 n]), some (.vec vt sz xs)] => some (Oc ty vt sz n t a xs, .tup [], [Re t (EY t a.toNat : Nat) (.sl 1 0 n), some (.vec vt sz xs)])
  | _, _ => none
def Jg : Dr
  | [.ptr 0 0 0], [some (.one ty [.d (.str t), .d (.int .i64 a), .sl 1 0 n]), some (.vec vt sz xs)] => some (Oc ty vt sz n t a xs, .d (.int .u8 ((t.getD (EY t a.toNat) 0).toNat : Int)), [Re t (EY t a.toNat : Nat) (.sl 1 0 n), some (.vec vt sz xs)])
  | _, _ => none
def IC : Dr
  | [.ptr 0 0 0, .agg [.d (.int .i64 f), .d (.str g), .d (.int .i64 h), .d (.int .i64 i)]], [some (.one ty [.d (.str t), .d (.int .i64 a), .sl 1 0 n]), some (.vec vt sz xs)] => some (ty = 75 ∧ vt = 55 ∧ sz = 4 ∧ xs = rows DL (C3 xs) ∧ n = (C3 xs).length ∧ (C3 xs).length ≤ 1000000, .d (.int .i64 ((C3 xs).length : Nat)), [Re t a (.sl 2 0 ((C3 xs).length + 1)), none, some (.vec 55 4 (rows DL (C3 xs ++ [⟨f, g, h, i⟩])))])
  | _, _ => none
theorem JQ (l : List Sn) (f : Int) (g : Bs) (h i : Int) : rows DL l ++ [[.int .i64 f, .str g, .int .i64 h, .int .i64 i]] = rows DL (l ++ [⟨f, g, h, i⟩]) := by simp [rows, DL]

theorem PD : A5 Tryz.prog 43 (Spec.gen Nn) := by
 refine Bt (O5.at_ 31) Tryz.func43 rfl rfl rfl ?_
 intro args bl p r bf hg hp
 unfold Nn at hg
 split at hg
 rename_i ty t a n vt sz xs
 simp only [Option.some.injEq, Prod.mk.injEq] at hg
 obtain ⟨rfl, rfl, rfl⟩ := hg
 obtain ⟨rfl, rfl, rfl, he, rfl, ha0, hal, htl, hqa⟩ := hp
 generalize C3 xs = q at *
 subst he
 obtain ⟨a, rfl⟩ := Int.eq_ofNat_of_zero_le ha0
 simp only [Int.toNat_natCast] at *
 have hal : a ≤ t.length := by omega
 have hqa : q.length ≤ a := by omega
 obtain ⟨k1, k2⟩ := EH hal
 have hT : (O5).X = T := rfl
 have hx0 := And.intro @Cu (And.intro @Ct (And.intro @Int.toNat_natCast (And.intro @Re.eq_1 (And.intro @AX (And.intro @A0 @Tryz.results43)))))
 have hx := hx0
 refine ⟨Nat.le_of_ble_eq_true rfl, ?_⟩
 intro F W0 M0 hnp hmk
 have hnp : AU.np = 2 := hnp
 refine Aw ?_
 refine A9 (σ := Nat) (fun s => (fun i => a ≤ i ∧ i ≤ t.length ∧ EY t i = EY t a) s)
  (fun s => (fun i => [(0, .ptr 0 0 0)]) s)
  (fun s => (fun i => [some (.one 75 [.d (.str t), .d (.int .i64 (i : Nat)), .sl 1 0 q.length]), some (.vec 55 4 (rows DL q))]) s) (fun s => (fun i => t.length - i) s) hnp a ?_ [some 0, some 1] ?_ ?_
 dsimp only
 exact ⟨Nat.le_refl _, hal, rfl⟩
 dsimp only
 refine ⟨by rfl, ?_, ?_⟩
 refine Aj ?_
 exact At
 refine Aj ?_
 exact At
 rintro i hinv N1 h1
 dsimp only at hinv ⊢
 obtain ⟨i1, i2, i3⟩ := hinv
 refine Aa fun N2 h2 => ?_
 refine Aa fun N3 h3 => ?_
 rcases Nat.lt_or_ge i t.length with hit | hit
 obtain ⟨c, hc⟩ := Cb (l := t) (i := i) hit
 have f1 : ((i : Int) < (t.length : Int)) = True := eq_true (by omega)
 have hx := And.intro @f1 (And.intro @hc hx0)
 refine Ad ?_
 try refine Ac ?_
 refine Ae ?_
 refine Bn ?_
 refine Au ?_
 refine Ar ?_
 refine Ae ?_
 refine Bn ?_
 refine Au ?_
 refine Ar ?_
 refine Bm ?_
 refine Am ?_
 refine Ae ?_
 refine Cy ?_
 refine Vf ?_
 refine D7 ?_
 refine DJ ?_
 refine Cy ?_
 refine Vf ?_
 refine D7 ?_
 refine DJ ?_
 refine D7 ?_
 refine Fz ?_
 refine AQ ?_
 refine Ab ?_
 have hx := hx0
 refine h3 _ ?_; clear h3
 refine Al (fun hb4 => ?_) (fun hb4 => ?_)
 have h32 : c = 32 := by have := hb4; first | exact UInt8.toNat_inj.1 (show c.toNat = 32 by (try simp at this); omega) | (simpa using this)
 subst h32
 have hst := Tr hc
 refine An ?_
 try simp only [Af]
 refine h2 _ ?_; clear h2
 refine Aw ?_
 refine Ad ?_
 try refine Ac ?_
 refine Ae ?_
 refine Bn ?_
 refine Au ?_
 refine Ar ?_
 refine Am ?_
 refine Bn ?_
 refine Au ?_
 refine A8 ?_
 refine Ab ?_
 refine h1 _ ⟨i + 1, ?_, ?_, [some 0, some 1], ?_⟩
 dsimp only
 exact ⟨by omega, by omega, by rw [hst]; exact i3⟩
 dsimp only
 omega
 dsimp only
 refine ⟨by rfl, ?_, ?_⟩
 refine Aj ?_
 exact At
 refine Aj ?_
 exact At
 have hst := ML (t := t) (i := i) (by rw [hc]; intro he; cases he; have := hb4; simp at this)
 refine Be ?_
 simp only [Af, Nat.reduceEqDiff, reduceIte, eq_self]
 rw [← i3, hst]
 refine Aj ?_
 refine ⟨[some 0, some 1], by rfl, ?_, ?_⟩
 refine Aj ?_
 exact At
 refine Aj ?_
 exact At
 have f1 : ((i : Int) < (t.length : Int)) = False := eq_false (by omega)
 have hc := f1
 have hx := And.intro @f1 (And.intro @hc hx0)
 refine Ad ?_
 try refine Ac ?_
 refine Ae ?_
 refine Bn ?_
 refine Au ?_
 refine Ar ?_
 refine Ae ?_
 refine Bn ?_
 refine Au ?_
 refine Ar ?_
 refine Bm ?_
 refine Am ?_
 refine Ae ?_
 refine Av ?_ ?_
 focus (exact Bl)
 refine Av ?_ ?_
 focus (exact Bl)
 refine Av ?_ ?_
 focus (exact Bl)
 refine Av ?_ ?_
 focus (exact Bl)
 refine Av ?_ ?_
 focus (exact Bl)
 refine Av ?_ ?_
 focus (exact Bl)
 refine Av ?_ ?_
 focus (exact Bl)
 refine Av ?_ ?_
 focus (exact Bl)
 refine Av ?_ ?_
 focus (exact Bl)
 refine Av ?_ ?_
 focus (exact Bl)
 refine AQ ?_
 refine Ab ?_
 have hx := hx0
 refine h3 _ ?_; clear h3
 refine Al (fun hb5 => ?_) (fun hb5 => ?_)
 ·first | omega | exact absurd trivial hb5 | contradiction | (simp_all; done)
 have hst := ML (t := t) (i := i) (by rw [List.getElem?_eq_none hit]; intro h; cases h)
 refine Be ?_
 simp only [Af, Nat.reduceEqDiff, reduceIte, eq_self]
 rw [← i3, hst]
 refine Aj ?_
 refine ⟨[some 0, some 1], by rfl, ?_, ?_⟩
 refine Aj ?_
 exact At
 refine Aj ?_
 exact At
 cases hg

def O2 : Bo Tryz.prog := O5.add 43 (Spec.gen Nn) PD (by kernel_rfl)

theorem Qv : A5 Tryz.prog 64 (Spec.gen Jg) := by
 refine Bt (O2.at_ 24) Tryz.func64 rfl rfl rfl ?_
 intro args bl p r bf hg hp
 unfold Jg at hg
 split at hg
 rename_i ty t a n vt sz xs
 simp only [Option.some.injEq, Prod.mk.injEq] at hg
 obtain ⟨rfl, rfl, rfl⟩ := hg
 obtain ⟨rfl, rfl, rfl, he, rfl, ha0, hal, htl, hqa⟩ := hp
 generalize C3 xs = q at *
 subst he
 obtain ⟨a, rfl⟩ := Int.eq_ofNat_of_zero_le ha0
 simp only [Int.toNat_natCast] at *
 have hal : a ≤ t.length := by omega
 have hqa : q.length ≤ a := by omega
 obtain ⟨k1, k2⟩ := EH hal
 have hpr := Em hqa hal htl
 generalize hB : EY t a = B at *
 have hT : (O2).X = T := rfl
 have hx0 := And.intro @Cu (And.intro @Ct (And.intro @Int.toNat_natCast (And.intro @Re.eq_1 (And.intro @AX (And.intro @A0 @Tryz.results64)))))
 have hx := hx0
 refine ⟨Nat.le_of_ble_eq_true rfl, ?_⟩
 intro F W0 M0 hnp hmk
 have hnp : AU.np = 2 := hnp
 refine Aa fun N1 h1 => ?_
 refine Ad ?_
 try refine Ac ?_
 refine Ae ?_
 refine Ab ?_
 refine h1 _ ?_; clear h1
 refine Aa fun N2 h2 => ?_
 refine Aa fun N3 h3 => ?_
 have hx := And.intro @hB hx0
 refine Ad ?_
 try refine Ac ?_
 refine Ae ?_
 have hc := Ah (E := (O2.at_ 24)) (f := 43) (sp := Spec.gen Nn) rfl
 have hs := @Nn.eq_1
 refine BD (hq := by (first | (exact hpr) | exact Ay)) ?_
 refine Ab ?_
 have hx := hx0
 refine h3 _ ?_; clear h3
 refine Aa fun N4 h4 => ?_
 refine Ad ?_
 try refine Ac ?_
 refine Ae ?_
 refine Bn ?_
 refine Au ?_
 refine Ar ?_
 refine Ae ?_
 refine Bn ?_
 refine Au ?_
 refine Ar ?_
 refine Bm ?_
 refine Am ?_
 refine Ab ?_
 refine h4 _ ?_; clear h4
 refine Al (fun hb5 => ?_) (fun hb5 => ?_)
 have hbl : B < t.length := by have := hb5; (try simp at this); omega
 obtain ⟨c, hc⟩ := Cb (l := t) (i := B) hbl
 have hgd : t.getD B 0 = c := by rw [List.getD_eq_getElem?_getD, hc]; rfl
 rw [hgd]
 refine Aa fun N6 h6 => ?_
 have hx := And.intro @hc hx0
 refine Ad ?_
 try refine Ac ?_
 refine Ae ?_
 refine Bn ?_
 refine Au ?_
 refine Ar ?_
 refine Ae ?_
 refine Bn ?_
 refine Au ?_
 refine Ar ?_
 refine Au ?_
 refine Ae ?_
 refine Ab ?_
 have hx := hx0
 refine h6 _ ?_; clear h6
 refine Ao ?_
 try simp only [Af]
 refine Aj ?_
 refine ⟨[some 0, some 1], by rfl, ?_, ?_⟩
 refine Aj ?_
 ·(repeat' apply And.intro) <;> (first | (first | rfl | exact Or.inl rfl | trivial | (rw [hgd]; exact Or.inl rfl) | exact At | omega) | exact At)
 refine Aj ?_
 ·(repeat' apply And.intro) <;> (first | (first | rfl | exact Or.inl rfl | trivial | (rw [hgd]; exact Or.inl rfl) | exact At | omega) | exact At)
 have hgd : t.getD B 0 = 0 := by rw [List.getD_eq_getElem?_getD, List.getElem?_eq_none (by have := hb5; (try simp at this); omega)]; rfl
 rw [hgd]
 refine An ?_
 try simp only [Af]
 refine h2 _ ?_; clear h2
 refine Aa fun N7 h7 => ?_
 refine Ad ?_
 try refine Ac ?_
 refine Ae ?_
 refine Ab ?_
 refine h7 _ ?_; clear h7
 refine Ao ?_
 try simp only [Af]
 refine Aj ?_
 refine ⟨[some 0, some 1], by rfl, ?_, ?_⟩
 refine Aj ?_
 ·(repeat' apply And.intro) <;> (first | (first | rfl | exact Or.inl rfl | trivial | (rw [hgd]; exact Or.inl rfl) | exact At | omega) | exact At)
 refine Aj ?_
 ·(repeat' apply And.intro) <;> (first | (first | rfl | exact Or.inl rfl | trivial | (rw [hgd]; exact Or.inl rfl) | exact At | omega) | exact At)
 cases hg

def Rj : Bo Tryz.prog := O2.add 64 (Spec.gen Jg) Qv (by kernel_rfl)

theorem Nk : A5 Tryz.prog 65 (Spec.gen IC) := by
 refine Bt (Rj.at_ 21) Tryz.func65 rfl rfl rfl ?_
 intro args bl p r bf hg hp
 unfold IC at hg
 split at hg
 rename_i f g h i ty t a n vt sz xs
 simp only [Option.some.injEq, Prod.mk.injEq] at hg
 obtain ⟨rfl, rfl, rfl⟩ := hg
 obtain ⟨rfl, rfl, rfl, he, rfl, hl⟩ := hp
 generalize C3 xs = q at *
 subst he
 have hap := JQ q f g h i
 have hT : (Rj).X = T := rfl
 have hx0 := And.intro @Cu (And.intro @Ct (And.intro @AX (And.intro @A0 (And.intro @Re.eq_1 @Tryz.results65))))
 have hx := hx0
 refine ⟨Nat.le_of_ble_eq_true rfl, ?_⟩
 intro F W0 M0 hnp hmk
 have hnp : AU.np = 2 := hnp
 refine Aa fun N1 h1 => ?_
 refine Ad ?_
 try refine Ac ?_
 refine FU (hq := by exact AW) ?_
 refine Ae (hq := by exact AW) ?_
 refine Ab ?_
 refine h1 _ ?_; clear h1
 refine Aa fun N2 h2 => ?_
 refine Ad ?_
 try refine Ac ?_
 iterate 2 refine Ae (hq := by exact AW) ?_
 refine Bn (hq := by exact AW) ?_
 refine Au (hq := by exact AW) ?_
 iterate 2 refine Ar (hq := by exact AW) ?_
 refine GE (hq := by exact AW) ?_
 refine Ij (hq := by exact AW) ?_
 refine Bn (hq := by exact AW) ?_
 refine Au (hq := by exact AW) ?_
 refine A8 (hq := by exact AW) ?_
 refine Ab ?_
 refine h2 _ ?_; clear h2
 refine Aa fun N3 h3 => ?_
 refine Ad ?_
 try refine Ac ?_
 refine Ae (hq := by exact AW) ?_
 refine Bn (hq := by exact AW) ?_
 refine Au (hq := by exact AW) ?_
 refine Ar (hq := by exact AW) ?_
 refine Bm (hq := by exact AW) ?_
 refine Am (hq := by exact AW) ?_
 refine Ae (hq := by exact AW) ?_
 refine Ab ?_
 refine h3 _ ?_; clear h3
 refine Ao ?_
 try simp only [Af]
 refine Aj ?_
 refine ⟨[some 0, some 1, some 4], by rfl, ?_, ?_⟩
 refine Aj ?_
 ·(repeat' apply And.intro) <;> (first | (first | rfl | (rw [hap]; done) | (rw [List.take_length, hap]; done) | (rw [List.take_of_length_le (Nat.le_refl _), hap]; done) | omega) | exact At)
 refine Aj ?_
 ·(repeat' apply And.intro) <;> (first | (first | rfl | (rw [hap]; done) | (rw [List.take_length, hap]; done) | (rw [List.take_of_length_le (Nat.le_refl _), hap]; done) | omega) | exact At)
 cases hg

def VA : Bo Tryz.prog := Rj.add 65 (Spec.gen IC) Nk (by kernel_rfl)
end Go.Proofs.YtmbjnkgpcbpclaaGreat
