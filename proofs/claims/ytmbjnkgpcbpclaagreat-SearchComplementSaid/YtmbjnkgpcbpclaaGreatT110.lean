/- Walks, printed by wip/gen/walk.py. -/
import Derived.Test.YtmbjnkgpcbpclaaGreatT72
import Derived.Test.YtmbjnkgpcbpclaaGreatV7
import Derived.Test.YtmbjnkgpcbpclaaGreatV5
set_option linter.all false
set_option maxRecDepth 100000
set_option maxHeartbeats 4000000
namespace Go.Proofs.YtmbjnkgpcbpclaaGreat
open Go Go.Vc Go.RowKit
def Lg (kd : Int) (a b : Bool) : Bool := if kd = 2 then a && b else a || b
def Ja (l : List Int) (P : List AM) (n : Sn) (S : List (List Int)) : List Int :=
  if n.kd = 1 then Dl l P n.tx (n.tx.length - 2) else if n.kd = 4 then l
  else l.filter fun t => Lg n.kd (decide (t ∈ S.getD n.lf.toNat [])) (decide (t ∈ S.getD n.rt.toNat []))
def Dg (l : List Int) (P : List AM) (q : List Sn) : Nat → List (List Int)
  | 0 => []
  | i + 1 => Dg l P q i ++ [Ja l P (q.getD i default) (Dg l P q i)]
theorem Ez (l : List Int) (P : List AM) (q : List Sn) : ∀ i, (Dg l P q i).length = i
  | 0 => rfl
  | i + 1 => by simp [Dg, Ez l P q i]
def Ib (l : List Int) (P : List AM) (q : List Sn) : List Int := (Dg l P q q.length).getD (q.length - 1) []
theorem S5 (l : List Int) (P : List AM) (n : Sn) (S : List (List Int)) : (Ja l P n S).length ≤ l.length := by
  unfold Ja
  split
  · exact Hw _ _ _ _
  · split
    · exact Nat.le_refl _
    · exact List.length_filter_le _ _
theorem Kl {l : List Int} {P : List AM} {q : List Sn} {i : Nat} {x : Sn} (h : q.getD i default = x) : Dg l P q (i + 1) = Dg l P q i ++ [Ja l P x (Dg l P q i)] := by rw [← h]; rfl
theorem GZ {l : List Int} {P : List AM} {q : List Sn} : ∀ {i : Nat}, ∀ s ∈ Dg l P q i, s.length ≤ l.length
  | 0, s, h => by cases h
  | i + 1, s, h => by
    rcases List.mem_append.1 h with h | h
    · exact GZ s h
    · rw [List.mem_singleton.1 h]; exact S5 _ _ _ _
theorem Wk {l : List Int} {P : List AM} {a c e : Int} {b : Bs} {S : List (List Int)} (h : a = 1) : Ja l P ⟨a, b, c, e⟩ S = Dl l P b (b.length - 2) := if_pos h
theorem Wm {l : List Int} {P : List AM} {a c e : Int} {b : Bs} {S : List (List Int)} (h : a = 4) : Ja l P ⟨a, b, c, e⟩ S = l := by unfold Ja; dsimp only; rw [if_neg (by omega), if_pos h]
theorem Wl {l : List Int} {P : List AM} {a c e : Int} {b : Bs} {S : List (List Int)} {x y : List Int} (h1 : a ≠ 1) (h4 : a ≠ 4) (hx : S[c.toNat]? = some x) (hy : S[e.toNat]? = some y) : Ja l P ⟨a, b, c, e⟩ S = l.filter fun t => Lg a (decide (t ∈ x)) (decide (t ∈ y)) := by
  unfold Ja; dsimp only; rw [if_neg h1, if_neg h4, List.getD_eq_getElem?_getD, List.getD_eq_getElem?_getD, hx, hy]; rfl
def H7 (l : List Int) (kd : Int) (x y : List Int) (j : Nat) : List Int := (l.take j).filter fun t => Lg kd (decide (t ∈ x)) (decide (t ∈ y))
theorem Qk {l : List Int} {kd : Int} {x y : List Int} {j : Nat} {t : Int} (h : l[j]? = some t) : H7 l kd x y (j + 1) = H7 l kd x y j ++ if Lg kd (decide (t ∈ x)) (decide (t ∈ y)) = true then [t] else [] := by
 unfold H7
 rw [List.take_add_one, h, List.filter_append]
 congr 1
 by_cases hb : Lg kd (decide (t ∈ x)) (decide (t ∈ y)) = true
 ·rw [if_pos hb]; simp [hb]
 ·rw [if_neg hb]; simp [hb]
theorem S3 (l : List Int) (kd : Int) (x y : List Int) : H7 l kd x y l.length = l.filter fun t => Lg kd (decide (t ∈ x)) (decide (t ∈ y)) := by unfold H7; rw [List.take_length]
theorem S4 (l : List Int) (kd : Int) (x y : List Int) (j : Nat) : (H7 l kd x y j).length ≤ l.length := Nat.le_trans (List.length_filter_le _ _) (by rw [List.length_take]; omega)
def D4 (S : List (List Int)) (n : Nat) : List (List D) := S.map (fun s => [D.sl (rows eI s)]) ++ List.replicate (n - S.length) [.raw FM]
theorem Hj {S : List (List Int)} {n : Nat} (h : S.length ≤ n) : (D4 S n).length = n := by unfold D4; simp; omega
theorem T7 {S : List (List Int)} {n j : Nat} {s : List Int} (h : S[j]? = some s) : (D4 S n)[j]? = some [.sl (rows eI s)] := by
  have hj := (List.getElem?_eq_some_iff.1 h).1
  unfold D4
  rw [List.getElem?_append_left (by rw [List.length_map]; exact hj), List.getElem?_map, h]; rfl
theorem T9 {S : List (List Int)} {n : Nat} (x : List Int) (h : S.length < n) : (D4 S n).set S.length [.sl (rows eI x)] = D4 (S ++ [x]) n := by
  unfold D4
  obtain ⟨d, hd⟩ : ∃ d, n - S.length = d + 1 := ⟨n - S.length - 1, by omega⟩
  have e : n - (S ++ [x]).length = d := by simp; omega
  rw [hd, e, List.replicate_succ, List.set_append_right _ _ (by rw [List.length_map]; exact Nat.le_refl _), List.length_map, Nat.sub_self]
  simp
theorem T8 {S : List (List Int)} {n : Nat} (h : S.length < n) : (D4 S n)[S.length]? = some [.raw FM] := by
  unfold D4
  rw [List.getElem?_append_right (by rw [List.length_map]; exact Nat.le_refl _), List.length_map, Nat.sub_self, List.getElem?_replicate, if_pos (by omega)]
theorem Ky (S : List (List Int)) (n : Nat) : Cs 1 (D4 S n) := by
  intro x hx
  unfold D4 at hx
  rcases List.mem_append.1 hx with hx | hx
  · obtain ⟨s, _, rfl⟩ := List.mem_map.1 hx; rfl
  · rw [(List.mem_replicate.1 hx).2]; rfl
theorem Q3 {xs : List (List D)} {i : Nat} {d : D} (h : Cs 1 xs) : Cs 1 (xs.set i [d]) := by
  intro x hx
  rcases List.mem_or_eq_of_mem_set hx with hx | rfl
  · exact h x hx
  · rfl
def Q6 (S : List (List Int)) (n : Nat) (v : Value) : List (List D) := if S = [] then D4 [] n else (D4 S.dropLast n).set (S.length - 1) [.raw v]
def Rw (S : List (List Int)) (v : Value) : List (Value × List (List D)) := if S = [] then [] else [(v, rows eI (S.getD (S.length - 1) []))]
theorem CW (S : List (List Int)) (s : List Int) (n : Nat) (v : Value) : Q6 (S ++ [s]) n v = (D4 S n).set S.length [.raw v] := by
  unfold Q6; rw [if_neg (by simp), List.dropLast_concat]; simp
theorem BW (S : List (List Int)) (s : List Int) (v : Value) : Rw (S ++ [s]) v = [(v, rows eI s)] := by
  unfold Rw; rw [if_neg (by simp)]; simp
theorem Tl {S : List (List Int)} {n : Nat} {v : Value} (h : S.length ≤ n) : (Rw S v = [] ∧ D4 S n = Q6 S n v) ∨ ∃ u ys, Rw S v = [(u, ys)] ∧ (Q6 S n v)[S.length - 1]? = some [.raw u] ∧ D4 S n = (Q6 S n v).set (S.length - 1) [.sl ys] := by
  by_cases h0 : S = []
  · subst h0; exact .inl ⟨rfl, rfl⟩
  · obtain ⟨T, s, rfl⟩ : ∃ T s, S = T ++ [s] := ⟨S.dropLast, S.getLast h0, (List.dropLast_concat_getLast h0).symm⟩
    rw [List.length_append, List.length_singleton] at h
    have hl : (T ++ [s]).length - 1 = T.length := by simp
    refine .inr ⟨v, rows eI s, BW _ _ _, ?_, ?_⟩
    · rw [CW, hl, List.getElem?_set, if_pos rfl, if_pos (by rw [Hj (by omega)]; omega)]
    · rw [CW, hl, List.set_set, T9 _ (by omega)]
def Vt (rs : List (List D)) (k : Nat) : List Int := match rs.getD k [] with
  | [.sl xs] => dI xs
  | _ => []
theorem R9 {rs : List (List D)} {k : Nat} {s : List Int} (h : rs[k]? = some [.sl (rows eI s)]) : Vt rs k = s := by
  unfold Vt; rw [List.getD_eq_getElem?_getD, h]; exact AJ s
def Fb : Dr
  | [.d (.int .i64 k), .d (.int .i64 t), .ptr 0 0 0], [some (.one ty [.sl 1 0 n]), some (.vec vt sz rs)] => some (ty = 107 ∧ vt = 27 ∧ sz = 1 ∧ n = rs.length ∧ 0 ≤ k ∧ rs[k.toNat]? = some [.sl (rows eI (Vt rs k.toNat))] ∧ (Vt rs k.toNat).length ≤ 1000000, .d (.bool (decide (t ∈ Vt rs k.toNat))), [some (.one 107 [.sl 1 0 rs.length]), some (.vec 27 1 rs)])
  | _, _ => none
def IK : Dr
  | [.agg [.d (.sl xs), .d (.sl ps)], .d (.str s)], [] => some (xs = rows eI (dI xs) ∧ (dI xs).length ≤ 9223372036854775807 ∧ ps = rows eP (dP ps) ∧ (dP ps).length ≤ 9223372036854775807 ∧ Fo (dP ps) ∧ s.length ≤ 9223372036854775807,
      .tup [.sl 0 0 (DR (dI xs) (dP ps) s).length, .agg [.d (.int .i64 (Dt (dI xs) (dP ps) s).1), .d (.int .i64 (Dt (dI xs) (dP ps) s).2)]], [some (.vec 3 1 (rows eI (DR (dI xs) (dP ps) s)))])
  | _, _ => none

theorem PK : A5 Tryz.prog 74 (Spec.gen Fb) := by
 refine Bt (O4.at_ 12) Tryz.func74 rfl rfl rfl ?_
 intro args bl p r bf hg hp
 unfold Fb at hg
 split at hg
 rename_i k t ty n vt sz rs
 simp only [Option.some.injEq, Prod.mk.injEq] at hg
 obtain ⟨rfl, rfl, rfl⟩ := hg
 obtain ⟨rfl, rfl, rfl, rfl, h0, hk, hl⟩ := hp
 generalize Vt rs k.toNat = s at *
 have hkl := (List.getElem?_eq_some_iff.1 hk).1
 have hT : (O4).X = T := rfl
 have hx0 := And.intro @AJ @Tryz.results74
 have hx := hx0
 refine ⟨Nat.le_of_ble_eq_true rfl, ?_⟩
 intro F W0 M0 hnp hmk
 have hnp : AU.np = 2 := hnp
 refine Aa fun N1 h1 => ?_
 refine Ad ?_
 try refine Ac ?_
 refine Ae ?_
 refine Ab ?_
 refine h1 _ ?_; clear h1
 refine Aa fun N2 h2 => ?_
 have hx := And.intro @hk hx0
 refine Ad ?_
 try refine Ac ?_
 refine Ar (hq := by (first | (first | omega | exact ⟨trivial, by omega⟩ | exact ⟨rfl, by omega⟩ | exact hl) | exact Ay)) ?_
 refine Ae (hq := by (first | (first | omega | exact ⟨trivial, by omega⟩ | exact ⟨rfl, by omega⟩ | exact hl) | exact Ay)) ?_
 refine Au (hq := by (first | (first | omega | exact ⟨trivial, by omega⟩ | exact ⟨rfl, by omega⟩ | exact hl) | exact Ay)) ?_
 refine Ar (hq := by (first | (first | omega | exact ⟨trivial, by omega⟩ | exact ⟨rfl, by omega⟩ | exact hl) | exact Ay)) ?_
 refine Ae (hq := by (first | (first | omega | exact ⟨trivial, by omega⟩ | exact ⟨rfl, by omega⟩ | exact hl) | exact Ay)) ?_
 have hc := Ah (E := (O4.at_ 12)) (f := 73) (sp := Spec.pure C2) rfl
 have hs := @C2.eq_1
 refine BF (hq := by (first | (first | omega | exact ⟨trivial, by omega⟩ | exact ⟨rfl, by omega⟩ | exact hl) | exact Ay)) ?_
 refine Ae (hq := by (first | (first | omega | exact ⟨trivial, by omega⟩ | exact ⟨rfl, by omega⟩ | exact hl) | exact Ay)) ?_
 refine Ab ?_
 have hx := hx0
 refine h2 _ ?_; clear h2
 refine Ao ?_
 try simp only [Af]
 refine Aj ?_
 refine ⟨[some 0, some 1], by rfl, ?_, ?_⟩
 refine Aj ?_
 exact At
 refine Aj ?_
 exact At
 cases hg

def Ed : Bo Tryz.prog := O4.add 74 (Spec.gen Fb) PK (by kernel_rfl)

theorem LO : A5 Tryz.prog 75 (Spec.fresh IK) := by
 refine E7 (Ed.at_ 47) Tryz.func75 rfl rfl rfl ?_
 intro args bl p r bf hg hp
 unfold IK at hg
 split at hg
 rename_i xs ps u
 simp only [Option.some.injEq, Prod.mk.injEq] at hg
 obtain ⟨rfl, rfl, rfl⟩ := hg
 obtain ⟨he, hl, he2, hl2, hsm, hsl⟩ := hp
 generalize dI xs = l at *
 generalize dP ps = P at *
 subst he he2
 have hT : (Ed).X = T := rfl
 have hx0 := And.intro @EB (And.intro @AJ (And.intro @Cu (And.intro @Ct @Tryz.results75)))
 have hx := hx0
 refine ⟨Nat.le_of_ble_eq_true rfl, ?_⟩
 intro F W0 M0 hnp hmk
 have hnp : AU.np = 0 := hnp
 refine Aa fun N1 h1 => ?_
 refine Ad ?_
 try refine Ac ?_
 refine FU ?_
 refine Ae ?_
 refine B8 ?_
 refine Ab ?_
 refine h1 _ ?_; clear h1
 refine Aa fun N2 h2 => ?_
 refine Aa fun N3 h3 => ?_
 have hx := And.intro @B6 hx0
 refine Ad ?_
 try refine Ac ?_
 refine Ar ?_
 have hc := Ah (E := (Ed.at_ 47)) (f := 49) (sp := Spec.pure EZ) rfl
 have hs := @EZ.eq_1
 refine BF ?_
 refine B8 ?_
 refine A8 ?_
 refine Ab ?_
 have hx := hx0
 refine h3 _ ?_; clear h3
 refine Aa fun N4 h4 => ?_
 rcases Lz l P with hvx | hvx
 have hz1 : (Ca l P).1 = 0 := by rw [hvx]
 have hz2 : (Ca l P).2 = 0 := by rw [hvx]
 have hv := Ov hz1
 have hlen20 := hv.tlen
 have hpl := hv.plen
 refine Ad ?_
 try refine Ac ?_
 refine Ar ?_
 refine BC ?_
 refine Am ?_
 refine Ab ?_
 refine h4 _ ?_; clear h4
 refine Al (fun hb5 => ?_) (fun hb5 => ?_)
 exact absurd (And.intro hz1 hz2) (by have := hb5; simpa using this)
 refine An ?_
 try simp only [Af]
 refine h2 _ ?_; clear h2
 refine Aa fun N6 h6 => ?_
 refine Aa fun N7 h7 => ?_
 refine Ad ?_
 try refine Ac ?_
 refine Ae ?_
 refine Bm ?_
 refine Am ?_
 refine Ab ?_
 refine h7 _ ?_; clear h7
 refine Al (fun hb8 => ?_) (fun hb8 => ?_)
 refine Aa fun N9 h9 => ?_
 refine Ad ?_
 try refine Ac ?_
 refine BC ?_
 refine Ae ?_
 refine A8 ?_
 refine Ab ?_
 refine h9 _ ?_; clear h9
 refine Ao ?_
 try simp only [Af]
 have hr : Dt l P u = (10, -1) := by unfold Dt; rw [if_neg (by rw [hz1]; simp), if_pos (by have := hb8; omega)]
 have hr2 : DR l P u = [] := by unfold DR; rw [hr]; rfl
 rw [hr, hr2]
 refine Aj ?_
 refine ⟨[none], by rfl, ?_, ?_⟩
 refine Aj ?_
 ·(repeat' apply And.intro) <;> (first | (first | rfl | exact Or.inl rfl | exact Or.inr rfl | trivial | omega | (rw [hr2]; rfl) | (simp [hr2]; done) | (rw [List.drop_zero, AH, List.take_length]; done)) | exact At)
 refine Aj ?_
 ·(repeat' apply And.intro) <;> (first | (first | rfl | exact Or.inl rfl | exact Or.inr rfl | trivial | omega | (rw [hr2]; rfl) | (simp [hr2]; done) | (rw [List.drop_zero, AH, List.take_length]; done)) | exact At)
 refine An ?_
 try simp only [Af]
 refine h6 _ ?_; clear h6
 refine Aa fun N10 h10 => ?_
 refine Ad ?_
 try refine Ac ?_
 refine Au ?_
 refine Ar ?_
 have hc := Ah (E := (Ed.at_ 47)) (f := 76) (sp := Spec.fresh (Fc 3)) rfl
 have hs := @Fc.eq_1
 refine BD (hq := by (first | (exact ⟨of_eq_true (BB l), by omega⟩) | exact Ay)) ?_
 refine Ae ?_
 refine Ab ?_
 refine h10 _ ?_; clear h10
 refine Aa fun N11 h11 => ?_
 refine Aa fun N12 h12 => ?_
 refine Ad ?_
 try refine Ac ?_
 refine Ae ?_
 refine Bm ?_
 iterate 2 refine Am ?_
 refine Ae ?_
 refine Ab ?_
 refine h12 _ ?_; clear h12
 refine Aw ?_
 refine A9 (σ := Nat) (fun s => (fun i => i ≤ u.length - 2) s)
  (fun s => (fun i => [(1, .d (.str u)), (2, .ptr 0 0 0), (5, .ptr 1 0 0), (7, .sl 2 0 (Dl l P u i).length), (27, .d (.int .i64 ((u.length : Int) - 3 + 1))), (28, .d (.int .i64 (i : Nat)))]) s)
  (fun s => (fun i => [some (.one 49 [.d (.sl (rows eI l)), .d (.sl (rows eP P))]), some (.one 29 [.d (.int .i64 0), .d (.int .i64 0)]), some (.vec 3 1 (rows eI (Dl l P u i)))]) s) (fun s => (fun i => u.length - i) s) hnp 0 ?_ [some 0, some 1, some 3] ?_ ?_
 dsimp only
 omega
 dsimp only
 refine ⟨by rfl, ?_, ?_⟩
 refine Aj ?_
 ·(repeat' apply And.intro) <;> (first | (first | rfl | trivial | (rw [Is]; done)) | exact At)
 refine Aj ?_
 ·(repeat' apply And.intro) <;> (first | (first | rfl | trivial | (rw [Is]; done)) | exact At)
 rintro i hinv N13 h13
 dsimp only at hinv ⊢
 have i1 := hinv
 have hcl := Hw l P u i
 refine Aa fun N14 h14 => ?_
 refine Ad ?_
 try refine Ac ?_
 refine Am ?_
 refine Ab ?_
 refine h14 _ ?_; clear h14
 refine Aa fun N15 h15 => ?_
 refine Al (fun hb16 => ?_) (fun hb16 => ?_)
 have hi3 : i + 3 ≤ u.length := by have := hb16; omega
 have hgr : List.take (((i : Int) + 3).toNat - i) (u.drop i) = gr u i := by unfold gr; congr 1; omega
 refine An ?_
 try simp only [Af]
 refine h15 _ ?_; clear h15
 refine Aa fun N17 h17 => ?_
 refine Aw ?_
 refine Aa fun N18 h18 => ?_
 refine Ad ?_
 try refine Ac ?_
 iterate 2 refine Ae ?_
 refine Ab ?_
 refine h18 _ ?_; clear h18
 refine Aa fun N19 h19 => ?_
 have hx := And.intro @hgr (And.intro @Vs (And.intro @Ss (And.intro @OJ hx0)))
 refine Fs [] (.seq [0, 1, 2, 3, 4, 5] (.alt 6 (.seq [7, 8, 9] (.alt 10 (.seq [11, 12, 13] .nil) (.alt 11 (.seq [10, 12, 13] .nil) .nil))) (.alt 10 (.alt 6 (.seq [7, 8, 9, 11, 12, 13] .nil) (.alt 11 (.seq [6, 7, 8, 9, 12, 13] .nil) .nil)) (.alt 11 (.alt 6 (.seq [7, 8, 9, 10, 12, 13] .nil) (.alt 10 (.seq [6, 7, 8, 9, 12, 13] .nil) .nil)) .nil)))) Gm (by kernel_rfl) ?_
 refine Bb ?_
 simp only [Ak, Ai]
 try refine Ac ?_
 refine Ar ?_
 iterate 3 refine Ae ?_
 refine Am ?_
 refine DI ?_
 refine Ab ?_
 refine AN ?_ ?_
 simp only [Ak, Ai]
 try refine Ac ?_
 have hc := Ah (E := (Ed.at_ 47)) (f := 78) (sp := Spec.pure CE) rfl
 have hs := @CE.eq_1
 refine BF (hq := by (first | (exact ⟨Dy P, DO hv.good.sort, by rw [List.length_map]; omega⟩) | exact Ay)) ?_
 refine Ab ?_
 refine Bb ?_
 simp only [Ak, Ai]
 try refine Ac ?_
 refine Ae ?_
 iterate 2 refine DH ?_
 refine Ab ?_
 refine AN ?_ ?_
 simp only [Ak, Ai]
 try refine Ac ?_
 refine B8 ?_
 refine Ab ?_
 refine Bb ?_
 simp only [Ak, Ai]
 try refine Ac ?_
 refine B8 ?_
 iterate 2 refine A8 ?_
 refine Ab ?_
 refine B9 ?_
 have hx := hx0
 refine h19 _ ?_; clear h19
 have hx := And.intro @B6 (And.intro @Cp hx0)
 refine Ad ?_
 try refine Ac ?_
 refine Ae ?_
 refine GF ?_
 have hc := Ah (E := (Ed.at_ 47)) (f := 57) (sp := Spec.gen C4) rfl
 have hs := @C4.eq_1
 refine BD (hq := by (first | (exact ⟨by omega, hsm, fun hb => ⟨by omega, by have := Ec hv.good.sort hb; omega⟩⟩) | exact Ay)) ?_
 refine Ae ?_
 refine Ab ?_
 have hx := hx0
 refine h17 _ ?_; clear h17
 refine Ad ?_
 try refine Ac ?_
 refine Am ?_
 refine Ae ?_
 refine Ab ?_
 refine h13 _ ⟨i + 1, ?_, ?_, [some 0, some 1, some 2], ?_⟩
 dsimp only
 omega
 dsimp only
 omega
 dsimp only
 refine ⟨by rfl, ?_, ?_⟩
 refine Aj ?_
 exact At
 refine Aj ?_
 exact At
 refine AN ?_ ?_
 simp only [Ak, Ai]
 try refine Ac ?_
 refine B8 ?_
 refine Ab ?_
 refine Bb ?_
 simp only [Ak, Ai]
 try refine Ac ?_
 refine B8 ?_
 iterate 2 refine A8 ?_
 refine Ab ?_
 refine B9 ?_
 have hx := hx0
 refine h19 _ ?_; clear h19
 have hx := And.intro @B6 (And.intro @Cp hx0)
 refine Ad ?_
 try refine Ac ?_
 refine Ae ?_
 refine GF ?_
 have hc := Ah (E := (Ed.at_ 47)) (f := 57) (sp := Spec.gen C4) rfl
 have hs := @C4.eq_1
 refine BD (hq := by (first | (exact ⟨by omega, hsm, fun hb => ⟨by omega, by have := Ec hv.good.sort hb; omega⟩⟩) | exact Ay)) ?_
 refine Ae ?_
 refine Ab ?_
 have hx := hx0
 refine h17 _ ?_; clear h17
 refine Ad ?_
 try refine Ac ?_
 refine Am ?_
 refine Ae ?_
 refine Ab ?_
 refine h13 _ ⟨i + 1, ?_, ?_, [some 0, some 1, some 2], ?_⟩
 dsimp only
 omega
 dsimp only
 omega
 dsimp only
 refine ⟨by rfl, ?_, ?_⟩
 refine Aj ?_
 exact At
 refine Aj ?_
 exact At
 exact Cl
 refine AN ?_ ?_
 simp only [Ak, Ai]
 try refine Ac ?_
 refine B8 ?_
 refine Ab ?_
 refine AN ?_ ?_
 simp only [Ak, Ai]
 try refine Ac ?_
 have hc := Ah (E := (Ed.at_ 47)) (f := 78) (sp := Spec.pure CE) rfl
 have hs := @CE.eq_1
 refine BF (hq := by (first | (exact ⟨Dy P, DO hv.good.sort, by rw [List.length_map]; omega⟩) | exact Ay)) ?_
 refine Ab ?_
 refine Bb ?_
 simp only [Ak, Ai]
 try refine Ac ?_
 refine Ae ?_
 iterate 2 refine DH ?_
 refine B8 ?_
 iterate 2 refine A8 ?_
 refine Ab ?_
 refine B9 ?_
 have hx := hx0
 refine h19 _ ?_; clear h19
 have hx := And.intro @B6 (And.intro @Cp hx0)
 refine Ad ?_
 try refine Ac ?_
 refine Ae ?_
 refine GF ?_
 have hc := Ah (E := (Ed.at_ 47)) (f := 57) (sp := Spec.gen C4) rfl
 have hs := @C4.eq_1
 refine BD (hq := by (first | (exact ⟨by omega, hsm, fun hb => ⟨by omega, by have := Ec hv.good.sort hb; omega⟩⟩) | exact Ay)) ?_
 refine Ae ?_
 refine Ab ?_
 have hx := hx0
 refine h17 _ ?_; clear h17
 refine Ad ?_
 try refine Ac ?_
 refine Am ?_
 refine Ae ?_
 refine Ab ?_
 refine h13 _ ⟨i + 1, ?_, ?_, [some 0, some 1, some 2], ?_⟩
 dsimp only
 omega
 dsimp only
 omega
 dsimp only
 refine ⟨by rfl, ?_, ?_⟩
 refine Aj ?_
 exact At
 refine Aj ?_
 exact At
 refine AN ?_ ?_
 simp only [Ak, Ai]
 try refine Ac ?_
 refine B8 ?_
 refine Ab ?_
 refine Bb ?_
 simp only [Ak, Ai]
 try refine Ac ?_
 have hc := Ah (E := (Ed.at_ 47)) (f := 78) (sp := Spec.pure CE) rfl
 have hs := @CE.eq_1
 refine BF (hq := by (first | (exact ⟨Dy P, DO hv.good.sort, by rw [List.length_map]; omega⟩) | exact Ay)) ?_
 refine Ae ?_
 iterate 2 refine DH ?_
 iterate 2 refine A8 ?_
 refine Ab ?_
 refine B9 ?_
 have hx := hx0
 refine h19 _ ?_; clear h19
 have hx := And.intro @B6 (And.intro @Cp hx0)
 refine Ad ?_
 try refine Ac ?_
 refine Ae ?_
 refine GF ?_
 have hc := Ah (E := (Ed.at_ 47)) (f := 57) (sp := Spec.gen C4) rfl
 have hs := @C4.eq_1
 refine BD (hq := by (first | (exact ⟨by omega, hsm, fun hb => ⟨by omega, by have := Ec hv.good.sort hb; omega⟩⟩) | exact Ay)) ?_
 refine Ae ?_
 refine Ab ?_
 have hx := hx0
 refine h17 _ ?_; clear h17
 refine Ad ?_
 try refine Ac ?_
 refine Am ?_
 refine Ae ?_
 refine Ab ?_
 refine h13 _ ⟨i + 1, ?_, ?_, [some 0, some 1, some 2], ?_⟩
 dsimp only
 omega
 dsimp only
 omega
 dsimp only
 refine ⟨by rfl, ?_, ?_⟩
 refine Aj ?_
 exact At
 refine Aj ?_
 exact At
 exact Cl
 refine AN ?_ ?_
 simp only [Ak, Ai]
 try refine Ac ?_
 refine B8 ?_
 refine Ab ?_
 refine AN ?_ ?_
 simp only [Ak, Ai]
 try refine Ac ?_
 have hc := Ah (E := (Ed.at_ 47)) (f := 78) (sp := Spec.pure CE) rfl
 have hs := @CE.eq_1
 refine BF (hq := by (first | (exact ⟨Dy P, DO hv.good.sort, by rw [List.length_map]; omega⟩) | exact Ay)) ?_
 refine Ab ?_
 refine Bb ?_
 simp only [Ak, Ai]
 try refine Ac ?_
 refine Ae ?_
 iterate 2 refine DH ?_
 refine B8 ?_
 iterate 2 refine A8 ?_
 refine Ab ?_
 refine B9 ?_
 have hx := hx0
 refine h19 _ ?_; clear h19
 have hx := And.intro @B6 (And.intro @Cp hx0)
 refine Ad ?_
 try refine Ac ?_
 refine Ae ?_
 refine GF ?_
 have hc := Ah (E := (Ed.at_ 47)) (f := 57) (sp := Spec.gen C4) rfl
 have hs := @C4.eq_1
 refine BD (hq := by (first | (exact ⟨by omega, hsm, fun hb => ⟨by omega, by have := Ec hv.good.sort hb; omega⟩⟩) | exact Ay)) ?_
 refine Ae ?_
 refine Ab ?_
 have hx := hx0
 refine h17 _ ?_; clear h17
 refine Ad ?_
 try refine Ac ?_
 refine Am ?_
 refine Ae ?_
 refine Ab ?_
 refine h13 _ ⟨i + 1, ?_, ?_, [some 0, some 1, some 2], ?_⟩
 dsimp only
 omega
 dsimp only
 omega
 dsimp only
 refine ⟨by rfl, ?_, ?_⟩
 refine Aj ?_
 exact At
 refine Aj ?_
 exact At
 refine AN ?_ ?_
 simp only [Ak, Ai]
 try refine Ac ?_
 refine B8 ?_
 refine Ab ?_
 refine Bb ?_
 simp only [Ak, Ai]
 try refine Ac ?_
 have hc := Ah (E := (Ed.at_ 47)) (f := 78) (sp := Spec.pure CE) rfl
 have hs := @CE.eq_1
 refine BF (hq := by (first | (exact ⟨Dy P, DO hv.good.sort, by rw [List.length_map]; omega⟩) | exact Ay)) ?_
 refine Ae ?_
 iterate 2 refine DH ?_
 iterate 2 refine A8 ?_
 refine Ab ?_
 refine B9 ?_
 have hx := hx0
 refine h19 _ ?_; clear h19
 have hx := And.intro @B6 (And.intro @Cp hx0)
 refine Ad ?_
 try refine Ac ?_
 refine Ae ?_
 refine GF ?_
 have hc := Ah (E := (Ed.at_ 47)) (f := 57) (sp := Spec.gen C4) rfl
 have hs := @C4.eq_1
 refine BD (hq := by (first | (exact ⟨by omega, hsm, fun hb => ⟨by omega, by have := Ec hv.good.sort hb; omega⟩⟩) | exact Ay)) ?_
 refine Ae ?_
 refine Ab ?_
 have hx := hx0
 refine h17 _ ?_; clear h17
 refine Ad ?_
 try refine Ac ?_
 refine Am ?_
 refine Ae ?_
 refine Ab ?_
 refine h13 _ ⟨i + 1, ?_, ?_, [some 0, some 1, some 2], ?_⟩
 dsimp only
 omega
 dsimp only
 omega
 dsimp only
 refine ⟨by rfl, ?_, ?_⟩
 refine Aj ?_
 exact At
 refine Aj ?_
 exact At
 exact Cl
 exact Cl
 have hie : i = u.length - 2 := by have := hb16; omega
 subst hie
 refine Be ?_
 simp only [Af, Nat.reduceEqDiff, reduceIte, eq_self]
 refine h11 _ ?_; clear h11
 refine Aa fun N20 h20 => ?_
 refine Ad ?_
 try refine Ac ?_
 refine Ae ?_
 refine BC ?_
 refine Ae ?_
 refine A8 ?_
 refine Ab ?_
 refine h20 _ ?_; clear h20
 refine Ao ?_
 try simp only [Af]
 have hr : Dt l P u = (0, 0) := by unfold Dt; rw [if_neg (by rw [hz1]; simp), if_neg (by have := hb8; omega)]
 have hr2 : DR l P u = Dl l P u (u.length - 2) := by unfold DR; rw [hr]; rfl
 rw [hr, hr2]
 refine Aj ?_
 refine ⟨[some 2], by rfl, ?_, ?_⟩
 refine Aj ?_
 ·(repeat' apply And.intro) <;> (first | (first | rfl | exact Or.inl rfl | exact Or.inr rfl | trivial | omega | (rw [hr2]; rfl) | (simp [hr2]; done) | (rw [List.drop_zero, AH, List.take_length]; done)) | exact At)
 refine Aj ?_
 ·(repeat' apply And.intro) <;> (first | (first | rfl | exact Or.inl rfl | exact Or.inr rfl | trivial | omega | (rw [hr2]; rfl) | (simp [hr2]; done) | (rw [List.drop_zero, AH, List.take_length]; done)) | exact At)
 have hz1 := hvx
 have hz2 := hvx
 refine Ad ?_
 try refine Ac ?_
 refine Ar ?_
 refine BC ?_
 refine Am ?_
 refine Ab ?_
 refine h4 _ ?_; clear h4
 refine Al (fun hb21 => ?_) (fun hb21 => ?_)
 refine Aa fun N22 h22 => ?_
 refine Ad ?_
 try refine Ac ?_
 refine Ar ?_
 refine Ae ?_
 refine A8 ?_
 refine Ab ?_
 refine h22 _ ?_; clear h22
 refine Ao ?_
 try simp only [Af]
 have hr : Dt l P u = Ca l P := by unfold Dt; rw [if_pos hz1]
 have hr2 : DR l P u = [] := by unfold DR; rw [hr, if_pos hz1]
 rw [hr, hr2]
 refine Aj ?_
 refine ⟨[none], by rfl, ?_, ?_⟩
 refine Aj ?_
 ·(repeat' apply And.intro) <;> (first | (first | rfl | exact Or.inl rfl | exact Or.inr rfl | trivial | omega | (rw [hr2]; rfl) | (simp [hr2]; done) | (rw [List.drop_zero, AH, List.take_length]; done)) | exact At)
 refine Aj ?_
 ·(repeat' apply And.intro) <;> (first | (first | rfl | exact Or.inl rfl | exact Or.inr rfl | trivial | omega | (rw [hr2]; rfl) | (simp [hr2]; done) | (rw [List.drop_zero, AH, List.take_length]; done)) | exact At)
 exact absurd (show (Ca l P).1 = 0 by have := hb21; first | exact this.1 | exact (Classical.not_not.1 this).1 | (simp at this; exact this.1)) hz1
 cases hg

def CS : Bo Tryz.prog := Ed.add 75 (Spec.fresh IK) LO (by kernel_rfl)
end Go.Proofs.YtmbjnkgpcbpclaaGreat
