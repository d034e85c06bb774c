/- Walks, printed by wip/gen/walk.py. -/
import Derived.Test.YtmbjnkgpcbpclaaGreatT71
import Derived.Test.YtmbjnkgpcbpclaaGreatV5
import Derived.Test.YtmbjnkgpcbpclaaGreatV7
set_option linter.all false
set_option maxRecDepth 100000
set_option maxHeartbeats 4000000
namespace Go.Proofs.YtmbjnkgpcbpclaaGreat
open Go Go.Vc Go.RowKit
def X3 : List Sn := [⟨1, [98], 0, 0⟩, ⟨1, [97], 0, 0⟩, ⟨4, [], 1, 0⟩, ⟨2, [], 0, 2⟩]
theorem WO : Ro [34, 98, 34, 32, 38, 32, 33, 34, 97, 34] = some X3 := by kernel_rfl
theorem Vk : WS [[97, 98, 99], [98], [99]] X3 = (0, 0, [1]) := by kernel_rfl
theorem WM : Kd X3 = (0, 0, [34, 98, 34, 32, 38, 32, 33, 34, 97, 34]) := by kernel_rfl
theorem WN : X3.length = 4 := rfl
theorem XN : dT [[.str [97, 98, 99]], [.str [98]], [.str [99]]] = [[97, 98, 99], [98], [99]] := rfl
theorem Vo (a : List Sn) : (some a).getD [] = a := rfl
theorem SE : JZ X3 := by
  intro n hn
  have : X3.all (fun n => decide (n.tx.length ≤ 9223372036854775807)) = true := by kernel_rfl
  simpa using List.all_eq_true.1 this n hn
theorem Wr : ∀ s ∈ ([[97, 98, 99], [98], [99]] : List Bs), s.length ≤ 9223372036854775807 := by
  intro s hs
  have : ([[97, 98, 99], [98], [99]] : List Bs).all (fun s => decide (s.length ≤ 9223372036854775807)) = true := by kernel_rfl
  simpa using List.all_eq_true.1 this s hs
theorem SF : ∀ s : Bs, s = [97, 98, 99] ∨ s = [98] ∨ s = [99] → s.length ≤ 9223372036854775807 := by
  rintro s (rfl | rfl | rfl) <;> decide
def XM : List AV → Option (Prop × AV)
  | [] => some (True, .d (.bool true))
  | _ => none

def GK : Bn Tryz.prog := Pu.add 16 (Spec.pure TQ) Rp (by kernel_rfl)

theorem QG : A1 Tryz.prog 9 (Spec.pure XM) := by
 refine Az (GK.at_ 50) Tryz.func9 rfl rfl rfl ?_
 intro args p r hg hp
 unfold XM at hg
 split at hg
 skip
 simp only [Option.some.injEq, Prod.mk.injEq] at hg
 obtain ⟨rfl, rfl⟩ := hg
 have hT : (GK).X = T := rfl
 have hx0 := And.intro @BQ (And.intro @F1 (And.intro @AY (And.intro @AA (And.intro @WO (And.intro @Vo (And.intro @XN (And.intro @Vk (And.intro @WM (And.intro @WN (And.intro @Ci (And.intro @Ch @Tryz.results9)))))))))))
 have hx := hx0
 refine ⟨by rfl, ?_⟩
 intro F W0 hnp hmk
 refine Aa fun N1 h1 => ?_
 refine Ad ?_
 try refine Ac ?_
 refine Ae ?_
 refine Ab ?_
 refine h1 _ ?_; clear h1
 refine Aa fun N2 h2 => ?_
 refine Ad ?_
 try refine Ac ?_
 have hc := Ag (E := (GK.at_ 50)) (f := 16) (sp := Spec.pure TQ) rfl
 have hs := @TQ.eq_1
 refine JP (hq := by (first | (exact ⟨by decide, rfl⟩) | exact A3)) ?_
 refine Ae ?_
 iterate 2 refine Dz ?_
 iterate 2 refine Bw ?_
 iterate 2 refine A4 ?_
 refine Ab ?_
 refine h2 _ ?_; clear h2
 refine Aa fun N3 h3 => ?_
 refine Ad ?_
 try refine Ac ?_
 refine FH ?_
 refine Ap ?_
 have hc := Ag (E := (GK.at_ 50)) (f := 10) (sp := Spec.pure XP) rfl
 have hs := @XP.eq_1
 refine JP (hq := by (first | ((repeat' apply And.intro) <;> first | rfl | exact Wr | exact SF | exact SE | exact True.intro | decide | omega) | exact A3)) ?_
 refine Ae ?_
 iterate 2 refine Dz ?_
 refine Bw ?_
 refine Ae ?_
 refine A4 ?_
 refine Ab ?_
 refine h3 _ ?_; clear h3
 refine Aa fun N4 h4 => ?_
 refine Ad ?_
 try refine Ac ?_
 refine Ap ?_
 have hc := Ag (E := (GK.at_ 50)) (f := 19) (sp := Spec.pure SI) rfl
 have hs := @SI.eq_1
 refine AS (hq := by (first | ((repeat' apply And.intro) <;> first | rfl | exact Wr | exact SF | exact SE | exact True.intro | decide | omega) | exact A3)) ?_
 refine Ae ?_
 iterate 2 refine Dz ?_
 refine Bw ?_
 refine Ae ?_
 refine A4 ?_
 refine Ab ?_
 refine h4 _ ?_; clear h4
 refine Aa fun N5 h5 => ?_
 refine Ad ?_
 try refine Ac ?_
 refine At ?_
 refine Ap ?_
 refine Al ?_
 refine Ae ?_
 refine AK ?_
 refine AJ ?_
 refine B7 ?_
 refine A7 ?_
 refine Ae ?_
 refine AK ?_
 refine AJ ?_
 refine B7 ?_
 refine A7 ?_
 refine Ae ?_
 refine AK ?_
 refine AJ ?_
 refine I3 ?_
 refine B7 ?_
 refine A7 ?_
 refine Ae ?_
 refine BI ?_
 refine YS ?_
 have hc := Ag (E := (GK.at_ 50)) (f := 14) (sp := Spec.pure Jw) rfl
 have hs := @Jw.eq_1
 refine ER ?_
 refine A7 ?_
 refine Ae ?_
 refine BI ?_
 refine B7 ?_
 refine A7 ?_
 refine Ae ?_
 refine Ab ?_
 refine h5 _ ?_; clear h5
 refine An ?_
 try simp only [Af]
 refine Ax ?_
 exact As
 cases hg

def Pt : Bn Tryz.prog := GK.add 9 (Spec.pure XM) QG (by kernel_rfl)
def LB (kd : Int) (a b : Bool) : Bool := if kd = 2 then a && b else a || b
def J0 (l : List Int) (P : List AU) (n : Sn) (S : List (List Int)) : List Int :=
  if n.kd = 1 then CA l P n.tx (n.tx.length - 2) else if n.kd = 4 then l
  else l.filter fun t => LB n.kd (decide (t ∈ S.getD n.lf.toNat [])) (decide (t ∈ S.getD n.rt.toNat []))
def Cy (l : List Int) (P : List AU) (q : List Sn) : Nat → List (List Int)
  | 0 => []
  | i + 1 => Cy l P q i ++ [J0 l P (q.getD i default) (Cy l P q i)]
theorem Eh (l : List Int) (P : List AU) (q : List Sn) : ∀ i, (Cy l P q i).length = i
  | 0 => rfl
  | i + 1 => by simp [Cy, Eh l P q i]
def LC (l : List Int) (P : List AU) (q : List Sn) : List Int := (Cy l P q q.length).getD (q.length - 1) []
theorem Ty (l : List Int) (P : List AU) (n : Sn) (S : List (List Int)) : (J0 l P n S).length ≤ l.length := by
  unfold J0
  split
  · exact Gr _ _ _ _
  · split
    · exact Nat.le_refl _
    · exact List.length_filter_le _ _
theorem KE {l : List Int} {P : List AU} {q : List Sn} {i : Nat} {x : Sn} (h : q.getD i default = x) : Cy l P q (i + 1) = Cy l P q i ++ [J0 l P x (Cy l P q i)] := by rw [← h]; rfl
theorem Ga {l : List Int} {P : List AU} {q : List Sn} : ∀ {i : Nat}, ∀ s ∈ Cy l P q i, s.length ≤ l.length
  | 0, s, h => by cases h
  | i + 1, s, h => by
    rcases List.mem_append.1 h with h | h
    · exact Ga s h
    · rw [List.mem_singleton.1 h]; exact Ty _ _ _ _
theorem J1 {l : List Int} {P : List AU} {q : List Sn} {i k : Nat} : ∀ {j : Nat}, i ≤ j → k < i → (Cy l P q j)[k]? = (Cy l P q i)[k]?
  | 0, h1, h2 => by omega
  | j + 1, h1, h2 => by
    by_cases h : i = j + 1
    · rw [h]
    · show (Cy l P q j ++ [_])[k]? = _
      rw [List.getElem?_append_left (by rw [Eh]; omega)]
      exact J1 (by omega) h2
theorem V4 {l : List Int} {P : List AU} {q : List Sn} {i j : Nat} {x : Sn} (hj : i < j) (hx : q.getD i default = x) : (Cy l P q j)[i]? = some (J0 l P x (Cy l P q i)) := by
  rw [J1 (i := i + 1) (by omega) (by omega), KE hx, List.getElem?_append_right (by rw [Eh]; exact Nat.le_refl _), Eh, Nat.sub_self]; rfl
theorem Tv {l : List Int} {P : List AU} {a c e : Int} {b : Bs} {S : List (List Int)} (h : a = 1) : J0 l P ⟨a, b, c, e⟩ S = CA l P b (b.length - 2) := if_pos h
theorem Tx {l : List Int} {P : List AU} {a c e : Int} {b : Bs} {S : List (List Int)} (h : a = 4) : J0 l P ⟨a, b, c, e⟩ S = l := by unfold J0; dsimp only; rw [if_neg (by omega), if_pos h]
theorem Tw {l : List Int} {P : List AU} {a c e : Int} {b : Bs} {S : List (List Int)} {x y : List Int} (h1 : a ≠ 1) (h4 : a ≠ 4) (hx : S[c.toNat]? = some x) (hy : S[e.toNat]? = some y) : J0 l P ⟨a, b, c, e⟩ S = l.filter fun t => LB a (decide (t ∈ x)) (decide (t ∈ y)) := by
  unfold J0; dsimp only; rw [if_neg h1, if_neg h4, List.getD_eq_getElem?_getD, List.getD_eq_getElem?_getD, hx, hy]; rfl
def ET (l : List Int) (kd : Int) (x y : List Int) (j : Nat) : List Int := (l.take j).filter fun t => LB kd (decide (t ∈ x)) (decide (t ∈ y))
theorem KD {l : List Int} {kd : Int} {x y : List Int} {j : Nat} {t : Int} (h : l[j]? = some t) : ET l kd x y (j + 1) = ET l kd x y j ++ if LB kd (decide (t ∈ x)) (decide (t ∈ y)) = true then [t] else [] := by
 unfold ET
 rw [List.take_add_one, h, List.filter_append]
 congr 1
 by_cases hb : LB kd (decide (t ∈ x)) (decide (t ∈ y)) = true
 ·rw [if_pos hb]; simp [hb]
 ·rw [if_neg hb]; simp [hb]
theorem Nf (l : List Int) (kd : Int) (x y : List Int) : ET l kd x y l.length = l.filter fun t => LB kd (decide (t ∈ x)) (decide (t ∈ y)) := by unfold ET; rw [List.take_length]
theorem Hr (l : List Int) (kd : Int) (x y : List Int) (j : Nat) : (ET l kd x y j).length ≤ l.length := Nat.le_trans (List.length_filter_le _ _) (by rw [List.length_take]; omega)
def DI (S : List (List Int)) (n : Nat) : List (List D) := S.map (fun s => [D.sl (rows eI s)]) ++ List.replicate (n - S.length) [.raw Gd]
theorem H5 {S : List (List Int)} {n : Nat} (h : S.length ≤ n) : (DI S n).length = n := by unfold DI; simp; omega
theorem Uz {S : List (List Int)} {n j : Nat} {s : List Int} (h : S[j]? = some s) : (DI S n)[j]? = some [.sl (rows eI s)] := by
  have hj := (List.getElem?_eq_some_iff.1 h).1
  unfold DI
  rw [List.getElem?_append_left (by rw [List.length_map]; exact hj), List.getElem?_map, h]; rfl
theorem U1 {S : List (List Int)} {n : Nat} (x : List Int) (h : S.length < n) : (DI S n).set S.length [.sl (rows eI x)] = DI (S ++ [x]) n := by
  unfold DI
  obtain ⟨d, hd⟩ : ∃ d, n - S.length = d + 1 := ⟨n - S.length - 1, by omega⟩
  have e : n - (S ++ [x]).length = d := by simp; omega
  rw [hd, e, List.replicate_succ, List.set_append_right _ _ (by rw [List.length_map]; exact Nat.le_refl _), List.length_map, Nat.sub_self]
  simp
theorem U0 {S : List (List Int)} {n : Nat} (h : S.length < n) : (DI S n)[S.length]? = some [.raw Gd] := by
  unfold DI
  rw [List.getElem?_append_right (by rw [List.length_map]; exact Nat.le_refl _), List.length_map, Nat.sub_self, List.getElem?_replicate, if_pos (by omega)]
theorem KP (S : List (List Int)) (n : Nat) : C4 1 (DI S n) := by
  intro x hx
  unfold DI at hx
  rcases List.mem_append.1 hx with hx | hx
  · obtain ⟨s, _, rfl⟩ := List.mem_map.1 hx; rfl
  · rw [(List.mem_replicate.1 hx).2]; rfl
theorem Rv {xs : List (List D)} {i : Nat} {d : D} (h : C4 1 xs) : C4 1 (xs.set i [d]) := by
  intro x hx
  rcases List.mem_or_eq_of_mem_set hx with hx | rfl
  · exact h x hx
  · rfl
def Ry (S : List (List Int)) (n : Nat) (v : Value) : List (List D) := if S = [] then DI [] n else (DI S.dropLast n).set (S.length - 1) [.raw v]
def Sv (S : List (List Int)) (v : Value) : List (Value × List (List D)) := if S = [] then [] else [(v, rows eI (S.getD (S.length - 1) []))]
theorem Dl (S : List (List Int)) (s : List Int) (n : Nat) (v : Value) : Ry (S ++ [s]) n v = (DI S n).set S.length [.raw v] := by
  unfold Ry; rw [if_neg (by simp), List.dropLast_concat]; simp
theorem Cg (S : List (List Int)) (s : List Int) (v : Value) : Sv (S ++ [s]) v = [(v, rows eI s)] := by
  unfold Sv; rw [if_neg (by simp)]; simp
theorem Uh {S : List (List Int)} {n : Nat} {v : Value} (h : S.length ≤ n) : (Sv S v = [] ∧ DI S n = Ry S n v) ∨ ∃ u ys, Sv S v = [(u, ys)] ∧ (Ry S n v)[S.length - 1]? = some [.raw u] ∧ DI S n = (Ry S n v).set (S.length - 1) [.sl ys] := by
  by_cases h0 : S = []
  · subst h0; exact .inl ⟨rfl, rfl⟩
  · obtain ⟨T, s, rfl⟩ : ∃ T s, S = T ++ [s] := ⟨S.dropLast, S.getLast h0, (List.dropLast_concat_getLast h0).symm⟩
    rw [List.length_append, List.length_singleton] at h
    have hl : (T ++ [s]).length - 1 = T.length := by simp
    refine .inr ⟨v, rows eI s, Cg _ _ _, ?_, ?_⟩
    · rw [Dl, hl, List.getElem?_set, if_pos rfl, if_pos (by rw [H5 (by omega)]; omega)]
    · rw [Dl, hl, List.set_set, U1 _ (by omega)]
def Wp (rs : List (List D)) (k : Nat) : List Int := match rs.getD k [] with
  | [.sl xs] => dI xs
  | _ => []
theorem S9 {rs : List (List D)} {k : Nat} {s : List Int} (h : rs[k]? = some [.sl (rows eI s)]) : Wp rs k = s := by
  unfold Wp; rw [List.getD_eq_getElem?_getD, h]; exact AA s
def Fp : D3
  | [.d (.int .i64 k), .d (.int .i64 t), .ptr 0 0 0], [some (.one ty [.sl 1 0 n]), some (.vec vt sz rs)] => some (ty = 107 ∧ vt = 27 ∧ sz = 1 ∧ n = rs.length ∧ 0 ≤ k ∧ rs[k.toNat]? = some [.sl (rows eI (Wp rs k.toNat))] ∧ (Wp rs k.toNat).length ≤ 1000000, .d (.bool (decide (t ∈ Wp rs k.toNat))), [some (.one 107 [.sl 1 0 rs.length]), some (.vec 27 1 rs)])
  | _, _ => none
def Jl : D3
  | [.agg [.d (.sl xs), .d (.sl ps)], .d (.str s)], [] => some (xs = rows eI (dI xs) ∧ (dI xs).length ≤ 9223372036854775807 ∧ ps = rows eP (dP ps) ∧ (dP ps).length ≤ 9223372036854775807 ∧ EE (dP ps) ∧ s.length ≤ 9223372036854775807,
      .tup [.sl 0 0 (Ef (dI xs) (dP ps) s).length, .agg [.d (.int .i64 (D8 (dI xs) (dP ps) s).1), .d (.int .i64 (D8 (dI xs) (dP ps) s).2)]], [some (.vec 3 1 (rows eI (Ef (dI xs) (dP ps) s)))])
  | _, _ => none

theorem QC : A1 Tryz.prog 74 (Spec.gen Fp) := by
 refine Bq (Pt.at_ 12) Tryz.func74 rfl rfl rfl ?_
 intro args bl p r bf hg hp
 unfold Fp at hg
 split at hg
 rename_i k t ty n vt sz rs
 simp only [Option.some.injEq, Prod.mk.injEq] at hg
 obtain ⟨rfl, rfl, rfl⟩ := hg
 obtain ⟨rfl, rfl, rfl, rfl, h0, hk, hl⟩ := hp
 generalize Wp rs k.toNat = s at *
 have hkl := (List.getElem?_eq_some_iff.1 hk).1
 have hT : (Pt).X = T := rfl
 have hx0 := And.intro @AA @Tryz.results74
 have hx := hx0
 refine ⟨Nat.le_of_ble_eq_true rfl, ?_⟩
 intro F W0 M0 hnp hmk
 have hnp : Bd.np = 2 := hnp
 refine Aa fun N1 h1 => ?_
 refine Ad ?_
 try refine Ac ?_
 refine Ae ?_
 refine Ab ?_
 refine h1 _ ?_; clear h1
 refine Aa fun N2 h2 => ?_
 have hx := And.intro @hk hx0
 refine Ad ?_
 try refine Ac ?_
 refine Ap (hq := by (first | (first | omega | exact ⟨trivial, by omega⟩ | exact ⟨rfl, by omega⟩ | exact hl) | exact A3)) ?_
 refine Ae (hq := by (first | (first | omega | exact ⟨trivial, by omega⟩ | exact ⟨rfl, by omega⟩ | exact hl) | exact A3)) ?_
 refine At (hq := by (first | (first | omega | exact ⟨trivial, by omega⟩ | exact ⟨rfl, by omega⟩ | exact hl) | exact A3)) ?_
 refine Ap (hq := by (first | (first | omega | exact ⟨trivial, by omega⟩ | exact ⟨rfl, by omega⟩ | exact hl) | exact A3)) ?_
 refine Ae (hq := by (first | (first | omega | exact ⟨trivial, by omega⟩ | exact ⟨rfl, by omega⟩ | exact hl) | exact A3)) ?_
 have hc := Ag (E := (Pt.at_ 12)) (f := 73) (sp := Spec.pure CD) rfl
 have hs := @CD.eq_1
 refine AS (hq := by (first | (first | omega | exact ⟨trivial, by omega⟩ | exact ⟨rfl, by omega⟩ | exact hl) | exact A3)) ?_
 refine Ae (hq := by (first | (first | omega | exact ⟨trivial, by omega⟩ | exact ⟨rfl, by omega⟩ | exact hl) | exact A3)) ?_
 refine Ab ?_
 have hx := hx0
 refine h2 _ ?_; clear h2
 refine An ?_
 try simp only [Af]
 refine Aj ?_
 refine ⟨[some 0, some 1], by rfl, ?_, ?_⟩
 refine Aj ?_
 exact As
 refine Aj ?_
 exact As
 cases hg

def Et : Bn Tryz.prog := Pt.add 74 (Spec.gen Fp) QC (by kernel_rfl)

theorem M4 : A1 Tryz.prog 75 (Spec.fresh Jl) := by
 refine EM (Et.at_ 47) Tryz.func75 rfl rfl rfl ?_
 intro args bl p r bf hg hp
 unfold Jl at hg
 split at hg
 rename_i xs ps u
 simp only [Option.some.injEq, Prod.mk.injEq] at hg
 obtain ⟨rfl, rfl, rfl⟩ := hg
 obtain ⟨he, hl, he2, hl2, hsm, hsl⟩ := hp
 generalize dI xs = l at *
 generalize dP ps = P at *
 subst he he2
 have hT : (Et).X = T := rfl
 have hx0 := And.intro @DB (And.intro @AA (And.intro @Ci (And.intro @Ch @Tryz.results75)))
 have hx := hx0
 refine ⟨Nat.le_of_ble_eq_true rfl, ?_⟩
 intro F W0 M0 hnp hmk
 have hnp : Bd.np = 0 := hnp
 refine Aa fun N1 h1 => ?_
 refine Ad ?_
 try refine Ac ?_
 refine EX ?_
 refine Ae ?_
 refine Bw ?_
 refine Ab ?_
 refine h1 _ ?_; clear h1
 refine Aa fun N2 h2 => ?_
 refine Aa fun N3 h3 => ?_
 have hx := And.intro @B4 hx0
 refine Ad ?_
 try refine Ac ?_
 refine Ap ?_
 have hc := Ag (E := (Et.at_ 47)) (f := 49) (sp := Spec.pure Dt) rfl
 have hs := @Dt.eq_1
 refine AS ?_
 refine Bw ?_
 refine A4 ?_
 refine Ab ?_
 have hx := hx0
 refine h3 _ ?_; clear h3
 refine Aa fun N4 h4 => ?_
 rcases LZ l P with hvx | hvx
 have hz1 : (Br l P).1 = 0 := by rw [hvx]
 have hz2 : (Br l P).2 = 0 := by rw [hvx]
 have hv := JS hz1
 have hlen20 := hv.tlen
 have hpl := hv.plen
 refine Ad ?_
 try refine Ac ?_
 refine Ap ?_
 refine BL ?_
 refine Al ?_
 refine Ab ?_
 refine h4 _ ?_; clear h4
 refine Ai (fun hb5 => ?_) (fun hb5 => ?_)
 exact absurd (And.intro hz1 hz2) (by have := hb5; simpa using this)
 refine Am ?_
 try simp only [Af]
 refine h2 _ ?_; clear h2
 refine Aa fun N6 h6 => ?_
 refine Aa fun N7 h7 => ?_
 refine Ad ?_
 try refine Ac ?_
 refine Ae ?_
 refine AZ ?_
 refine Al ?_
 refine Ab ?_
 refine h7 _ ?_; clear h7
 refine Ai (fun hb8 => ?_) (fun hb8 => ?_)
 refine Aa fun N9 h9 => ?_
 refine Ad ?_
 try refine Ac ?_
 refine BL ?_
 refine Ae ?_
 refine A4 ?_
 refine Ab ?_
 refine h9 _ ?_; clear h9
 refine An ?_
 try simp only [Af]
 have hr : D8 l P u = (10, -1) := by unfold D8; rw [if_neg (by rw [hz1]; simp), if_pos (by have := hb8; omega)]
 have hr2 : Ef l P u = [] := by unfold Ef; rw [hr]; rfl
 rw [hr, hr2]
 refine Aj ?_
 refine ⟨[none], by rfl, ?_, ?_⟩
 refine Aj ?_
 ·(repeat' apply And.intro) <;> (first | (first | rfl | exact Or.inl rfl | exact Or.inr rfl | trivial | omega | (rw [hr2]; rfl) | (simp [hr2]; done) | (rw [List.drop_zero, AO, List.take_length]; done)) | exact As)
 refine Aj ?_
 ·(repeat' apply And.intro) <;> (first | (first | rfl | exact Or.inl rfl | exact Or.inr rfl | trivial | omega | (rw [hr2]; rfl) | (simp [hr2]; done) | (rw [List.drop_zero, AO, List.take_length]; done)) | exact As)
 refine Am ?_
 try simp only [Af]
 refine h6 _ ?_; clear h6
 refine Aa fun N10 h10 => ?_
 refine Ad ?_
 try refine Ac ?_
 refine At ?_
 refine Ap ?_
 have hc := Ag (E := (Et.at_ 47)) (f := 76) (sp := Spec.fresh (Fq 3)) rfl
 have hs := @Fq.eq_1
 refine B8 (hq := by (first | (exact ⟨of_eq_true (BM l), by omega⟩) | exact A3)) ?_
 refine Ae ?_
 refine Ab ?_
 refine h10 _ ?_; clear h10
 refine Aa fun N11 h11 => ?_
 refine Aa fun N12 h12 => ?_
 refine Ad ?_
 try refine Ac ?_
 refine Ae ?_
 refine AZ ?_
 iterate 2 refine Al ?_
 refine Ae ?_
 refine Ab ?_
 refine h12 _ ?_; clear h12
 refine Au ?_
 refine A0 (σ := Nat) (fun s => (fun i => i ≤ u.length - 2) s)
  (fun s => (fun i => [(1, .d (.str u)), (2, .ptr 0 0 0), (5, .ptr 1 0 0), (7, .sl 2 0 (CA l P u i).length), (27, .d (.int .i64 ((u.length : Int) - 3 + 1))), (28, .d (.int .i64 (i : Nat)))]) s)
  (fun s => (fun i => [some (.one 49 [.d (.sl (rows eI l)), .d (.sl (rows eP P))]), some (.one 29 [.d (.int .i64 0), .d (.int .i64 0)]), some (.vec 3 1 (rows eI (CA l P u i)))]) s) (fun s => (fun i => u.length - i) s) hnp 0 ?_ [some 0, some 1, some 3] ?_ ?_
 dsimp only
 omega
 dsimp only
 refine ⟨by rfl, ?_, ?_⟩
 refine Aj ?_
 ·(repeat' apply And.intro) <;> (first | (first | rfl | trivial | (rw [IH]; done)) | exact As)
 refine Aj ?_
 ·(repeat' apply And.intro) <;> (first | (first | rfl | trivial | (rw [IH]; done)) | exact As)
 rintro i hinv N13 h13
 dsimp only at hinv ⊢
 have i1 := hinv
 have hcl := Gr l P u i
 refine Aa fun N14 h14 => ?_
 refine Ad ?_
 try refine Ac ?_
 refine Al ?_
 refine Ab ?_
 refine h14 _ ?_; clear h14
 refine Aa fun N15 h15 => ?_
 refine Ai (fun hb16 => ?_) (fun hb16 => ?_)
 have hi3 : i + 3 ≤ u.length := by have := hb16; omega
 have hgr : List.take (((i : Int) + 3).toNat - i) (u.drop i) = gr u i := by unfold gr; congr 1; omega
 refine Am ?_
 try simp only [Af]
 refine h15 _ ?_; clear h15
 refine Aa fun N17 h17 => ?_
 refine Au ?_
 refine Aa fun N18 h18 => ?_
 refine Ad ?_
 try refine Ac ?_
 iterate 2 refine Ae ?_
 refine Ab ?_
 refine h18 _ ?_; clear h18
 refine Aa fun N19 h19 => ?_
 have hx := And.intro @hgr (And.intro @Wo (And.intro @Tm (And.intro @P6 hx0)))
 refine G1 [] (.seq [0, 1, 2, 3, 4, 5] (.alt 6 (.seq [7, 8, 9] (.alt 10 (.seq [11, 12, 13] .nil) (.alt 11 (.seq [10, 12, 13] .nil) .nil))) (.alt 10 (.alt 6 (.seq [7, 8, 9, 11, 12, 13] .nil) (.alt 11 (.seq [6, 7, 8, 9, 12, 13] .nil) .nil)) (.alt 11 (.alt 6 (.seq [7, 8, 9, 10, 12, 13] .nil) (.alt 10 (.seq [6, 7, 8, 9, 12, 13] .nil) .nil)) .nil)))) Fw (by kernel_rfl) ?_
 refine Bu ?_
 simp only [Ao, Ak]
 try refine Ac ?_
 refine Ap ?_
 iterate 3 refine Ae ?_
 refine Al ?_
 refine DL ?_
 refine Ab ?_
 refine AX ?_ ?_
 simp only [Ao, Ak]
 try refine Ac ?_
 have hc := Ag (E := (Et.at_ 47)) (f := 78) (sp := Spec.pure CT) rfl
 have hs := @CT.eq_1
 refine AS (hq := by (first | (exact ⟨DD P, Eb hv.good.sort, by rw [List.length_map]; omega⟩) | exact A3)) ?_
 refine Ab ?_
 refine Bu ?_
 simp only [Ao, Ak]
 try refine Ac ?_
 refine Ae ?_
 iterate 2 refine Dz ?_
 refine Ab ?_
 refine AX ?_ ?_
 simp only [Ao, Ak]
 try refine Ac ?_
 refine Bw ?_
 refine Ab ?_
 refine Bu ?_
 simp only [Ao, Ak]
 try refine Ac ?_
 refine Bw ?_
 iterate 2 refine A4 ?_
 refine Ab ?_
 refine BO ?_
 have hx := hx0
 refine h19 _ ?_; clear h19
 have hx := And.intro @B4 (And.intro @C0 hx0)
 refine Ad ?_
 try refine Ac ?_
 refine Ae ?_
 refine GW ?_
 have hc := Ag (E := (Et.at_ 47)) (f := 57) (sp := Spec.gen CE) rfl
 have hs := @CE.eq_1
 refine B8 (hq := by (first | (exact ⟨by omega, hsm, fun hb => ⟨by omega, by have := Es hv.good.sort hb; omega⟩⟩) | exact A3)) ?_
 refine Ae ?_
 refine Ab ?_
 have hx := hx0
 refine h17 _ ?_; clear h17
 refine Ad ?_
 try refine Ac ?_
 refine Al ?_
 refine Ae ?_
 refine Ab ?_
 refine h13 _ ⟨i + 1, ?_, ?_, [some 0, some 1, some 2], ?_⟩
 dsimp only
 omega
 dsimp only
 omega
 dsimp only
 refine ⟨by rfl, ?_, ?_⟩
 refine Aj ?_
 exact As
 refine Aj ?_
 exact As
 refine AX ?_ ?_
 simp only [Ao, Ak]
 try refine Ac ?_
 refine Bw ?_
 refine Ab ?_
 refine Bu ?_
 simp only [Ao, Ak]
 try refine Ac ?_
 refine Bw ?_
 iterate 2 refine A4 ?_
 refine Ab ?_
 refine BO ?_
 have hx := hx0
 refine h19 _ ?_; clear h19
 have hx := And.intro @B4 (And.intro @C0 hx0)
 refine Ad ?_
 try refine Ac ?_
 refine Ae ?_
 refine GW ?_
 have hc := Ag (E := (Et.at_ 47)) (f := 57) (sp := Spec.gen CE) rfl
 have hs := @CE.eq_1
 refine B8 (hq := by (first | (exact ⟨by omega, hsm, fun hb => ⟨by omega, by have := Es hv.good.sort hb; omega⟩⟩) | exact A3)) ?_
 refine Ae ?_
 refine Ab ?_
 have hx := hx0
 refine h17 _ ?_; clear h17
 refine Ad ?_
 try refine Ac ?_
 refine Al ?_
 refine Ae ?_
 refine Ab ?_
 refine h13 _ ⟨i + 1, ?_, ?_, [some 0, some 1, some 2], ?_⟩
 dsimp only
 omega
 dsimp only
 omega
 dsimp only
 refine ⟨by rfl, ?_, ?_⟩
 refine Aj ?_
 exact As
 refine Aj ?_
 exact As
 exact C8
 refine AX ?_ ?_
 simp only [Ao, Ak]
 try refine Ac ?_
 refine Bw ?_
 refine Ab ?_
 refine AX ?_ ?_
 simp only [Ao, Ak]
 try refine Ac ?_
 have hc := Ag (E := (Et.at_ 47)) (f := 78) (sp := Spec.pure CT) rfl
 have hs := @CT.eq_1
 refine AS (hq := by (first | (exact ⟨DD P, Eb hv.good.sort, by rw [List.length_map]; omega⟩) | exact A3)) ?_
 refine Ab ?_
 refine Bu ?_
 simp only [Ao, Ak]
 try refine Ac ?_
 refine Ae ?_
 iterate 2 refine Dz ?_
 refine Bw ?_
 iterate 2 refine A4 ?_
 refine Ab ?_
 refine BO ?_
 have hx := hx0
 refine h19 _ ?_; clear h19
 have hx := And.intro @B4 (And.intro @C0 hx0)
 refine Ad ?_
 try refine Ac ?_
 refine Ae ?_
 refine GW ?_
 have hc := Ag (E := (Et.at_ 47)) (f := 57) (sp := Spec.gen CE) rfl
 have hs := @CE.eq_1
 refine B8 (hq := by (first | (exact ⟨by omega, hsm, fun hb => ⟨by omega, by have := Es hv.good.sort hb; omega⟩⟩) | exact A3)) ?_
 refine Ae ?_
 refine Ab ?_
 have hx := hx0
 refine h17 _ ?_; clear h17
 refine Ad ?_
 try refine Ac ?_
 refine Al ?_
 refine Ae ?_
 refine Ab ?_
 refine h13 _ ⟨i + 1, ?_, ?_, [some 0, some 1, some 2], ?_⟩
 dsimp only
 omega
 dsimp only
 omega
 dsimp only
 refine ⟨by rfl, ?_, ?_⟩
 refine Aj ?_
 exact As
 refine Aj ?_
 exact As
 refine AX ?_ ?_
 simp only [Ao, Ak]
 try refine Ac ?_
 refine Bw ?_
 refine Ab ?_
 refine Bu ?_
 simp only [Ao, Ak]
 try refine Ac ?_
 have hc := Ag (E := (Et.at_ 47)) (f := 78) (sp := Spec.pure CT) rfl
 have hs := @CT.eq_1
 refine AS (hq := by (first | (exact ⟨DD P, Eb hv.good.sort, by rw [List.length_map]; omega⟩) | exact A3)) ?_
 refine Ae ?_
 iterate 2 refine Dz ?_
 iterate 2 refine A4 ?_
 refine Ab ?_
 refine BO ?_
 have hx := hx0
 refine h19 _ ?_; clear h19
 have hx := And.intro @B4 (And.intro @C0 hx0)
 refine Ad ?_
 try refine Ac ?_
 refine Ae ?_
 refine GW ?_
 have hc := Ag (E := (Et.at_ 47)) (f := 57) (sp := Spec.gen CE) rfl
 have hs := @CE.eq_1
 refine B8 (hq := by (first | (exact ⟨by omega, hsm, fun hb => ⟨by omega, by have := Es hv.good.sort hb; omega⟩⟩) | exact A3)) ?_
 refine Ae ?_
 refine Ab ?_
 have hx := hx0
 refine h17 _ ?_; clear h17
 refine Ad ?_
 try refine Ac ?_
 refine Al ?_
 refine Ae ?_
 refine Ab ?_
 refine h13 _ ⟨i + 1, ?_, ?_, [some 0, some 1, some 2], ?_⟩
 dsimp only
 omega
 dsimp only
 omega
 dsimp only
 refine ⟨by rfl, ?_, ?_⟩
 refine Aj ?_
 exact As
 refine Aj ?_
 exact As
 exact C8
 refine AX ?_ ?_
 simp only [Ao, Ak]
 try refine Ac ?_
 refine Bw ?_
 refine Ab ?_
 refine AX ?_ ?_
 simp only [Ao, Ak]
 try refine Ac ?_
 have hc := Ag (E := (Et.at_ 47)) (f := 78) (sp := Spec.pure CT) rfl
 have hs := @CT.eq_1
 refine AS (hq := by (first | (exact ⟨DD P, Eb hv.good.sort, by rw [List.length_map]; omega⟩) | exact A3)) ?_
 refine Ab ?_
 refine Bu ?_
 simp only [Ao, Ak]
 try refine Ac ?_
 refine Ae ?_
 iterate 2 refine Dz ?_
 refine Bw ?_
 iterate 2 refine A4 ?_
 refine Ab ?_
 refine BO ?_
 have hx := hx0
 refine h19 _ ?_; clear h19
 have hx := And.intro @B4 (And.intro @C0 hx0)
 refine Ad ?_
 try refine Ac ?_
 refine Ae ?_
 refine GW ?_
 have hc := Ag (E := (Et.at_ 47)) (f := 57) (sp := Spec.gen CE) rfl
 have hs := @CE.eq_1
 refine B8 (hq := by (first | (exact ⟨by omega, hsm, fun hb => ⟨by omega, by have := Es hv.good.sort hb; omega⟩⟩) | exact A3)) ?_
 refine Ae ?_
 refine Ab ?_
 have hx := hx0
 refine h17 _ ?_; clear h17
 refine Ad ?_
 try refine Ac ?_
 refine Al ?_
 refine Ae ?_
 refine Ab ?_
 refine h13 _ ⟨i + 1, ?_, ?_, [some 0, some 1, some 2], ?_⟩
 dsimp only
 omega
 dsimp only
 omega
 dsimp only
 refine ⟨by rfl, ?_, ?_⟩
 refine Aj ?_
 exact As
 refine Aj ?_
 exact As
 refine AX ?_ ?_
 simp only [Ao, Ak]
 try refine Ac ?_
 refine Bw ?_
 refine Ab ?_
 refine Bu ?_
 simp only [Ao, Ak]
 try refine Ac ?_
 have hc := Ag (E := (Et.at_ 47)) (f := 78) (sp := Spec.pure CT) rfl
 have hs := @CT.eq_1
 refine AS (hq := by (first | (exact ⟨DD P, Eb hv.good.sort, by rw [List.length_map]; omega⟩) | exact A3)) ?_
 refine Ae ?_
 iterate 2 refine Dz ?_
 iterate 2 refine A4 ?_
 refine Ab ?_
 refine BO ?_
 have hx := hx0
 refine h19 _ ?_; clear h19
 have hx := And.intro @B4 (And.intro @C0 hx0)
 refine Ad ?_
 try refine Ac ?_
 refine Ae ?_
 refine GW ?_
 have hc := Ag (E := (Et.at_ 47)) (f := 57) (sp := Spec.gen CE) rfl
 have hs := @CE.eq_1
 refine B8 (hq := by (first | (exact ⟨by omega, hsm, fun hb => ⟨by omega, by have := Es hv.good.sort hb; omega⟩⟩) | exact A3)) ?_
 refine Ae ?_
 refine Ab ?_
 have hx := hx0
 refine h17 _ ?_; clear h17
 refine Ad ?_
 try refine Ac ?_
 refine Al ?_
 refine Ae ?_
 refine Ab ?_
 refine h13 _ ⟨i + 1, ?_, ?_, [some 0, some 1, some 2], ?_⟩
 dsimp only
 omega
 dsimp only
 omega
 dsimp only
 refine ⟨by rfl, ?_, ?_⟩
 refine Aj ?_
 exact As
 refine Aj ?_
 exact As
 exact C8
 exact C8
 have hie : i = u.length - 2 := by have := hb16; omega
 subst hie
 refine AF ?_
 simp only [Af, Nat.reduceEqDiff, reduceIte, eq_self]
 refine h11 _ ?_; clear h11
 refine Aa fun N20 h20 => ?_
 refine Ad ?_
 try refine Ac ?_
 refine Ae ?_
 refine BL ?_
 refine Ae ?_
 refine A4 ?_
 refine Ab ?_
 refine h20 _ ?_; clear h20
 refine An ?_
 try simp only [Af]
 have hr : D8 l P u = (0, 0) := by unfold D8; rw [if_neg (by rw [hz1]; simp), if_neg (by have := hb8; omega)]
 have hr2 : Ef l P u = CA l P u (u.length - 2) := by unfold Ef; rw [hr]; rfl
 rw [hr, hr2]
 refine Aj ?_
 refine ⟨[some 2], by rfl, ?_, ?_⟩
 refine Aj ?_
 ·(repeat' apply And.intro) <;> (first | (first | rfl | exact Or.inl rfl | exact Or.inr rfl | trivial | omega | (rw [hr2]; rfl) | (simp [hr2]; done) | (rw [List.drop_zero, AO, List.take_length]; done)) | exact As)
 refine Aj ?_
 ·(repeat' apply And.intro) <;> (first | (first | rfl | exact Or.inl rfl | exact Or.inr rfl | trivial | omega | (rw [hr2]; rfl) | (simp [hr2]; done) | (rw [List.drop_zero, AO, List.take_length]; done)) | exact As)
 have hz1 := hvx
 have hz2 := hvx
 refine Ad ?_
 try refine Ac ?_
 refine Ap ?_
 refine BL ?_
 refine Al ?_
 refine Ab ?_
 refine h4 _ ?_; clear h4
 refine Ai (fun hb21 => ?_) (fun hb21 => ?_)
 refine Aa fun N22 h22 => ?_
 refine Ad ?_
 try refine Ac ?_
 refine Ap ?_
 refine Ae ?_
 refine A4 ?_
 refine Ab ?_
 refine h22 _ ?_; clear h22
 refine An ?_
 try simp only [Af]
 have hr : D8 l P u = Br l P := by unfold D8; rw [if_pos hz1]
 have hr2 : Ef l P u = [] := by unfold Ef; rw [hr, if_pos hz1]
 rw [hr, hr2]
 refine Aj ?_
 refine ⟨[none], by rfl, ?_, ?_⟩
 refine Aj ?_
 ·(repeat' apply And.intro) <;> (first | (first | rfl | exact Or.inl rfl | exact Or.inr rfl | trivial | omega | (rw [hr2]; rfl) | (simp [hr2]; done) | (rw [List.drop_zero, AO, List.take_length]; done)) | exact As)
 refine Aj ?_
 ·(repeat' apply And.intro) <;> (first | (first | rfl | exact Or.inl rfl | exact Or.inr rfl | trivial | omega | (rw [hr2]; rfl) | (simp [hr2]; done) | (rw [List.drop_zero, AO, List.take_length]; done)) | exact As)
 exact absurd (show (Br l P).1 = 0 by have := hb21; first | exact this.1 | exact (Classical.not_not.1 this).1 | (simp at this; exact this.1)) hz1
 cases hg

def Dh : Bn Tryz.prog := Et.add 75 (Spec.fresh Jl) M4 (by kernel_rfl)
end Go.Proofs.YtmbjnkgpcbpclaaGreat
