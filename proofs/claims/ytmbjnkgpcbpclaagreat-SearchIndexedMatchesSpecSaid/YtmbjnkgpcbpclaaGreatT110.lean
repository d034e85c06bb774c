import Derived.Test.YtmbjnkgpcbpclaaGreatT71
import Derived.Test.YtmbjnkgpcbpclaaGreatV7
set_option linter.all false
set_option maxRecDepth 100000
set_option maxHeartbeats 4000000
namespace Go.Proofs.YtmbjnkgpcbpclaaGreat
open Go Go.Vc Go.RowKit
def Zd : List Sn := [⟨1, [98], 0, 0⟩, ⟨1, [97], 0, 0⟩, ⟨4, [], 1, 0⟩, ⟨2, [], 0, 2⟩]
theorem Yw : Tj [34, 98, 34, 32, 38, 32, 33, 34, 97, 34] = some Zd := by kernel_rfl
theorem WP : WQ [[97, 98, 99], [98], [99]] Zd = (0, 0, [1]) := by kernel_rfl
theorem Yu : KV Zd = (0, 0, [34, 98, 34, 32, 38, 32, 33, 34, 97, 34]) := by kernel_rfl
theorem Yv : Zd.length = 4 := rfl
theorem Zv : dT [[.str [97, 98, 99]], [.str [98]], [.str [99]]] = [[97, 98, 99], [98], [99]] := rfl
theorem WS (a : List Sn) : (some a).getD [] = a := rfl
theorem Yt : KR Zd := by
  intro n hn
  have : Zd.all (fun n => decide (n.tx.length ≤ 9223372036854775807)) = true := by kernel_rfl
  simpa using List.all_eq_true.1 this n hn
theorem Zw : ∀ s ∈ ([[97, 98, 99], [98], [99]] : List Bs), s.length ≤ 9223372036854775807 := by
  intro s hs
  have : ([[97, 98, 99], [98], [99]] : List Bs).all (fun s => decide (s.length ≤ 9223372036854775807)) = true := by kernel_rfl
  simpa using List.all_eq_true.1 this s hs
theorem Yx : ∀ s : Bs, s = [97, 98, 99] ∨ s = [98] ∨ s = [99] → s.length ≤ 9223372036854775807 := by
  rintro s (rfl | rfl | rfl) <;> decide
def Zu : List AV → Option (Prop × AV)
  | [] => some (True, .d (.bool true))
  | _ => none
def Hw : Bq Tryz.prog := QO.add 16 (Spec.pure V2) Tk (by kernel_rfl)
theorem Jl {p : Prop} (h : p := by (first | ((repeat' apply And.intro) <;> first | rfl | exact Zw | exact Yx | exact Yt | exact True.intro | decide | omega) | exact AQ)) : p := h
theorem S4 : A5 Tryz.prog 9 (Spec.pure Zu) := by
 refine A1 (Hw.at_ 50) Tryz.func9 rfl rfl rfl ?_
 intro args p r hg hp
 unfold Zu at hg
 split at hg
 skip
 simp only [Option.some.injEq, Prod.mk.injEq] at hg
 obtain ⟨rfl, rfl⟩ := hg
 have hT : (Hw).X = T := rfl
 have hx0 := And.intro @BL (And.intro @DG (And.intro @AL (And.intro @AE (And.intro @Yw (And.intro @WS (And.intro @Zv (And.intro @WP (And.intro @Yu (And.intro @Yv (And.intro @Ci (And.intro @Ch @Tryz.results9)))))))))))
 have hx := hx0
 refine ⟨by rfl, ?_⟩
 intro F W0 hnp hmk
 refine Aa fun N1 h1 => Ac ?_
 refine Az ?_
 refine Ad ?_
 refine Ab (h1 _ (Aa fun N2 h2 => Ac ?_)); clear h1
 have hc := Ag (E := (Hw.at_ 50)) (f := 16) (sp := Spec.pure V2) rfl
 have hs := @V2.eq_1
 refine Fc (hq := by (first | (exact ⟨by decide, rfl⟩) | exact AQ)) ?_
 refine Ad ?_
 iterate 2 refine Dt ?_
 iterate 2 refine Bj ?_
 iterate 2 refine A4 ?_
 refine Ab (h2 _ (Aa fun N3 h3 => Ac ?_)); clear h2
 refine Di ?_
 refine Aq ?_
 have hc := Ag (E := (Hw.at_ 50)) (f := 10) (sp := Spec.pure Zx) rfl
 have hs := @Zx.eq_1
 refine Fc (hq := Jl) ?_
 refine Ad ?_
 iterate 2 refine Dt ?_
 refine Bj ?_
 refine Ad ?_
 refine A4 ?_
 refine Ab (h3 _ (Aa fun N4 h4 => Ac ?_)); clear h3
 refine Aq ?_
 have hc := Ag (E := (Hw.at_ 50)) (f := 19) (sp := Spec.pure Uw) rfl
 have hs := @Uw.eq_1
 refine Ba (hq := Jl) ?_
 refine Ad ?_
 iterate 2 refine Dt ?_
 refine Bj ?_
 refine Ad ?_
 refine A4 ?_
 refine Ab (h4 _ (Aa fun N5 h5 => Ac ?_)); clear h4
 refine Ar ?_
 refine Aq ?_
 refine Ao ?_
 refine Ad ?_
 refine B9 ?_
 refine B8 ?_
 refine CD ?_
 refine AH ?_
 refine Ad ?_
 refine B9 ?_
 refine B8 ?_
 refine CD ?_
 refine AH ?_
 refine Ad ?_
 refine B9 ?_
 refine B8 ?_
 refine Kj ?_
 refine CD ?_
 refine AH ?_
 refine Ad ?_
 refine Cw ?_
 refine t_bs ?_
 have hc := Ag (E := (Hw.at_ 50)) (f := 14) (sp := Spec.pure CP) rfl
 have hs := @CP.eq_1
 refine H3 ?_
 refine AH ?_
 refine Ad ?_
 refine Cw ?_
 refine CD ?_
 refine AH ?_
 refine Ad ?_
 refine Ab (h5 _ (Am ?_)); clear h5
 try simp only [Ae]
 refine Aw ?_
 exact Au
 cases hg
def QM : Bq Tryz.prog := Hw.add 9 (Spec.pure Zu) S4 (by kernel_rfl)
def MG (kd : Int) (a b : Bool) : Bool := if kd = 2 then a && b else a || b
def IL (l : List Int) (P : List AR) (n : Sn) (S : List (List Int)) : List Int :=
  if n.kd = 1 then DQ l P n.tx (n.tx.length - 2) else if n.kd = 4 then l
  else l.filter fun t => MG n.kd (decide (t ∈ S.getD n.lf.toNat [])) (decide (t ∈ S.getD n.rt.toNat []))
def DM (l : List Int) (P : List AR) (q : List Sn) : Nat → List (List Int)
  | 0 => []
  | i + 1 => DM l P q i ++ [IL l P (q.getD i default) (DM l P q i)]
theorem EF (l : List Int) (P : List AR) (q : List Sn) : ∀ i, (DM l P q i).length = i
  | 0 => rfl
  | i + 1 => by simp [DM, EF l P q i]
def Ju (l : List Int) (P : List AR) (q : List Sn) : List Int := (DM l P q q.length).getD (q.length - 1) []
theorem Vb (l : List Int) (P : List AR) (n : Sn) (S : List (List Int)) : (IL l P n S).length ≤ l.length := by
  unfold IL
  split
  · exact I9 _ _ _ _
  · split
    · exact Nat.le_refl _
    · exact List.length_filter_le _ _
theorem L5 {l : List Int} {P : List AR} {q : List Sn} {i : Nat} {x : Sn} (h : q.getD i default = x) : DM l P q (i + 1) = DM l P q i ++ [IL l P x (DM l P q i)] := by rw [← h]; rfl
theorem Ib {l : List Int} {P : List AR} {q : List Sn} : ∀ {i : Nat}, ∀ s ∈ DM l P q i, s.length ≤ l.length
  | 0, s, h => by cases h
  | i + 1, s, h => by
    rcases List.mem_append.1 h with h | h
    · exact Ib s h
    · rw [List.mem_singleton.1 h]; exact Vb _ _ _ _
theorem Y9 {l : List Int} {P : List AR} {a c e : Int} {b : Bs} {S : List (List Int)} (h : a = 1) : IL l P ⟨a, b, c, e⟩ S = DQ l P b (b.length - 2) := if_pos h
theorem YB {l : List Int} {P : List AR} {a c e : Int} {b : Bs} {S : List (List Int)} (h : a = 4) : IL l P ⟨a, b, c, e⟩ S = l := by unfold IL; dsimp only; rw [if_neg (by omega), if_pos h]
theorem YA {l : List Int} {P : List AR} {a c e : Int} {b : Bs} {S : List (List Int)} {x y : List Int} (h1 : a ≠ 1) (h4 : a ≠ 4) (hx : S[c.toNat]? = some x) (hy : S[e.toNat]? = some y) : IL l P ⟨a, b, c, e⟩ S = l.filter fun t => MG a (decide (t ∈ x)) (decide (t ∈ y)) := by
  unfold IL; dsimp only; rw [if_neg h1, if_neg h4, List.getD_eq_getElem?_getD, List.getD_eq_getElem?_getD, hx, hy]; rfl
def IK (l : List Int) (kd : Int) (x y : List Int) (j : Nat) : List Int := (l.take j).filter fun t => MG kd (decide (t ∈ x)) (decide (t ∈ y))
theorem SW {l : List Int} {kd : Int} {x y : List Int} {j : Nat} {t : Int} (h : l[j]? = some t) : IK l kd x y (j + 1) = IK l kd x y j ++ if MG kd (decide (t ∈ x)) (decide (t ∈ y)) = true then [t] else [] := by
 unfold IK
 rw [List.take_add_one, h, List.filter_append]
 congr 1
 by_cases hb : MG kd (decide (t ∈ x)) (decide (t ∈ y)) = true
 ·rw [if_pos hb]; simp [hb]
 ·rw [if_neg hb]; simp [hb]
theorem UZ (l : List Int) (kd : Int) (x y : List Int) : IK l kd x y l.length = l.filter fun t => MG kd (decide (t ∈ x)) (decide (t ∈ y)) := by unfold IK; rw [List.take_length]
theorem Va (l : List Int) (kd : Int) (x y : List Int) (j : Nat) : (IK l kd x y j).length ≤ l.length := Nat.le_trans (List.length_filter_le _ _) (by rw [List.length_take]; omega)
def Er (S : List (List Int)) (n : Nat) : List (List D) := S.map (fun s => [D.sl (rows eI s)]) ++ List.replicate (n - S.length) [.raw GF]
theorem Iu {S : List (List Int)} {n : Nat} (h : S.length ≤ n) : (Er S n).length = n := by unfold Er; simp; omega
theorem Wf {S : List (List Int)} {n j : Nat} {s : List Int} (h : S[j]? = some s) : (Er S n)[j]? = some [.sl (rows eI s)] := by
  have hj := (List.getElem?_eq_some_iff.1 h).1
  unfold Er
  rw [List.getElem?_append_left (by rw [List.length_map]; exact hj), List.getElem?_map, h]; rfl
theorem Wh {S : List (List Int)} {n : Nat} (x : List Int) (h : S.length < n) : (Er S n).set S.length [.sl (rows eI x)] = Er (S ++ [x]) n := by
  unfold Er
  obtain ⟨d, hd⟩ : ∃ d, n - S.length = d + 1 := ⟨n - S.length - 1, by omega⟩
  have e : n - (S ++ [x]).length = d := by simp; omega
  rw [hd, e, List.replicate_succ, List.set_append_right _ _ (by rw [List.length_map]; exact Nat.le_refl _), List.length_map, Nat.sub_self]
  simp
theorem Wg {S : List (List Int)} {n : Nat} (h : S.length < n) : (Er S n)[S.length]? = some [.raw GF] := by
  unfold Er
  rw [List.getElem?_append_right (by rw [List.length_map]; exact Nat.le_refl _), List.length_map, Nat.sub_self, List.getElem?_replicate, if_pos (by omega)]
theorem LI (S : List (List Int)) (n : Nat) : CW 1 (Er S n) := by
  intro x hx
  unfold Er at hx
  rcases List.mem_append.1 hx with hx | hx
  · obtain ⟨s, _, rfl⟩ := List.mem_map.1 hx; rfl
  · rw [(List.mem_replicate.1 hx).2]; rfl
theorem Tp {xs : List (List D)} {i : Nat} {d : D} (h : CW 1 xs) : CW 1 (xs.set i [d]) := by
  intro x hx
  rcases List.mem_or_eq_of_mem_set hx with hx | rfl
  · exact h x hx
  · rfl
def Ts (S : List (List Int)) (n : Nat) (v : Value) : List (List D) := if S = [] then Er [] n else (Er S.dropLast n).set (S.length - 1) [.raw v]
def Uf (S : List (List Int)) (v : Value) : List (Value × List (List D)) := if S = [] then [] else [(v, rows eI (S.getD (S.length - 1) []))]
theorem DI (S : List (List Int)) (s : List Int) (n : Nat) (v : Value) : Ts (S ++ [s]) n v = (Er S n).set S.length [.raw v] := by
  unfold Ts; rw [if_neg (by simp), List.dropLast_concat]; simp
theorem C6 (S : List (List Int)) (s : List Int) (v : Value) : Uf (S ++ [s]) v = [(v, rows eI s)] := by
  unfold Uf; rw [if_neg (by simp)]; simp
theorem VK {S : List (List Int)} {n : Nat} {v : Value} (h : S.length ≤ n) : (Uf S v = [] ∧ Er S n = Ts S n v) ∨ ∃ u ys, Uf S v = [(u, ys)] ∧ (Ts S n v)[S.length - 1]? = some [.raw u] ∧ Er S n = (Ts S n v).set (S.length - 1) [.sl ys] := by
  by_cases h0 : S = []
  · subst h0; exact .inl ⟨rfl, rfl⟩
  · obtain ⟨T, s, rfl⟩ : ∃ T s, S = T ++ [s] := ⟨S.dropLast, S.getLast h0, (List.dropLast_concat_getLast h0).symm⟩
    rw [List.length_append, List.length_singleton] at h
    have hl : (T ++ [s]).length - 1 = T.length := by simp
    refine .inr ⟨v, rows eI s, C6 _ _ _, ?_, ?_⟩
    · rw [DI, hl, List.getElem?_set, if_pos rfl, if_pos (by rw [Iu (by omega)]; omega)]
    · rw [DI, hl, List.set_set, Wh _ (by omega)]
def XO (rs : List (List D)) (k : Nat) : List Int := match rs.getD k [] with
  | [.sl xs] => dI xs
  | _ => []
theorem Ur {rs : List (List D)} {k : Nat} {s : List Int} (h : rs[k]? = some [.sl (rows eI s)]) : XO rs k = s := by
  unfold XO; rw [List.getD_eq_getElem?_getD, h]; exact AE s
def FV : DP
  | [.d (.int .i64 k), .d (.int .i64 t), .ptr 0 0 0], [some (.one ty [.sl 1 0 n]), some (.vec vt sz rs)] => some (ty = 107 ∧ vt = 27 ∧ sz = 1 ∧ n = rs.length ∧ 0 ≤ k ∧ rs[k.toNat]? = some [.sl (rows eI (XO rs k.toNat))] ∧ (XO rs k.toNat).length ≤ 1000000, .d (.bool (decide (t ∈ XO rs k.toNat))), [some (.one 107 [.sl 1 0 rs.length]), some (.vec 27 1 rs)])
  | _, _ => none
def Kb : DP
  | [.agg [.d (.sl xs), .d (.sl ps)], .d (.str s)], [] => some (xs = rows eI (dI xs) ∧ (dI xs).length ≤ 9223372036854775807 ∧ ps = rows eP (dP ps) ∧ (dP ps).length ≤ 9223372036854775807 ∧ DN (dP ps) ∧ s.length ≤ 9223372036854775807,
      .tup [.sl 0 0 (ED (dI xs) (dP ps) s).length, .agg [.d (.int .i64 (Eh (dI xs) (dP ps) s).1), .d (.int .i64 (Eh (dI xs) (dP ps) s).2)]], [some (.vec 3 1 (rows eI (ED (dI xs) (dP ps) s)))])
  | _, _ => none
theorem Sx : A5 Tryz.prog 74 (Spec.gen FV) := by
 refine Bm (QM.at_ 12) Tryz.func74 rfl rfl rfl ?_
 intro args bl p r bf hg hp
 unfold FV at hg
 split at hg
 rename_i k t ty n vt sz rs
 simp only [Option.some.injEq, Prod.mk.injEq] at hg
 obtain ⟨rfl, rfl, rfl⟩ := hg
 obtain ⟨rfl, rfl, rfl, rfl, h0, hk, hl⟩ := hp
 generalize XO rs k.toNat = s at *
 have hkl := (List.getElem?_eq_some_iff.1 hk).1
 have hT : (QM).X = T := rfl
 have hx0 := And.intro @AE @Tryz.results74
 have hx := hx0
 refine ⟨Nat.le_of_ble_eq_true rfl, ?_⟩
 intro F W0 M0 hnp hmk
 have hnp : Bl.np = 2 := hnp
 refine Aa fun N1 h1 => Ac ?_
 refine Az ?_
 refine Ad ?_
 have hx := And.intro @hk hx0
 refine Ab (h1 _ (Aa fun N2 h2 => Ac ?_)); clear h1
 refine Aq (hq := by (first | (first | omega | exact ⟨trivial, by omega⟩ | exact ⟨rfl, by omega⟩ | exact hl) | exact AQ)) ?_
 refine Ad (hq := by (first | (first | omega | exact ⟨trivial, by omega⟩ | exact ⟨rfl, by omega⟩ | exact hl) | exact AQ)) ?_
 refine Ar (hq := by (first | (first | omega | exact ⟨trivial, by omega⟩ | exact ⟨rfl, by omega⟩ | exact hl) | exact AQ)) ?_
 refine Aq (hq := by (first | (first | omega | exact ⟨trivial, by omega⟩ | exact ⟨rfl, by omega⟩ | exact hl) | exact AQ)) ?_
 refine Ad (hq := by (first | (first | omega | exact ⟨trivial, by omega⟩ | exact ⟨rfl, by omega⟩ | exact hl) | exact AQ)) ?_
 have hc := Ag (E := (QM.at_ 12)) (f := 73) (sp := Spec.pure Dg) rfl
 have hs := @Dg.eq_1
 refine Ba (hq := by (first | (first | omega | exact ⟨trivial, by omega⟩ | exact ⟨rfl, by omega⟩ | exact hl) | exact AQ)) ?_
 refine Ad (hq := by (first | (first | omega | exact ⟨trivial, by omega⟩ | exact ⟨rfl, by omega⟩ | exact hl) | exact AQ)) ?_
 have hx := hx0
 refine Ab (h2 _ (Am ?_)); clear h2
 try simp only [Ae]
 refine Aj ?_
 refine ⟨[some 0, some 1], by rfl, ?_, ?_⟩
 refine Aj ?_
 exact Au
 refine Aj ?_
 exact Au
 cases hg
def ES : Bq Tryz.prog := QM.add 74 (Spec.gen FV) Sx (by kernel_rfl)
theorem Hn {p : Prop} (h : p := by (repeat' apply And.intro) <;> (first | (first | rfl | trivial | (rw [QY]; done)) | exact Au)) : p := h
theorem NG : A5 Tryz.prog 75 (Spec.fresh Kb) := by
 refine F8 (ES.at_ 47) Tryz.func75 rfl rfl rfl ?_
 intro args bl p r bf hg hp
 unfold Kb at hg
 split at hg
 rename_i xs ps u
 simp only [Option.some.injEq, Prod.mk.injEq] at hg
 obtain ⟨rfl, rfl, rfl⟩ := hg
 obtain ⟨he, hl, he2, hl2, hsm, hsl⟩ := hp
 generalize dI xs = l at *
 generalize dP ps = P at *
 subst he he2
 have hT : (ES).X = T := rfl
 have hx0 := And.intro @DW (And.intro @AE (And.intro @Ci (And.intro @Ch @Tryz.results75)))
 have hx := hx0
 refine ⟨Nat.le_of_ble_eq_true rfl, ?_⟩
 intro F W0 M0 hnp hmk
 have hnp : Bl.np = 0 := hnp
 refine Aa fun N1 h1 => Ac ?_
 refine Az ?_
 refine Fz ?_
 refine Ad ?_
 refine Bj ?_
 refine Ab (h1 _ (Aa fun N2 h2 => ?_)); clear h1
 have hx := And.intro @BH hx0
 refine Aa fun N3 h3 => Ac ?_
 refine Aq ?_
 have hc := Ag (E := (ES.at_ 47)) (f := 49) (sp := Spec.pure KJ) rfl
 have hs := @KJ.eq_1
 refine Ba ?_
 refine Bj ?_
 refine A4 ?_
 have hx := hx0
 refine Ab (h3 _ (Aa fun N4 h4 => ?_)); clear h3
 rcases RG l P with hvx | hvx
 have hz1 : (Dj l P).1 = 0 := by rw [hvx]
 have hz2 : (Dj l P).2 = 0 := by rw [hvx]
 have hv := QA hz1
 have hlen20 := hv.tlen
 have hpl := hv.plen
 refine Ac ?_
 refine Aq ?_
 refine BD ?_
 refine Ao ?_
 refine Ab (h4 _ (Ak (fun hb5 => ?_) (fun hb5 => ?_))); clear h4
 exact absurd (And.intro hz1 hz2) (by have := hb5; simpa using this)
 refine An ?_
 try simp only [Ae]
 refine h2 _ (Aa fun N6 h6 => ?_); clear h2
 refine Aa fun N7 h7 => Ac ?_
 refine Ad ?_
 refine AU ?_
 refine Ao ?_
 refine Ab (h7 _ (Ak (fun hb8 => ?_) (fun hb8 => ?_))); clear h7
 refine Aa fun N9 h9 => Ac ?_
 refine BD ?_
 refine Ad ?_
 refine A4 ?_
 refine Ab (h9 _ (Am ?_)); clear h9
 try simp only [Ae]
 have hr : Eh l P u = (10, -1) := by unfold Eh; rw [if_neg (by rw [hz1]; simp), if_pos (by have := hb8; omega)]
 have hr2 : ED l P u = [] := by unfold ED; rw [hr]; rfl
 rw [hr, hr2]
 refine Aj ?_
 refine ⟨[none], by rfl, ?_, ?_⟩
 refine Aj ?_
 ·(repeat' apply And.intro) <;> (first | (first | rfl | exact Or.inl rfl | exact Or.inr rfl | trivial | omega | (rw [hr2]; rfl) | (simp [hr2]; done) | (rw [List.drop_zero, AY, List.take_length]; done)) | exact Au)
 refine Aj ?_
 ·(repeat' apply And.intro) <;> (first | (first | rfl | exact Or.inl rfl | exact Or.inr rfl | trivial | omega | (rw [hr2]; rfl) | (simp [hr2]; done) | (rw [List.drop_zero, AY, List.take_length]; done)) | exact Au)
 refine An ?_
 try simp only [Ae]
 refine h6 _ (Aa fun N10 h10 => Ac ?_); clear h6
 refine Ar ?_
 refine Aq ?_
 have hc := Ag (E := (ES.at_ 47)) (f := 76) (sp := Spec.fresh (FW 3)) rfl
 have hs := @FW.eq_1
 refine BM (hq := by (first | (exact ⟨of_eq_true (BO l), by omega⟩) | exact AQ)) ?_
 refine Ad ?_
 refine Ab (h10 _ (Aa fun N11 h11 => ?_)); clear h10
 refine Aa fun N12 h12 => Ac ?_
 refine Ad ?_
 refine AU ?_
 iterate 2 refine Ao ?_
 refine Ad ?_
 refine Ab (h12 _ (As ?_)); clear h12
 refine A3 (σ := Nat) (fun s => (fun i => i ≤ u.length - 2) s)
  (fun s => (fun i => [(1, .d (.str u)), (2, .ptr 0 0 0), (5, .ptr 1 0 0), (7, .sl 2 0 (DQ l P u i).length), (27, .d (.int .i64 ((u.length : Int) - 3 + 1))), (28, .d (.int .i64 (i : Nat)))]) s)
  (fun s => (fun i => [some (.one 49 [.d (.sl (rows eI l)), .d (.sl (rows eP P))]), some (.one 29 [.d (.int .i64 0), .d (.int .i64 0)]), some (.vec 3 1 (rows eI (DQ l P u i)))]) s) (fun s => (fun i => u.length - i) s) hnp 0 ?_ [some 0, some 1, some 3] ?_ ?_
 dsimp only
 omega
 dsimp only
 refine ⟨by rfl, ?_, ?_⟩
 refine Aj ?_
 exact Hn
 refine Aj ?_
 exact Hn
 rintro i hinv N13 h13
 dsimp only at hinv ⊢
 have i1 := hinv
 have hcl := I9 l P u i
 refine Aa fun N14 h14 => Ac ?_
 refine Az ?_
 refine Ao ?_
 refine Ab (h14 _ (Aa fun N15 h15 => Ak (fun hb16 => ?_) (fun hb16 => ?_))); clear h14
 have hi3 : i + 3 ≤ u.length := by have := hb16; omega
 have hgr : List.take (((i : Int) + 3).toNat - i) (u.drop i) = gr u i := by unfold gr; congr 1; omega
 refine An ?_
 try simp only [Ae]
 refine h15 _ (Aa fun N17 h17 => As ?_); clear h15
 refine Aa fun N18 h18 => Ac ?_
 iterate 2 refine Ad ?_
 refine Ab (h18 _ (Aa fun N19 h19 => ?_)); clear h18
 have hx := And.intro @hgr (And.intro @XN (And.intro @UQ (And.intro @Rc hx0)))
 refine EA [] (.seq [0, 1, 2, 3, 4, 5] (.alt 6 (.seq [7, 8, 9] (.alt 10 (.seq [11, 12, 13] .nil) (.alt 11 (.seq [10, 12, 13] .nil) .nil))) (.alt 10 (.alt 6 (.seq [7, 8, 9, 11, 12, 13] .nil) (.alt 11 (.seq [6, 7, 8, 9, 12, 13] .nil) .nil)) (.alt 11 (.alt 6 (.seq [7, 8, 9, 10, 12, 13] .nil) (.alt 10 (.seq [6, 7, 8, 9, 12, 13] .nil) .nil)) .nil)))) ER (by kernel_rfl) ?_
 refine A7 ?_
 simp only [Ah, Af]
 refine Aq ?_
 iterate 3 refine Ad ?_
 refine Ao ?_
 refine BZ ?_
 refine Ab ?_
 refine A0 ?_ ?_
 simp only [Ah, Af]
 have hc := Ag (E := (ES.at_ 47)) (f := 78) (sp := Spec.pure Du) rfl
 have hs := @Du.eq_1
 refine Ba (hq := by (first | (exact ⟨Ek P, E8 hv.good.sort, by rw [List.length_map]; omega⟩) | exact AQ)) ?_
 refine Ab ?_
 refine A7 ?_
 simp only [Ah, Af]
 refine Ad ?_
 iterate 2 refine Dt ?_
 refine Ab ?_
 refine A0 ?_ ?_
 simp only [Ah, Af]
 refine Bj ?_
 refine Ab ?_
 refine A7 ?_
 simp only [Ah, Af]
 refine Bj ?_
 iterate 2 refine A4 ?_
 refine Ab ?_
 refine AK ?_
 have hx := And.intro @BH (And.intro @CR hx0)
 refine h19 _ (Ac ?_); clear h19
 refine Ad ?_
 refine Hh ?_
 have hc := Ag (E := (ES.at_ 47)) (f := 57) (sp := Spec.gen Dh) rfl
 have hs := @Dh.eq_1
 refine BM (hq := by (first | (exact ⟨by omega, hsm, fun hb => ⟨by omega, by have := EQ hv.good.sort hb; omega⟩⟩) | exact AQ)) ?_
 refine Ad ?_
 have hx := hx0
 refine Ab (h17 _ (Ac ?_)); clear h17
 refine Ao ?_
 refine Ad ?_
 refine Ab ?_
 refine h13 _ ⟨i + 1, ?_, ?_, [some 0, some 1, some 2], ?_⟩
 dsimp only
 omega
 dsimp only
 omega
 dsimp only
 refine ⟨by rfl, ?_, ?_⟩
 refine Aj ?_
 exact Au
 refine Aj ?_
 exact Au
 refine A0 ?_ ?_
 simp only [Ah, Af]
 refine Bj ?_
 refine Ab ?_
 refine A7 ?_
 simp only [Ah, Af]
 refine Bj ?_
 iterate 2 refine A4 ?_
 refine Ab ?_
 refine AK ?_
 have hx := And.intro @BH (And.intro @CR hx0)
 refine h19 _ (Ac ?_); clear h19
 refine Ad ?_
 refine Hh ?_
 have hc := Ag (E := (ES.at_ 47)) (f := 57) (sp := Spec.gen Dh) rfl
 have hs := @Dh.eq_1
 refine BM (hq := by (first | (exact ⟨by omega, hsm, fun hb => ⟨by omega, by have := EQ hv.good.sort hb; omega⟩⟩) | exact AQ)) ?_
 refine Ad ?_
 have hx := hx0
 refine Ab (h17 _ (Ac ?_)); clear h17
 refine Ao ?_
 refine Ad ?_
 refine Ab ?_
 refine h13 _ ⟨i + 1, ?_, ?_, [some 0, some 1, some 2], ?_⟩
 dsimp only
 omega
 dsimp only
 omega
 dsimp only
 refine ⟨by rfl, ?_, ?_⟩
 refine Aj ?_
 exact Au
 refine Aj ?_
 exact Au
 exact Bh
 refine A0 ?_ ?_
 simp only [Ah, Af]
 refine Bj ?_
 refine Ab ?_
 refine A0 ?_ ?_
 simp only [Ah, Af]
 have hc := Ag (E := (ES.at_ 47)) (f := 78) (sp := Spec.pure Du) rfl
 have hs := @Du.eq_1
 refine Ba (hq := by (first | (exact ⟨Ek P, E8 hv.good.sort, by rw [List.length_map]; omega⟩) | exact AQ)) ?_
 refine Ab ?_
 refine A7 ?_
 simp only [Ah, Af]
 refine Ad ?_
 iterate 2 refine Dt ?_
 refine Bj ?_
 iterate 2 refine A4 ?_
 refine Ab ?_
 refine AK ?_
 have hx := And.intro @BH (And.intro @CR hx0)
 refine h19 _ (Ac ?_); clear h19
 refine Ad ?_
 refine Hh ?_
 have hc := Ag (E := (ES.at_ 47)) (f := 57) (sp := Spec.gen Dh) rfl
 have hs := @Dh.eq_1
 refine BM (hq := by (first | (exact ⟨by omega, hsm, fun hb => ⟨by omega, by have := EQ hv.good.sort hb; omega⟩⟩) | exact AQ)) ?_
 refine Ad ?_
 have hx := hx0
 refine Ab (h17 _ (Ac ?_)); clear h17
 refine Ao ?_
 refine Ad ?_
 refine Ab ?_
 refine h13 _ ⟨i + 1, ?_, ?_, [some 0, some 1, some 2], ?_⟩
 dsimp only
 omega
 dsimp only
 omega
 dsimp only
 refine ⟨by rfl, ?_, ?_⟩
 refine Aj ?_
 exact Au
 refine Aj ?_
 exact Au
 refine A0 ?_ ?_
 simp only [Ah, Af]
 refine Bj ?_
 refine Ab ?_
 refine A7 ?_
 simp only [Ah, Af]
 have hc := Ag (E := (ES.at_ 47)) (f := 78) (sp := Spec.pure Du) rfl
 have hs := @Du.eq_1
 refine Ba (hq := by (first | (exact ⟨Ek P, E8 hv.good.sort, by rw [List.length_map]; omega⟩) | exact AQ)) ?_
 refine Ad ?_
 iterate 2 refine Dt ?_
 iterate 2 refine A4 ?_
 refine Ab ?_
 refine AK ?_
 have hx := And.intro @BH (And.intro @CR hx0)
 refine h19 _ (Ac ?_); clear h19
 refine Ad ?_
 refine Hh ?_
 have hc := Ag (E := (ES.at_ 47)) (f := 57) (sp := Spec.gen Dh) rfl
 have hs := @Dh.eq_1
 refine BM (hq := by (first | (exact ⟨by omega, hsm, fun hb => ⟨by omega, by have := EQ hv.good.sort hb; omega⟩⟩) | exact AQ)) ?_
 refine Ad ?_
 have hx := hx0
 refine Ab (h17 _ (Ac ?_)); clear h17
 refine Ao ?_
 refine Ad ?_
 refine Ab ?_
 refine h13 _ ⟨i + 1, ?_, ?_, [some 0, some 1, some 2], ?_⟩
 dsimp only
 omega
 dsimp only
 omega
 dsimp only
 refine ⟨by rfl, ?_, ?_⟩
 refine Aj ?_
 exact Au
 refine Aj ?_
 exact Au
 exact Bh
 refine A0 ?_ ?_
 simp only [Ah, Af]
 refine Bj ?_
 refine Ab ?_
 refine A0 ?_ ?_
 simp only [Ah, Af]
 have hc := Ag (E := (ES.at_ 47)) (f := 78) (sp := Spec.pure Du) rfl
 have hs := @Du.eq_1
 refine Ba (hq := by (first | (exact ⟨Ek P, E8 hv.good.sort, by rw [List.length_map]; omega⟩) | exact AQ)) ?_
 refine Ab ?_
 refine A7 ?_
 simp only [Ah, Af]
 refine Ad ?_
 iterate 2 refine Dt ?_
 refine Bj ?_
 iterate 2 refine A4 ?_
 refine Ab ?_
 refine AK ?_
 have hx := And.intro @BH (And.intro @CR hx0)
 refine h19 _ (Ac ?_); clear h19
 refine Ad ?_
 refine Hh ?_
 have hc := Ag (E := (ES.at_ 47)) (f := 57) (sp := Spec.gen Dh) rfl
 have hs := @Dh.eq_1
 refine BM (hq := by (first | (exact ⟨by omega, hsm, fun hb => ⟨by omega, by have := EQ hv.good.sort hb; omega⟩⟩) | exact AQ)) ?_
 refine Ad ?_
 have hx := hx0
 refine Ab (h17 _ (Ac ?_)); clear h17
 refine Ao ?_
 refine Ad ?_
 refine Ab ?_
 refine h13 _ ⟨i + 1, ?_, ?_, [some 0, some 1, some 2], ?_⟩
 dsimp only
 omega
 dsimp only
 omega
 dsimp only
 refine ⟨by rfl, ?_, ?_⟩
 refine Aj ?_
 exact Au
 refine Aj ?_
 exact Au
 refine A0 ?_ ?_
 simp only [Ah, Af]
 refine Bj ?_
 refine Ab ?_
 refine A7 ?_
 simp only [Ah, Af]
 have hc := Ag (E := (ES.at_ 47)) (f := 78) (sp := Spec.pure Du) rfl
 have hs := @Du.eq_1
 refine Ba (hq := by (first | (exact ⟨Ek P, E8 hv.good.sort, by rw [List.length_map]; omega⟩) | exact AQ)) ?_
 refine Ad ?_
 iterate 2 refine Dt ?_
 iterate 2 refine A4 ?_
 refine Ab ?_
 refine AK ?_
 have hx := And.intro @BH (And.intro @CR hx0)
 refine h19 _ (Ac ?_); clear h19
 refine Ad ?_
 refine Hh ?_
 have hc := Ag (E := (ES.at_ 47)) (f := 57) (sp := Spec.gen Dh) rfl
 have hs := @Dh.eq_1
 refine BM (hq := by (first | (exact ⟨by omega, hsm, fun hb => ⟨by omega, by have := EQ hv.good.sort hb; omega⟩⟩) | exact AQ)) ?_
 refine Ad ?_
 have hx := hx0
 refine Ab (h17 _ (Ac ?_)); clear h17
 refine Ao ?_
 refine Ad ?_
 refine Ab ?_
 refine h13 _ ⟨i + 1, ?_, ?_, [some 0, some 1, some 2], ?_⟩
 dsimp only
 omega
 dsimp only
 omega
 dsimp only
 refine ⟨by rfl, ?_, ?_⟩
 refine Aj ?_
 exact Au
 refine Aj ?_
 exact Au
 exact Bh
 exact Bh
 have hie : i = u.length - 2 := by have := hb16; omega
 subst hie
 refine AJ ?_
 simp only [Ae, Nat.reduceEqDiff, reduceIte, eq_self]
 refine h11 _ (Aa fun N20 h20 => Ac ?_); clear h11
 refine Ad ?_
 refine BD ?_
 refine Ad ?_
 refine A4 ?_
 refine Ab (h20 _ (Am ?_)); clear h20
 try simp only [Ae]
 have hr : Eh l P u = (0, 0) := by unfold Eh; rw [if_neg (by rw [hz1]; simp), if_neg (by have := hb8; omega)]
 have hr2 : ED l P u = DQ l P u (u.length - 2) := by unfold ED; rw [hr]; rfl
 rw [hr, hr2]
 refine Aj ?_
 refine ⟨[some 2], by rfl, ?_, ?_⟩
 refine Aj ?_
 ·(repeat' apply And.intro) <;> (first | (first | rfl | exact Or.inl rfl | exact Or.inr rfl | trivial | omega | (rw [hr2]; rfl) | (simp [hr2]; done) | (rw [List.drop_zero, AY, List.take_length]; done)) | exact Au)
 refine Aj ?_
 ·(repeat' apply And.intro) <;> (first | (first | rfl | exact Or.inl rfl | exact Or.inr rfl | trivial | omega | (rw [hr2]; rfl) | (simp [hr2]; done) | (rw [List.drop_zero, AY, List.take_length]; done)) | exact Au)
 have hz1 := hvx
 have hz2 := hvx
 refine Ac ?_
 refine Aq ?_
 refine BD ?_
 refine Ao ?_
 refine Ab (h4 _ (Ak (fun hb21 => ?_) (fun hb21 => ?_))); clear h4
 refine Aa fun N22 h22 => Ac ?_
 refine Aq ?_
 refine Ad ?_
 refine A4 ?_
 refine Ab (h22 _ (Am ?_)); clear h22
 try simp only [Ae]
 have hr : Eh l P u = Dj l P := by unfold Eh; rw [if_pos hz1]
 have hr2 : ED l P u = [] := by unfold ED; rw [hr, if_pos hz1]
 rw [hr, hr2]
 refine Aj ?_
 refine ⟨[none], by rfl, ?_, ?_⟩
 refine Aj ?_
 ·(repeat' apply And.intro) <;> (first | (first | rfl | exact Or.inl rfl | exact Or.inr rfl | trivial | omega | (rw [hr2]; rfl) | (simp [hr2]; done) | (rw [List.drop_zero, AY, List.take_length]; done)) | exact Au)
 refine Aj ?_
 ·(repeat' apply And.intro) <;> (first | (first | rfl | exact Or.inl rfl | exact Or.inr rfl | trivial | omega | (rw [hr2]; rfl) | (simp [hr2]; done) | (rw [List.drop_zero, AY, List.take_length]; done)) | exact Au)
 exact absurd (show (Dj l P).1 = 0 by have := hb21; first | exact this.1 | exact (Classical.not_not.1 this).1 | (simp at this; exact this.1)) hz1
 cases hg
def DC : Bq Tryz.prog := ES.add 75 (Spec.fresh Kb) NG (by kernel_rfl)
