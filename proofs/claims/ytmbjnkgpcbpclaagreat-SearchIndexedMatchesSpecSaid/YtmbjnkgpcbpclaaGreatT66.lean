import Derived.Test.YtmbjnkgpcbpclaaGreatT65
set_option linter.all false
set_option maxRecDepth 100000
set_option maxHeartbeats 4000000
namespace Go.Proofs.YtmbjnkgpcbpclaaGreat
open Go Go.Vc Go.RowKit
theorem V3 {s : Bs} {c : Prop} [Decidable c] : (if c then [40] ++ s ++ [41] else s).length ≤ s.length + 2 := by
  split
  · simp
  · omega
theorem VZ {q : List Sn} (h : C4 q = (0, 0)) {i : Nat} (hi : i < q.length) : 1 ≤ Hs (Ef q) i ∧ Hs (Ef q) i ≤ i + 1 := YP (LD (Et h).1).1 (by rw [Dz]; exact hi)
theorem R7 {q : List Sn} (h : C4 q = (0, 0)) : ∀ (f i l : Nat), i < f → i < q.length → ∃ r, R6 q f i l = some r ∧ r.length ≤ 200 * Hs (Ef q) i
  | 0, _, _, hf, _ => by omega
  | f + 1, i, l, hf, hi => by
    have ih := R7 h f
    obtain ⟨x, hx⟩ : ∃ x, q[i]? = some x := ⟨_, List.getElem?_eq_getElem hi⟩
    have hxd : q.getD i default = x := by rw [List.getD_eq_getElem?_getD, hx]; rfl
    obtain ⟨h1, h2, h3, h4, h5, h6⟩ := Fw h hi hxd
    have hs := VZ h hi
    have hlen := (Et h).2.2.1
    have hel := Uu x.tx
    have hsg := R5 x.kd
    have key : ∃ s, LM (R6 q f) x = some s ∧ s.length + 2 ≤ 200 * Hs (Ef q) i := by
      unfold LM
      by_cases c1 : x.kd = 1
      · have := Ie (h2 c1)
        rw [if_pos c1]; exact ⟨_, rfl, by simp; omega⟩
      rw [if_neg c1]
      by_cases c4 : x.kd = 4
      · obtain ⟨g1, g2, g3, g4⟩ := h5 c4
        obtain ⟨r, r1, r2⟩ := ih (i - 1) 2 (by omega) (by omega)
        rw [if_pos c4, g2]
        exact ⟨_, by rw [Int.toNat_natCast, r1]; rfl, by simp; omega⟩
      rw [if_neg c4]
      obtain ⟨g1, g2, g3, g4⟩ := h6 (by omega)
      obtain ⟨r, r1, r2⟩ := ih (i - 1 - Hs (Ef q) (i - 1)) (Qa x.kd) (by omega) (by omega)
      obtain ⟨r', r3, r4⟩ := ih (i - 1) (Qa x.kd + 1) (by omega) (by omega)
      rw [g2, g3]
      exact ⟨_, by rw [Int.toNat_natCast, Int.toNat_natCast, r1, r3]; rfl, by simp; omega⟩
    obtain ⟨s, s1, s2⟩ := key
    refine ⟨if Qa x.kd < l then [40] ++ s ++ [41] else s, ?_, ?_⟩
    · unfold R6
      rw [hx]
      show (LM (R6 q f) x).bind _ = _
      rw [s1]
      show (if s.length ≤ 100000 then _ else _) = _
      rw [if_pos (by omega)]
    · have := V3 (s := s) (c := Qa x.kd < l)
      omega
theorem Xm {q : List Sn} (h : C4 q = (0, 0)) : Z9 q := by
  refine ⟨(Et h).2.2.1, fun n hn => ?_⟩
  obtain ⟨i, hi⟩ := List.getElem?_of_mem hn
  have hil := (List.getElem?_eq_some_iff.1 hi).1
  obtain ⟨h1, h2, h3, h4, h5, h6⟩ := Fw h hil (by rw [List.getD_eq_getElem?_getD, hi]; rfl : q.getD i default = n)
  refine ⟨h1.1, h1.2, ?_, ?_, ?_⟩
  · by_cases c1 : n.kd = 1
    · rw [(h4 c1).1]; exact Int.le_refl _
    · by_cases c4 : n.kd = 4
      · rw [(h5 c4).2.1]; omega
      · rw [(h6 (by omega)).2.1]; omega
  · by_cases c1 : n.kd = 1
    · rw [(h4 c1).2.1]; exact Int.le_refl _
    · by_cases c4 : n.kd = 4
      · rw [(h5 c4).2.2.1]; exact Int.le_refl _
      · rw [(h6 (by omega)).2.2.1]; omega
  · by_cases c1 : n.kd = 1
    · exact (Ie (h2 c1)).2
    · rw [h3 c1]; exact Nat.zero_le _
theorem R8 : ∀ n, A5 Tryz.prog 48 (Spec.pure (FT n))
  | 0 => O2 fun a p r h hp => by
    unfold FT at h
    split at h
    · simp only [Option.some.injEq, Prod.mk.injEq] at h
      obtain ⟨rfl, _⟩ := h
      exact absurd hp.2.2.2.2.2 (by simp [R6])
    · cases h
  | n + 1 => VO n (R8 n)
theorem Xr {a b : Int × Int} (h : a ≠ b) : (decide (a.1 = b.1) && decide (a.2 = b.2)) = false := by
  cases hh : (decide (a.1 = b.1) && decide (a.2 = b.2)) with
  | false => rfl
  | true => simp at hh; exact absurd (Prod.ext hh.1 hh.2) h
def KV (q : List Sn) : Int × Int × Bs :=
  if C4 q ≠ (0, 0) then ((C4 q).1, (C4 q).2, [])
  else if 300 < ((R6 q 41 (q.length - 1) 0).getD []).length then (10, -2, []) else (0, 0, (R6 q 41 (q.length - 1) 0).getD [])
def Uw : List AV → Option (Prop × AV)
  | [.agg [.d (.sl xs)]] => some (xs = rows Ec (C8 xs) ∧ (C8 xs).length ≤ 9223372036854775807 ∧ KR (C8 xs), .tup [.d (.str (KV (C8 xs)).2.2), .agg [.d (.int .i64 (KV (C8 xs)).1), .d (.int .i64 (KV (C8 xs)).2.1)]])
  | _ => none
def JR : Bq Tryz.prog := XI.add 48 (Spec.pure (FT 41)) (R8 41) (by kernel_rfl)
theorem S6 : A5 Tryz.prog 19 (Spec.pure Uw) := by
 refine A1 (JR.at_ 24) Tryz.func19 rfl rfl rfl ?_
 intro args p r hg hp
 unfold Uw at hg
 split at hg
 rename_i xs
 simp only [Option.some.injEq, Prod.mk.injEq] at hg
 obtain ⟨rfl, rfl⟩ := hg
 obtain ⟨he, hl, hbg⟩ := hp
 generalize C8 xs = q at *
 subst he
 have hT : (JR).X = T := rfl
 have hx0 := And.intro @BL (And.intro @AL (And.intro @Ci (And.intro @Ch (And.intro @M3 @Tryz.results19))))
 have hx := hx0
 refine ⟨by rfl, ?_⟩
 intro F W0 hnp hmk
 refine Aa fun N1 h1 => Ac ?_
 refine Az ?_
 refine Fz ?_
 refine Ad ?_
 refine Bj ?_
 refine Ab (h1 _ (Aa fun N2 h2 => ?_)); clear h1
 refine Aa fun N3 h3 => Ac ?_
 refine Aq ?_
 have hc := Ag (E := (JR.at_ 24)) (f := 11) (sp := Spec.pure Nb) rfl
 have hs := @Nb.eq_1
 refine Ba ?_
 refine Bj ?_
 refine A4 ?_
 refine Ab (h3 _ (Aa fun N4 h4 => ?_)); clear h3
 by_cases hv : C4 q = (0, 0)
 obtain ⟨_, h1, h40, _⟩ := Et hv
 have hokN := Xm hv
 obtain ⟨S, hS, hSl⟩ := R7 hv 41 (q.length - 1) 0 (by omega) (by omega)
 have hSz := (VZ hv (i := q.length - 1) (by omega)).2
 have hqm : ((q.length : Int) - 1).toNat = q.length - 1 := by omega
 have hv1 : (C4 q).1 = 0 := by rw [hv]
 have hv2 : (C4 q).2 = 0 := by rw [hv]
 have hvb : (decide ((C4 q).1 = 0) && decide ((C4 q).2 = 0)) = true := by rw [hv]; rfl
 have hx := And.intro @hvb hx0
 refine Ac ?_
 refine Aq ?_
 refine BD ?_
 refine Ao ?_
 have hx := hx0
 refine Ab (h4 _ (Ak (fun hb5 => ?_) (fun hb5 => ?_))); clear h4
 exact CJ hb5
 refine An ?_
 try simp only [Ae]
 have hx := And.intro @hqm (And.intro @hS hx0)
 refine h2 _ (Aa fun N6 h6 => Ac ?_); clear h2
 refine Aq ?_
 refine Ar ?_
 refine Aq ?_
 refine AU ?_
 refine Ao ?_
 have hc := Ag (E := (JR.at_ 24)) (f := 48) (sp := Spec.pure (FT 41)) rfl
 have hs := @FT.eq_1
 refine Ba (hq := by (first | ((repeat' apply And.intro) <;> first | rfl | omega | exact hokN.2 | (rw [hS]; rfl) | (simp [hS]; done)) | exact AQ)) ?_
 refine Ad ?_
 have hx := hx0
 refine Ab (h6 _ (Aa fun N7 h7 => ?_)); clear h6
 refine Aa fun N8 h8 => Ac ?_
 refine Ad (hq := AN) ?_
 refine AU (hq := AN) ?_
 refine Ao (hq := AN) ?_
 refine Ab (h8 _ (Ak (fun hb9 => ?_) (fun hb9 => ?_))); clear h8
 refine Aa fun N10 h10 => Ac ?_
 refine BD ?_
 refine Ad ?_
 refine A4 ?_
 refine Ab (h10 _ (Am ?_)); clear h10
 try simp only [Ae]
 have hr : KV q = (10, -2, []) := by unfold KV; rw [if_neg (by rw [hv]; simp), hS, if_pos (by have := hb9; (try simp at this); show 300 < S.length; omega)]
 rw [hr]
 refine Aw ?_
 exact Au
 refine An ?_
 try simp only [Ae]
 refine h7 _ (Aa fun N11 h11 => Ac ?_); clear h7
 refine Ad ?_
 refine BD ?_
 refine Ad ?_
 refine A4 ?_
 refine Ab (h11 _ (Am ?_)); clear h11
 try simp only [Ae]
 have hr : KV q = (0, 0, S) := by unfold KV; rw [if_neg (by rw [hv]; simp), hS, if_neg (by have := hb9; (try simp at this); show ¬300 < S.length; omega)]; rfl
 rw [hr]
 refine Aw ?_
 exact Au
 have hvb : (decide ((C4 q).1 = 0) && decide ((C4 q).2 = 0)) = false := Xr hv
 have hx := And.intro @hvb hx0
 refine Ac ?_
 refine Aq ?_
 refine BD ?_
 refine Ao ?_
 have hx := hx0
 refine Ab (h4 _ (Ak (fun hb12 => ?_) (fun hb12 => ?_))); clear h4
 refine Aa fun N13 h13 => Ac ?_
 refine Aq ?_
 refine Ad ?_
 refine A4 ?_
 refine Ab (h13 _ (Am ?_)); clear h13
 try simp only [Ae]
 have hr : KV q = ((C4 q).1, (C4 q).2, []) := by unfold KV; rw [if_pos hv]
 rw [hr]
 refine Aw ?_
 exact Au
 exact CJ hb12
 cases hg
def QO : Bq Tryz.prog := JR.add 19 (Spec.pure Uw) S6 (by kernel_rfl)
