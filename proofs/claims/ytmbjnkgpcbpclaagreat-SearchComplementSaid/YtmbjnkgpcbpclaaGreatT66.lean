/- Walks, printed by wip/gen/walk.py. -/
import Derived.Test.YtmbjnkgpcbpclaaGreatT65
import Derived.Test.YtmbjnkgpcbpclaaGreatV5
set_option linter.all false
set_option maxRecDepth 100000
set_option maxHeartbeats 4000000
namespace Go.Proofs.YtmbjnkgpcbpclaaGreat
open Go Go.Vc Go.RowKit
theorem SW {s : Bs} {c : Prop} [Decidable c] : (if c then [40] ++ s ++ [41] else s).length ≤ s.length + 2 := by
  split
  · simp
  · omega
theorem T3 {q : List Sn} (h : BR q = (0, 0)) {i : Nat} (hi : i < q.length) : 1 ≤ Gy (Ic q) i ∧ Gy (Ic q) i ≤ i + 1 := Wz (Ku (EI h).1).1 (by rw [NS]; exact hi)
theorem Pl {q : List Sn} (h : BR q = (0, 0)) : ∀ (f i l : Nat), i < f → i < q.length → ∃ r, Pk q f i l = some r ∧ r.length ≤ 200 * Gy (Ic q) i
  | 0, _, _, hf, _ => by omega
  | f + 1, i, l, hf, hi => by
    have ih := Pl h f
    obtain ⟨x, hx⟩ : ∃ x, q[i]? = some x := ⟨_, List.getElem?_eq_getElem hi⟩
    have hxd : q.getD i default = x := by rw [List.getD_eq_getElem?_getD, hx]; rfl
    obtain ⟨h1, h2, h3, h4, h5, h6⟩ := EU h hi hxd
    have hs := T3 h hi
    have hlen := (EI h).2.2.1
    have hel := RG x.tx
    have hsg := Pj x.kd
    have key : ∃ s, K0 (Pk q f) x = some s ∧ s.length + 2 ≤ 200 * Gy (Ic q) i := by
      unfold K0
      by_cases c1 : x.kd = 1
      · have := Iw (h2 c1)
        rw [if_pos c1]; exact ⟨_, rfl, by simp; omega⟩
      rw [if_neg c1]
      by_cases c4 : x.kd = 4
      · obtain ⟨g1, g2, g3, g4⟩ := h5 c4
        obtain ⟨r, r1, r2⟩ := ih (i - 1) 2 (by omega) (by omega)
        rw [if_pos c4, g2]
        exact ⟨_, by rw [Int.toNat_natCast, r1]; rfl, by simp; omega⟩
      rw [if_neg c4]
      obtain ⟨g1, g2, g3, g4⟩ := h6 (by omega)
      obtain ⟨r, r1, r2⟩ := ih (i - 1 - Gy (Ic q) (i - 1)) (NQ x.kd) (by omega) (by omega)
      obtain ⟨r', r3, r4⟩ := ih (i - 1) (NQ x.kd + 1) (by omega) (by omega)
      rw [g2, g3]
      exact ⟨_, by rw [Int.toNat_natCast, Int.toNat_natCast, r1, r3]; rfl, by simp; omega⟩
    obtain ⟨s, s1, s2⟩ := key
    refine ⟨if NQ x.kd < l then [40] ++ s ++ [41] else s, ?_, ?_⟩
    · unfold Pk
      rw [hx]
      show (K0 (Pk q f) x).bind _ = _
      rw [s1]
      show (if s.length ≤ 100000 then _ else _) = _
      rw [if_pos (by omega)]
    · have := SW (s := s) (c := NQ x.kd < l)
      omega
theorem UG {q : List Sn} (h : BR q = (0, 0)) : Xr q := by
  refine ⟨(EI h).2.2.1, fun n hn => ?_⟩
  obtain ⟨i, hi⟩ := List.getElem?_of_mem hn
  have hil := (List.getElem?_eq_some_iff.1 hi).1
  obtain ⟨h1, h2, h3, h4, h5, h6⟩ := EU h hil (by rw [List.getD_eq_getElem?_getD, hi]; rfl : q.getD i default = n)
  refine ⟨h1.1, h1.2, ?_, ?_, ?_⟩
  · by_cases c1 : n.kd = 1
    · rw [(h4 c1).1]; exact Int.le_refl _
    · by_cases c4 : n.kd = 4
      · rw [(h5 c4).2.1]; omega
      · rw [(h6 (by omega)).2.1]; omega
  · by_cases c1 : n.kd = 1
    · rw [(h4 c1).2.1]; exact Int.le_refl _
    · by_cases c4 : n.kd = 4
      · rw [(h5 c4).2.2.1]; exact Int.le_refl _
      · rw [(h6 (by omega)).2.2.1]; omega
  · by_cases c1 : n.kd = 1
    · exact (Iw (h2 c1)).2
    · rw [h3 c1]; exact Nat.zero_le _
theorem Pm : ∀ n, A5 Tryz.prog 48 (Spec.pure (EX n))
  | 0 => HP fun a p r h hp => by
    unfold EX at h
    split at h
    · simp only [Option.some.injEq, Prod.mk.injEq] at h
      obtain ⟨rfl, _⟩ := h
      exact absurd hp.2.2.2.2.2 (by simp [Pk])
    · cases h
  | n + 1 => Tq n (Pm n)
theorem UK {a b : Int × Int} (h : a ≠ b) : (decide (a.1 = b.1) && decide (a.2 = b.2)) = false := by
  cases hh : (decide (a.1 = b.1) && decide (a.2 = b.2)) with
  | false => rfl
  | true => simp at hh; exact absurd (Prod.ext hh.1 hh.2) h
def J8 (q : List Sn) : Int × Int × Bs :=
  if BR q ≠ (0, 0) then ((BR q).1, (BR q).2, [])
  else if 300 < ((Pk q 41 (q.length - 1) 0).getD []).length then (10, -2, []) else (0, 0, (Pk q 41 (q.length - 1) 0).getD [])
def RL : List AV → Option (Prop × AV)
  | [.agg [.d (.sl xs)]] => some (xs = rows DL (C3 xs) ∧ (C3 xs).length ≤ 9223372036854775807 ∧ IG (C3 xs), .tup [.d (.str (J8 (C3 xs)).2.2), .agg [.d (.int .i64 (J8 (C3 xs)).1), .d (.int .i64 (J8 (C3 xs)).2.1)]])
  | _ => none

def I7 : Bo Tryz.prog := Vo.add 48 (Spec.pure (EX 41)) (Pm 41) (by kernel_rfl)

theorem PP : A5 Tryz.prog 19 (Spec.pure RL) := by
 refine A7 (I7.at_ 24) Tryz.func19 rfl rfl rfl ?_
 intro args p r hg hp
 unfold RL at hg
 split at hg
 rename_i xs
 simp only [Option.some.injEq, Prod.mk.injEq] at hg
 obtain ⟨rfl, rfl⟩ := hg
 obtain ⟨he, hl, hbg⟩ := hp
 generalize C3 xs = q at *
 subst he
 have hT : (I7).X = T := rfl
 have hx0 := And.intro @A0 (And.intro @AX (And.intro @Cu (And.intro @Ct (And.intro @KT @Tryz.results19))))
 have hx := hx0
 refine ⟨by rfl, ?_⟩
 intro F W0 hnp hmk
 refine Aa fun N1 h1 => ?_
 refine Ad ?_
 try refine Ac ?_
 refine FU ?_
 refine Ae ?_
 refine B8 ?_
 refine Ab ?_
 refine h1 _ ?_; clear h1
 refine Aa fun N2 h2 => ?_
 refine Aa fun N3 h3 => ?_
 refine Ad ?_
 try refine Ac ?_
 refine Ar ?_
 have hc := Ah (E := (I7.at_ 24)) (f := 11) (sp := Spec.pure HH) rfl
 have hs := @HH.eq_1
 refine BF ?_
 refine B8 ?_
 refine A8 ?_
 refine Ab ?_
 refine h3 _ ?_; clear h3
 refine Aa fun N4 h4 => ?_
 by_cases hv : BR q = (0, 0)
 obtain ⟨_, h1, h40, _⟩ := EI hv
 have hokN := UG hv
 obtain ⟨S, hS, hSl⟩ := Pl hv 41 (q.length - 1) 0 (by omega) (by omega)
 have hSz := (T3 hv (i := q.length - 1) (by omega)).2
 have hqm : ((q.length : Int) - 1).toNat = q.length - 1 := by omega
 have hv1 : (BR q).1 = 0 := by rw [hv]
 have hv2 : (BR q).2 = 0 := by rw [hv]
 have hvb : (decide ((BR q).1 = 0) && decide ((BR q).2 = 0)) = true := by rw [hv]; rfl
 have hx := And.intro @hvb hx0
 refine Ad ?_
 try refine Ac ?_
 refine Ar ?_
 refine BC ?_
 refine Am ?_
 refine Ab ?_
 have hx := hx0
 refine h4 _ ?_; clear h4
 refine Al (fun hb5 => ?_) (fun hb5 => ?_)
 ·first | omega | exact absurd trivial hb5 | contradiction | (simp_all; done)
 refine An ?_
 try simp only [Af]
 refine h2 _ ?_; clear h2
 refine Aa fun N6 h6 => ?_
 have hx := And.intro @hqm (And.intro @hS hx0)
 refine Ad ?_
 try refine Ac ?_
 refine Ar ?_
 refine Au ?_
 refine Ar ?_
 refine Bm ?_
 refine Am ?_
 have hc := Ah (E := (I7.at_ 24)) (f := 48) (sp := Spec.pure (EX 41)) rfl
 have hs := @EX.eq_1
 refine BF (hq := by (first | ((repeat' apply And.intro) <;> first | rfl | omega | exact hokN.2 | (rw [hS]; rfl) | (simp [hS]; done)) | exact Ay)) ?_
 refine Ae ?_
 refine Ab ?_
 have hx := hx0
 refine h6 _ ?_; clear h6
 refine Aa fun N7 h7 => ?_
 refine Aa fun N8 h8 => ?_
 refine Ad ?_
 try refine Ac ?_
 refine Ae (hq := by exact AW) ?_
 refine Bm (hq := by exact AW) ?_
 refine Am (hq := by exact AW) ?_
 refine Ab ?_
 refine h8 _ ?_; clear h8
 refine Al (fun hb9 => ?_) (fun hb9 => ?_)
 refine Aa fun N10 h10 => ?_
 refine Ad ?_
 try refine Ac ?_
 refine BC ?_
 refine Ae ?_
 refine A8 ?_
 refine Ab ?_
 refine h10 _ ?_; clear h10
 refine Ao ?_
 try simp only [Af]
 have hr : J8 q = (10, -2, []) := by unfold J8; rw [if_neg (by rw [hv]; simp), hS, if_pos (by have := hb9; (try simp at this); show 300 < S.length; omega)]
 rw [hr]
 refine A3 ?_
 exact At
 refine An ?_
 try simp only [Af]
 refine h7 _ ?_; clear h7
 refine Aa fun N11 h11 => ?_
 refine Ad ?_
 try refine Ac ?_
 refine Ae ?_
 refine BC ?_
 refine Ae ?_
 refine A8 ?_
 refine Ab ?_
 refine h11 _ ?_; clear h11
 refine Ao ?_
 try simp only [Af]
 have hr : J8 q = (0, 0, S) := by unfold J8; rw [if_neg (by rw [hv]; simp), hS, if_neg (by have := hb9; (try simp at this); show ¬300 < S.length; omega)]; rfl
 rw [hr]
 refine A3 ?_
 exact At
 have hvb : (decide ((BR q).1 = 0) && decide ((BR q).2 = 0)) = false := UK hv
 have hx := And.intro @hvb hx0
 refine Ad ?_
 try refine Ac ?_
 refine Ar ?_
 refine BC ?_
 refine Am ?_
 refine Ab ?_
 have hx := hx0
 refine h4 _ ?_; clear h4
 refine Al (fun hb12 => ?_) (fun hb12 => ?_)
 refine Aa fun N13 h13 => ?_
 refine Ad ?_
 try refine Ac ?_
 refine Ar ?_
 refine Ae ?_
 refine A8 ?_
 refine Ab ?_
 refine h13 _ ?_; clear h13
 refine Ao ?_
 try simp only [Af]
 have hr : J8 q = ((BR q).1, (BR q).2, []) := by unfold J8; rw [if_pos hv]
 rw [hr]
 refine A3 ?_
 exact At
 ·first | omega | exact absurd trivial hb12 | contradiction | (simp_all; done)
 cases hg

def O5 : Bo Tryz.prog := I7.add 19 (Spec.pure RL) PP (by kernel_rfl)
end Go.Proofs.YtmbjnkgpcbpclaaGreat
