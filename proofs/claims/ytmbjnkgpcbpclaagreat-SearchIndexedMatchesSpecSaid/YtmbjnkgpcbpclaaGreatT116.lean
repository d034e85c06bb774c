import Derived.Test.YtmbjnkgpcbpclaaGreatT111
set_option linter.all false
set_option maxRecDepth 100000
set_option maxHeartbeats 4000000
namespace Go.Proofs.YtmbjnkgpcbpclaaGreat
open Go Go.Vc Go.RowKit
theorem Kr {l : List Int} {P : List AR} {q : List Sn} (h : 1 ≤ q.length) : (Ju l P q).length ≤ l.length := by
  unfold Ju
  obtain ⟨s, hs⟩ := BA (l := DM l P q q.length) (i := q.length - 1) (by rw [EF]; omega)
  rw [List.getD_eq_getElem?_getD, hs]
  exact Ib s (AB hs)
theorem Fi {l : List Int} {P : List AR} (h : Nu l P) : DN P := fun p hp => ⟨by rw [h.g3 p hp]; decide, by have := h.pmax p hp; omega⟩
theorem T7 (ts : List Bs) : (BN ts).1 ≠ 0 ∧ La ts = [] ∧ KZ ts = [] ∨ BN ts = (0, 0) ∧ La ts = Cp ts.length ∧ KZ ts = C2 ts ts.length ∧ ts.length ≤ 20 ∧ ∀ s ∈ ts, s.length ≤ 400 := by
  by_cases h : (BN ts).1 = 0
  · right
    unfold La KZ
    rw [if_pos h, if_pos h]
    unfold BN at h ⊢
    split at h
    · cases h
    · rename_i h1
      rw [if_neg h1]
      split at h
      · cases h
      · rename_i h2
        rw [if_neg h2]
        refine ⟨rfl, rfl, rfl, by omega, fun s hs => ?_⟩
        cases hb : I6 s with
        | true => exact absurd (List.any_eq_true.2 ⟨s, hs, hb⟩) h2
        | false => have := of_decide_eq_false hb; omega
  · left; unfold La KZ; rw [if_neg h, if_neg h]; exact ⟨h, rfl, rfl⟩
theorem Vq {ts : List Bs} {p s : Bs} {i : Nat} (h : ts[i]? = some s) (hs : DZ s p = true) : (i : Int) ∈ DQ (Cp ts.length) (C2 ts ts.length) p (p.length - 2) := by
  have hi := (List.getElem?_eq_some_iff.1 h).1
  unfold DQ
  rw [List.mem_filter, List.all_eq_true]
  refine ⟨DT.2 (by omega), fun j hj => ?_⟩
  have hj := List.mem_range.1 hj
  rw [U3 (Fg ts ts.length).sort, Kt]
  obtain ⟨a, ha, he⟩ := List.any_eq_true.1 hs
  have ha := List.mem_range.1 ha
  have he := of_decide_eq_true he
  refine ⟨i, hi, rfl, a + j, ?_, ?_⟩
  · rw [B5 h]
    have : p.length = min p.length (s.length - a) := by
      have := congrArg List.length he
      simp only [List.length_take, List.length_drop] at this
      omega
    omega
  · rw [B5 h]
    unfold gr
    conv => rhs; rw [← he]
    rw [List.drop_take, List.take_take, List.drop_drop, Nat.min_eq_left (by omega)]
theorem Ve {ts : List Bs} {q : List Sn} (hv : C4 q = (0, 0)) {i : Nat} {s : Bs} (h : ts[i]? = some s) : ∀ (n : Nat), n ≤ q.length → ∀ k, k < n → (Kw s q n).getD k false = true → (i : Int) ∈ (DM (Cp ts.length) (C2 ts ts.length) q n).getD k []
  | 0, _, k, hk, _ => by omega
  | n + 1, hn, k, hk, hm => by
    have ih := Ve hv h n (by omega)
    have hi := (List.getElem?_eq_some_iff.1 h).1
    obtain ⟨x, hxe⟩ := BA (l := q) (i := n) (by omega)
    have hxd : q.getD n default = x := by rw [List.getD_eq_getElem?_getD, hxe]; rfl
    rw [Kx hxd] at hm
    rw [L5 hxd]
    by_cases hkn : k < n
    · rw [List.getD_eq_getElem?_getD, List.getElem?_append_left (by rw [EF]; exact hkn), ← List.getD_eq_getElem?_getD]
      rw [List.getD_eq_getElem?_getD, List.getElem?_append_left (by rw [DV]; exact hkn), ← List.getD_eq_getElem?_getD] at hm
      exact ih k hkn hm
    · obtain rfl : k = n := by omega
      rw [List.getD_eq_getElem?_getD, List.getElem?_append_right (by rw [EF]; exact Nat.le_refl _), EF, Nat.sub_self]
      rw [List.getD_eq_getElem?_getD, List.getElem?_append_right (by rw [DV]; exact Nat.le_refl _), DV, Nat.sub_self] at hm
      have hm : SX s x (Kw s q k) = true := hm
      show (i : Int) ∈ IL _ _ x _
      have hio : (i : Int) ∈ Cp ts.length := DT.2 (by omega)
      obtain ⟨⟨k1, k4⟩, _⟩ := Fw hv (i := k) (by omega) hxd
      have hat := MK hv (i := k) (by omega) hxd
      obtain ⟨a, b, c, e⟩ := x
      dsimp only at k1 k4 hat
      unfold SX at hm
      unfold IL
      dsimp only at hm ⊢
      split at hm
      · rename_i h1
        rw [if_pos h1]
        exact Vq h hm
      · rename_i h1
        rw [if_neg h1]
        obtain ⟨c0, ci, e0, ei⟩ := hat h1
        split
        · exact hio
        · rename_i h4
          rw [List.mem_filter]
          refine ⟨hio, ?_⟩
          unfold MG
          split at hm
          · rename_i h2
            rw [if_pos h2]
            rw [Bool.and_eq_true] at hm ⊢
            exact ⟨decide_eq_true (ih _ (by omega) hm.1), decide_eq_true (ih _ (by omega) hm.2)⟩
          · rename_i h2
            rw [if_neg h2]
            rw [if_pos (by omega)] at hm
            rw [Bool.or_eq_true] at hm ⊢
            exact hm.imp (fun h => decide_eq_true (ih _ (by omega) h)) (fun h => decide_eq_true (ih _ (by omega) h))
theorem Xf {ts : List Bs} {q : List Sn} (hv : C4 q = (0, 0)) {i : Nat} {s : Bs} (h : ts[i]? = some s) (hm : Pk s q = true) : (i : Int) ∈ Ju (Cp ts.length) (C2 ts ts.length) q := by
  obtain ⟨_, h1, _, _⟩ := Et hv
  exact Ve hv h q.length (Nat.le_refl _) (q.length - 1) (by omega) hm
def IR (ts : List Bs) (q : List Sn) (x : Int) : Bool := !(Pk (ts.getD x.toNat []) q)
theorem Q1 {s l : List Int} (h : s.Sublist l) (hn : l.Nodup) : l.filter (fun x => decide (x ∈ s)) = s := by
  induction h with
  | slnil => rfl
  | @cons s l a hs ih =>
    rw [List.nodup_cons] at hn
    rw [List.filter_cons_of_neg (by rw [decide_eq_true_eq]; exact fun h => hn.1 (hs.subset h))]
    exact ih hn.2
  | @cons_cons s l a hs ih =>
    rw [List.nodup_cons] at hn
    rw [List.filter_cons_of_pos (by rw [decide_eq_true_eq]; exact List.mem_cons_self)]
    congr 1
    rw [List.filter_congr (q := fun x => decide (x ∈ s))]
    · exact ih hn.2
    · intro x hx
      rw [Bool.eq_iff_iff, decide_eq_true_eq, decide_eq_true_eq, List.mem_cons]
      exact ⟨fun h => h.resolve_left (fun e => hn.1 (e ▸ hx)), .inr⟩
theorem Vd (l : List Int) (P : List AR) (n : Sn) (S : List (List Int)) : (IL l P n S).Sublist l := by
  unfold IL DQ
  split
  · exact List.filter_sublist
  · split
    · exact List.Sublist.refl _
    · exact List.filter_sublist
theorem O1 {l : List Int} {P : List AR} {q : List Sn} : ∀ {i : Nat}, ∀ s ∈ DM l P q i, s.Sublist l
  | 0, s, h => by cases h
  | i + 1, s, h => by
    rcases List.mem_append.1 h with h | h
    · exact O1 s h
    · rw [List.mem_singleton.1 h]; exact Vd _ _ _ _
theorem O0 {l : List Int} {P : List AR} {q : List Sn} (h : 1 ≤ q.length) : (Ju l P q).Sublist l := by
  unfold Ju
  obtain ⟨s, hs⟩ := BA (l := DM l P q q.length) (i := q.length - 1) (by rw [EF]; omega)
  rw [List.getD_eq_getElem?_getD, hs]
  exact O1 s (AB hs)
theorem Kn : ∀ n, (Cp n).Nodup
  | 0 => List.nodup_nil
  | n + 1 => by
    rw [FP, List.nodup_append]
    refine ⟨Kn n, by simp, fun a ha b hb => ?_⟩
    rw [List.mem_singleton] at hb
    have := DT.1 ha
    omega
theorem Ki (ts : List Bs) (q : List Sn) : ∀ n, Ja ts q n = (Cp n).filter fun x => Pk (ts.getD x.toNat []) q
  | 0 => rfl
  | n + 1 => by
    have e : Ja ts q (n + 1) = if Pk (ts.getD n []) q = true then Ja ts q n ++ [(n : Int)] else Ja ts q n := rfl
    rw [e, FP, List.filter_append, ← Ki ts q n]
    by_cases h : Pk (ts.getD n []) q = true
    · rw [if_pos h, List.filter_cons_of_pos (by rw [Int.toNat_natCast]; exact h)]; rfl
    · rw [if_neg h, List.filter_cons_of_neg (by rw [Int.toNat_natCast]; exact h), List.filter_nil, List.append_nil]
theorem My {ts : List Bs} {q : List Sn} (hv : C4 q = (0, 0)) : Hz (IR ts q) (Ju (Cp ts.length) (C2 ts ts.length) q) = Ja ts q ts.length := by
  obtain ⟨_, h1, _, _⟩ := Et hv
  rw [Ki]
  unfold Hz IR
  have hs := Q1 (O0 (l := Cp ts.length) (P := C2 ts ts.length) h1) (Kn _)
  generalize hM : Ju (Cp ts.length) (C2 ts ts.length) q = M at hs ⊢
  refine (congrArg (List.filter fun x => !(!(Pk (ts.getD x.toNat []) q))) hs.symm).trans ?_
  rw [List.filter_filter]
  apply List.filter_congr
  intro x hx
  obtain ⟨h0, hl⟩ := DT.1 hx
  obtain ⟨i, rfl⟩ := Int.eq_ofNat_of_zero_le h0
  rw [Int.toNat_natCast, Bool.not_not]
  obtain ⟨z, hz⟩ := BA (l := ts) (i := i) (by omega)
  have hzd : ts.getD i [] = z := by rw [List.getD_eq_getElem?_getD, hz]; rfl
  rw [hzd]
  cases hm : Pk z q with
  | false => rfl
  | true =>
    have := Xf hv hz hm
    rw [hM] at this
    simp [this]
def Oe : List AV → Option (Prop × AV)
  | [.agg [.d (.str a), .d (.sl ts)], .agg [.d (.str b), .d (.sl us)]] => some (ts = rows eI (dI ts) ∧ us = rows eI (dI us) ∧ (dI ts).length ≤ 9223372036854775807 ∧ (dI us).length ≤ 9223372036854775807, .d (.bool (decide (a = b) && decide (dI ts = dI us))))
  | _ => none
def PG : List AV → Option (Prop × AV)
  | [.d (.sl xs), .d (.sl ys), .clo (.func 56) []] => some (xs = rows eP (dP xs) ∧ ys = rows eP (dP ys) ∧ (dP xs).length ≤ 9223372036854775807 ∧ (dP ys).length ≤ 9223372036854775807 ∧ DN (dP xs) ∧ DN (dP ys), .d (.bool (decide (dP xs = dP ys))))
  | _ => none
def ZV (ts : List Bs) (p : Int) : Prop := 0 ≤ p ∧ p < ts.length
def Kq : List AV → Option (Prop × AV)
  | [.d (.int .i64 p), .d (.ptr [.sl ts]), .d (.ptr [.sl ys])] => some (ts = rows eT (dT ts) ∧ ys = rows Ec (C8 ys) ∧ C4 (C8 ys) = (0, 0) ∧ (∀ s ∈ dT ts, s.length ≤ 400) ∧ ZV (dT ts) p, .d (.bool (IR (dT ts) (C8 ys) p)))
  | _ => none
def UK : List AV → Option (Prop × AV)
  | [.d (.sl xs), .clo (.func 58) [.d (.ptr [.sl ts]), .d (.ptr [.sl ys])]] => some (xs = rows eI (dI xs) ∧ (dI xs).length ≤ 9223372036854775807 ∧ ts = rows eT (dT ts) ∧ ys = rows Ec (C8 ys) ∧ C4 (C8 ys) = (0, 0) ∧ (∀ s ∈ dT ts, s.length ≤ 400) ∧ ∀ p ∈ dI xs, ZV (dT ts) p, .d (.int .i64 (Js (IR (dT ts) (C8 ys)) (dI xs))))
  | _ => none
def NQ : DP
  | [.sl 0 0 n, .clo (.func 58) [.ptr 1 0 0, .ptr 2 0 0]], [some (.vec t s xs), some (.one tt [.d (.sl ts)]), some (.one tq [.d (.sl ys)])] =>
    some (t = 3 ∧ s = 1 ∧ xs = rows eI (dI xs) ∧ n = (dI xs).length ∧ (dI xs).length ≤ 1000000000 ∧ ts = rows eT (dT ts) ∧ ys = rows Ec (C8 ys) ∧ C4 (C8 ys) = (0, 0) ∧ (∀ s ∈ dT ts, s.length ≤ 400) ∧ ∀ p ∈ dI xs, ZV (dT ts) p,
      .sl 0 0 (Hz (IR (dT ts) (C8 ys)) (dI xs)).length, [some (.vec 3 1 (rows eI (Hz (IR (dT ts) (C8 ys)) (dI xs)))), some (.one tt [.d (.sl ts)]), some (.one tq [.d (.sl ys)])])
  | _, _ => none
theorem PH : A5 Tryz.prog 54 (Spec.pure CP) := by
 refine A1 (TU.at_ 26) Tryz.func54 rfl rfl rfl ?_
 intro args p r hg hp
 unfold CP at hg
 split at hg
 rename_i xs ys
 simp only [Option.some.injEq, Prod.mk.injEq] at hg
 obtain ⟨rfl, rfl⟩ := hg
 obtain ⟨hx, hy, hl, hm⟩ := hp
 generalize dI xs = l at *
 generalize dI ys = m at *
 subst hx hy
 have hT : (TU).X = T := rfl
 have hx0 := @Tryz.results54
 have hx := hx0
 refine ⟨by rfl, ?_⟩
 intro F W0 hnp hmk
 refine Aa fun N1 h1 => Ac ?_
 refine Az ?_
 refine Ad ?_
 refine Ab (h1 _ (Aa fun N2 h2 => ?_)); clear h1
 refine Aa fun N3 h3 => Ac ?_
 refine Ad ?_
 refine AU ?_
 refine Ad ?_
 refine AU ?_
 refine Ao ?_
 refine Ab (h3 _ (Ak (fun hb4 => ?_) (fun hb4 => ?_))); clear h3
 refine Aa fun N5 h5 => Ac ?_
 refine Ad ?_
 refine Ab (h5 _ (Am ?_)); clear h5
 try simp only [Ae]
 have hr : decide (l = m) = false := decide_eq_false (fun h => by subst h; omega)
 rw [hr]
 refine Aw ?_
 exact Au
 refine An ?_
 try simp only [Ae]
 refine h2 _ (Aa fun N6 h6 => ?_); clear h2
 refine Aa fun N7 h7 => Ac ?_
 refine Ad ?_
 refine AU ?_
 refine Ad ?_
 refine Ab (h7 _ (As ?_)); clear h7
 refine A3 (σ := Nat) (fun s => (fun i => l.length = m.length ∧ i ≤ l.length ∧ l.take i = m.take i) s)
  (fun s => (fun i => [(0, .d (.sl (rows eI l))), (1, .d (.sl (rows eI m))), (12, .d (.int .i64 (l.length : Nat))), (13, .d (.int .i64 (i : Nat)))]) s)
  (fun s => (fun i => []) s) (fun s => (fun i => l.length - i) s) hnp 0 ?_ [] ?_ ?_
 dsimp only
 refine ⟨by omega, by omega, rfl⟩
 dsimp only
 refine ⟨by rfl, ?_, ?_⟩
 refine Aj ?_
 exact Au
 refine Aj ?_
 exact Au
 rintro i hinv N8 h8
 dsimp only at hinv ⊢
 obtain ⟨i1, i2, i3⟩ := hinv
 refine Aa fun N9 h9 => Ac ?_
 refine Az ?_
 refine Ao ?_
 refine Ab (h9 _ (Aa fun N10 h10 => Ak (fun hb11 => ?_) (fun hb11 => ?_))); clear h9
 obtain ⟨a, ha⟩ := BA (l := l) (i := i) (by omega)
 obtain ⟨c, hc⟩ := BA (l := m) (i := i) (by omega)
 refine An ?_
 try simp only [Ae]
 refine h10 _ (Aa fun N12 h12 => As ?_); clear h10
 refine Aa fun N13 h13 => Ac ?_
 iterate 2 refine Ad ?_
 have hx := And.intro @ha (And.intro @hc (And.intro @eI.eq_1 hx0))
 refine Ab (h13 _ (Aa fun N14 h14 => Ac ?_)); clear h13
 iterate 2 refine Ad ?_
 refine Ar ?_
 refine Aq ?_
 iterate 2 refine Ad ?_
 refine Ar ?_
 refine Aq ?_
 refine Ao ?_
 have hx := hx0
 refine Ab (h14 _ (Ak (fun hb15 => ?_) (fun hb15 => ?_))); clear h14
 have hne := hb15
 refine Aa fun N16 h16 => Ac ?_
 refine Ad ?_
 refine Ab (h16 _ (Am ?_)); clear h16
 try simp only [Ae]
 have hr : decide (l = m) = false := decide_eq_false (O7 ha hc (by simpa using hne))
 rw [hr]
 refine Aw ?_
 exact Au
 have hne := hb15
 refine An ?_
 try simp only [Ae]
 refine h12 _ (Ac ?_); clear h12
 refine Ao ?_
 refine Ad ?_
 refine Ab ?_
 refine h8 _ ⟨i + 1, ?_, ?_, [], ?_⟩
 dsimp only
 refine ⟨i1, by omega, ?_⟩
 have he : a = c := by simpa using hne
 subst he
 exact JE ha hc i3
 dsimp only
 omega
 dsimp only
 refine ⟨by rfl, ?_, ?_⟩
 refine Aj ?_
 exact Au
 refine Aj ?_
 exact Au
 refine AJ ?_
 simp only [Ae, Nat.reduceEqDiff, reduceIte, eq_self]
 refine h6 _ (Aa fun N17 h17 => Ac ?_); clear h6
 refine Ad ?_
 refine Ab (h17 _ (Am ?_)); clear h17
 try simp only [Ae]
 have hr : decide (l = m) = true := decide_eq_true (by rw [List.take_of_length_le (by omega), List.take_of_length_le (by omega)] at i3; exact i3)
 rw [hr]
 refine Aw ?_
 exact Au
 cases hg
def LX : Bq Tryz.prog := TU.add 54 (Spec.pure CP) PH (by kernel_rfl)
theorem Hp {p : Prop} (h : p := by (repeat' apply And.intro) <;> (first | (first | rfl | trivial | (simp; done)) | exact Au)) : p := h
theorem PM : A5 Tryz.prog 56 (Spec.pure Oe) := by
 refine A1 (LX.at_ 17) Tryz.func56 rfl rfl rfl ?_
 intro args p r hg hp
 unfold Oe at hg
 split at hg
 rename_i a ts b us
 simp only [Option.some.injEq, Prod.mk.injEq] at hg
 obtain ⟨rfl, rfl⟩ := hg
 obtain ⟨hx, hy, hl, hm⟩ := hp
 generalize dI ts = l at *
 generalize dI us = m at *
 subst hx hy
 have hT : (LX).X = T := rfl
 have hx0 := And.intro @AE (And.intro @BO (And.intro @Bool.true_and (And.intro @Bool.false_and (And.intro @Ci (And.intro @Ch @Tryz.results56)))))
 have hx := hx0
 refine ⟨by rfl, ?_⟩
 intro F W0 hnp hmk
 refine Aa fun N1 h1 => Ac ?_
 refine Az ?_
 iterate 2 refine Fz ?_
 refine Ad ?_
 refine Ab (h1 _ (Aa fun N2 h2 => ?_)); clear h1
 by_cases hab : a = b
 have hd : decide (a = b) = true := decide_eq_true hab
 have hx := And.intro @hd hx0
 refine Ac ?_
 refine Ar ?_
 refine Aq ?_
 refine Ar ?_
 refine Aq ?_
 refine Ao ?_
 refine Ad ?_
 refine B9 ?_
 refine B8 ?_
 refine B9 ?_
 refine B8 ?_
 have hc := Ag (E := (LX.at_ 17)) (f := 54) (sp := Spec.pure CP) rfl
 have hs := @CP.eq_1
 refine YK (hq := by (intro hg; (try simp only [C5, Ca, CC] at hg); (first | (exact ⟨rfl, rfl, hl, hm⟩) | exact AQ))) ?_
 refine AH ?_
 refine Ad ?_
 have hx := hx0
 refine Ab (h2 _ (Am ?_)); clear h2
 try simp only [Ae]
 rw [hd]
 refine Aw ?_
 exact Hp
 have hd : decide (a = b) = false := decide_eq_false hab
 have hx := And.intro @hd hx0
 refine Ac ?_
 refine Ar ?_
 refine Aq ?_
 refine Ar ?_
 refine Aq ?_
 refine Ao ?_
 refine Ad ?_
 refine B9 ?_
 refine B8 ?_
 refine B9 ?_
 refine B8 ?_
 refine At Bb ?_
 refine AH ?_
 refine Ad ?_
 have hx := hx0
 refine Ab (h2 _ (Am ?_)); clear h2
 try simp only [Ae]
 rw [hd]
 refine Aw ?_
 exact Hp
 cases hg
def LZ : Bq Tryz.prog := LX.add 56 (Spec.pure Oe) PM (by kernel_rfl)
theorem S3 : A5 Tryz.prog 55 (Spec.pure PG) := by
 refine A1 (LZ.at_ 32) Tryz.func55 rfl rfl rfl ?_
 intro args p r hg hp
 unfold PG at hg
 split at hg
 rename_i xs ys
 simp only [Option.some.injEq, Prod.mk.injEq] at hg
 obtain ⟨rfl, rfl⟩ := hg
 obtain ⟨hx, hy, hl, hm, hs1, hs2⟩ := hp
 generalize dP xs = P at *
 generalize dP ys = Q at *
 subst hx hy
 have hT : (LZ).X = T := rfl
 have hx0 := And.intro @DW (And.intro @NR (And.intro @AE (And.intro @Ci (And.intro @Ch @Tryz.results55))))
 have hx := hx0
 refine ⟨by rfl, ?_⟩
 intro F W0 hnp hmk
 refine Aa fun N1 h1 => Ac ?_
 refine Az ?_
 refine Ad ?_
 refine Ab (h1 _ (Aa fun N2 h2 => ?_)); clear h1
 refine Aa fun N3 h3 => Ac ?_
 refine Ad ?_
 refine AU ?_
 refine Ad ?_
 refine AU ?_
 refine Ao ?_
 refine Ab (h3 _ (Ak (fun hb4 => ?_) (fun hb4 => ?_))); clear h3
 refine Aa fun N5 h5 => Ac ?_
 refine Ad ?_
 refine Ab (h5 _ (Am ?_)); clear h5
 try simp only [Ae]
 have hr : decide (P = Q) = false := decide_eq_false (fun h => by subst h; omega)
 rw [hr]
 refine Aw ?_
 exact Au
 refine An ?_
 try simp only [Ae]
 refine h2 _ (Aa fun N6 h6 => ?_); clear h2
 refine Aa fun N7 h7 => Ac ?_
 refine Ad ?_
 refine AU ?_
 refine Ad ?_
 refine Ab (h7 _ (As ?_)); clear h7
 refine A3 (σ := Nat) (fun s => (fun i => P.length = Q.length ∧ i ≤ P.length ∧ P.take i = Q.take i) s)
  (fun s => (fun i => [(0, .d (.sl (rows eP P))), (1, .d (.sl (rows eP Q))), (2, .clo (.func 56) []), (15, .d (.sl (rows eP P))), (16, .d (.int .i64 (P.length : Nat))), (17, .d (.int .i64 (i : Nat)))]) s)
  (fun s => (fun i => []) s) (fun s => (fun i => P.length - i) s) hnp 0 ?_ [] ?_ ?_
 dsimp only
 refine ⟨by omega, by omega, rfl⟩
 dsimp only
 refine ⟨by rfl, ?_, ?_⟩
 refine Aj ?_
 exact Au
 refine Aj ?_
 exact Au
 rintro i hinv N8 h8
 dsimp only at hinv ⊢
 obtain ⟨i1, i2, i3⟩ := hinv
 refine Aa fun N9 h9 => Ac ?_
 refine Az ?_
 refine Ao ?_
 refine Ab (h9 _ (Aa fun N10 h10 => Ak (fun hb11 => ?_) (fun hb11 => ?_))); clear h9
 obtain ⟨⟨g, t⟩, hpe⟩ := BA (l := P) (i := i) (by omega)
 obtain ⟨⟨h, u⟩, hqe⟩ := BA (l := Q) (i := i) (by omega)
 have hs3 := hs1 _ (AB hpe)
 have hs4 := hs2 _ (AB hqe)
 have hs5 : t.length ≤ 9223372036854775807 := hs3.2
 have hs6 : u.length ≤ 9223372036854775807 := hs4.2
 refine An ?_
 try simp only [Ae]
 refine h10 _ (Aa fun N12 h12 => As ?_); clear h10
 have hx := And.intro @hpe hx0
 refine Aa fun N13 h13 => Ac ?_
 refine Ad ?_
 refine Ar ?_
 refine Aq ?_
 refine Bj ?_
 refine Ad ?_
 refine A4 ?_
 have hx := And.intro @hqe hx0
 refine Ab (h13 _ (Aa fun N14 h14 => Ac ?_)); clear h13
 iterate 2 refine Ad ?_
 refine Ar ?_
 refine Aq ?_
 refine Bj ?_
 refine A4 ?_
 have hx := hx0
 refine Ab (h14 _ (Aa fun N15 h15 => Ac ?_)); clear h14
 refine Ad ?_
 iterate 2 refine Aq ?_
 have hc := (rfl : ((LZ.at_ 32)).Γ 56 = some (Spec.pure Oe))
 have hs := (@Oe.eq_1)
 refine Q6 (hq := by (first | ((rw [AE, AE]; exact ⟨rfl, rfl, hs5, hs6⟩)) | exact AQ)) ?_
 refine EL ?_
 refine Ab (h15 _ (Ak (fun hb16 => ?_) (fun hb16 => ?_))); clear h15
 have hne : ¬ (g = h ∧ t = u) := by have := hb16; (try simp only [AE] at this); simpa using this
 refine Aa fun N17 h17 => Ac ?_
 refine Ad ?_
 refine Ab (h17 _ (Am ?_)); clear h17
 try simp only [Ae]
 have hr : decide (P = Q) = false := decide_eq_false (O7 hpe hqe (fun e => hne (Prod.mk.inj e)))
 rw [hr]
 refine Aw ?_
 exact Au
 have hne : g = h ∧ t = u := by have := hb16; (try simp only [AE] at this); simpa using this
 refine An ?_
 try simp only [Ae]
 refine h12 _ (Ac ?_); clear h12
 refine Ao ?_
 refine Ad ?_
 refine Ab ?_
 refine h8 _ ⟨i + 1, ?_, ?_, [], ?_⟩
 dsimp only
 refine ⟨i1, by omega, ?_⟩
 obtain ⟨rfl, rfl⟩ := hne
 exact JE hpe hqe i3
 dsimp only
 omega
 dsimp only
 refine ⟨by rfl, ?_, ?_⟩
 refine Aj ?_
 exact Au
 refine Aj ?_
 exact Au
 refine AJ ?_
 simp only [Ae, Nat.reduceEqDiff, reduceIte, eq_self]
 refine h6 _ (Aa fun N18 h18 => Ac ?_); clear h6
 refine Ad ?_
 refine Ab (h18 _ (Am ?_)); clear h18
 try simp only [Ae]
 have hr : decide (P = Q) = true := decide_eq_true (by rw [List.take_of_length_le (by omega), List.take_of_length_le (by omega)] at i3; exact i3)
 rw [hr]
 refine Aw ?_
 exact Au
 cases hg
def QL : Bq Tryz.prog := LZ.add 55 (Spec.pure PG) S3 (by kernel_rfl)
