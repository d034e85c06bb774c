/- Walks, printed by wip/gen/walk.py. -/
import Derived.Test.YtiijkbidkdmilaaT63
import Derived.Test.YtiijkbidkdmilaaV5
set_option linter.all false
set_option maxRecDepth 100000
set_option maxHeartbeats 4000000
namespace Go.Proofs.Ytiijkbidkdmilaa
open Go Go.Vc Go.RowKit
def toR (total : Int) (es : List Ev) : Int × Int × Int × Int := match runL total (0, 0, [], []) es 0 with
  | .inl (c, i) => (0, 0, c, i)
  | .inr s => (s.2.1, s.1, 0, 0)
def toG : List AV → Option (Prop × AV)
  | [.d (.int .i64 total), .d (.sl es)] => some (es = rows eE (dE es) ∧ (dE es).length ≤ 1000000 ∧ 0 ≤ total ∧ total ≤ 1000000, .tup [.d (.int .i64 (toR total (dE es)).1), .d (.int .i64 (toR total (dE es)).2.1), .agg [.d (.int .i64 (toR total (dE es)).2.2.1), .d (.int .i64 (toR total (dE es)).2.2.2)]])
  | _ => none
theorem dropN_ok {l : List Int} {n : Int} (h : okN l n = true) : dropN l n = l.eraseIdx n.toNat := by simp [dropN, h]

/-- More of a link's state: what is acknowledged has been taken. -/
def Inv2 (total : Int) (s : LS) : Prop := LInv total s ∧ s.1 ≤ s.2.1 ∧ ∀ x ∈ s.2.2.2, x ≤ s.2.1
theorem tookK_le (t x : Int) : t ≤ tookK t x := by unfold tookK; split <;> omega
theorem stepL_two {total : Int} {s : LS} {k n : Int} (hi : Inv2 total s) (h : stepCode total s.1 s.2.2.1 s.2.2.2 k n = 0) : Inv2 total (stepL s k n) ∧ s.1 ≤ (stepL s k n).1 ∧ s.2.1 ≤ (stepL s k n).2.1 := by
  obtain ⟨h1, h2, h3⟩ := hi
  have h4 := (stepL_inv h1 h).1
  obtain ⟨a, t, fs, ws⟩ := s
  simp only at h h2 h3
  rcases stepCode_cases h with ⟨rfl, rfl, ha⟩ | ⟨hk | hk | hk, ho⟩ | ⟨hk | hk, ho⟩
  · exact ⟨⟨h4, h2, h3⟩, Int.le_refl _, Int.le_refl _⟩
  · subst hk
    have hle := tookK_le t (getN fs n)
    refine ⟨⟨h4, ?_, ?_⟩, Int.le_refl _, hle⟩
    · show a ≤ tookK t (getN fs n); omega
    · intro x hx
      have hx' : x ∈ ws ++ [tookK t (getN fs n)] := hx
      show x ≤ tookK t (getN fs n)
      rcases List.mem_append.1 hx' with hx | hx
      · have := h3 x hx; omega
      · rw [List.mem_singleton.1 hx]; exact Int.le_refl _
  · subst hk; exact ⟨⟨h4, h2, h3⟩, Int.le_refl _, Int.le_refl _⟩
  · subst hk; exact ⟨⟨h4, h2, h3⟩, Int.le_refl _, Int.le_refl _⟩
  · subst hk
    have hg := h3 _ (getN_mem ho)
    refine ⟨⟨h4, ?_, fun x hx => h3 x (dropN_mem hx)⟩, ?_, Int.le_refl _⟩
    · show max a (getN ws n) ≤ t; omega
    · show a ≤ max a (getN ws n); omega
  · subst hk; exact ⟨⟨h4, h2, fun x hx => h3 x (dropN_mem hx)⟩, Int.le_refl _, Int.le_refl _⟩
theorem runL_two {total : Int} : ∀ (es : List Ev) (s : LS) (i : Nat) (s' : LS), Inv2 total s → runL total s es i = .inr s' → Inv2 total s' ∧ s.1 ≤ s'.1 ∧ s.2.1 ≤ s'.2.1 := by
  intro es
  induction es with
  | nil => intro s i s' hi h; simp only [runL, Sum.inr.injEq] at h; subst h; exact ⟨hi, Int.le_refl _, Int.le_refl _⟩
  | cons e r ih =>
    intro s i s' hi h
    rw [runL] at h
    split at h
    · rename_i hc
      obtain ⟨h1, h2, h3⟩ := stepL_two hi hc
      obtain ⟨h4, h5, h6⟩ := ih _ _ _ h1 h
      exact ⟨h4, Int.le_trans h2 h5, Int.le_trans h3 h6⟩
    · cases h
theorem runL_inl {total : Int} : ∀ (es : List Ev) (s : LS) (i : Nat) (c j : Int), runL total s es i = .inl (c, j) → c ≠ 0 := by
  intro es
  induction es with
  | nil => intro s i c j h; simp [runL] at h
  | cons e r ih =>
    intro s i c j h
    rw [runL] at h
    split at h
    · exact ih _ _ _ _ h
    · rename_i hc
      simp only [Sum.inl.injEq, Prod.mk.injEq] at h
      rw [← h.1]; exact hc
theorem runL_app {total : Int} : ∀ (es fs : List Ev) (s : LS) (i : Nat) (s' : LS), runL total s (es ++ fs) i = .inr s' → ∃ s1, runL total s es i = .inr s1 ∧ runL total s1 fs (i + es.length) = .inr s' := by
  intro es
  induction es with
  | nil => intro fs s i s' h; exact ⟨s, rfl, by simpa using h⟩
  | cons e r ih =>
    intro fs s i s' h
    rw [List.cons_append, runL] at h
    split at h
    · rename_i hc
      obtain ⟨s1, h1, h2⟩ := ih fs _ _ _ h
      refine ⟨s1, by rw [runL, if_pos hc, h1], ?_⟩
      rw [List.length_cons, Nat.add_comm r.length 1, ← Nat.add_assoc]; exact h2
    · cases h
theorem inv2_start (total : Nat) : Inv2 (total : Int) (0, 0, [], []) := by
  refine ⟨⟨?_, ?_, ?_, ?_, ?_, ?_⟩, ?_, ?_⟩ <;> simp
theorem run_big {l : List UInt8} {es : List Ev} (h : 4096 < l.length) : runR l es = ([], 0, 2, -1) := by unfold runR; rw [if_neg (by omega)]
theorem run_many {l : List UInt8} {es : List Ev} (h : l.length ≤ 4096) (h' : 200 < es.length) : runR l es = ([], 0, 2, -2) := by unfold runR; rw [if_pos h, if_neg (by omega)]
/-- A run, by cases. -/
theorem run_cases (l : List UInt8) (es : List Ev) : (4096 < l.length ∧ runR l es = ([], 0, 2, -1)) ∨ (l.length ≤ 4096 ∧ 200 < es.length ∧ runR l es = ([], 0, 2, -2)) ∨
    (l.length ≤ 4096 ∧ es.length ≤ 200 ∧ ∃ c i, c ≠ 0 ∧ runR l es = ([], 0, c, i) ∧ toR ((framesOf l).length : Nat) es = (0, 0, c, i)) ∨
    (l.length ≤ 4096 ∧ es.length ≤ 200 ∧ ∃ (a tk : Nat) (s : LS), a ≤ tk ∧ tk ≤ (framesOf l).length ∧ s.1 = a ∧ s.2.1 = tk ∧ runL ((framesOf l).length : Nat) (0, 0, [], []) es 0 = .inr s ∧ runR l es = (l.take (16 * tk), (a : Int), 0, 0) ∧ toR ((framesOf l).length : Nat) es = ((tk : Int), (a : Int), 0, 0)) := by
  rcases Nat.lt_or_ge 4096 l.length with h | h
  · exact .inl ⟨h, run_big h⟩
  rcases Nat.lt_or_ge 200 es.length with h' | h'
  · exact .inr (.inl ⟨h, h', run_many h h'⟩)
  cases hr : runL ((framesOf l).length : Nat) (0, 0, [], []) es 0 with
  | inl x =>
    obtain ⟨c, i⟩ := x
    refine .inr (.inr (.inl ⟨h, h', c, i, runL_inl _ _ _ _ _ hr, ?_, ?_⟩))
    · unfold runR; rw [if_pos h, if_pos h', hr]
    · unfold toR; rw [hr]
  | inr s =>
    obtain ⟨a, tk, fs, ws⟩ := s
    obtain ⟨⟨⟨h1, h2, h3, h4, _⟩, h5, _⟩, _, _⟩ := runL_two _ _ _ _ (inv2_start _) hr
    simp only at h1 h2 h3 h4 h5
    obtain ⟨a, rfl⟩ := Int.eq_ofNat_of_zero_le h1
    obtain ⟨tk, rfl⟩ := Int.eq_ofNat_of_zero_le h3
    refine .inr (.inr (.inr ⟨h, h', a, tk, _, by omega, by omega, rfl, rfl, rfl, ?_, ?_⟩))
    · unfold runR; rw [if_pos h, if_pos h', hr]
      show (((framesOf l).take (Int.toNat (tk : Int))).flatten, (a : Int), 0, 0) = _
      rw [framesOf_take, Int.toNat_natCast]
    · unfold toR; rw [hr]
/-- Later events only extend. -/
theorem run_grows {l : List UInt8} {es : List Ev} {k a tk : Nat} {s : LS} (hl : l.length ≤ 4096) (he : es.length ≤ 200) (h1 : s.1 = a) (h2 : s.2.1 = tk) (hr : runL ((framesOf l).length : Nat) (0, 0, [], []) es 0 = .inr s) :
    ∃ a' tk' : Nat, a' ≤ a ∧ tk' ≤ tk ∧ runR l (es.take k) = (l.take (16 * tk'), (a' : Int), 0, 0) := by
  have hr' := hr
  rw [← List.take_append_drop k es] at hr'
  obtain ⟨s1, e1, e2⟩ := runL_app _ _ _ _ _ hr'
  obtain ⟨g1, _, _⟩ := runL_two _ _ _ _ (inv2_start _) e1
  obtain ⟨_, g2, g3⟩ := runL_two _ _ _ _ g1 e2
  have hlen : (es.take k).length ≤ 200 := by rw [List.length_take]; omega
  rcases run_cases l (es.take k) with ⟨h, _⟩ | ⟨_, h, _⟩ | ⟨_, _, c, i, hc, h, h'⟩ | ⟨_, _, a', tk', s2, _, _, e3, e4, e5, e6, _⟩
  · omega
  · omega
  · exfalso; unfold toR at h'; rw [e1] at h'; simp only [Prod.mk.injEq] at h'; exact hc h'.2.2.1.symm
  · rw [e1] at e5; cases e5
    exact ⟨a', tk', by omega, by omega, e6⟩
theorem plan_len (lost : List Bool) (left room : Nat) : (plan lost left room).1.length ≤ room := by
  induction lost, left, room using plan.induct <;> rw [plan] <;> (try split) <;> simp_all <;> omega
theorem runL_step {total : Int} {s : LS} {k n : Int} {r : List Ev} {i : Nat} {s' : LS} (h : stepCode total s.1 s.2.2.1 s.2.2.2 k n = 0) (h' : stepL s k n = s') : runL total s ((k, n) :: r) i = runL total s' r (i + 1) := by rw [runL, if_pos h, h']
theorem plan_runs (total : Nat) (lost : List Bool) (left room : Nat) : ∀ (i m : Nat), m + left = total → ∃ m' : Nat, m' ≤ total ∧ runL total ((m : Int), (m : Int), [], []) (plan lost left room).1 i = .inr ((m' : Int), (m' : Int), [], []) ∧ ((plan lost left room).2 = true → m' = total) := by
  have hlose : ∀ (m i : Nat) (r : List Ev), m < total → runL total ((m : Int), (m : Int), [], []) ((1, 0) :: (3, 0) :: r) i = runL total ((m : Int), (m : Int), [], []) r (i + 2) := by
    intro m i r h
    rw [runL_step (s' := ((m : Int), (m : Int), [(m : Int)], [])) (by simp [stepCode]; omega) (by simp [stepL]), runL_step (s' := ((m : Int), (m : Int), [], [])) (by simp [stepCode, okN]) (by simp [stepL, dropN, okN])]
  have hsend : ∀ (m i : Nat) (r : List Ev), m < total → runL total ((m : Int), (m : Int), [], []) ((1, 0) :: (2, 0) :: (5, 0) :: r) i = runL total (((m + 1 : Nat) : Int), ((m + 1 : Nat) : Int), [], []) r (i + 3) := by
    intro m i r h
    rw [runL_step (s' := ((m : Int), (m : Int), [(m : Int)], [])) (by simp [stepCode]; omega) (by simp [stepL]), runL_step (s' := ((m : Int), ((m + 1 : Nat) : Int), [], [((m + 1 : Nat) : Int)])) (by simp [stepCode, okN]) (by simp [stepL, dropN, okN, getN, tookK]),
      runL_step (s' := (((m + 1 : Nat) : Int), ((m + 1 : Nat) : Int), [], [])) (by simp [stepCode, okN]) (by simp [stepL, dropN, okN, getN]; omega)]
  induction lost, left, room using plan.induct with
  | case1 => intro i m h; exact ⟨m, by omega, by simp [plan_zero, runL], fun _ => by omega⟩
  | case2 r left room hroom => intro i m h; exact ⟨m, by omega, by simp [plan, hroom, runL], by simp [plan, hroom]⟩
  | case3 r left room hroom ih =>
    intro i m h
    obtain ⟨m', h1, h2, h3⟩ := ih (i + 2) m h
    refine ⟨m', h1, ?_, ?_⟩
    · rw [plan, if_neg hroom]; simp only; rw [hlose m i _ (by omega)]; exact h2
    · rw [plan, if_neg hroom]; exact h3
  | case4 r left room hroom => intro i m h; exact ⟨m, by omega, by simp [plan, hroom, runL], by simp [plan, hroom]⟩
  | case5 r left room hroom ih =>
    intro i m h
    obtain ⟨m', h1, h2, h3⟩ := ih (i + 3) (m + 1) (by omega)
    refine ⟨m', h1, ?_, ?_⟩
    · rw [plan, if_neg hroom]; simp only; rw [hsend m i _ (by omega)]; exact h2
    · rw [plan, if_neg hroom]; exact h3
  | case6 left room hroom => intro i m h; exact ⟨m, by omega, by simp [plan, hroom, runL], by simp [plan, hroom]⟩
  | case7 left room hroom ih =>
    intro i m h
    obtain ⟨m', h1, h2, h3⟩ := ih (i + 3) (m + 1) (by omega)
    refine ⟨m', h1, ?_, ?_⟩
    · rw [plan, if_neg hroom]; simp only; rw [hsend m i _ (by omega)]; exact h2
    · rw [plan, if_neg hroom]; exact h3
/-- A plan delivers. -/
theorem plan_delivers (l : List UInt8) (ls : List Bool) (hl : l.length ≤ 4096) (hs : ls.length ≤ 100) : ∃ (ps : List Ev) (d : Bool) (m : Nat), planR l ls = (ps, d, 0, 0) ∧ ps.length ≤ 200 ∧ m ≤ (framesOf l).length ∧ runR l ps = (l.take (16 * m), (m : Int), 0, 0) ∧ (d = true → l.take (16 * m) = l ∧ m = (l.length + 15) / 16) := by
  refine ⟨(plan ls (framesOf l).length 200).1, (plan ls (framesOf l).length 200).2, ?_⟩
  have hpl := plan_len ls (framesOf l).length 200
  obtain ⟨m, h1, h2, h3⟩ := plan_runs (framesOf l).length ls (framesOf l).length 200 0 0 (by omega)
  have hfl := framesOf_len l
  refine ⟨m, by unfold planR; rw [if_pos hl, if_pos hs], hpl, h1, ?_, fun h => ?_⟩
  · unfold runR; rw [if_pos hl, if_pos hpl]
    have h2' : runL ((framesOf l).length : Nat) (0, 0, [], []) (plan ls (framesOf l).length 200).1 0 = .inr ((m : Int), (m : Int), [], []) := h2
    rw [h2']
    show (((framesOf l).take (Int.toNat (m : Int))).flatten, (m : Int), 0, 0) = _
    rw [framesOf_take, Int.toNat_natCast]
  · have := h3 h; exact ⟨List.take_of_length_le (by omega), by omega⟩

/-- A run, by cases, with the bytes named. -/
theorem run_cases' (l : List UInt8) (es : List Ev) : (∃ c i, c ≠ 0 ∧ runR l es = ([], 0, c, i)) ∨
    (l.length ≤ 4096 ∧ es.length ≤ 200 ∧ ∃ (a tk : Nat) (b : List UInt8) (s : LS), a ≤ tk ∧ tk ≤ (framesOf l).length ∧ s.1 = a ∧ s.2.1 = tk ∧ runL ((framesOf l).length : Nat) (0, 0, [], []) es 0 = .inr s ∧ runR l es = (b, (a : Int), 0, 0) ∧ b = l.take (16 * tk) ∧ b.length = min (16 * tk) l.length ∧ l.take b.length = b) := by
  rcases run_cases l es with ⟨g4, hr⟩ | ⟨g4, g5, hr⟩ | ⟨g4, g5, c, ci, hc, hr, ht⟩ | ⟨g4, g5, a, tk, s, hat, htn, e1, e2, e3, hr, ht⟩
  · exact .inl ⟨_, _, by omega, hr⟩
  · exact .inl ⟨_, _, by omega, hr⟩
  · exact .inl ⟨_, _, hc, hr⟩
  · refine .inr ⟨g4, g5, a, tk, _, s, hat, htn, e1, e2, e3, hr, rfl, by rw [List.length_take], ?_⟩
    rw [List.take_eq_take_iff, List.length_take]; omega
theorem grows_b {l : List UInt8} {t t' : Nat} (h : t' ≤ t) : (l.take (16 * t')).length ≤ (l.take (16 * t)).length ∧ (l.take (16 * t)).take (l.take (16 * t')).length = l.take (16 * t') := by
  refine ⟨by rw [List.length_take, List.length_take]; omega, ?_⟩
  rw [List.take_take, List.take_eq_take_iff, List.length_take]; omega
theorem plan_cases (l : List UInt8) (ls : List Bool) : (4096 < l.length ∧ planR l ls = ([], false, 2, -1)) ∨ (l.length ≤ 4096 ∧ 100 < ls.length ∧ planR l ls = ([], false, 2, -2)) ∨ (l.length ≤ 4096 ∧ ls.length ≤ 100 ∧ planR l ls = ((plan ls ((l.length + 15) / 16) 200).1, (plan ls ((l.length + 15) / 16) 200).2, 0, 0)) := by
  rcases Nat.lt_or_ge 4096 l.length with h | h
  · exact .inl ⟨h, by unfold planR; rw [if_neg (by omega)]⟩
  rcases Nat.lt_or_ge 100 ls.length with h' | h'
  · exact .inr (.inl ⟨h, h', by unfold planR; rw [if_pos h, if_neg (by omega)]⟩)
  · exact .inr (.inr ⟨h, h', by unfold planR; rw [if_pos h, if_pos h', framesOf_len]⟩)

theorem del_cases (l : List UInt8) (ls : List Bool) : (∃ c i, c ≠ 0 ∧ planR l ls = ([], false, c, i)) ∨
    (l.length ≤ 4096 ∧ ∃ (ps : List Ev) (m : Nat) (b : List UInt8), planR l ls = (ps, false, 0, 0) ∧ ps.length ≤ 200 ∧ m ≤ (framesOf l).length ∧ runR l ps = (b, (m : Int), 0, 0) ∧ b.length ≤ l.length ∧ l.take b.length = b) ∨
    (l.length ≤ 4096 ∧ ∃ ps : List Ev, planR l ls = (ps, true, 0, 0) ∧ ps.length ≤ 200 ∧ runR l ps = (l, (((l.length + 15) / 16 : Nat) : Int), 0, 0)) := by
  rcases plan_cases l ls with ⟨g4, hr⟩ | ⟨g4, g5, hr⟩ | ⟨g4, g5, -⟩
  · exact .inl ⟨_, _, by omega, hr⟩
  · exact .inl ⟨_, _, by omega, hr⟩
  · obtain ⟨ps, d, m, hr, hpl, hmn, hrun, hd⟩ := plan_delivers l ls g4 g5
    cases d with
    | false => exact .inr (.inl ⟨g4, ps, m, _, hr, hpl, hmn, hrun, by rw [List.length_take]; omega, by rw [List.take_eq_take_iff, List.length_take]; omega⟩)
    | true => obtain ⟨h1, h2⟩ := hd rfl; rw [h1, h2] at hrun; exact .inr (.inr ⟨g4, ps, hr, hpl, hrun⟩)

/-- What a plan and its runs come to, of a pack. -/
theorem tp_cases (l : List UInt8) (ls : List Bool) : (∃ c i, c ≠ 0 ∧ planR l ls = ([], false, c, i)) ∨
    (∃ (ps : List Ev) (d : Bool) (b : List UInt8) (n : Int), planR l ls = (ps, d, 0, 0) ∧ ps.length ≤ 200 ∧ runR l ps = (b, n, 0, 0) ∧ (d = true → b = l ∧ n = (((l.length + 15) / 16 : Nat) : Int)) ∧ b.length ≤ l.length ∧
      ∀ k : Nat, ∃ (c : List UInt8) (a : Int), runR l (ps.take k) = (c, a, 0, 0) ∧ c.length ≤ l.length ∧ l.take c.length = c) := by
  have key : ∀ (ps : List Ev) (b : List UInt8) (n : Int), l.length ≤ 4096 → ps.length ≤ 200 → runR l ps = (b, n, 0, 0) → ∀ k : Nat, ∃ (c : List UInt8) (a : Int), runR l (ps.take k) = (c, a, 0, 0) ∧ c.length ≤ l.length ∧ l.take c.length = c := by
    intro ps b n h4 hpl hrun k
    rcases run_cases' l ps with ⟨c, i, hc, hr⟩ | ⟨g4, g5, a, tk, b', s, hat, htn, e1, e2, e3, hr, _⟩
    · rw [hrun] at hr; simp only [Prod.mk.injEq] at hr; exact absurd hr.2.2.1.symm hc
    · obtain ⟨a', tk', _, _, h⟩ := run_grows (k := k) g4 g5 e1 e2 e3
      exact ⟨_, _, h, by rw [List.length_take]; omega, by rw [List.take_eq_take_iff, List.length_take]; omega⟩
  rcases del_cases l ls with h | ⟨h4, ps, m, b, hp, hpl, hm, hrun, hb, ht⟩ | ⟨h4, ps, hp, hpl, hrun⟩
  · exact .inl h
  · exact .inr ⟨ps, false, b, _, hp, hpl, hrun, fun h => (by cases h), hb, key ps _ _ h4 hpl hrun⟩
  · exact .inr ⟨ps, true, l, _, hp, hpl, hrun, fun _ => ⟨rfl, rfl⟩, Nat.le_refl _, key ps _ _ h4 hpl hrun⟩
theorem bld_cases (S : List SO) : ((BldF S).1 ≠ 0 ∧ BldB S = []) ∨ ((BldF S).1 = 0 ∧ BldB S = pkB S ∧ ValS S ∧ okP S = true) := by
  rcases stF_or S with ⟨h, hv⟩ | h
  · cases ho : okP S with
    | false =>
      have hf : BldF S = (10, -1) := by unfold BldF; rw [h, ho]; rfl
      exact .inl ⟨by rw [hf]; decide, by unfold BldB; rw [hf]; rfl⟩
    | true =>
      have hf : BldF S = (0, 0) := by unfold BldF; rw [h, ho]; rfl
      exact .inr ⟨by rw [hf], by unfold BldB; rw [hf]; rfl, hv, rfl⟩
  · have hf : BldF S = stF S := by unfold BldF; rw [if_pos h]
    exact .inl ⟨by rw [hf]; exact h, by unfold BldB; rw [hf, if_pos h]⟩
def exA : SO := ⟨17106956, ⟨1, [], [7]⟩⟩
theorem ex_1 : putF [] ⟨1, [], [7]⟩ = (0, 0) ∧ putS [] ⟨1, [], [7]⟩ = [exA] ∧ putD [] ⟨1, [], [7]⟩ = 17106956 := by decide +kernel
theorem ex_2 : BldF [exA] = (0, 0) ∧ (BldB [exA]).length = 16 := by decide +kernel
theorem ex_0 : dO [] = [] ∧ dI [] = [] ∧ dU [[.int .u8 7]] = [7] ∧ [exA].length = 1 := ⟨rfl, rfl, rfl, rfl⟩
theorem ex_6 : ((1 : Nat) : Int) = 1 := rfl
theorem ex_7 : ((16 : Nat) : Int) = 16 := rfl
theorem ex_s : smallS [exA] ∧ smallS [] := by
  refine ⟨fun x hx => ?_, fun x hx => by cases hx⟩
  obtain rfl : x = exA := by simpa using hx
  exact ⟨by decide, by decide⟩
def mlG : List AV → Option (Prop × AV)
  | [] => some (True, .tup [.agg [.d (.sl (rows eO [exA]))], .d (.int .i64 17106956), .d (.bool true)])
  | _ => none
def lawTPG : List AV → Option (Prop × AV)
  | [.agg [.d (.sl xs)], .d (.sl bs), .d (.int .i64 k)] => some (xs = rows eO (dO xs) ∧ (dO xs).length ≤ 9223372036854775807 ∧ smallS (dO xs) ∧ bs = rows eB (dB bs) ∧ (dB bs).length ≤ 9223372036854775807, .d (.bool true))
  | _ => none

theorem ml_meets : Meets Try.prog 4 (Spec.pure mlG) := by
 refine meets_fun (E_Read.at_ 42) Try.func4 rfl rfl rfl ?_
 intro args p r hg hp
 unfold mlG at hg
 split at hg
 ·skip
  simp only [Option.some.injEq, Prod.mk.injEq] at hg
  obtain ⟨rfl, rfl⟩ := hg
  have hT : (E_Read).X = T := rfl
  have hx0 := And.intro @ex_0 (And.intro @ex_1 (And.intro @ex_2 (And.intro @ex_6 (And.intro @ex_7 (And.intro @rect_eO (And.intro @dI_rows (And.intro @dU_rows (And.intro @dO_rows (And.intro @dE_rows (And.intro @dB_rows (And.intro @dec_t (And.intro @dec_f @Try.results4))))))))))))
  have hx := hx0
  refine ⟨by rfl, ?_⟩
  intro F W0 hnp hmk
  refine vc_seq_k fun N1 h1 => ?_
  refine u_reg ?_
  try refine lg_mk ?_
  refine u_al ?_
  refine u_mv ?_
  refine u_mv ?_
  refine lg_nil ?_
  refine h1 _ ?_; clear h1; try clear N1
  refine vc_seq_k fun N2 h2 => ?_
  refine u_reg ?_
  try refine lg_mk ?_
  refine u_bd ?_
  refine u_bs ?_
  refine u_bd ?_
  have hc := call_rule (E := (E_Read.at_ 42)) (f := 12) (sp := Spec.pure putG) rfl
  have hs := @putG.eq_1
  refine u_hp (hq := by (first | ((repeat' apply And.intro) <;> first | rfl | exact ⟨by decide, by decide⟩ | exact ex_s.1 | exact ex_s.2 | decide | omega | (simp; done)) | exact sd_)) ?_
  refine u_mv ?_
  refine u_ex ?_
  refine u_ex ?_
  refine u_ex ?_
  refine u_al ?_
  refine u_al ?_
  refine u_st ?_
  refine u_mv ?_
  refine u_st ?_
  refine lg_nil ?_
  refine h2 _ ?_; clear h2; try clear N2
  refine vc_seq_k fun N3 h3 => ?_
  refine u_reg ?_
  try refine lg_mk ?_
  refine u_ld ?_
  have hc := call_rule (E := (E_Read.at_ 42)) (f := 5) (sp := Spec.pure BldG) rfl
  have hs := @BldG.eq_1
  refine u_hp (hq := by (first | ((repeat' apply And.intro) <;> first | rfl | exact ⟨by decide, by decide⟩ | exact ex_s.1 | exact ex_s.2 | decide | omega | (simp; done)) | exact sd_)) ?_
  refine u_mv ?_
  refine u_ex ?_
  refine u_ex ?_
  refine u_al ?_
  refine u_mv ?_
  refine u_st ?_
  refine lg_nil ?_
  refine h3 _ ?_; clear h3; try clear N3
  refine vc_seq_k fun N4 h4 => ?_
  refine u_reg ?_
  try refine lg_mk ?_
  refine u_ld (hq := by (first | ((repeat' apply And.intro) <;> first | rfl | exact ⟨by decide, by decide⟩ | exact ex_s.1 | exact ex_s.2 | decide | omega | (simp; done)) | exact sd_)) ?_
  refine u_mv (hq := by (first | ((repeat' apply And.intro) <;> first | rfl | exact ⟨by decide, by decide⟩ | exact ex_s.1 | exact ex_s.2 | decide | omega | (simp; done)) | exact sd_)) ?_
  refine u_pt (hq := by (first | ((repeat' apply And.intro) <;> first | rfl | exact ⟨by decide, by decide⟩ | exact ex_s.1 | exact ex_s.2 | decide | omega | (simp; done)) | exact sd_)) ?_
  refine u_ld (hq := by (first | ((repeat' apply And.intro) <;> first | rfl | exact ⟨by decide, by decide⟩ | exact ex_s.1 | exact ex_s.2 | decide | omega | (simp; done)) | exact sd_)) ?_
  refine u_bn (hq := by (first | ((repeat' apply And.intro) <;> first | rfl | exact ⟨by decide, by decide⟩ | exact ex_s.1 | exact ex_s.2 | decide | omega | (simp; done)) | exact sd_)) ?_
  refine u_mv (hq := by (first | ((repeat' apply And.intro) <;> first | rfl | exact ⟨by decide, by decide⟩ | exact ex_s.1 | exact ex_s.2 | decide | omega | (simp; done)) | exact sd_)) ?_
  refine s_pt (hq := by (intro hg; (try simp only [b_rules, bif_and, bif_or] at hg); (first | ((repeat' apply And.intro) <;> first | rfl | exact ⟨by decide, by decide⟩ | exact ex_s.1 | exact ex_s.2 | decide | omega | (simp; done)) | exact sd_))) ?_
  refine s_ld (hq := by (intro hg; (try simp only [b_rules, bif_and, bif_or] at hg); (first | ((repeat' apply And.intro) <;> first | rfl | exact ⟨by decide, by decide⟩ | exact ex_s.1 | exact ex_s.2 | decide | omega | (simp; done)) | exact sd_))) ?_
  refine s_bn (hq := by (intro hg; (try simp only [b_rules, bif_and, bif_or] at hg); (first | ((repeat' apply And.intro) <;> first | rfl | exact ⟨by decide, by decide⟩ | exact ex_s.1 | exact ex_s.2 | decide | omega | (simp; done)) | exact sd_))) ?_
  refine u_pk (hq := by (first | ((repeat' apply And.intro) <;> first | rfl | exact ⟨by decide, by decide⟩ | exact ex_s.1 | exact ex_s.2 | decide | omega | (simp; done)) | exact sd_)) ?_
  refine u_mv (hq := by (first | ((repeat' apply And.intro) <;> first | rfl | exact ⟨by decide, by decide⟩ | exact ex_s.1 | exact ex_s.2 | decide | omega | (simp; done)) | exact sd_)) ?_
  refine s_pt (hq := by (intro hg; (try simp only [b_rules, bif_and, bif_or] at hg); (first | ((repeat' apply And.intro) <;> first | rfl | exact ⟨by decide, by decide⟩ | exact ex_s.1 | exact ex_s.2 | decide | omega | (simp; done)) | exact sd_))) ?_
  refine s_ld (hq := by (intro hg; (try simp only [b_rules, bif_and, bif_or] at hg); (first | ((repeat' apply And.intro) <;> first | rfl | exact ⟨by decide, by decide⟩ | exact ex_s.1 | exact ex_s.2 | decide | omega | (simp; done)) | exact sd_))) ?_
  refine s_ln (hq := by (intro hg; (try simp only [b_rules, bif_and, bif_or] at hg); (first | ((repeat' apply And.intro) <;> first | rfl | exact ⟨by decide, by decide⟩ | exact ex_s.1 | exact ex_s.2 | decide | omega | (simp; done)) | exact sd_))) ?_
  refine s_bn (hq := by (intro hg; (try simp only [b_rules, bif_and, bif_or] at hg); (first | ((repeat' apply And.intro) <;> first | rfl | exact ⟨by decide, by decide⟩ | exact ex_s.1 | exact ex_s.2 | decide | omega | (simp; done)) | exact sd_))) ?_
  refine u_pk (hq := by (first | ((repeat' apply And.intro) <;> first | rfl | exact ⟨by decide, by decide⟩ | exact ex_s.1 | exact ex_s.2 | decide | omega | (simp; done)) | exact sd_)) ?_
  refine u_mv (hq := by (first | ((repeat' apply And.intro) <;> first | rfl | exact ⟨by decide, by decide⟩ | exact ex_s.1 | exact ex_s.2 | decide | omega | (simp; done)) | exact sd_)) ?_
  refine s_mv (hq := by (intro hg; (try simp only [b_rules, bif_and, bif_or] at hg); (first | ((repeat' apply And.intro) <;> first | rfl | exact ⟨by decide, by decide⟩ | exact ex_s.1 | exact ex_s.2 | decide | omega | (simp; done)) | exact sd_))) ?_
  refine s_ln (hq := by (intro hg; (try simp only [b_rules, bif_and, bif_or] at hg); (first | ((repeat' apply And.intro) <;> first | rfl | exact ⟨by decide, by decide⟩ | exact ex_s.1 | exact ex_s.2 | decide | omega | (simp; done)) | exact sd_))) ?_
  refine s_bn (hq := by (intro hg; (try simp only [b_rules, bif_and, bif_or] at hg); (first | ((repeat' apply And.intro) <;> first | rfl | exact ⟨by decide, by decide⟩ | exact ex_s.1 | exact ex_s.2 | decide | omega | (simp; done)) | exact sd_))) ?_
  refine u_pk (hq := by (first | ((repeat' apply And.intro) <;> first | rfl | exact ⟨by decide, by decide⟩ | exact ex_s.1 | exact ex_s.2 | decide | omega | (simp; done)) | exact sd_)) ?_
  refine u_st (hq := by (first | ((repeat' apply And.intro) <;> first | rfl | exact ⟨by decide, by decide⟩ | exact ex_s.1 | exact ex_s.2 | decide | omega | (simp; done)) | exact sd_)) ?_
  refine u_mv (hq := by (first | ((repeat' apply And.intro) <;> first | rfl | exact ⟨by decide, by decide⟩ | exact ex_s.1 | exact ex_s.2 | decide | omega | (simp; done)) | exact sd_)) ?_
  refine u_mv (hq := by (first | ((repeat' apply And.intro) <;> first | rfl | exact ⟨by decide, by decide⟩ | exact ex_s.1 | exact ex_s.2 | decide | omega | (simp; done)) | exact sd_)) ?_
  refine lg_nil ?_
  refine h4 _ ?_; clear h4; try clear N4
  refine vc_ret ?_
  try simp only [k_rules]
  refine fin2_ ?_
  (repeat' apply And.intro) <;> (first | (first | rfl | trivial | (simp; done) | (left; rfl)) | exact cl_)
 ·cases hg

def E_ml : Env Try.prog := E_Read.add 4 (Spec.pure mlG) ml_meets (by kernel_rfl)

theorem dropE0 (l : List Ev) : l.drop 0 = l := rfl
theorem dropU0 (l : List UInt8) : l.drop 0 = l := rfl
end Go.Proofs.Ytiijkbidkdmilaa
