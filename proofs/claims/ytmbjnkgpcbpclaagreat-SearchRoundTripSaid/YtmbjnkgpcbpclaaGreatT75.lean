/- Walks, printed by wip/gen/walk.py. -/
import Derived.Test.YtmbjnkgpcbpclaaGreatT72
import Derived.Test.YtmbjnkgpcbpclaaGreatV5
set_option linter.all false
set_option maxRecDepth 100000
set_option maxHeartbeats 4000000
namespace Go.Proofs.YtmbjnkgpcbpclaaGreat
open Go Go.Vc Go.RowKit
theorem root_sz {q : List Nd} (h : valQ q = (0, 0)) : szI q (q.length - 1) = q.length := by
  obtain ⟨⟨h1, h2, h3⟩, _⟩ := ok_of_val h
  have hr := refQ_end h1 h2 h3
  rw [refQ_is, h] at hr
  split at hr
  · cases hr
  · rename_i hh
    rw [← szl_at (q := q) (n := q.length) (i := q.length - 1) (by omega)]
    exact Decidable.not_not.1 hh
def hdB (r : Bs) : UInt8 := (r.dropWhile (· = 32)).headD 0
theorem dropW_is (r : Bs) : r.dropWhile (· = (32 : UInt8)) = r.drop (r.takeWhile (· = 32)).length := by
  induction r with
  | nil => rfl
  | cons c r ih =>
    by_cases h : c = 32
    · rw [List.dropWhile_cons_of_pos (by simpa using h), List.takeWhile_cons_of_pos (by simpa using h), List.length_cons, List.drop_succ_cons, ih]
    · rw [List.dropWhile_cons_of_neg (by simpa using h), List.takeWhile_cons_of_neg (by simpa using h)]; rfl
theorem hd_is {t : Bs} {b : Nat} {r : Bs} (h : t.drop b = r) : t.getD (skS t b) 0 = hdB r := by
  unfold hdB skS
  rw [h, dropW_is, ← h, List.drop_drop, List.headD_eq_head?_getD, List.head?_drop, List.getD_eq_getElem?_getD]
theorem get_at {t : Bs} {b : Nat} {c : UInt8} {r : Bs} (h : t.drop b = c :: r) : t.getD b 0 = c ∧ t[b]? = some c ∧ t.drop (b + 1) = r := by
  have h1 : t[b]? = some c := by have := congrArg List.head? h; rwa [List.head?_drop] at this
  refine ⟨by rw [List.getD_eq_getElem?_getD, h1]; rfl, h1, ?_⟩
  rw [← List.drop_drop, h]; rfl
theorem sk_nb {t : Bs} {b : Nat} {c : UInt8} {r : Bs} (h : t.drop b = c :: r) (hc : c ≠ 32) : skS t b = b := skS_stop (by rw [(get_at h).2.1]; intro e; exact hc (Option.some.inj e))
theorem sk_bl {t : Bs} {b : Nat} {c : UInt8} {r : Bs} (h : t.drop b = 32 :: c :: r) (hc : c ≠ 32) : skS t b = b + 1 := by
  rw [← skS_step (get_at h).2.1]; exact sk_nb (get_at h).2.2 hc
theorem sk_sk (t : Bs) (b : Nat) : skS t (skS t b) = skS t b := by
  by_cases hb : b < t.length
  · refine skS_stop ?_
    have h1 : t[skS t b]? = ((t.drop b).dropWhile (· = 32)).head? := by
      unfold skS; rw [dropW_is, List.drop_drop, List.head?_drop]
    rw [h1]
    intro e
    have := List.head?_dropWhile_not (fun c : UInt8 => decide (c = 32)) (t.drop b)
    rw [e] at this
    simp at this
  · have h : skS t b = b := skS_stop (by rw [List.getElem?_eq_none (by omega)]; exact fun h => by cases h)
    rw [h, h]
theorem take_next {α : Type} {l : List α} {i : Nat} {x : α} (h : l[i]? = some x) : l.take (i + 1) = l.take i ++ [x] := by rw [List.take_add_one, h]; rfl
theorem hd_nb {c : UInt8} {r : Bs} (h : c ≠ 32) : hdB (c :: r) = c := by
  unfold hdB
  rw [List.dropWhile_cons_of_neg (by simpa using h)]; rfl
theorem drop_add {t s r : Bs} {b : Nat} (h : t.drop b = s ++ r) : t.drop (b + s.length) = r := by
  rw [← List.drop_drop, h, List.drop_left]
def NB (s : Bs) : Prop := ∃ c s', s = c :: s' ∧ c ≠ 32
theorem NB.app {s r : Bs} (h : NB s) : NB (s ++ r) := by
  obtain ⟨c, s', rfl, hc⟩ := h; exact ⟨c, s' ++ r, rfl, hc⟩
theorem NB.sk {s r t : Bs} {b : Nat} (h : NB s) (e : t.drop b = s ++ r) : skS t b = b := by
  obtain ⟨c, s', rfl, hc⟩ := h; exact sk_nb (r := s' ++ r) e hc
def flw (m : Nat) (r : Bs) : Prop := (m ≤ 1 → hdB r ≠ 38) ∧ (m = 0 → hdB r ≠ 124)
theorem flw_up {m : Nat} {r : Bs} (h : flw m r) : flw (m + 1) r := ⟨fun h1 => h.1 (by omega), fun h1 => by omega⟩
theorem flw_big {m : Nat} {r : Bs} (h : 2 ≤ m) : flw m r := ⟨fun h1 => by omega, fun h1 => by omega⟩
def stN (q : List Sn) (i : Nat) : Nat := i + 1 - szI (mpQ q) i
def RA (q : List Sn) (i m : Nat) (s : Bs) (K : Nat) : Prop := ∀ t f a r, K ≤ f → t.drop (skS t a) = s ++ r → flw m r → ∃ a', rdP t f m a (q.take (stN q i)) = some (a', q.take (i + 1), i) ∧ skS t a' = skS t (skS t a + s.length)
def RB (q : List Sn) (i m : Nat) (s : Bs) (K : Nat) : Prop := ∀ t f g a r, K ≤ f → s.length < g → t.drop (skS t a) = s ++ r → flw (m + 1) r →
  ∃ a' g', bndR (rdP t f (m + 1) a (q.take (stN q i))) (fun a' ns' x => lpR (rdP t f (m + 1)) t m g a' ns' x) = lpR (rdP t f (m + 1)) t m g' a' (q.take (i + 1)) i ∧ g ≤ g' + s.length ∧ skS t a' = skS t (skS t a + s.length)
theorem RA.mono {q : List Sn} {i m : Nat} {s : Bs} {K K' : Nat} (h : RA q i m s K) (hk : K ≤ K') : RA q i m s K' := fun t f a r hf => h t f a r (by omega)
theorem RB.mono {q : List Sn} {i m : Nat} {s : Bs} {K K' : Nat} (h : RB q i m s K) (hk : K ≤ K') : RB q i m s K' := fun t f g a r hf => h t f g a r (by omega)
theorem rd3 (t : Bs) (f a : Nat) (ns : List Sn) : rdP t (f + 1) 3 a ns = unR (rdP t f 3) (rdP t f 0) t a ns := rfl
theorem rd2 (t : Bs) (f a : Nat) (ns : List Sn) : rdP t (f + 1) 2 a ns = rdP t f 3 a ns := rfl
theorem rd01 (t : Bs) (f m a : Nat) (ns : List Sn) (hm : m ≤ 1) : rdP t (f + 1) m a ns = bndR (rdP t f (m + 1) a ns) fun a' ns' x => lpR (rdP t f (m + 1)) t m (t.length + 1) a' ns' x := by
  rw [rdP, if_neg (by omega), if_neg (by omega)]
theorem RA.to2 {q : List Sn} {i : Nat} {s : Bs} {K : Nat} (h : RA q i 3 s K) : RA q i 2 s (K + 1) := by
  intro t f a r hf hd _
  obtain ⟨f, rfl⟩ : ∃ g, f = g + 1 := ⟨f - 1, by omega⟩
  rw [rd2]; exact h t f a r (by omega) hd (flw_big (by omega))
theorem RA.toB {q : List Sn} {i m : Nat} {s : Bs} {K : Nat} (h : RA q i (m + 1) s K) : RB q i m s K := by
  intro t f g a r hf hg hd hr
  obtain ⟨a', h1, h2⟩ := h t f a r hf hd hr
  exact ⟨a', g, by rw [h1]; rfl, by omega, h2⟩
theorem sgn_flw {m : Nat} {r : Bs} (hm : m ≤ 1) (h : flw m r) : hdB r ≠ sgn m := by
  unfold sgn
  split
  · exact h.1 hm
  · exact h.2 (by omega)
theorem drop_len {t s r : Bs} {b : Nat} (h : t.drop b = s ++ r) (hs : s ≠ []) : b + s.length ≤ t.length := by
  have := congrArg List.length h
  rw [List.length_drop, List.length_append] at this
  have : 0 < s.length := List.length_pos_iff.2 hs
  omega
theorem RB.toA {q : List Sn} {i m : Nat} {s : Bs} {K : Nat} (hm : m ≤ 1) (hs : s ≠ []) (h : RB q i m s K) : RA q i m s (K + 1) := by
  intro t f a r hf hd hr
  obtain ⟨f, rfl⟩ : ∃ g, f = g + 1 := ⟨f - 1, by omega⟩
  have hl := drop_len hd hs
  obtain ⟨a', g', h1, h2, h3⟩ := h t f (t.length + 1) a r (by omega) (by omega) hd (flw_up hr)
  obtain ⟨g', rfl⟩ : ∃ k, g' = k + 1 := ⟨g' - 1, by omega⟩
  rw [rd01 _ _ _ _ _ hm, h1]
  have hn : t.getD (skS t a') 0 ≠ sgn m := by
    rw [h3, hd_is (drop_add hd)]; exact sgn_flw hm hr
  exact ⟨skS t a', by rw [lpR, if_neg hn], by rw [sk_sk, h3]⟩
theorem RA.brk {q : List Sn} {i : Nat} {s : Bs} {K : Nat} (h : RA q i 0 s K) (hn : NB s) : RA q i 3 ([40] ++ s ++ [41]) (K + 1) := by
  intro t f a r hf hd _
  obtain ⟨f, rfl⟩ : ∃ g, f = g + 1 := ⟨f - 1, by omega⟩
  have hd' : t.drop (skS t a) = 40 :: (s ++ (41 :: r)) := by rw [hd]; simp
  obtain ⟨c1, c2, c3⟩ := get_at hd'
  have hk := hn.sk c3
  obtain ⟨a', h1, h2⟩ := h t f (skS t a + 1) (41 :: r) (by omega) (by rw [hk]; exact c3) ⟨fun _ => by rw [hd_nb (by decide)]; decide, fun _ => by rw [hd_nb (by decide)]; decide⟩
  have hd2 := drop_add c3
  have hk2 := sk_nb hd2 (by decide)
  rw [rd3, unR, if_neg (by rw [c1]; decide), if_pos c1, h1]
  rw [hk, hk2] at h2
  refine ⟨skS t a' + 1, ?_, ?_⟩
  · show (if t.getD (skS t a') 0 = 41 then _ else _) = _
    rw [h2, if_pos (get_at hd2).1]
  · rw [h2]; congr 1; simp; omega
theorem RA.neg {q : List Sn} {i : Nat} {s : Bs} {K : Nat} {n : Sn} (hi : 1 ≤ i) (h : RA q (i - 1) 3 s K) (hn : NB s) (hst : stN q (i - 1) = stN q i) (hqi : q[i]? = some n) (he : n = ⟨4, [], ((i - 1 : Nat) : Int), 0⟩) : RA q i 3 ([33] ++ s) (K + 1) := by
  intro t f a r hf hd _
  obtain ⟨f, rfl⟩ : ∃ g, f = g + 1 := ⟨f - 1, by omega⟩
  have hd' : t.drop (skS t a) = 33 :: (s ++ r) := by rw [hd]; simp
  obtain ⟨c1, c2, c3⟩ := get_at hd'
  have hk := hn.sk c3
  obtain ⟨a', h1, h2⟩ := h t f (skS t a + 1) r (by omega) (by rw [hk]; exact c3) (flw_big (by omega))
  rw [hst] at h1
  have hi1 : i - 1 + 1 = i := by omega
  rw [rd3, unR, if_pos c1, h1]
  refine ⟨a', ?_, ?_⟩
  · show some (a', q.take (i - 1 + 1) ++ [⟨4, [], ((i - 1 : Nat) : Int), 0⟩], (q.take (i - 1 + 1)).length) = _
    have hil := (List.getElem?_eq_some_iff.1 hqi).1
    rw [hi1, List.length_take, Nat.min_eq_left (by omega), take_next hqi, ← he]
  · rw [h2, hk]; congr 1; simp; omega
theorem qd_esc {t : Bs} : ∀ (s : Bs) {f b : Nat} {acc r : Bs}, t.drop b = esc s ++ (34 :: r) → (10 : UInt8) ∉ s → (esc s).length < f → qd t f b acc = some (b + (esc s).length, acc ++ s)
  | [], f, b, acc, r, hd, _, hf => by
    obtain ⟨f, rfl⟩ : ∃ g, f = g + 1 := ⟨f - 1, by omega⟩
    obtain ⟨_, c2, _⟩ := get_at (show t.drop b = 34 :: r from hd)
    rw [qd, c2]
    show (if (34 : UInt8) = 34 then some (b, acc) else _) = _
    rw [if_pos rfl]; simp [esc]
  | c :: s, f, b, acc, r, hd, hn, hf => by
    have hc10 : c ≠ 10 := fun e => hn (by rw [e]; exact List.mem_cons_self ..)
    have hn' : (10 : UInt8) ∉ s := fun h => hn (List.mem_cons_of_mem _ h)
    have he : esc (c :: s) = esc1 c ++ esc s := rfl
    rw [he] at hd hf ⊢
    unfold esc1 at hd hf ⊢
    obtain ⟨f, rfl⟩ : ∃ g, f = g + 1 := ⟨f - 1, by omega⟩
    by_cases hE : isE c = true
    · rw [if_pos hE] at hd hf ⊢
      obtain ⟨_, c2, c3⟩ := get_at (show t.drop b = 92 :: (c :: (esc s ++ (34 :: r))) from by rw [hd]; simp)
      obtain ⟨_, d2, d3⟩ := get_at c3
      have hor : c = 34 ∨ c = 92 := by unfold isE at hE; simpa using hE
      simp only [List.length_append, List.length_cons, List.length_nil] at hf ⊢
      have ih := qd_esc s (f := f) (b := b + 2) (acc := acc ++ [c]) (r := r) d3 hn' (by omega)
      rw [qd, c2]
      show (if (92 : UInt8) = 34 then _ else if (92 : UInt8) = 10 then _ else if (92 : UInt8) = 92 then _ else _) = _
      rw [if_neg (by decide), if_neg (by decide), if_pos rfl, d2]
      show (if c = 34 ∨ c = 92 then qd t f (b + 2) (acc ++ [c]) else none) = _
      rw [if_pos hor, ih]
      simp; omega
    · rw [if_neg hE] at hd hf ⊢
      obtain ⟨_, c2, c3⟩ := get_at (show t.drop b = c :: (esc s ++ (34 :: r)) from by rw [hd]; simp)
      have hor : c ≠ 34 ∧ c ≠ 92 := by unfold isE at hE; simpa using hE
      simp only [List.length_append, List.length_cons, List.length_nil] at hf ⊢
      have ih := qd_esc s (f := f) (b := b + 1) (acc := acc ++ [c]) (r := r) c3 hn' (by omega)
      rw [qd, c2]
      show (if c = 34 then _ else if c = 10 then _ else if c = 92 then _ else _) = _
      rw [if_neg hor.1, if_neg hc10, if_neg hor.2, ih]
      simp; omega
theorem RA.txt {q : List Sn} {i : Nat} {n : Sn} (hqi : q[i]? = some n) (hst : stN q i = i) (ho : okT n.tx = true) (he : n = ⟨1, n.tx, 0, 0⟩) : RA q i 3 ([34] ++ esc n.tx ++ [34]) 1 := by
  intro t f a r hf hd _
  obtain ⟨f, rfl⟩ : ∃ g, f = g + 1 := ⟨f - 1, by omega⟩
  have hd' : t.drop (skS t a) = 34 :: (esc n.tx ++ (34 :: r)) := by rw [hd]; simp
  obtain ⟨c1, c2, c3⟩ := get_at hd'
  have hl := drop_len hd (by simp)
  simp only [List.length_append, List.length_cons, List.length_nil] at hl
  have h10 : (10 : UInt8) ∉ n.tx := by unfold okT at ho; simp at ho; exact ho.2
  have hq := qd_esc n.tx (f := t.length + 1) (acc := []) c3 h10 (by omega)
  have hil := (List.getElem?_eq_some_iff.1 hqi).1
  rw [rd3, unR, if_neg (by rw [c1]; decide), if_neg (by rw [c1]; decide), if_pos c1, qtR, hq, hst]
  refine ⟨skS t a + 1 + (esc n.tx).length + 1, ?_, ?_⟩
  · show (if okT ([] ++ n.tx) = true then _ else _) = _
    rw [List.nil_append, if_pos ho, List.length_take, Nat.min_eq_left (by omega), take_next hqi, ← he]
  · congr 1; simp; omega
theorem RB.bin {q : List Sn} {i j m : Nat} {n : Sn} {A B : Bs} {K : Nat} (hm : m ≤ 1) (hi : 1 ≤ i) (hA : RB q j m A K) (hB : RA q (i - 1) (m + 1) B K) (hnB : NB B) (h1 : stN q j = stN q i) (h2 : stN q (i - 1) = j + 1) (hqi : q[i]? = some n) (he : n = ⟨kdm m, [], (j : Int), ((i - 1 : Nat) : Int)⟩) : RB q i m (A ++ [32, sgn m, 32] ++ B) K := by
  intro t f g a r hf hg hd hr
  simp only [List.length_append, List.length_cons, List.length_nil] at hg ⊢
  have hd' : t.drop (skS t a) = A ++ (32 :: sgn m :: 32 :: (B ++ r)) := by rw [hd]; simp
  have hsn : sgn m ≠ 32 := by unfold sgn; split <;> decide
  have hhd : hdB (32 :: sgn m :: 32 :: (B ++ r)) = sgn m := by
    unfold hdB
    rw [List.dropWhile_cons_of_pos (by decide), List.dropWhile_cons_of_neg (by simpa using hsn)]; rfl
  have hfl : flw (m + 1) (32 :: sgn m :: 32 :: (B ++ r)) := by
    refine ⟨fun hm1 => ?_, fun h => by omega⟩
    rw [hhd]
    obtain rfl : m = 0 := by omega
    decide
  obtain ⟨a1, g1, e1, e2, e3⟩ := hA t f g a _ hf (by omega) hd' hfl
  obtain ⟨g1, rfl⟩ : ∃ k, g1 = k + 1 := ⟨g1 - 1, by omega⟩
  have hdA := drop_add hd'
  have hkA := sk_bl hdA hsn
  rw [hkA] at e3
  obtain ⟨_, _, d1⟩ := get_at hdA
  obtain ⟨d2, _, d3⟩ := get_at d1
  obtain ⟨cB, B', rfl, hcB⟩ := hnB
  have hk3 := sk_bl (t := t) (b := skS t a + A.length + 1 + 1) (c := cB) (r := B' ++ r) d3 hcB
  obtain ⟨_, _, d4⟩ := get_at d3
  obtain ⟨a2, f1, f2⟩ := hB t f (skS t a + A.length + 1 + 1) r hf (by rw [hk3]; exact d4) hr
  rw [h2] at f1
  have hil := (List.getElem?_eq_some_iff.1 hqi).1
  have hi1 : i - 1 + 1 = i := by omega
  refine ⟨a2, g1, ?_, by omega, ?_⟩
  · rw [← h1, e1, lpR, if_pos (by rw [e3]; exact d2), e3, f1]
    show lpR _ t m g1 a2 (q.take (i - 1 + 1) ++ [⟨kdm m, [], (j : Int), ((i - 1 : Nat) : Int)⟩]) (q.take (i - 1 + 1)).length = _
    rw [hi1, List.length_take, Nat.min_eq_left (by omega), take_next hqi, ← he]
  · rw [f2, hk3]; congr 1; simp; omega

theorem shS_reads {q : List Sn} (h : valS q = (0, 0)) : ∀ (fu i l : Nat) (S : Bs), i < q.length → l ≤ 2 → shS q fu i l = some S → NB S ∧ RA q i l S (8 * fu) ∧ (l ≤ 1 → RB q i l S (8 * fu)) ∧ (l = 2 → RA q i 3 S (8 * fu))
  | 0, _, _, _, _, _, hs => by cases hs
  | fu + 1, i, l, S, hi, hl, hs => by
    have ih := shS_reads h fu
    obtain ⟨n, s, hn, hb, _, rfl⟩ := shS_step hs
    obtain ⟨o1, o2, o3, o4, o5, o6⟩ := okS_node h hi (by rw [List.getD_eq_getElem?_getD, hn]; rfl : q.getD i default = n)
    have hs2 := szM_le h hi
    -- the bare text
    by_cases c2 : lvS n.kd = 2
    · -- a text or a negation
      have key : NB s ∧ RA q i 3 s (8 * fu + 1) := by
        have hk : n.kd = 1 ∨ n.kd = 4 := by
          unfold lvS at c2
          by_cases e3 : n.kd = 3
          · rw [if_pos e3] at c2; omega
          · by_cases e2 : n.kd = 2
            · rw [if_neg e3, if_pos e2] at c2; omega
            · omega
        rcases hk with k | k
        · obtain ⟨z1, z2, z3⟩ := o4 k
          unfold shB at hb
          rw [if_pos k] at hb
          cases hb
          have hne : n = ⟨1, n.tx, 0, 0⟩ := by cases n; simp_all
          exact ⟨⟨34, _, rfl, by decide⟩, (RA.txt hn (by unfold stN; omega) (o2 k) hne).mono (by omega)⟩
        · obtain ⟨z1, z2, z3, z4⟩ := o5 k
          unfold shB at hb
          rw [if_neg (by omega), if_pos k, z2, Int.toNat_natCast] at hb
          obtain ⟨A, hA, hA2⟩ := Option.map_eq_some_iff.1 hb
          subst hA2
          obtain ⟨i1, _, _, i4⟩ := ih (i - 1) 2 A (by omega) (by omega) hA
          have hs3 := szM_le h (i := i - 1) (by omega)
          have hne : n = ⟨4, [], ((i - 1 : Nat) : Int), 0⟩ := by have := o3 (by omega); cases n; simp_all
          exact ⟨⟨33, _, rfl, by decide⟩, (RA.neg z1 (i4 rfl) i1 (by unfold stN; omega) hn hne).mono (by omega)⟩
      obtain ⟨kn, k3⟩ := key
      obtain ⟨cc, s', rfl, hcc⟩ := kn
      have k2 := k3.to2
      have kb1 := k2.toB
      have k1 := kb1.toA (by omega) (by simp)
      have kb0 := k1.toB
      have k0 := kb0.toA (by omega) (by simp)
      rw [c2, if_neg (by omega)]
      refine ⟨⟨cc, s', rfl, hcc⟩, ?_, ?_, fun _ => k3.mono (by omega)⟩
      · match l, hl with
        | 0, _ => exact k0.mono (by omega)
        | 1, _ => exact k1.mono (by omega)
        | 2, _ => exact k2.mono (by omega)
      · intro hl1
        match l, hl1 with
        | 0, _ => exact kb0.mono (by omega)
        | 1, _ => exact kb1.mono (by omega)
    · -- two operands
      have hk : n.kd = 2 ∨ n.kd = 3 := by
        unfold lvS at c2
        by_cases e3 : n.kd = 3
        · exact .inr e3
        · by_cases e2 : n.kd = 2
          · exact .inl e2
          · rw [if_neg e3, if_neg e2] at c2; omega
      obtain ⟨z1, z2, z3, z4⟩ := o6 hk
      have hm : lvS n.kd ≤ 1 := by have := lvS_le n.kd; omega
      have hsg : sgS n.kd = [32, sgn (lvS n.kd), 32] := by rcases hk with k | k <;> rw [k] <;> rfl
      have hkd : n.kd = kdm (lvS n.kd) := by rcases hk with k | k <;> rw [k] <;> rfl
      unfold shB at hb
      rw [if_neg (by omega), if_neg (by omega), z2, z3, Int.toNat_natCast, Int.toNat_natCast, hsg] at hb
      obtain ⟨A, hA, hb2⟩ := Option.bind_eq_some_iff.1 hb
      obtain ⟨B, hB, hb3⟩ := Option.map_eq_some_iff.1 hb2
      subst hb3
      have hs3 := szM_le h (i := i - 1) (by omega)
      have hs4 := szM_le h (i := i - 1 - szI (mpQ q) (i - 1)) (by omega)
      obtain ⟨a1, _, a3, _⟩ := ih _ _ A (by omega) (by omega) hA
      obtain ⟨b1, b2, _, _⟩ := ih _ _ B (by omega) (by omega) hB
      have hne : n = ⟨kdm (lvS n.kd), [], ((i - 1 - szI (mpQ q) (i - 1) : Nat) : Int), ((i - 1 : Nat) : Int)⟩ := by
        rw [← hkd]; have e := o3 (by omega); obtain ⟨a, b, c, d⟩ := n; dsimp only at e z2 z3 ⊢; rw [e, z2, z3]
      have kb := RB.bin hm (by omega) (a3 hm) b2 b1 (by unfold stN; omega) (by unfold stN; omega) hn hne
      generalize lvS n.kd = m at *
      have kn : NB (A ++ [32, sgn m, 32] ++ B) := (a1.app).app
      generalize A ++ [32, sgn m, 32] ++ B = s at *
      have hsn : s ≠ [] := by obtain ⟨_, _, rfl, _⟩ := kn; simp
      match m, hm with
      | 0, _ =>
        have k0 := kb.toA (by omega) hsn
        have k3 := k0.brk kn
        have k2 := k3.to2
        have kb1 := k2.toB
        have hbn : NB ([40] ++ s ++ [41]) := ⟨40, _, rfl, by decide⟩
        have k1 := kb1.toA (by omega) (by simp)
        match l, hl with
        | 0, _ => rw [if_neg (by omega)]; exact ⟨kn, k0.mono (by omega), fun _ => kb.mono (by omega), fun h => by omega⟩
        | 1, _ => rw [if_pos (by omega)]; exact ⟨hbn, k1.mono (by omega), fun _ => kb1.mono (by omega), fun h => by omega⟩
        | 2, _ => rw [if_pos (by omega)]; exact ⟨hbn, k2.mono (by omega), fun h => by omega, fun _ => k3.mono (by omega)⟩
      | 1, _ =>
        have k1 := kb.toA (by omega) hsn
        have kb0 := k1.toB
        have k0 := kb0.toA (by omega) hsn
        have k3 := k0.brk kn
        have k2 := k3.to2
        have hbn : NB ([40] ++ s ++ [41]) := ⟨40, _, rfl, by decide⟩
        match l, hl with
        | 0, _ => rw [if_neg (by omega)]; exact ⟨kn, k0.mono (by omega), fun _ => kb0.mono (by omega), fun h => by omega⟩
        | 1, _ => rw [if_neg (by omega)]; exact ⟨kn, k1.mono (by omega), fun _ => kb.mono (by omega), fun h => by omega⟩
        | 2, _ => rw [if_pos (by omega)]; exact ⟨hbn, k2.mono (by omega), fun h => by omega, fun _ => k3.mono (by omega)⟩
theorem par_show {q : List Sn} {S : Bs} (h : valS q = (0, 0)) (hS : shS q 41 (q.length - 1) 0 = some S) : parS S = some q := by
  obtain ⟨v1, v2, v3, v4⟩ := val_mp h
  obtain ⟨⟨c, s', hc, hcc⟩, k0, _, _⟩ := shS_reads h 41 (q.length - 1) 0 S (by omega) (by omega) hS
  have hz := root_sz v1
  rw [mp_len] at hz
  have hk : skS S 0 = 0 := sk_nb (r := s') (by rw [hc]; rfl) hcc
  obtain ⟨a', h1, h2⟩ := k0 S 2000 0 [] (by omega) (by rw [hk]; simp) ⟨fun _ => by decide, fun _ => by decide⟩
  have hst : stN q (q.length - 1) = 0 := by unfold stN; omega
  have hq1 : q.length - 1 + 1 = q.length := by omega
  rw [hst, hq1, List.take_length, List.take_zero] at h1
  have h3 : skS S a' = S.length := by
    rw [h2, hk, Nat.zero_add]
    exact skS_stop (by rw [List.getElem?_eq_none (by omega)]; exact fun e => by cases e)
  unfold parS
  rw [h1]
  show (if skS S a' = S.length ∧ q.length ≤ 40 then some q else none) = some q
  rw [if_pos ⟨h3, v3⟩]
end Go.Proofs.YtmbjnkgpcbpclaaGreat
