/- Walks, printed by wip/gen/walk.py. -/
import Derived.Test.YtlbjffdaooadoaaDoorT31
import Derived.Test.YtlbjffdaooadoaaDoorV5
set_option linter.all false
set_option maxRecDepth 100000
set_option maxHeartbeats 4000000
namespace Go.Proofs.YtlbjffdaooadoaaDoor
open Go Go.Vc Go.RowKit
abbrev Tn := Bs × Nat
def eT (x : Tn) : List D := [.str x.1, .int .i64 (x.2 : Nat)]
def byI (t : Bs) (i : Nat) : Int := ((t.getD i 0).toNat : Int)
def kcI (b : Int) : Int := if 97 ≤ b ∧ b ≤ 122 then 1 else if 48 ≤ b ∧ b ≤ 57 then 2 else 0
def grB (t : Bs) (X : List Tn) (i : Nat) : Bool := match X.getLast? with
  | none => false
  | some x => decide (x.2 + x.1.length = i) && (decide (0 < kcI (byI t i)) && decide (kcI (byI t i) = kcI (byI t (i - 1))))
def gwT (X : List Tn) (b : UInt8) : List Tn := match X.getLast? with
  | none => X
  | some x => X.dropLast ++ [(x.1 ++ [b], x.2)]
def tkS (t : Bs) (X : List Tn) (i : Nat) : List Tn := if byI t i = 32 then X else if grB t X i = true then gwT X (t.getD i 0) else X ++ [([t.getD i 0], i)]
def tkL (t : Bs) : Nat → List Tn
  | 0 => []
  | i + 1 => tkS t (tkL t i) i
def tksQ (t : Bs) : List Tn := tkL t t.length ++ [([], t.length)]
def Ts (t : Bs) : Nat → Nat → List Tn
  | 0, _ => [([], t.length)]
  | f + 1, e => if scnP t e < t.length then (tokN t (scnP t e) (scnE t (scnP t e)), scnP t e) :: Ts t f (scnE t (scnP t e)) else [([], t.length)]
def Tl (t : Bs) (s : PS) : List Tn := if s.p < t.length then (tokN t s.p s.e, s.p) :: Ts t (t.length + 1) s.e else [([], t.length)]
def okS (t : Bs) (s : PS) : Prop := ∃ e, e ≤ t.length ∧ s.p = scnP t e ∧ s.e = scnE t s.p
theorem by_in {t : Bs} {i : Nat} {lo hi : Int} : inB lo hi (t.getD i 0) = true ↔ lo ≤ byI t i ∧ byI t i ≤ hi := by
  unfold inB byI; simp only [Bool.and_eq_true, decide_eq_true_eq]
theorem tw_in {p : UInt8 → Bool} : ∀ {l : Bs} {j : Nat}, j < (l.takeWhile p).length → p (l.getD j 0) = true
  | [], j, h => by simp at h
  | c :: l, j, h => by
    rw [List.takeWhile_cons] at h
    split at h
    · rename_i hc
      cases j with
      | zero => exact hc
      | succ j => exact tw_in (l := l) (by simpa using h)
    · simp at h
theorem tw_out {p : UInt8 → Bool} : ∀ {l : Bs}, (l.takeWhile p).length < l.length → p (l.getD (l.takeWhile p).length 0) = false
  | [], h => by simp at h
  | c :: l, h => by
    rw [List.takeWhile_cons] at h ⊢
    split
    · rename_i hc
      rw [if_pos hc] at h
      exact tw_out (l := l) (by simpa using h)
    · rename_i hc
      simpa using hc
theorem getD_drop {t : Bs} {n j : Nat} : (t.drop n).getD j 0 = t.getD (n + j) 0 := by
  rw [List.getD_eq_getElem?_getD, List.getD_eq_getElem?_getD, List.getElem?_drop]
theorem rn_in {t : Bs} {lo hi : Int} {n j : Nat} (h1 : n ≤ j) (h2 : j < runN t lo hi n) : lo ≤ byI t j ∧ byI t j ≤ hi := by
  unfold runN at h2
  have := tw_in (p := inB lo hi) (l := t.drop n) (j := j - n) (by omega)
  rw [getD_drop, show n + (j - n) = j by omega] at this
  exact by_in.1 this
theorem rn_out {t : Bs} {lo hi : Int} {n : Nat} (h : runN t lo hi n < t.length) : ¬(lo ≤ byI t (runN t lo hi n) ∧ byI t (runN t lo hi n) ≤ hi) := by
  intro hh
  have hl : ((t.drop n).takeWhile (inB lo hi)).length < (t.drop n).length := by
    rw [List.length_drop]; unfold runN at h; omega
  have := tw_out hl
  rw [getD_drop] at this
  rw [show n + ((t.drop n).takeWhile (inB lo hi)).length = runN t lo hi n from rfl, by_in.2 hh] at this
  cases this
theorem rn_ge (t : Bs) (lo hi : Int) (n : Nat) : n ≤ runN t lo hi n := Nat.le_add_right _ _
theorem rn_no {t : Bs} {lo hi : Int} {n : Nat} (h : n < t.length) (hn : ¬(lo ≤ byI t n ∧ byI t n ≤ hi)) : runN t lo hi n = n := by
  by_cases h1 : n < runN t lo hi n
  · exact absurd (rn_in (Nat.le_refl _) h1) hn
  · have := rn_ge t lo hi n; omega
theorem rn_yes {t : Bs} {lo hi : Int} {n : Nat} (h : n < t.length) (hn : lo ≤ byI t n ∧ byI t n ≤ hi) : n < runN t lo hi n := by
  have := rn_ge t lo hi n
  by_cases h1 : runN t lo hi n = n
  · exact absurd (h1 ▸ hn) (h1 ▸ rn_out (t := t) (lo := lo) (hi := hi) (n := n) (by omega))
  · omega
theorem tok_snoc {t : Bs} {p j : Nat} (h : p ≤ j) (hj : j < t.length) : tokN t p j ++ [t.getD j 0] = tokN t p (j + 1) := by
  unfold tokN
  rw [show j + 1 - p = (j - p) + 1 by omega, List.take_add_one, List.getElem?_drop, show p + (j - p) = j by omega, List.getD_eq_getElem?_getD, List.getElem?_eq_getElem hj]; rfl
theorem tok_lenE {t : Bs} {p j : Nat} (h : p ≤ j) (hj : j ≤ t.length) : (tokN t p j).length = j - p := by
  unfold tokN; rw [List.length_take, List.length_drop]; omega
theorem tkS_new {t : Bs} {X : List Tn} {i : Nat} (h1 : byI t i ≠ 32) (h2 : grB t X i = false) : tkS t X i = X ++ [([t.getD i 0], i)] := by
  unfold tkS; rw [if_neg h1, if_neg (by rw [h2]; simp)]
theorem grB_snoc {t : Bs} {X : List Tn} {x : Tn} {i : Nat} : grB t (X ++ [x]) i = (decide (x.2 + x.1.length = i) && (decide (0 < kcI (byI t i)) && decide (kcI (byI t i) = kcI (byI t (i - 1))))) := by
  unfold grB; rw [List.getLast?_concat]
theorem tkS_grow {t : Bs} {X : List Tn} {x : Tn} {i : Nat} (h1 : byI t i ≠ 32) (h2 : x.2 + x.1.length = i) (h3 : 0 < kcI (byI t i)) (h4 : kcI (byI t i) = kcI (byI t (i - 1))) : tkS t (X ++ [x]) i = X ++ [(x.1 ++ [t.getD i 0], x.2)] := by
  unfold tkS
  rw [if_neg h1, if_pos (by rw [grB_snoc, decide_eq_true h2, decide_eq_true h3, decide_eq_true h4]; rfl)]
  unfold gwT
  rw [List.getLast?_concat, List.dropLast_concat]
theorem tk_run {t : Bs} {p k : Nat} {X : List Tn} {c : Int} (hX : tkL t p = X) (hg : grB t X p = false) (hk : p < k) (hkl : k ≤ t.length) (hc : ∀ j, p ≤ j → j < k → kcI (byI t j) = c ∧ byI t j ≠ 32) (h0 : 0 < c ∨ k = p + 1) :
    ∀ d, p + d + 1 ≤ k → tkL t (p + d + 1) = X ++ [(tokN t p (p + d + 1), p)]
  | 0, h => by
    show tkS t (tkL t p) p = _
    rw [hX, tkS_new (hc p (Nat.le_refl _) hk).2 hg]
    have : tokN t p (p + 0 + 1) = [t.getD p 0] := by
      have := tok_snoc (t := t) (Nat.le_refl p) (by omega)
      rw [Nat.add_zero, ← this]; unfold tokN; rw [Nat.sub_self, List.take_zero]; rfl
    rw [this]
  | d + 1, h => by
    have ih := tk_run hX hg hk hkl hc h0 d (by omega)
    show tkS t (tkL t (p + d + 1)) (p + d + 1) = _
    rw [ih]
    have a1 := hc (p + d + 1) (by omega) (by omega)
    have a2 := hc (p + d) (by omega) (by omega)
    have hl : (tokN t p (p + d + 1)).length = d + 1 := by rw [tok_lenE (by omega) (by omega)]; omega
    rw [tkS_grow a1.2 (by dsimp only; rw [hl]; omega) (by rw [a1.1]; omega) (by rw [a1.1, show p + d + 1 - 1 = p + d by omega, a2.1])]
    dsimp only
    rw [tok_snoc (by omega) (by omega)]; rfl
theorem kc_0 {b : Int} (h1 : ¬(97 ≤ b ∧ b ≤ 122)) (h2 : ¬(48 ≤ b ∧ b ≤ 57)) : kcI b = 0 := by unfold kcI; rw [if_neg h1, if_neg h2]
theorem kc_1 {b : Int} (h1 : 97 ≤ b ∧ b ≤ 122) : kcI b = 1 := by unfold kcI; rw [if_pos h1]
theorem kc_2 {b : Int} (h2 : 48 ≤ b ∧ b ≤ 57) : kcI b = 2 := by unfold kcI; rw [if_neg (by omega), if_pos h2]
theorem kc_is1 {b : Int} (h : kcI b = 1) : 97 ≤ b ∧ b ≤ 122 := by
  unfold kcI at h; split at h
  · assumption
  · split at h <;> omega
theorem kc_is2 {b : Int} (h : kcI b = 2) : 48 ≤ b ∧ b ≤ 57 := by
  unfold kcI at h; split at h
  · omega
  · split at h
    · assumption
    · omega
theorem tk_one1 {t : Bs} {p : Nat} {X : List Tn} (hX : tkL t p = X) (hg : grB t X p = false) (hp : p < t.length) (h32 : byI t p ≠ 32) :
    p < scnE t p ∧ scnE t p ≤ t.length ∧ tkL t (scnE t p) = X ++ [(tokN t p (scnE t p), p)] ∧ (scnE t p < t.length → grB t (X ++ [(tokN t p (scnE t p), p)]) (scnE t p) = false) := by
  have hle := (scnE_le (t := t) (p := p) (by omega)).2
  have key : ∀ k, scnE t p = k → ∀ c : Int, p < k → (∀ j, p ≤ j → j < k → kcI (byI t j) = c ∧ byI t j ≠ 32) → (0 < c ∨ k = p + 1) → (k < t.length → 0 < kcI (byI t k) → kcI (byI t k) ≠ c) →
      p < scnE t p ∧ scnE t p ≤ t.length ∧ tkL t (scnE t p) = X ++ [(tokN t p (scnE t p), p)] ∧ (scnE t p < t.length → grB t (X ++ [(tokN t p (scnE t p), p)]) (scnE t p) = false) := by
    intro k hk c hpk hc h0 hend
    rw [hk] at hle ⊢
    refine ⟨hpk, hle, ?_, fun hl => ?_⟩
    · have := tk_run hX hg hpk hle hc h0 (k - p - 1) (by omega)
      rwa [show p + (k - p - 1) + 1 = k by omega] at this
    · rw [grB_snoc]
      by_cases h1 : 0 < kcI (byI t k)
      · have h2 := hend hl h1
        have h3 := (hc (k - 1) (by omega) (by omega)).1
        rw [decide_eq_false (p := kcI (byI t k) = kcI (byI t (k - 1))) (by rw [h3]; exact h2)]
        simp
      · rw [decide_eq_false h1]; simp
  by_cases hL : 97 ≤ byI t p ∧ byI t p ≤ 122
  · have e1 := rn_yes hp hL
    have e2 : runN t 48 57 p = p := rn_no hp (by omega)
    have hk : scnE t p = runN t 97 122 p := by
      unfold scnE; rw [e2, show max (runN t 97 122 p) p = runN t 97 122 p by omega, if_neg (by omega)]
    refine key _ hk 1 e1 (fun j h1 h2 => ?_) (.inl (by omega)) (fun hl _ he => ?_)
    · have := rn_in h1 h2; exact ⟨kc_1 this, by omega⟩
    · exact rn_out hl (kc_is1 he)
  · have e1 : runN t 97 122 p = p := rn_no hp hL
    by_cases hD : 48 ≤ byI t p ∧ byI t p ≤ 57
    · have e2 := rn_yes hp hD
      have hk : scnE t p = runN t 48 57 p := by
        unfold scnE; rw [e1, show max p (runN t 48 57 p) = runN t 48 57 p by omega, if_neg (by omega)]
      refine key _ hk 2 e2 (fun j h1 h2 => ?_) (.inl (by omega)) (fun hl _ he => ?_)
      · have := rn_in h1 h2; exact ⟨kc_2 this, by omega⟩
      · exact rn_out hl (kc_is2 he)
    · have e2 : runN t 48 57 p = p := rn_no hp hD
      have hk : scnE t p = p + 1 := by
        unfold scnE; rw [e1, e2, Nat.max_self, if_pos ⟨rfl, hp⟩]
      refine key _ hk 0 (by omega) (fun j h1 h2 => ?_) (.inr rfl) (fun _ h1 he => by omega)
      obtain rfl : j = p := by omega
      exact ⟨kc_0 hL hD, h32⟩
def endL (X : List Tn) (i : Nat) : Prop := ∀ x, X.getLast? = some x → x.2 + x.1.length ≤ i
theorem endL_le {X : List Tn} {i j : Nat} (h : endL X i) (hij : i ≤ j) : endL X j := fun x hx => Nat.le_trans (h x hx) hij
theorem tkL_end (t : Bs) : ∀ i, endL (tkL t i) i
  | 0 => fun x hx => by cases hx
  | i + 1 => by
    have ih := tkL_end t i
    show endL (tkS t (tkL t i) i) (i + 1)
    unfold tkS
    split
    · exact endL_le ih (by omega)
    · split
      · unfold gwT
        cases hX : (tkL t i).getLast? with
        | none => exact fun x hx => by rw [hX] at hx; cases hx
        | some y =>
          intro x hx
          rw [List.getLast?_concat] at hx
          obtain rfl := Option.some.inj hx
          have := ih y hX
          simp only [List.length_append, List.length_singleton]; omega
      · intro x hx
        rw [List.getLast?_concat] at hx
        obtain rfl := Option.some.inj hx
        simp
theorem gr_gap {t : Bs} {X : List Tn} {i j : Nat} (h : endL X i) (hij : i < j) : grB t X j = false := by
  unfold grB
  split
  · rfl
  · rename_i x hx
    have := h x hx
    rw [decide_eq_false (by omega)]; rfl
theorem tk_blank {t : Bs} {e : Nat} (he : e ≤ t.length) : ∀ d, e + d ≤ scnP t e → tkL t (e + d) = tkL t e
  | 0, _ => rfl
  | d + 1, h => by
    have h1 := rn_in (t := t) (lo := 32) (hi := 32) (n := e) (j := e + d) (by omega) (by unfold scnP at h; omega)
    show tkS t (tkL t (e + d)) (e + d) = _
    unfold tkS
    rw [if_pos (by omega), tk_blank he d (by omega)]
theorem tk_blanks {t : Bs} {e : Nat} (he : e ≤ t.length) (hg : e < t.length → grB t (tkL t e) e = false) : tkL t (scnP t e) = tkL t e ∧ (scnP t e < t.length → grB t (tkL t e) (scnP t e) = false ∧ byI t (scnP t e) ≠ 32) := by
  have h1 := scnP_le he
  have hb := tk_blank he (scnP t e - e) (by omega)
  rw [show e + (scnP t e - e) = scnP t e by omega] at hb
  refine ⟨hb, fun hl => ⟨?_, ?_⟩⟩
  · by_cases h : scnP t e = e
    · rw [h]; exact hg (by omega)
    · exact gr_gap (tkL_end t e) (by omega)
  · have := rn_out (t := t) (lo := 32) (hi := 32) (n := e) hl
    intro h; apply this
    have : byI t (runN t 32 32 e) = byI t (scnP t e) := rfl
    omega
theorem tk_all {t : Bs} : ∀ (f e : Nat), e ≤ t.length → (e < t.length → grB t (tkL t e) e = false) → t.length - e < f → tksQ t = tkL t e ++ Ts t f e
  | 0, e, _, _, h => by omega
  | f + 1, e, he, hg, hf => by
    obtain ⟨b1, b2⟩ := tk_blanks he hg
    have h1 := scnP_le he
    unfold Ts
    split
    · rename_i hl
      obtain ⟨g1, g2⟩ := b2 hl
      obtain ⟨o1, o2, o3, o4⟩ := tk_one1 b1 g1 hl g2
      rw [tk_all f (scnE t (scnP t e)) o2 (fun h => by rw [o3]; exact o4 h) (by omega), o3, List.append_assoc]; rfl
    · rename_i hl
      have : scnP t e = t.length := by omega
      rw [this] at b1
      unfold tksQ
      rw [b1]
theorem Ts_fuel {t : Bs} : ∀ (f g e : Nat), e ≤ t.length → t.length - e < f → t.length - e < g → Ts t f e = Ts t g e
  | 0, _, e, _, h, _ => by omega
  | _, 0, e, _, _, h => by omega
  | f + 1, g + 1, e, he, h1, h2 => by
    have a := scnP_le he
    unfold Ts
    split
    · rename_i hl
      have hE := scnE_le (t := t) (p := scnP t e) (by omega)
      have hgt : scnP t e < scnE t (scnP t e) := by
        unfold scnE
        split
        · omega
        · rename_i hn
          have x1 := rn_ge t 97 122 (scnP t e)
          have x2 := rn_ge t 48 57 (scnP t e)
          omega
      rw [Ts_fuel f g _ hE.2 (by omega) (by omega)]
    · rfl
theorem ok_init (t : Bs) (ns : List Nd) (c : Int) (p : Nat) : okS t (scanS t ⟨p, 0, ns, c⟩) := ⟨0, Nat.zero_le _, rfl, rfl⟩
theorem ok_le {t : Bs} {s : PS} (h : okS t s) : s.p ≤ t.length ∧ s.e ≤ t.length ∧ (s.p < t.length → s.p < s.e) := by
  obtain ⟨e, h1, h2, h3⟩ := h
  have a := scnP_le h1
  have b := scnE_le (t := t) (p := s.p) (by omega)
  refine ⟨by omega, by omega, fun hl => ?_⟩
  rw [h3]
  unfold scnE
  split
  · omega
  · have x1 := rn_ge t 97 122 s.p
    have x2 := rn_ge t 48 57 s.p
    omega
theorem ok_scan {t : Bs} {s : PS} (h : okS t s) : okS t (scanS t s) := ⟨s.e, (ok_le h).2.1, rfl, rfl⟩
theorem ok_add {t : Bs} {s : PS} (h : okS t s) (n : Nd) : okS t (addN s n) := h
theorem tok_nil {t : Bs} {s : PS} (h : okS t s) : tokS t s = [] ↔ s.p = t.length := by
  obtain ⟨h1, h2, h3⟩ := ok_le h
  constructor
  · intro h0
    by_cases hl : s.p < t.length
    · have h4 := h3 hl
      have := tok_lenE (t := t) (p := s.p) (j := s.e) (by omega) h2
      unfold tokS at h0
      rw [h0] at this
      simp at this; omega
    · omega
  · intro h0
    unfold tokS tokN
    rw [h0, List.drop_eq_nil_of_le (Nat.le_refl _), List.take_nil]
theorem Tl_scan {t : Bs} {s : PS} (h : okS t s) : Tl t (scanS t s) = Ts t (t.length + 1) s.e := by
  obtain ⟨h1, h2, h3⟩ := ok_le h
  have a := scnP_le h2
  unfold Tl scanS
  conv => rhs; unfold Ts
  dsimp only
  split
  · rename_i hl
    have hE := scnE_le (t := t) (p := scnP t s.e) (by omega)
    have := (ok_le (ok_scan h)).2.2 hl
    have hgt : scnP t s.e < scnE t (scnP t s.e) := this
    rw [Ts_fuel (t.length + 1) t.length _ hE.2 (by omega) (by omega)]
  · rfl
theorem Tl_cons {t : Bs} {s : PS} (h : okS t s) (h0 : tokS t s ≠ []) : Tl t s = (tokS t s, s.p) :: Tl t (scanS t s) := by
  rw [Tl_scan h]
  unfold Tl
  rw [if_pos (by have := (ok_le h).1; have := mt (tok_nil h).2 h0; omega)]; rfl
theorem Tl_end {t : Bs} {s : PS} (h : okS t s) (h0 : tokS t s = []) : Tl t s = [([], t.length)] := by
  unfold Tl; rw [if_neg (by have := (tok_nil h).1 h0; omega)]
theorem Tl_hd {t : Bs} {s : PS} (h : okS t s) : ∃ r, Tl t s = (tokS t s, s.p) :: r := by
  by_cases h0 : tokS t s = []
  · exact ⟨[], by rw [Tl_end h h0, h0, (tok_nil h).1 h0]⟩
  · exact ⟨_, Tl_cons h h0⟩
theorem Tl_init (t : Bs) : tksQ t = Tl t (scanS t ⟨0, 0, [], 0⟩) := by
  rw [tk_all (t.length + 1) 0 (Nat.zero_le _) (fun _ => rfl) (by omega)]
  show Ts t (t.length + 1) 0 = _
  unfold Tl scanS
  conv => lhs; unfold Ts
  dsimp only
  split
  · rename_i hl
    have hE := scnE_le (t := t) (p := scnP t 0) (by omega)
    have hgt := (ok_le (ok_init t [] 0 0)).2.2 hl
    have hgt : scnP t 0 < scnE t (scnP t 0) := hgt
    rw [Ts_fuel t.length (t.length + 1) _ hE.2 (by omega) (by omega)]
  · rfl

structure Mc where
  ns : List Nd
  rs : List Int
  ops : List Int
def lvO (k : Int) : Int := if k = 14 then 0 else if k = 15 ∨ k = 16 then 1 else if k = 7 then 2 else -1
def lastO (l : List Int) : Int := l.getLast?.getD 0
def kO (k : Int) : Int := if k < 0 then -k else k
def redM (m : Mc) : Mc := ⟨m.ns ++ [⟨kO (lastO m.ops), 0, m.rs.getD (m.rs.length - ar (kO (lastO m.ops))) 0, if ar (kO (lastO m.ops)) = 2 then m.rs.getD (m.rs.length - ar (kO (lastO m.ops)) + 1) 0 else 0⟩],
  m.rs.take (m.rs.length - ar (kO (lastO m.ops))) ++ [(m.ns.length : Int)], m.ops.dropLast⟩
def redB (op : Int) (m : Mc) : Bool := decide (m.ops ≠ []) && (decide (0 ≤ lvO (lastO m.ops)) && (decide (op = 0) || decide (lvO op ≤ lvO (lastO m.ops))))
def redW (op : Int) : Nat → Mc → Mc
  | 0, m => m
  | f + 1, m => if redB op m = true then redW op f (redM m) else m
def opW (w : Bs) : Option Int := if w = [124] then some 14 else if w = [38] then some 15 else if w = [45] then some 16 else if w = [41] ∨ w = [] then some 0 else none
abbrev Rz := Int × Int × List Nd
def hdT (l : List Tn) : Tn := l.headD ([], 0)
def leafM (m : Mc) (n : Nd) : Mc := ⟨m.ns ++ [n], m.rs ++ [(m.ns.length : Int)], m.ops⟩
def pushM (m : Mc) (k : Int) : Mc := ⟨m.ns, m.rs, m.ops ++ [k]⟩
def popM (m : Mc) : Mc := ⟨m.ns, m.rs, m.ops.dropLast⟩
def numA (x : Tn) (k : Int) (f : Int → Option Rz) : Option Rz := match numV x.1 with
  | none => some (1, (x.2 : Int), [])
  | some n => if n ≤ mostN k then f n else some (3, (x.2 : Int), [])
def rdy (op : Int) (m : Mc) : Mc := redW op m.ops.length m
def mR : Nat → List Tn → Mc → Bool → Option Rz
  | 0, _, _, _ => none
  | _ + 1, [], m, _ => some (0, 0, m.ns)
  | f + 1, x :: r, m, true =>
    if x.1 = [33] then mR f r (pushM m 7) true
    else if x.1 = [40] then mR f r (pushM m 0) true
    else if x.1 = [35] then numA (hdT r) 3 fun n => mR f r.tail (leafM m ⟨3, n, 0, 0⟩) false
    else if kindN x.1 = 0 then some (1, (x.2 : Int), [])
    else if kindN x.1 = 1 ∨ kindN x.1 = 2 ∨ kindN x.1 = 6 then mR f r (leafM m ⟨kindN x.1, 0, 0, 0⟩) false
    else if (hdT r).1 ≠ [40] then some (1, ((hdT r).2 : Int), [])
    else if ar (kindN x.1) = 1 then mR f r.tail (pushM m (-(kindN x.1 : Int))) true
    else numA (hdT r.tail) (kindN x.1) fun n => if (hdT r.tail.tail).1 ≠ [41] then some (1, ((hdT r.tail.tail).2 : Int), []) else mR f r.tail.tail.tail (leafM m ⟨kindN x.1, n, 0, 0⟩) false
  | f + 1, x :: r, m, false => match opW x.1 with
    | none => some (1, (x.2 : Int), [])
    | some op =>
      if 0 < op then mR f r (pushM (rdy op m) op) true
      else if decide (x.1 = []) ≠ decide ((rdy op m).ops = []) then some (1, (x.2 : Int), [])
      else if x.1 = [41] then (if lastO (rdy op m).ops < 0 then mR f r (redM (rdy op m)) false else mR f r (popM (rdy op m)) false)
      else mR f r (rdy op m) false
def RunT (l : List Tn) (m : Mc) (b : Bool) (z : Rz) : Prop := ∃ f, mR f l m b = some z
theorem lastO_snoc (l : List Int) (k : Int) : lastO (l ++ [k]) = k := by unfold lastO; rw [List.getLast?_concat]; rfl
theorem rdy_no {op : Int} {m : Mc} (h : redB op m = false) : rdy op m = m := by
  unfold rdy
  cases m.ops.length with
  | zero => rfl
  | succ n => unfold redW; rw [if_neg (by rw [h]; simp)]
theorem redB_lv {op : Int} {m : Mc} (h : lvO (lastO m.ops) < 0 ∨ (op ≠ 0 ∧ lvO (lastO m.ops) < lvO op)) : redB op m = false := by
  unfold redB
  rcases h with h | ⟨h0, h⟩
  · rw [decide_eq_false (p := 0 ≤ lvO (lastO m.ops)) (by omega)]; simp
  · rw [decide_eq_false (p := lvO op ≤ lvO (lastO m.ops)) (by omega), decide_eq_false h0]; simp
theorem rdy_pre {op k : Int} {ns : List Nd} {rs ops : List Int} (h0 : 0 ≤ lvO k) (h : op = 0 ∨ lvO op ≤ lvO k) : rdy op ⟨ns, rs, ops ++ [k]⟩ = rdy op (redM ⟨ns, rs, ops ++ [k]⟩) := by
  have hb : redB op ⟨ns, rs, ops ++ [k]⟩ = true := by
    unfold redB
    dsimp only
    rw [lastO_snoc, decide_eq_true h0, decide_eq_true (p := ops ++ [k] ≠ []) (by simp)]
    rcases h with h | h
    · rw [decide_eq_true h]; rfl
    · rw [decide_eq_true h]; simp
  unfold rdy
  show redW op (ops ++ [k]).length _ = redW op (ops ++ [k]).dropLast.length _
  rw [List.dropLast_concat, List.length_append, List.length_singleton]
  conv => lhs; unfold redW
  rw [if_pos hb]
theorem run_pre {x : Tn} {r : List Tn} {k : Int} {ns : List Nd} {rs ops : List Int} {z : Rz} (h0 : 0 ≤ lvO k) (h : ∀ op, opW x.1 = some op → op = 0 ∨ lvO op ≤ lvO k) (hr : RunT (x :: r) (redM ⟨ns, rs, ops ++ [k]⟩) false z) : RunT (x :: r) ⟨ns, rs, ops ++ [k]⟩ false z := by
  obtain ⟨f, hf⟩ := hr
  refine ⟨f, ?_⟩
  cases f with
  | zero => cases hf
  | succ f =>
    unfold mR at hf ⊢
    cases ho : opW x.1 with
    | none => rw [ho] at hf; exact hf
    | some op =>
      rw [ho] at hf
      dsimp only at hf ⊢
      rw [rdy_pre h0 (h op ho)]; exact hf
theorem red_two {ns : List Nd} {rs ops : List Int} {k x y : Int} (h : 14 ≤ k) : redM ⟨ns, rs ++ [x] ++ [y], ops ++ [k]⟩ = ⟨ns ++ [⟨k, 0, x, y⟩], rs ++ [(ns.length : Int)], ops⟩ := by
  have ha : ar k = 2 := by unfold ar; rw [if_pos h]
  have hk : kO k = k := by unfold kO; rw [if_neg (by omega)]
  have hl : (rs ++ [x] ++ [y]).length - 2 = rs.length := by simp
  unfold redM
  dsimp only
  rw [lastO_snoc, hk, ha, hl, List.dropLast_concat, if_pos rfl]
  have e1 : (rs ++ [x] ++ [y]).getD rs.length 0 = x := by simp [List.getD_eq_getElem?_getD]
  have e2 : (rs ++ [x] ++ [y]).getD (rs.length + 1) 0 = y := by simp [List.getD_eq_getElem?_getD]
  have e3 : (rs ++ [x] ++ [y]).take rs.length = rs := by rw [List.append_assoc, List.take_left]
  rw [e1, e2, e3]
theorem red_one {ns : List Nd} {rs ops : List Int} {k k' x : Int} (hk : kO k = k') (ha : ar k' = 1) : redM ⟨ns, rs ++ [x], ops ++ [k]⟩ = ⟨ns ++ [⟨k', 0, x, 0⟩], rs ++ [(ns.length : Int)], ops⟩ := by
  have hl : (rs ++ [x]).length - 1 = rs.length := by simp
  unfold redM
  dsimp only
  rw [lastO_snoc, hk, ha, hl, List.dropLast_concat, if_neg (by omega)]
  have e1 : (rs ++ [x]).getD rs.length 0 = x := by simp [List.getD_eq_getElem?_getD]
  have e3 : (rs ++ [x]).take rs.length = rs := by rw [List.take_left]
  rw [e1, e3]
theorem run_op {x : Tn} {r : List Tn} {op : Int} {ns : List Nd} {rs ops : List Int} {z : Rz} (h : opW x.1 = some op) (h0 : 0 < op) (hl : lvO (lastO ops) < lvO op) (hr : RunT r ⟨ns, rs, ops ++ [op]⟩ true z) : RunT (x :: r) ⟨ns, rs, ops⟩ false z := by
  obtain ⟨f, hf⟩ := hr
  refine ⟨f + 1, ?_⟩
  unfold mR
  rw [h]
  dsimp only
  rw [if_pos h0, rdy_no (redB_lv (.inr ⟨by omega, hl⟩))]
  exact hf
def Cj (j : Nat) (ops : List Int) : Prop := j < 2 → lvO (lastO ops) < j
def Hj (j : Nat) (w : Bs) : Prop := ∀ k, j ≤ k → k < 2 → opK w k = 0
def AgR (t : Bs) (s : PS) (j : Nat) (r : Bool × Int × PS) : Prop := match r with
  | (false, _, s') => s'.c ≠ 0 ∧ ∀ rs ops, Cj j ops → RunT (Tl t s) ⟨s.ns, rs, ops⟩ true (s'.c, (s'.p : Int), [])
  | (true, x, s') => okS t s' ∧ s'.c = 0 ∧ Hj j (tokS t s') ∧ ∀ rs ops z, Cj j ops → RunT (Tl t s') ⟨s'.ns, rs ++ [x], ops⟩ false z → RunT (Tl t s) ⟨s.ns, rs, ops⟩ true z
def Ag (t : Bs) (rd : PS → PR) (j : Nat) : Prop := ∀ s, okS t s → s.c = 0 → ∀ r, rd s = some r → AgR t s j r
def AgL (t : Bs) (s : PS) (y : Int) (j : Nat) (r : Bool × Int × PS) : Prop := match r with
  | (false, _, s') => s'.c ≠ 0 ∧ ∀ rs ops, Cj j ops → RunT (Tl t s) ⟨s.ns, rs ++ [y], ops⟩ false (s'.c, (s'.p : Int), [])
  | (true, x, s') => okS t s' ∧ s'.c = 0 ∧ Hj j (tokS t s') ∧ ∀ rs ops z, Cj j ops → RunT (Tl t s') ⟨s'.ns, rs ++ [x], ops⟩ false z → RunT (Tl t s) ⟨s.ns, rs ++ [y], ops⟩ false z
theorem ag_bind {t : Bs} {s : PS} {j i : Nat} {r1 : PR} {k : Int → PS → PR} {r : Bool × Int × PS} (hj : j ≤ i) (h1 : ∀ q, r1 = some q → AgR t s i q) (h2 : ∀ x s', okS t s' → s'.c = 0 → Hj i (tokS t s') → k x s' = some r → AgL t s' x j r) (h : bindF r1 k = some r) : AgR t s j r := by
  have hC : ∀ ops, Cj j ops → Cj i ops := fun ops hc hi => by
    have := hc (by omega); omega
  match r1, h1, h with
  | some (false, x, s1), h1, h =>
    obtain rfl := Option.some.inj h
    obtain ⟨g1, g2⟩ := h1 _ rfl
    exact ⟨g1, fun rs ops hc => g2 rs ops (hC _ hc)⟩
  | some (true, x, s1), h1, h =>
    obtain ⟨g1, g2, g3, g4⟩ := h1 _ rfl
    have := h2 x s1 g1 g2 g3 h
    match r, this with
    | (false, _, s'), this => exact ⟨this.1, fun rs ops hc => g4 rs ops _ (hC _ hc) (this.2 rs ops hc)⟩
    | (true, y, s'), this => exact ⟨this.1, this.2.1, this.2.2.1, fun rs ops z hc hz => g4 rs ops z (hC _ hc) (this.2.2.2 rs ops z hc hz)⟩
theorem opK_op {w : Bs} {j : Nat} (h : opK w j ≠ 0) : opW w = some (opK w j) ∧ 14 ≤ opK w j ∧ lvO (opK w j) = j ∧ w ≠ [] := by
  by_cases h1 : w = [124] ∧ j = 0
  · obtain ⟨rfl, rfl⟩ := h1
    have e : opK [124] 0 = 14 := rfl
    rw [e]; exact ⟨rfl, by decide, rfl, by simp⟩
  by_cases h2 : w = [38] ∧ j = 1
  · obtain ⟨rfl, rfl⟩ := h2
    have e : opK [38] 1 = 15 := rfl
    rw [e]; exact ⟨rfl, by decide, rfl, by simp⟩
  by_cases h3 : w = [45] ∧ j = 1
  · obtain ⟨rfl, rfl⟩ := h3
    have e : opK [45] 1 = 16 := rfl
    rw [e]; exact ⟨rfl, by decide, rfl, by simp⟩
  unfold opK at h
  rw [if_neg h1, if_neg h2, if_neg h3] at h
  exact absurd rfl h
theorem opW_lv {w : Bs} {op : Int} {j : Nat} (h : opW w = some op) (hH : Hj (j + 1) w) : op = 0 ∨ lvO op ≤ (j : Int) := by
  unfold opW at h
  split at h
  · obtain rfl := Option.some.inj h; exact .inr (by show (0 : Int) ≤ _; omega)
  · split at h
    · rename_i hw
      obtain rfl := Option.some.inj h
      by_cases hj : j = 0
      · subst hj; subst hw; have := hH 1 (by omega) (by omega); simp [opK] at this
      · exact .inr (by show (1 : Int) ≤ _; omega)
    · split at h
      · rename_i hw
        obtain rfl := Option.some.inj h
        by_cases hj : j = 0
        · subst hj; subst hw; have := hH 1 (by omega) (by omega); simp [opK] at this
        · exact .inr (by show (1 : Int) ≤ _; omega)
      · split at h
        · exact .inl (Option.some.inj h).symm
        · cases h
theorem ag_loop {t : Bs} {sub : PS → PR} {j : Nat} (hj : j < 2) (hs : Ag t sub (j + 1)) : ∀ (g : Nat) (x : Int) (s : PS) (r : Bool × Int × PS), okS t s → s.c = 0 → Hj (j + 1) (tokS t s) → lpF t sub j g x s = some r → AgL t s x j r
  | 0, x, s, r, _, _, _, h => by cases h
  | g + 1, x, s, r, hok, hc, hH, h => by
    unfold lpF at h
    split at h
    · rename_i h0
      obtain rfl := Option.some.inj h
      refine ⟨hok, hc, fun k h1 h2 => ?_, fun rs ops z _ hz => hz⟩
      by_cases hk : k = j
      · rw [hk]; exact h0
      · exact hH k (by omega) h2
    · rename_i h0
      obtain ⟨o1, o2, o3, o4⟩ := opK_op h0
      have hT := Tl_cons hok o4
      generalize hop : opK (tokS t s) j = op at *
      have hCo : ∀ ops, Cj (j + 1) (ops ++ [op]) := fun ops _ => by rw [lastO_snoc, o3]; omega
      have hgo : ∀ rs ops z, Cj j ops → RunT (Tl t (scanS t s)) ⟨(scanS t s).ns, rs ++ [x], ops ++ [op]⟩ true z → RunT (Tl t s) ⟨s.ns, rs ++ [x], ops⟩ false z := fun rs ops z hC hz => by
        rw [hT]
        exact run_op o1 (by omega) (by rw [o3]; exact hC hj) hz
      match hsub : sub (scanS t s), h with
      | some (false, y, s1), h =>
        obtain rfl := Option.some.inj h
        obtain ⟨a1, a2⟩ := hs _ (ok_scan hok) hc _ hsub
        exact ⟨a1, fun rs ops hC => hgo rs ops _ hC (a2 _ _ (hCo ops))⟩
      | some (true, y, s1), h =>
        obtain ⟨a1, a2, a3, a4⟩ := hs _ (ok_scan hok) hc _ hsub
        have ih := ag_loop hj hs g (s1.ns.length : Int) (addN s1 ⟨op, 0, x, y⟩) r (ok_add a1 _) a2 a3 h
        obtain ⟨r1, hr1⟩ := Tl_hd a1
        have hred : ∀ rs ops z, RunT (Tl t (addN s1 ⟨op, 0, x, y⟩)) ⟨(addN s1 ⟨op, 0, x, y⟩).ns, rs ++ [(s1.ns.length : Int)], ops⟩ false z → RunT (Tl t s1) ⟨s1.ns, rs ++ [x] ++ [y], ops ++ [op]⟩ false z := fun rs ops z hz => by
          have hz : RunT (Tl t s1) ⟨s1.ns ++ [⟨op, 0, x, y⟩], rs ++ [(s1.ns.length : Int)], ops⟩ false z := hz
          rw [hr1] at hz ⊢
          refine run_pre (by omega) (fun op2 ho => by rw [o3]; exact opW_lv ho a3) ?_
          rw [red_two o2]; exact hz
        match r, ih with
        | (false, _, s'), ih => exact ⟨ih.1, fun rs ops hC => hgo rs ops _ hC (a4 _ _ _ (hCo ops) (hred _ _ _ (ih.2 rs ops hC)))⟩
        | (true, y', s'), ih => exact ⟨ih.1, ih.2.1, ih.2.2.1, fun rs ops z hC hz => hgo rs ops _ hC (a4 _ _ _ (hCo ops) (hred _ _ _ (ih.2.2.2 rs ops z hC hz)))⟩

theorem hd_Tl {t : Bs} {s : PS} (h : okS t s) : hdT (Tl t s) = (tokS t s, s.p) := by
  obtain ⟨r, hr⟩ := Tl_hd h
  rw [hr]; rfl
theorem tl_Tl {t : Bs} {s : PS} (h : okS t s) (h0 : tokS t s ≠ []) : (Tl t s).tail = Tl t (scanS t s) := by rw [Tl_cons h h0]; rfl
theorem numA_of {t : Bs} {s : PS} {k : Int} {f : Int → Option Rz} (h : okS t s) : numA (hdT (Tl t s)) k f = match numV (tokS t s) with
  | none => some (1, (s.p : Int), [])
  | some n => if n ≤ mostN k then f n else some (3, (s.p : Int), []) := by rw [hd_Tl h]; rfl
theorem numF_of {t : Bs} {s : PS} {k : Int} {f : Int → PS → PR} : numF t s k f = match numV (tokS t s) with
  | none => some (false, 0, failS s 1)
  | some n => if n ≤ mostN k then f n (scanS t s) else some (false, 0, failS s 3) := by
  unfold numF numB numX numS
  cases numV (tokS t s) with
  | none => simp
  | some n =>
    by_cases hn : n ≤ mostN k
    · simp [hn]
    · simp [hn]
theorem numV_ne' {w : Bs} {n : Int} (h : numV w = some n) : w ≠ [] := by
  rintro rfl
  cases h
theorem kind_cases (w : Bs) : kindN w = 0 ∨ kindN w = 1 ∨ kindN w = 2 ∨ kindN w = 4 ∨ kindN w = 5 ∨ kindN w = 6 ∨ (8 ≤ kindN w ∧ kindN w ≤ 13) := by
  unfold kindN
  split
  · exact .inl rfl
  · rename_i h0
    cases hf : (List.range 17).find? fun k => decide (wordsL.getD k [] = w) with
    | none => exact .inl rfl
    | some k =>
      have h1 := List.find?_some hf
      have h2 := List.mem_range.1 (List.mem_of_find?_eq_some hf)
      have h1 : wordsL.getD k [] = w := of_decide_eq_true h1
      have hne : wordsL.getD k [] ≠ [] := by rw [h1]; exact h0
      show k = 0 ∨ _
      have : ∀ k, k < 17 → wordsL.getD k [] ≠ [] → k = 0 ∨ k = 1 ∨ k = 2 ∨ k = 4 ∨ k = 5 ∨ k = 6 ∨ (8 ≤ k ∧ k ≤ 13) := by decide
      exact this k h2 hne
theorem Cj_snoc0 {ops : List Int} {k : Int} (h : lvO k < 0) : Cj 0 (ops ++ [k]) := fun _ => by rw [lastO_snoc]; omega
theorem lv_neg {k : Nat} (h : 8 ≤ k) : lvO (-(k : Int)) = -1 := by unfold lvO; rw [if_neg (by omega), if_neg (by omega), if_neg (by omega)]
theorem Hj_opW {w : Bs} {op : Int} (h : Hj 0 w) (ho : opW w = some op) : op = 0 ∧ (w = [41] ∨ w = []) := by
  unfold opW at ho
  split at ho
  · rename_i hw; subst hw; have := h 0 (by omega) (by omega); simp [opK] at this
  · split at ho
    · rename_i hw; subst hw; have := h 1 (by omega) (by omega); simp [opK] at this
    · split at ho
      · rename_i hw; subst hw; have := h 1 (by omega) (by omega); simp [opK] at this
      · split at ho
        · rename_i hw; exact ⟨(Option.some.inj ho).symm, hw⟩
        · cases ho
theorem run_bad {t : Bs} {s : PS} {ns : List Nd} {rs ops : List Int} {k : Int} (h : okS t s) (hH : Hj 0 (tokS t s)) (hk : lvO k < 0) (h41 : tokS t s ≠ [41]) : RunT (Tl t s) ⟨ns, rs, ops ++ [k]⟩ false (1, (s.p : Int), []) := by
  obtain ⟨r, hr⟩ := Tl_hd h
  refine ⟨1, ?_⟩
  rw [hr]
  unfold mR
  dsimp only
  cases ho : opW (tokS t s) with
  | none => rfl
  | some op =>
    obtain ⟨rfl, hw⟩ := Hj_opW hH ho
    have hw := hw.resolve_left h41
    dsimp only
    rw [if_neg (by omega), rdy_no (redB_lv (.inl (by rw [lastO_snoc]; exact hk))), hw]
    simp
theorem run_close {t : Bs} {s : PS} {ns : List Nd} {rs ops : List Int} {k : Int} {z : Rz} (h : okS t s) (hk : lvO k < 0) (h41 : tokS t s = [41]) (hz : RunT (Tl t (scanS t s)) (if k < 0 then redM ⟨ns, rs, ops ++ [k]⟩ else ⟨ns, rs, ops⟩) false z) : RunT (Tl t s) ⟨ns, rs, ops ++ [k]⟩ false z := by
  have hT := Tl_cons h (by rw [h41]; simp)
  obtain ⟨f, hf⟩ := hz
  refine ⟨f + 1, ?_⟩
  rw [hT, h41]
  unfold mR
  dsimp only
  have ho : opW [41] = some 0 := rfl
  rw [ho]
  dsimp only
  rw [if_neg (by omega), rdy_no (redB_lv (.inl (by rw [lastO_snoc]; exact hk)))]
  dsimp only
  rw [lastO_snoc]
  have e1 : decide (([41] : Bs) = []) = false := rfl
  rw [e1, decide_eq_false (p := ops ++ [k] = []) (by simp), if_neg (by simp), if_pos rfl]
  split
  · rename_i hk0; rw [if_pos hk0] at hf; exact hf
  · rename_i hk0
    rw [if_neg hk0] at hf
    unfold popM
    dsimp only
    rw [List.dropLast_concat]; exact hf
theorem fail_c {s : PS} (h : s.c = 0) (k : Int) : (failS s k).c = k := by show failC s.c k = k; unfold failC; rw [if_pos h]
theorem Tl_any {t : Bs} {s : PS} (h : okS t s) : ∃ r, Tl t s = (tokS t s, s.p) :: r ∧ (tokS t s ≠ [] → r = Tl t (scanS t s)) := by
  obtain ⟨r, hr⟩ := Tl_hd h
  refine ⟨r, hr, fun h0 => ?_⟩
  rw [Tl_cons h h0] at hr
  exact (List.cons.inj hr).2.symm
theorem hz_leaf {t : Bs} {X : PS} {n : Nd} {ns : List Nd} {rs ops : List Int} {z : Rz} (h : RunT (Tl t (addN X n)) ⟨(addN X n).ns, rs ++ [(X.ns.length : Int)], ops⟩ false z) (hns : X.ns = ns) : RunT (Tl t X) (leafM ⟨ns, rs, ops⟩ n) false z := by
  subst hns; exact h
theorem sc_c (t : Bs) (s : PS) : (scanS t s).c = s.c := rfl
theorem ad_c (s : PS) (n : Nd) : (addN s n).c = s.c := rfl
theorem sc_ns (t : Bs) (s : PS) : (scanS t s).ns = s.ns := rfl
theorem ag_pri {t : Bs} {qu : PS → PR} (hq : Ag t qu 0) {s : PS} {r : Bool × Int × PS} (hok : okS t s) (hc : s.c = 0) (h33 : tokS t s ≠ [33]) (h : prF t qu s = some r) : AgR t s 2 r := by
  obtain ⟨rl, hT, hrl⟩ := Tl_any hok
  have hH : ∀ w, Hj 2 w := fun w k h1 h2 => by omega
  have hcs : (scanS t s).c = 0 := by rw [sc_c, hc]
  have hc2 : (scanS t (scanS t s)).c = 0 := by rw [sc_c, sc_c, hc]
  have hc3 : (scanS t (scanS t (scanS t s))).c = 0 := by rw [sc_c, sc_c, sc_c, hc]
  unfold prF at h
  split at h
  · rename_i hw
    have hrl := hrl (by rw [hw]; simp)
    have hok1 := ok_scan hok
    have hm : ∀ f m, mR (f + 1) ((tokS t s, s.p) :: rl) m true = numA (hdT rl) 3 fun n => mR f rl.tail (leafM m ⟨3, n, 0, 0⟩) false := fun f m => by
      conv => lhs; unfold mR
      dsimp only
      rw [if_neg (by rw [hw]; simp), if_neg (by rw [hw]; simp), if_pos hw]
    rw [numF_of] at h
    simp only [hrl, numA_of hok1] at hm
    cases hn : numV (tokS t (scanS t s)) with
    | none =>
      rw [hn] at h
      obtain rfl := Option.some.inj h
      refine ⟨by rw [fail_c hcs]; omega, fun rs ops _ => ⟨1, ?_⟩⟩
      rw [hT, hrl, hm, hn, fail_c hcs]; rfl
    | some n =>
      rw [hn] at h
      dsimp only at h
      split at h
      · rename_i hle
        obtain rfl := Option.some.inj h
        have hne := numV_ne' hn
        refine ⟨ok_add (ok_scan hok1) _, by simp only [sc_c, ad_c, hc], hH _, fun rs ops z _ hz => ?_⟩
        obtain ⟨f, hf⟩ := hz_leaf hz (ns := s.ns) (by simp only [sc_ns])
        refine ⟨f + 1, ?_⟩
        rw [hT, hrl, hm, hn]
        dsimp only
        rw [if_pos hle, tl_Tl hok1 hne]
        exact hf
      · rename_i hle
        obtain rfl := Option.some.inj h
        refine ⟨by rw [fail_c hcs]; omega, fun rs ops _ => ⟨1, ?_⟩⟩
        rw [hT, hrl, hm, hn, fail_c hcs]
        dsimp only
        rw [if_neg hle]; rfl
  rename_i h35
  split at h
  · rename_i hw
    have hrl := hrl (by rw [hw]; simp)
    have hok1 := ok_scan hok
    have hm : ∀ f m, mR (f + 1) ((tokS t s, s.p) :: rl) m true = mR f rl (pushM m 0) true := fun f m => by
      conv => lhs; unfold mR
      dsimp only
      rw [if_neg (by rw [hw]; simp), if_pos hw]
    have hgo : ∀ rs ops z, RunT (Tl t (scanS t s)) ⟨(scanS t s).ns, rs, ops ++ [0]⟩ true z → RunT (Tl t s) ⟨s.ns, rs, ops⟩ true z := fun rs ops z ⟨f, hf⟩ => ⟨f + 1, by rw [hT, hm, hrl]; exact hf⟩
    match hqq : qu (scanS t s), h with
    | some (false, x, s1), h =>
      obtain rfl := Option.some.inj h
      obtain ⟨a1, a2⟩ := hq _ hok1 hcs _ hqq
      exact ⟨a1, fun rs ops _ => hgo _ _ _ (a2 _ _ (Cj_snoc0 (by decide)))⟩
    | some (true, x, s1), h =>
      obtain ⟨a1, a2, a3, a4⟩ := hq _ hok1 hcs _ hqq
      have h := Option.some.inj h
      by_cases hw1 : tokS t s1 = [41]
      · have hb : takeB t s1 [41] = true := decide_eq_true ⟨hw1, by simp⟩
        have hs : takeS t s1 [41] = scanS t s1 := by unfold takeS; rw [if_pos hb]
        rw [hb, hs] at h
        subst h
        refine ⟨ok_scan a1, by rw [sc_c, a2], hH _, fun rs ops z _ hz => hgo _ _ _ (a4 _ _ _ (Cj_snoc0 (by decide)) (run_close a1 (by decide) hw1 ?_))⟩
        rw [if_neg (by omega)]; exact hz
      · have hb : takeB t s1 [41] = false := decide_eq_false fun h => hw1 h.1
        have hs : takeS t s1 [41] = failS s1 1 := by unfold takeS; rw [if_neg (by rw [hb]; simp)]
        rw [hb, hs] at h
        subst h
        refine ⟨by rw [fail_c a2]; omega, fun rs ops _ => hgo _ _ _ (a4 _ _ _ (Cj_snoc0 (by decide)) ?_)⟩
        rw [fail_c a2]
        exact run_bad a1 a3 (by decide) hw1
  rename_i h40
  have hm : ∀ f m, mR (f + 1) ((tokS t s, s.p) :: rl) m true = if kindN (tokS t s) = 0 then some (1, (s.p : Int), [])
    else if kindN (tokS t s) = 1 ∨ kindN (tokS t s) = 2 ∨ kindN (tokS t s) = 6 then mR f rl (leafM m ⟨kindN (tokS t s), 0, 0, 0⟩) false
    else if (hdT rl).1 ≠ [40] then some (1, ((hdT rl).2 : Int), [])
    else if ar (kindN (tokS t s)) = 1 then mR f rl.tail (pushM m (-(kindN (tokS t s) : Int))) true
    else numA (hdT rl.tail) (kindN (tokS t s)) fun n => if (hdT rl.tail.tail).1 ≠ [41] then some (1, ((hdT rl.tail.tail).2 : Int), []) else mR f rl.tail.tail.tail (leafM m ⟨kindN (tokS t s), n, 0, 0⟩) false := fun f m => by
      conv => lhs; unfold mR
      dsimp only
      rw [if_neg h33, if_neg h40, if_neg h35]
  split at h
  · rename_i hk
    obtain rfl := Option.some.inj h
    refine ⟨by rw [fail_c hc]; omega, fun rs ops _ => ⟨1, ?_⟩⟩
    rw [hT, hm, if_pos hk, fail_c hc]; rfl
  rename_i hk0
  have hne : tokS t s ≠ [] := fun h => hk0 (by rw [h]; rfl)
  have hrl := hrl hne
  have hok1 := ok_scan hok
  have hkc := kind_cases (tokS t s)
  generalize hkk : kindN (tokS t s) = k at *
  split at h
  · rename_i hk
    obtain rfl := Option.some.inj h
    refine ⟨ok_add hok1 _, by simp only [sc_c, ad_c, hc], hH _, fun rs ops z _ hz => ?_⟩
    obtain ⟨f, hf⟩ := hz_leaf hz (ns := s.ns) (by simp only [sc_ns])
    refine ⟨f + 1, ?_⟩
    rw [hT, hm, if_neg hk0, if_pos hk, hrl]; exact hf
  rename_i hk1
  simp only [if_neg hk0, if_neg hk1, hrl, hd_Tl hok1] at hm
  unfold takeF at h
  split at h
  · rename_i hb
    have hw1 := (of_decide_eq_true hb).1
    have hok2 := ok_scan hok1
    have htl := tl_Tl hok1 (by rw [hw1]; simp)
    simp only [hw1, ne_eq, not_true_eq_false, if_false, htl] at hm
    dsimp only at h
    split at h
    · rename_i ha
      have ha1 : ¬ar (k : Int) = 1 := by omega
      simp only [if_neg ha1, numA_of hok2] at hm
      rw [numF_of] at h
      cases hn : numV (tokS t (scanS t (scanS t s))) with
      | none =>
        rw [hn] at h
        obtain rfl := Option.some.inj h
        refine ⟨by rw [fail_c hc2]; omega, fun rs ops _ => ⟨1, ?_⟩⟩
        rw [hT, hrl, hm, hn, fail_c hc2]; rfl
      | some n =>
        rw [hn] at h
        simp only [hn] at hm
        dsimp only at h
        split at h
        · rename_i hle
          have hne2 := numV_ne' hn
          have hok3 := ok_scan hok2
          simp only [if_pos hle, tl_Tl hok2 hne2, hd_Tl hok3] at hm
          split at h
          · rename_i hb3
            have hw3 := (of_decide_eq_true hb3).1
            obtain rfl := Option.some.inj h
            refine ⟨ok_add (ok_scan hok3) _, by simp only [sc_c, ad_c, hc], hH _, fun rs ops z _ hz => ?_⟩
            obtain ⟨f, hf⟩ := hz_leaf hz (ns := s.ns) (by simp only [sc_ns])
            refine ⟨f + 1, ?_⟩
            rw [hT, hrl, hm, if_neg (by rw [hw3]; simp), tl_Tl hok3 (by rw [hw3]; simp)]
            exact hf
          · rename_i hb3
            have hw3 : tokS t (scanS t (scanS t (scanS t s))) ≠ [41] := fun h => hb3 (decide_eq_true ⟨h, by simp⟩)
            obtain rfl := Option.some.inj h
            refine ⟨by rw [fail_c hc3]; omega, fun rs ops _ => ⟨1, ?_⟩⟩
            rw [hT, hrl, hm, if_pos hw3, fail_c hc3]; rfl
        · rename_i hle
          obtain rfl := Option.some.inj h
          refine ⟨by rw [fail_c hc2]; omega, fun rs ops _ => ⟨1, ?_⟩⟩
          rw [hT, hrl, hm, if_neg hle, fail_c hc2]; rfl
    · rename_i ha
      have hk8 : 8 ≤ k ∧ k ≤ 13 := by
        rcases hkc with h | h | h | h | h | h | h
        · omega
        · omega
        · omega
        · subst h; exact absurd rfl ha
        · subst h; exact absurd rfl ha
        · omega
        · exact h
      have ha1 : ar (k : Int) = 1 := by unfold ar; rw [if_neg (by omega), if_pos (by omega)]
      simp only [if_pos ha1] at hm
      have hgo : ∀ rs ops z, RunT (Tl t (scanS t (scanS t s))) ⟨(scanS t (scanS t s)).ns, rs, ops ++ [-(k : Int)]⟩ true z → RunT (Tl t s) ⟨s.ns, rs, ops⟩ true z := fun rs ops z ⟨f, hf⟩ => ⟨f + 1, by rw [hT, hrl, hm]; simp only [sc_ns] at hf; exact hf⟩
      have hlv := lv_neg hk8.1
      match hqq : qu (scanS t (scanS t s)), h with
      | some (false, x, s1), h =>
        obtain rfl := Option.some.inj h
        obtain ⟨a1, a2⟩ := hq _ hok2 hc2 _ hqq
        exact ⟨a1, fun rs ops _ => hgo _ _ _ (a2 _ _ (Cj_snoc0 (by omega)))⟩
      | some (true, x, s1), h =>
        obtain ⟨a1, a2, a3, a4⟩ := hq _ hok2 hc2 _ hqq
        have h : (if takeB t s1 [41] = true then putN (scanS t s1) ⟨(k : Int), 0, x, 0⟩ else some (false, 0, failS s1 1)) = some r := h
        split at h
        · rename_i hb1
          have hw1 := (of_decide_eq_true hb1).1
          obtain rfl := Option.some.inj h
          refine ⟨ok_add (ok_scan a1) _, by simp only [sc_c, ad_c, a2], hH _, fun rs ops z _ hz => hgo _ _ _ (a4 _ _ _ (Cj_snoc0 (by omega)) (run_close a1 (by omega) hw1 ?_))⟩
          rw [if_pos (by omega), red_one (k' := (k : Int)) (by unfold kO; rw [if_pos (by omega)]; omega) ha1]; exact hz_leaf hz (ns := s1.ns) (by simp only [sc_ns])
        · rename_i hb1
          have hw1 : tokS t s1 ≠ [41] := fun h => hb1 (decide_eq_true ⟨h, by simp⟩)
          obtain rfl := Option.some.inj h
          refine ⟨by rw [fail_c a2]; omega, fun rs ops _ => hgo _ _ _ (a4 _ _ _ (Cj_snoc0 (by omega)) ?_)⟩
          rw [fail_c a2]
          exact run_bad a1 a3 (by omega) hw1
  · rename_i hb
    have hw1 : tokS t (scanS t s) ≠ [40] := fun h => hb (decide_eq_true ⟨h, by simp⟩)
    obtain rfl := Option.some.inj h
    refine ⟨by rw [fail_c hcs]; omega, fun rs ops _ => ⟨1, ?_⟩⟩
    rw [hT, hrl, hm, if_pos hw1, fail_c hcs]; rfl
theorem Hj2 (w : Bs) : Hj 2 w := fun k h1 h2 => by omega
theorem ag_all {t : Bs} : ∀ (f : Nat), Ag t (pF t f 0) 0 ∧ Ag t (pF t f 1) 1 ∧ Ag t (pF t f 2) 2 ∧ Ag t (pF t f 3) 2 ∧ (∀ s, okS t s → s.c = 0 → tokS t s ≠ [33] → ∀ r, pF t f 4 s = some r → AgR t s 2 r)
  | 0 => by
    refine ⟨?_, ?_, ?_, ?_, ?_⟩
    · intro s _ _ r h; cases h
    · intro s _ _ r h; cases h
    · intro s _ _ r h; cases h
    · intro s _ _ r h; cases h
    · intro s _ _ _ r h; cases h
  | f + 1 => by
    obtain ⟨i0, i1, i2, i3, i4⟩ := ag_all (t := t) f
    refine ⟨?_, ?_, ?_, ?_, ?_⟩
    · intro s h1 h2 r h
      refine ag_bind (i := 1) (j := 0) (by omega) (fun q hq => i1 s h1 h2 q hq) (fun x s' a1 a2 a3 hk => ?_) (show bindF (pF t f 1 s) (fun x s1 => lpF t (pF t f 1) 0 (t.length + 1) x s1) = some r from h)
      exact ag_loop (by omega) i1 _ x s' r a1 a2 a3 hk
    · intro s h1 h2 r h
      refine ag_bind (i := 2) (j := 1) (by omega) (fun q hq => i2 s h1 h2 q hq) (fun x s' a1 a2 a3 hk => ?_) (show bindF (pF t f 2 s) (fun x s1 => lpF t (pF t f 2) 1 (t.length + 1) x s1) = some r from h)
      exact ag_loop (by omega) i2 _ x s' r a1 a2 a3 hk
    · intro s h1 h2 r h
      exact i3 s h1 h2 r h
    · intro s h1 h2 r h
      have h : (if tokS t s = [33] then bindF (pF t f 3 (scanS t s)) fun x s1 => putN s1 ⟨7, 0, x, 0⟩ else pF t f 4 s) = some r := h
      split at h
      · rename_i hw
        have hT := Tl_cons h1 (by rw [hw]; simp)
        have hm : ∀ f m, mR (f + 1) ((tokS t s, s.p) :: Tl t (scanS t s)) m true = mR f (Tl t (scanS t s)) (pushM m 7) true := fun f m => by
          conv => lhs; unfold mR
          dsimp only
          rw [if_pos hw]
        have hgo : ∀ rs ops z, RunT (Tl t (scanS t s)) ⟨(scanS t s).ns, rs, ops ++ [7]⟩ true z → RunT (Tl t s) ⟨s.ns, rs, ops⟩ true z := fun rs ops z ⟨f, hf⟩ => ⟨f + 1, by rw [hT, hm]; exact hf⟩
        have hC : ∀ ops, Cj 2 ops := fun ops h => by omega
        match hs : pF t f 3 (scanS t s), h with
        | some (false, x, s1), h =>
          obtain rfl := Option.some.inj h
          obtain ⟨a1, a2⟩ := i3 _ (ok_scan h1) h2 _ hs
          exact ⟨a1, fun rs ops _ => hgo _ _ _ (a2 _ _ (hC _))⟩
        | some (true, x, s1), h =>
          obtain rfl := Option.some.inj h
          obtain ⟨a1, a2, a3, a4⟩ := i3 _ (ok_scan h1) h2 _ hs
          refine ⟨ok_add a1 _, a2, Hj2 _, fun rs ops z _ hz => hgo _ _ _ (a4 _ _ _ (hC _) ?_)⟩
          obtain ⟨r1, hr1⟩ := Tl_hd a1
          have hz : RunT (Tl t s1) ⟨s1.ns ++ [⟨7, 0, x, 0⟩], rs ++ [(s1.ns.length : Int)], ops⟩ false z := hz
          rw [hr1] at hz ⊢
          refine run_pre (by decide) (fun op ho => ?_) ?_
          · unfold opW at ho
            split at ho
            · obtain rfl := Option.some.inj ho; exact .inr (by decide)
            · split at ho
              · obtain rfl := Option.some.inj ho; exact .inr (by decide)
              · split at ho
                · obtain rfl := Option.some.inj ho; exact .inr (by decide)
                · split at ho
                  · exact .inl (Option.some.inj ho).symm
                  · cases ho
          · rw [red_one (k' := 7) rfl rfl]; exact hz
      · rename_i hw
        exact i4 s h1 h2 hw r h
    · intro s h1 h2 h33 r h
      exact ag_pri i0 h1 h2 h33 h
def limR (z : Rz) : Rz := if z.1 ≠ 0 then (z.1, z.2.1, []) else if 40 < z.2.2.length then (10, -1, []) else (0, 0, z.2.2)
def mc0 : Mc := ⟨[], [], []⟩
theorem ag_text {t : Bs} (hl : t.length ≤ 300) (hs : (pF t (fuelN t) 0 (scanS t ⟨0, 0, [], 0⟩)).isSome = true) : ∃ z, RunT (tksQ t) mc0 true z ∧ limR z = parsQ t := by
  obtain ⟨⟨b, x, s⟩, hr⟩ := Option.isSome_iff_exists.1 hs
  have hok := ok_init t [] 0 0
  have hA := (ag_all (t := t) (fuelN t)).1 _ hok rfl _ hr
  have hC : Cj 0 [] := fun _ => by decide
  unfold parsQ
  rw [if_neg (by omega), hr]
  cases b with
  | false =>
    obtain ⟨h1, h2⟩ := hA
    refine ⟨_, by rw [Tl_init]; exact h2 [] [] hC, ?_⟩
    unfold limR
    rw [if_pos h1]
  | true =>
    obtain ⟨h1, h2, h3, h4⟩ := hA
    obtain ⟨rl, hT⟩ := Tl_hd h1
    dsimp only
    by_cases hp : s.p < t.length
    · rw [if_pos hp]
      have hne : tokS t s ≠ [] := fun h => by have := (tok_nil h1).1 h; omega
      have hf : RunT (Tl t s) ⟨s.ns, [] ++ [x], []⟩ false (1, (s.p : Int), []) := by
        refine ⟨1, ?_⟩
        rw [hT]
        unfold mR
        dsimp only
        cases ho : opW (tokS t s) with
        | none => rfl
        | some op =>
          obtain ⟨rfl, _⟩ := Hj_opW h3 ho
          dsimp only
          rw [if_neg (by omega), rdy_no (redB_lv (m := ⟨s.ns, [] ++ [x], []⟩) (.inl (show lvO 0 < 0 by decide))), decide_eq_false hne]
          rfl
      refine ⟨_, by rw [Tl_init]; exact h4 [] [] _ hC hf, ?_⟩
      have : failC s.c 1 = 1 := by unfold failC; rw [if_pos h2]
      rw [this]; rfl
    · rw [if_neg hp]
      have h0 : tokS t s = [] := (tok_nil h1).2 (by have := (ok_le h1).1; omega)
      have hf : RunT (Tl t s) ⟨s.ns, [] ++ [x], []⟩ false (0, 0, s.ns) := by
        refine ⟨2, ?_⟩
        rw [Tl_end h1 h0]
        unfold mR
        dsimp only
        have ho : opW [] = some 0 := rfl
        rw [ho]
        dsimp only
        rw [if_neg (by omega), rdy_no (redB_lv (m := ⟨s.ns, [] ++ [x], []⟩) (.inl (show lvO 0 < 0 by decide)))]
        rfl
      exact ⟨_, by rw [Tl_init]; exact h4 [] [] _ hC hf, rfl⟩

def dgB (c : UInt8) : Bool := inB 48 57 c

theorem dg_of (d : Nat) (h : d < 10) : (UInt8.ofNat (48 + d)).toNat = 48 + d := by
  rw [UInt8.toNat_ofNat']; omega
theorem dg_in {d : Nat} (h : d < 10) : dgB (UInt8.ofNat (48 + d)) = true := by
  unfold dgB inB; rw [dg_of d h]; simp; omega
theorem dec_all (u : Nat) : (Lib.decDigits u).all dgB = true ∧ Lib.decDigits u ≠ [] := by
  induction u using Nat.strongRecOn with
  | ind u ih =>
    rw [Lib.decDigits]
    split
    · rename_i h
      exact ⟨by rw [List.all_cons, dg_in h]; rfl, by simp⟩
    · have := ih (u / 10) (by omega)
      refine ⟨?_, by simp⟩
      rw [List.all_append, this.1, Bool.true_and, List.all_cons, dg_in (Nat.mod_lt u (by omega : 10 > 0))]; rfl
theorem pu_app : ∀ (l : Bs) (acc u : Nat) (c : UInt8), Lib.parseUint10 acc l = .ok u → 48 ≤ c.toNat → c.toNat ≤ 57 → u < 100000000000 → Lib.parseUint10 acc (l ++ [c]) = .ok (u * 10 + (c.toNat - 48))
  | [], acc, u, c, h, h1, h2, h3 => by
    simp only [Lib.parseUint10] at h
    injection h with h
    subst h
    show Lib.parseUint10 acc [c] = _
    unfold Lib.parseUint10
    rw [if_pos ⟨h1, h2⟩, if_neg (by omega), if_neg (by omega)]
    rfl
  | d :: l, acc, u, c, h, h1, h2, h3 => by
    show Lib.parseUint10 acc (d :: (l ++ [c])) = _
    unfold Lib.parseUint10 at h ⊢
    split at h
    · rename_i e1
      rw [if_pos e1]
      split at h
      · cases h
      · rename_i e2
        rw [if_neg e2]
        split at h
        · cases h
        · rename_i e3
          rw [if_neg e3]
          exact pu_app l _ u c h h1 h2 h3
    · cases h
theorem pu_dec (u : Nat) (h : u < 100000000000) : Lib.parseUint10 0 (Lib.decDigits u) = .ok u := by
  induction u using Nat.strongRecOn with
  | ind u ih =>
    rw [Lib.decDigits]
    split
    · rename_i h1
      unfold Lib.parseUint10
      rw [dg_of u h1, if_pos ⟨by omega, by omega⟩, if_neg (by omega), if_neg (by omega)]
      unfold Lib.parseUint10
      rw [show 0 * 10 + (48 + u - 48) = u by omega]
    · have hm : u % 10 < 10 := Nat.mod_lt u (by omega)
      rw [pu_app _ _ _ _ (ih (u / 10) (by omega) (by omega)) (by rw [dg_of _ hm]; omega) (by rw [dg_of _ hm]; omega) (by omega), dg_of _ hm]
      congr 1
      omega
theorem itoa_pos {n : Int} (h : 0 ≤ n) : Lib.itoa n = Lib.decDigits n.toNat := by unfold Lib.itoa; rw [if_neg (by omega)]

def nvR (w : Bs) : Nat := w.foldl (fun n c => n * 10 + (c.toNat - 48)) 0
def nbR (w : Bs) : Bool := decide (1 ≤ w.length ∧ w.length ≤ 7) && (dgB (w.getD 0 0) && (decide (w.length = 1) || decide ((w.getD 0 0).toNat ≠ 48)))
theorem dg_val {c : UInt8} (h : dgB c = true) : 48 ≤ c.toNat ∧ c.toNat ≤ 57 := by
  unfold dgB inB at h
  simp only [Bool.and_eq_true, decide_eq_true_eq] at h; omega
theorem nv_snoc (l : Bs) (c : UInt8) : nvR (l ++ [c]) = nvR l * 10 + (c.toNat - 48) := by unfold nvR; rw [List.foldl_append]; rfl
theorem nv_lt : ∀ (n : Nat) (w : Bs), w.length = n → w.all dgB = true → nvR w < 10 ^ n
  | 0, w, h, _ => by rw [List.length_eq_zero_iff.1 h]; decide
  | n + 1, w, h, ha => by
    have hne : w ≠ [] := fun h' => by rw [h'] at h; cases h
    obtain ⟨l, c, rfl⟩ : ∃ l c, w = l ++ [c] := ⟨w.dropLast, w.getLast hne, (List.dropLast_concat_getLast hne).symm⟩
    rw [List.all_append, Bool.and_eq_true] at ha
    rw [List.length_append, List.length_singleton] at h
    have ih := nv_lt n l (by omega) ha.1
    have hc := dg_val (c := c) (by simpa using ha.2)
    rw [nv_snoc, Nat.pow_succ]; omega
theorem u8_eq {c : UInt8} (h : 48 ≤ c.toNat ∧ c.toNat ≤ 57) {d : Nat} (hd : c.toNat - 48 = d) : UInt8.ofNat (48 + d) = c := by
  have : 48 + d = c.toNat := by omega
  rw [this]; exact UInt8.ofNat_toNat
theorem nv_dec : ∀ (n : Nat) (w : Bs), w.length = n + 1 → w.all dgB = true → (n = 0 ∨ (w.getD 0 0).toNat ≠ 48) → Lib.decDigits (nvR w) = w ∧ (n = 0 ∨ 1 ≤ nvR w)
  | 0, w, h, ha, _ => by
    match w, h with
    | [c], _ =>
      have hc := dg_val (c := c) (by simpa using ha)
      have e : nvR [c] = c.toNat - 48 := by show 0 * 10 + (c.toNat - 48) = _; omega
      rw [e, Lib.decDigits, dif_pos (by omega), u8_eq hc rfl]
      exact ⟨rfl, .inl rfl⟩
  | n + 1, w, h, ha, h0 => by
    have hne : w ≠ [] := fun h' => by rw [h'] at h; cases h
    obtain ⟨l, c, rfl⟩ : ∃ l c, w = l ++ [c] := ⟨w.dropLast, w.getLast hne, (List.dropLast_concat_getLast hne).symm⟩
    rw [List.all_append, Bool.and_eq_true] at ha
    rw [List.length_append, List.length_singleton] at h
    have hh : (l ++ [c]).getD 0 0 = l.getD 0 0 := by
      rw [List.getD_eq_getElem?_getD, List.getD_eq_getElem?_getD, List.getElem?_append_left (by omega)]
    rw [hh] at h0
    have h0' := h0.resolve_left (by omega)
    obtain ⟨e1, e2⟩ := nv_dec n l (by omega) ha.1 (.inr h0')
    have hc := dg_val (c := c) (by simpa using ha.2)
    have h1 : 1 ≤ nvR l := by
      rcases e2 with e2 | e2
      · subst e2
        match l, h with
        | [b], _ =>
          have hb := dg_val (c := b) (by simpa using ha.1)
          have h0 : b.toNat ≠ 48 := h0'
          show 1 ≤ 0 * 10 + (b.toNat - 48)
          omega
      · exact e2
    rw [nv_snoc]
    refine ⟨?_, .inr (by omega)⟩
    rw [Lib.decDigits, dif_neg (by omega), show (nvR l * 10 + (c.toNat - 48)) / 10 = nvR l by omega, show (nvR l * 10 + (c.toNat - 48)) % 10 = c.toNat - 48 by omega, e1, u8_eq hc rfl]
theorem dec_hd (u : Nat) (h : 1 ≤ u) : ((Lib.decDigits u).getD 0 0).toNat ≠ 48 := by
  induction u using Nat.strongRecOn with
  | ind u ih =>
    rw [Lib.decDigits]
    split
    · rename_i h1
      show (UInt8.ofNat (48 + u)).toNat ≠ 48
      rw [dg_of u h1]; omega
    · rename_i h1
      have hl : 1 ≤ (Lib.decDigits (u / 10)).length := List.length_pos_iff.2 (dec_all (u / 10)).2
      rw [List.getD_eq_getElem?_getD, List.getElem?_append_left (by omega), ← List.getD_eq_getElem?_getD]
      exact ih (u / 10) (by omega) (by omega)
theorem num_ref {w : Bs} (ha : 0 < w.length → dgB (w.getD 0 0) = true → w.all dgB = true) : numV w = if nbR w = true then some ((nvR w : Nat) : Int) else none := by
  split
  · rename_i hb
    unfold nbR at hb
    simp only [Bool.and_eq_true, Bool.or_eq_true, decide_eq_true_eq] at hb
    obtain ⟨⟨b1, b2⟩, b3, b4⟩ := hb
    have hall := ha (by omega) b3
    obtain ⟨e1, _⟩ := nv_dec (w.length - 1) w (by omega) hall (by rcases b4 with h | h; exact .inl (by omega); exact .inr h)
    have hlt := nv_lt w.length w rfl hall
    have hp : 10 ^ w.length ≤ 10 ^ 7 := Nat.pow_le_pow_right (by omega) b2
    have hp := Nat.lt_of_lt_of_le hlt hp
    have hpu := pu_dec (nvR w) (by omega)
    have hi : Lib.itoa ((nvR w : Nat) : Int) = w := by rw [itoa_pos (by omega), Int.toNat_natCast, e1]
    rw [e1] at hpu
    cases w with
    | nil => simp at b1
    | cons c r =>
      have hc := dg_val b3
      have hc : 48 ≤ c.toNat ∧ c.toNat ≤ 57 := hc
      have hA : Lib.atoiAll (c :: r) = .ok ((nvR (c :: r) : Nat) : Int) := by
        unfold Lib.atoiAll
        dsimp only
        rw [if_neg (by omega)]
        unfold Lib.parseMag
        rw [if_neg (by simp), hpu]
        dsimp only
        rw [if_neg (by omega), if_neg (by omega), if_neg (by omega)]
      unfold numV
      rw [hA]
      dsimp only
      rw [if_pos ⟨b2, by show c.toNat ≥ 48; omega, by show c.toNat ≤ 57; omega, hi⟩]
  · rename_i hb
    cases hn : numV w with
    | none => rfl
    | some n =>
      exfalso
      apply hb
      unfold numV at hn
      split at hn
      · rename_i v hv
        split at hn
        · rename_i hh
          obtain ⟨h1, h2, h3, h4⟩ := hh
          have hne : w ≠ [] := by rintro rfl; cases hv
          have hl := List.length_pos_iff.2 hne
          have hd : w.headD 0 = w.getD 0 0 := by cases w <;> rfl
          rw [hd] at h2 h3
          have hdg : dgB (w.getD 0 0) = true := by unfold dgB inB; simp only [Bool.and_eq_true, decide_eq_true_eq]; omega
          unfold nbR
          simp only [Bool.and_eq_true, Bool.or_eq_true, decide_eq_true_eq]
          refine ⟨⟨hl, h1⟩, hdg, ?_⟩
          by_cases hl1 : w.length = 1
          · exact .inl hl1
          refine .inr ?_
          have hv0 : 0 ≤ v := by
            by_cases h : v < 0
            · unfold Lib.itoa at h4
              rw [if_pos h] at h4
              rw [← h4] at h2
              exact absurd h2 (by show ¬(45 ≥ 48); omega)
            · omega
          rw [itoa_pos hv0] at h4
          by_cases hz : v.toNat = 0
          · rw [hz, Lib.decDigits, dif_pos (by omega)] at h4
            rw [← h4] at hl1
            exact absurd rfl hl1
          · rw [← h4]; exact dec_hd v.toNat (by omega)
        · cases hn
      · cases hn
theorem Ts_dig {t : Bs} : ∀ (f e : Nat), e ≤ t.length → ∀ x ∈ Ts t f e, 0 < x.1.length → dgB (x.1.getD 0 0) = true → x.1.all dgB = true
  | 0, e, _, x, hx, h0, _ => by
    unfold Ts at hx
    rw [List.mem_singleton.1 hx] at h0; exact absurd h0 (by simp)
  | f + 1, e, he, x, hx, h0, h1 => by
    have hp := scnP_le he
    unfold Ts at hx
    split at hx
    · rename_i hl
      rcases List.mem_cons.1 hx with rfl | hx
      · dsimp only at h0 h1 ⊢
        generalize scnP t e = p at *
        have hE := scnE_le (t := t) (p := p) (by omega)
        have hb : byI t p = ((tokN t p (scnE t p)).getD 0 0).toNat := by
          have hpe : p < scnE t p := by
            rw [tok_lenE hE.1 hE.2] at h0; omega
          unfold byI tokN
          rw [List.getD_eq_getElem?_getD, List.getD_eq_getElem?_getD, List.getElem?_take, if_pos (by omega), List.getElem?_drop, Nat.add_zero]
        have hd : 48 ≤ byI t p ∧ byI t p ≤ 57 := by rw [hb]; have := dg_val h1; omega
        have e1 : runN t 97 122 p = p := rn_no hl (by omega)
        have e2 := rn_yes hl hd
        have hk : scnE t p = runN t 48 57 p := by
          unfold scnE; rw [e1, show max p (runN t 48 57 p) = runN t 48 57 p by omega, if_neg (by omega)]
        rw [hk]
        unfold tokN runN
        rw [Nat.add_sub_cancel_left]
        have : (t.drop p).take ((t.drop p).takeWhile (inB 48 57)).length = (t.drop p).takeWhile (inB 48 57) := by
          have hh := List.takeWhile_append_dropWhile (p := inB 48 57) (l := t.drop p)
          conv => lhs; arg 2; rw [← hh]
          rw [List.take_left]
        rw [this]
        exact List.all_takeWhile
      · exact Ts_dig f _ (scnE_le (t := t) (p := scnP t e) (by omega)).2 x hx h0 h1
    · rw [List.mem_singleton.1 hx] at h0; exact absurd h0 (by simp)
theorem tks_dig {t : Bs} {x : Tn} (hx : x ∈ tksQ t) : 0 < x.1.length → dgB (x.1.getD 0 0) = true → x.1.all dgB = true := by
  rw [tk_all (t.length + 1) 0 (Nat.zero_le _) (fun _ => rfl) (by omega)] at hx
  exact Ts_dig _ _ (Nat.zero_le _) x hx
theorem tkL_len (t : Bs) : ∀ i, (tkL t i).length ≤ i
  | 0 => Nat.le_refl _
  | i + 1 => by
    have ih := tkL_len t i
    show (tkS t (tkL t i) i).length ≤ i + 1
    unfold tkS
    split
    · omega
    · split
      · unfold gwT
        split
        · omega
        · rename_i x hx
          rw [List.length_append, List.length_dropLast, List.length_singleton]
          omega
      · rw [List.length_append, List.length_singleton]; omega
theorem tks_len (t : Bs) : (tksQ t).length ≤ t.length + 1 := by unfold tksQ; rw [List.length_append, List.length_singleton]; have := tkL_len t t.length; omega
end Go.Proofs.YtlbjffdaooadoaaDoor
