/- Walks, printed by wip/gen/walk.py. -/
import Derived.Test.YtmbjnkgpcbpclaaGreatT5
import Derived.Test.YtmbjnkgpcbpclaaGreatV5
set_option linter.all false
set_option maxRecDepth 100000
set_option maxHeartbeats 4000000
namespace Go.Proofs.YtmbjnkgpcbpclaaGreat
open Go Go.Vc Go.RowKit
abbrev AM := Bs × List Int
def FH {α : Type} (l : List (Bs × α)) : List Bs := l.map (·.1)
theorem Fp {α : Type} {l : List (Bs × α)} : C7 l ↔ (FH l).Pairwise fun a b => Dc a b = true := by unfold C7 FH; rw [List.pairwise_map]
theorem Mw {α : Type} (l : List (Bs × α)) (q : Bs) : Ck l q = ((FH l).filter fun g => Dc g q).length := by unfold Ck FH; rw [List.filter_map, List.length_map]; rfl
theorem We {α : Type} (l : List (Bs × α)) (q : Bs) : Ck l q ≤ l.length := List.length_filter_le _ _
def zR (P : List AM) (vs : List Value) : List (Bs × D) := List.zipWith (fun p v => (p.1, D.raw v)) P vs
def bB (P : List AM) (vs : List Value) : List (Value × List (List D)) := List.zipWith (fun p v => (v, rows eI p.2)) P vs
def uP (p : AM) : List D × List (List D) := ([D.str p.1, .nils], rows eI p.2)
theorem Pd (P : List AM) (vs : List Value) : Hf 1 (P.map uP) vs = rows eG (zR P vs) := by
  unfold Hf rows zR
  rw [List.map_zipWith, List.zipWith_map_left]
  rfl
theorem Pc (P : List AM) (vs : List Value) : Jm (P.map uP) vs = bB P vs := by
  unfold Jm bB
  rw [List.zipWith_map_left]
  rfl
theorem RC (P : List AM) : F9 1 (P.map uP) = rows eP P := by
  unfold F9 rows
  rw [List.map_map]
  rfl
theorem O1 {P : List AM} {vs : List Value} (h : vs.length = P.length) : (zR P vs).length = P.length := by simp [zR, h]
theorem Le {P : List AM} {vs : List Value} (h : vs.length = P.length) : FH (zR P vs) = FH P := by
  unfold FH zR
  rw [List.map_zipWith]
  induction P generalizing vs with
  | nil => simp
  | cons p P ih =>
    cases vs with
    | nil => simp at h
    | cons v vs => simp only [List.zipWith_cons_cons, List.map_cons]; rw [ih (by simpa using h)]
theorem Vn {P : List AM} {vs : List Value} (h : vs.length = P.length) (hs : C7 P) : C7 (zR P vs) := by rw [Fp, Le h]; exact Fp.1 hs
theorem X9 {P : List AM} {vs : List Value} (h : vs.length = P.length) (g : Bs) : Ck (zR P vs) g = Ck P g := by rw [Mw, Mw, Le h]
theorem WC {P : List AM} {vs : List Value} (h : vs.length = P.length) (g : Bs) : Db (zR P vs) g = Db P g := by
  have := Le h
  unfold FH at this
  unfold Db; rw [this]
theorem L4 {α β γ : Type} (f : α → β → γ) : ∀ (l : List α) (m : List β) (k : Nat) (a : α) (b : β), List.zipWith f (l.set k a) (m.set k b) = (List.zipWith f l m).set k (f a b)
  | [], _, _, _, _ => by simp
  | _ :: _, [], _, _, _ => by simp
  | _ :: _, _ :: _, 0, _, _ => rfl
  | _ :: l, _ :: m, k + 1, a, b => by simp [L4 f l m k a b]
theorem L3 {α β γ : Type} (f : α → β → γ) (a : α) (b : β) : ∀ (l : List α) (m : List β) (k : Nat), m.length = l.length → List.zipWith f (l.take k ++ a :: l.drop k) (m.take k ++ b :: m.drop k) = (List.zipWith f l m).take k ++ f a b :: (List.zipWith f l m).drop k
  | [], [], _, _ => by simp
  | [], _ :: _, _, h => by simp at h
  | _ :: _, [], _, h => by simp at h
  | x :: l, y :: m, 0, _ => by simp
  | x :: l, y :: m, k + 1, h => by simp [L3 f a b l m k (by simpa using h)]
def post (P : List AM) (g : Bs) (n : Int) : List AM := if Db P g = true then P.set (Ck P g) (g, Hn (P.getD (Ck P g) ([], [])).2 n) else P.take (Ck P g) ++ (g, [n]) :: P.drop (Ck P g)
theorem Ga {α : Type} {P : List (Bs × α)} {g : Bs} (hs : C7 P) (h : Db P g = true) : ∃ t, P[Ck P g]? = some (g, t) := by
  obtain ⟨p, hp, rfl⟩ := List.mem_map.1 (of_decide_eq_true h)
  obtain ⟨i, hi⟩ := List.getElem?_of_mem hp
  have hil := (List.getElem?_eq_some_iff.1 hi).1
  have hd := List.take_append_drop i P
  have hs' := hs
  unfold C7 at hs'
  rw [← hd, List.drop_eq_getElem_cons hil, (List.getElem?_eq_some_iff.1 hi).2] at hs'
  have h3 := (List.pairwise_append.1 hs').2
  have : Ck P p.1 = i := NO (fun q hq => h3.2 q hq p (by simp)) (fun q hq => by
    rw [List.drop_eq_getElem_cons hil, (List.getElem?_eq_some_iff.1 hi).2] at hq
    rcases List.mem_cons.1 hq with rfl | hq
    · exact DC _
    · exact JV ((List.pairwise_cons.1 h3.1).1 q hq)) (by omega)
  exact ⟨p.2, by rw [this, hi]⟩
theorem NN {α : Type} {P : List (Bs × α)} (hs : C7 P) (g : Bs) : (∀ p ∈ P.take (Ck P g), Dc p.1 g = true) ∧ ∀ p ∈ P.drop (Ck P g), Dc p.1 g = false := by
  induction P with
  | nil => simp
  | cons a P ih =>
    obtain ⟨h1, h2⟩ := List.pairwise_cons.1 hs
    have ih := ih h2
    unfold Ck at *
    cases ha : Dc a.1 g with
    | true =>
      have hf : (a :: P).filter (fun p => Dc p.1 g) = a :: P.filter (fun p => Dc p.1 g) := by simp [List.filter_cons, ha]
      rw [hf]
      simp only [List.length_cons, List.take_succ_cons, List.drop_succ_cons]
      refine ⟨fun x hx => ?_, ih.2⟩
      rcases List.mem_cons.1 hx with rfl | hx
      · exact ha
      · exact ih.1 x hx
    | false =>
      have hall : ∀ x ∈ a :: P, Dc x.1 g = false := fun x hx => by
        rcases List.mem_cons.1 hx with rfl | hx
        · exact ha
        · cases h : Dc x.1 g with
          | false => rfl
          | true => rw [Eo (h1 x hx) h] at ha; cases ha
      rw [List.filter_eq_nil_iff.2 (fun x hx => by rw [hall x hx]; simp)]
      exact ⟨by simp, by simpa using hall⟩
structure GK (P : List AM) : Prop where
  sort : C7 P
  rise : ∀ p ∈ P, p.2.Pairwise (· < ·)
theorem Qz {P : List AM} {g : Bs} {n : Int} (h : GK P) : GK (post P g n) := by
  unfold post
  split
  · rename_i hh
    obtain ⟨t, ht⟩ := Ga h.sort hh
    have hk : FH (P.set (Ck P g) (g, Hn (P.getD (Ck P g) ([], [])).2 n)) = FH P := by
      unfold FH
      rw [List.map_set]
      apply List.ext_getElem?
      intro i
      rw [List.getElem?_set]
      split
      · rename_i hi; subst hi
        rw [List.getElem?_map, ht]
        simp [(List.getElem?_eq_some_iff.1 ht).1]
      · rfl
    refine ⟨by rw [Fp, hk]; exact Fp.1 h.sort, fun p hp => ?_⟩
    rcases List.mem_or_eq_of_mem_set hp with hp | rfl
    · exact h.rise p hp
    · rw [show P.getD (Ck P g) ([], []) = (g, t) by rw [List.getD_eq_getElem?_getD, ht]; rfl]
      exact NJ (h.rise _ (List.mem_of_getElem? ht))
  · rename_i hh
    obtain ⟨h1, h2⟩ := NN h.sort g
    refine ⟨?_, fun p hp => ?_⟩
    · have hs := h.sort
      unfold C7 at hs ⊢
      rw [← List.take_append_drop (Ck P g) P, List.pairwise_append] at hs
      refine List.pairwise_append.2 ⟨hs.1, List.pairwise_cons.2 ⟨fun q hq => ?_, hs.2.1⟩, fun a ha b hb => ?_⟩
      · cases hgq : Dc g q.1 with
        | true => rfl
        | false =>
          have := Hv hgq (h2 q hq)
          exact absurd (decide_eq_true (List.mem_map.2 ⟨q, List.mem_of_mem_drop hq, this.symm⟩)) hh
      · rcases List.mem_cons.1 hb with rfl | hb
        · exact h1 a ha
        · exact hs.2.2 a ha b hb
    · rcases List.mem_append.1 hp with hp | hp
      · exact h.rise p (List.mem_of_mem_take hp)
      · rcases List.mem_cons.1 hp with rfl | hp
        · simp
        · exact h.rise p (List.mem_of_mem_drop hp)
theorem SZ {P : List AM} {g : Bs} {n : Int} : (post P g n).length ≤ P.length + 1 := by
  unfold post; split
  · simp
  · simp only [List.length_append, List.length_take, List.length_cons, List.length_drop]; omega
theorem Ta {P : List AM} {g : Bs} {n : Int} {M : Nat} (hM : 0 < M) (h : ∀ p ∈ P, p.2.length ≤ M) : ∀ p ∈ post P g n, p.2.length ≤ M + 1 := by
  intro p hp
  unfold post at hp
  split at hp
  · rcases List.mem_or_eq_of_mem_set hp with hp | rfl
    · have := h p hp; omega
    · have h1 : (P.getD (Ck P g) ([], [])).2.length ≤ M := by
        rw [List.getD_eq_getElem?_getD]
        cases hk : P[Ck P g]? with
        | none => simp
        | some q => exact h q (List.mem_of_getElem? hk)
      have := U0 (l := (P.getD (Ck P g) ([], [])).2) (n := n)
      show (Hn _ n).length ≤ M + 1
      omega
  · rcases List.mem_append.1 hp with hp | hp
    · have := h p (List.mem_of_mem_take hp); omega
    · rcases List.mem_cons.1 hp with rfl | hp
      · simp only [List.length_cons, List.length_nil]; omega
      · have := h p (List.mem_of_mem_drop hp); omega
def gr (s : Bs) (i : Nat) : Bs := (s.drop i).take 3
def AO (P : List AM) (n : Int) (s : Bs) : Nat → List AM
  | 0 => P
  | k + 1 => post (AO P n s k) (gr s k) n
theorem FX {P : List AM} {n : Int} {s : Bs} (h : GK P) : ∀ k, GK (AO P n s k)
  | 0 => h
  | k + 1 => Qz (FX h k)
theorem ID {P : List AM} {n : Int} {s : Bs} : ∀ k, (AO P n s k).length ≤ P.length + k
  | 0 => Nat.le_refl _
  | k + 1 => by have := ID (P := P) (n := n) (s := s) k; have := SZ (P := AO P n s k) (g := gr s k) (n := n); simp only [AO]; omega
theorem IE {P : List AM} {n : Int} {s : Bs} {M : Nat} (hM : 0 < M) (h : ∀ p ∈ P, p.2.length ≤ M) : ∀ k, ∀ p ∈ AO P n s k, p.2.length ≤ M + k
  | 0 => h
  | k + 1 => Ta (M := M + k) (by omega) (IE hM h k)
def LI (P : List AM) (n : Int) (s : Bs) : List AM := AO P n s (s.length - 2)
def IF : Dr
  | [.ptr 0 0 0, .d (.int .i64 n), .d (.str s)], [some (.one tx [.sl 1 0 a, .sl 2 0 b]), some (.vec t z xs), some (.ob (.uv t2 z2 f e2 z3 ps))] =>
    some (∃ P : List AM, ps = P.map uP ∧ t = 3 ∧ z = 1 ∧ xs = rows eI (dI xs) ∧ a = (dI xs).length ∧ (dI xs).Pairwise (· < ·) ∧ (dI xs).length ≤ 100000000 ∧ t2 = 85 ∧ z2 = 2 ∧ f = 1 ∧ e2 = 3 ∧ z3 = 1 ∧ b = ps.length ∧ GK P ∧ P.length ≤ 100000000 ∧ (∀ p ∈ P, p.2.length ≤ 100000000) ∧ s.length ≤ 100000000,
      .tup [], [some (.one tx [.sl 3 0 (Hn (dI xs) n).length, .sl 4 0 (LI (unP ps) n s).length]), none, none, some (.vec 3 1 (rows eI (Hn (dI xs) n))), some (.ob (.uv 85 2 1 3 1 ((LI (unP ps) n s).map uP)))])
  | _, _ => none
where
  unP (ps : List (List D × List (List D))) : List AM := ps.map fun q => (match q.1 with | [.str g, _] => (g, dI q.2) | _ => ([], []))
theorem TD (P : List AM) : IF.unP (P.map uP) = P := by
  unfold IF.unP
  rw [List.map_map]
  conv => rhs; rw [← List.map_id P]
  apply List.map_congr_left
  intro p _
  show (p.1, dI (rows eI p.2)) = p
  rw [AJ]
end Go.Proofs.YtmbjnkgpcbpclaaGreat
