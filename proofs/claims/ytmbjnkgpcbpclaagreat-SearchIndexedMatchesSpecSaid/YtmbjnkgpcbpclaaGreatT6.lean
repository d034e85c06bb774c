import Derived.Test.YtmbjnkgpcbpclaaGreatT5
set_option linter.all false
set_option maxRecDepth 100000
set_option maxHeartbeats 4000000
namespace Go.Proofs.YtmbjnkgpcbpclaaGreat
open Go Go.Vc Go.RowKit
abbrev AR := Bs × List Int
def GC {α : Type} (l : List (Bs × α)) : List Bs := l.map (·.1)
theorem Gj {α : Type} {l : List (Bs × α)} : Db l ↔ (GC l).Pairwise fun a b => D3 a b = true := by unfold Db GC; rw [List.pairwise_map]
theorem Ov {α : Type} (l : List (Bs × α)) (q : Bs) : Cq l q = ((GC l).filter fun g => D3 g q).length := by unfold Cq GC; rw [List.filter_map, List.length_map]; rfl
theorem Y4 {α : Type} (l : List (Bs × α)) (q : Bs) : Cq l q ≤ l.length := List.length_filter_le _ _
def zR (P : List AR) (vs : List Value) : List (Bs × D) := List.zipWith (fun p v => (p.1, D.raw v)) P vs
def bB (P : List AR) (vs : List Value) : List (Value × List (List D)) := List.zipWith (fun p v => (v, rows eI p.2)) P vs
def uP (p : AR) : List D × List (List D) := ([D.str p.1, .nils], rows eI p.2)
theorem R0 (P : List AR) (vs : List Value) : Ik 1 (P.map uP) vs = rows eG (zR P vs) := by
  unfold Ik rows zR
  rw [List.map_zipWith, List.zipWith_map_left]
  rfl
theorem Rz (P : List AR) (vs : List Value) : K7 (P.map uP) vs = bB P vs := by
  unfold K7 bB
  rw [List.zipWith_map_left]
  rfl
theorem Us (P : List AR) : G4 1 (P.map uP) = rows eP P := by
  unfold G4 rows
  rw [List.map_map]
  rfl
theorem QI {P : List AR} {vs : List Value} (h : vs.length = P.length) : (zR P vs).length = P.length := by simp [zR, h]
theorem ME {P : List AR} {vs : List Value} (h : vs.length = P.length) : GC (zR P vs) = GC P := by
  unfold GC zR
  rw [List.map_zipWith]
  induction P generalizing vs with
  | nil => simp
  | cons p P ih =>
    cases vs with
    | nil => simp at h
    | cons v vs => simp only [List.zipWith_cons_cons, List.map_cons]; rw [ih (by simpa using h)]
theorem XH {P : List AR} {vs : List Value} (h : vs.length = P.length) (hs : Db P) : Db (zR P vs) := by rw [Gj, ME h]; exact Gj.1 hs
theorem ZU {P : List AR} {vs : List Value} (h : vs.length = P.length) (g : Bs) : Cq (zR P vs) g = Cq P g := by rw [Ov, Ov, ME h]
theorem Za {P : List AR} {vs : List Value} (h : vs.length = P.length) (g : Bs) : Ce (zR P vs) g = Ce P g := by
  have := ME h
  unfold GC at this
  unfold Ce; rw [this]
theorem Nj {α β γ : Type} (f : α → β → γ) : ∀ (l : List α) (m : List β) (k : Nat) (a : α) (b : β), List.zipWith f (l.set k a) (m.set k b) = (List.zipWith f l m).set k (f a b)
  | [], _, _, _, _ => by simp
  | _ :: _, [], _, _, _ => by simp
  | _ :: _, _ :: _, 0, _, _ => rfl
  | _ :: l, _ :: m, k + 1, a, b => by simp [Nj f l m k a b]
theorem Ni {α β γ : Type} (f : α → β → γ) (a : α) (b : β) : ∀ (l : List α) (m : List β) (k : Nat), m.length = l.length → List.zipWith f (l.take k ++ a :: l.drop k) (m.take k ++ b :: m.drop k) = (List.zipWith f l m).take k ++ f a b :: (List.zipWith f l m).drop k
  | [], [], _, _ => by simp
  | [], _ :: _, _, h => by simp at h
  | _ :: _, [], _, h => by simp at h
  | x :: l, y :: m, 0, _ => by simp
  | x :: l, y :: m, k + 1, h => by simp [Ni f a b l m k (by simpa using h)]
def post (P : List AR) (g : Bs) (n : Int) : List AR := if Ce P g = true then P.set (Cq P g) (g, Fh (P.getD (Cq P g) ([], [])).2 n) else P.take (Cq P g) ++ (g, [n]) :: P.drop (Cq P g)
theorem GS {α : Type} {P : List (Bs × α)} {g : Bs} (hs : Db P) (h : Ce P g = true) : ∃ t, P[Cq P g]? = some (g, t) := by
  obtain ⟨p, hp, rfl⟩ := List.mem_map.1 (of_decide_eq_true h)
  obtain ⟨i, hi⟩ := List.getElem?_of_mem hp
  have hil := (List.getElem?_eq_some_iff.1 hi).1
  have hd := List.take_append_drop i P
  have hs' := hs
  unfold Db at hs'
  rw [← hd, List.drop_eq_getElem_cons hil, (List.getElem?_eq_some_iff.1 hi).2] at hs'
  have h3 := (List.pairwise_append.1 hs').2
  have : Cq P p.1 = i := Kp (fun q hq => h3.2 q hq p (by simp)) (fun q hq => by
    rw [List.drop_eq_getElem_cons hil, (List.getElem?_eq_some_iff.1 hi).2] at hq
    rcases List.mem_cons.1 hq with rfl | hq
    · exact DX _
    · exact Lt ((List.pairwise_cons.1 h3.1).1 q hq)) (by omega)
  exact ⟨p.2, by rw [this, hi]⟩
theorem PY {α : Type} {P : List (Bs × α)} (hs : Db P) (g : Bs) : (∀ p ∈ P.take (Cq P g), D3 p.1 g = true) ∧ ∀ p ∈ P.drop (Cq P g), D3 p.1 g = false := by
  induction P with
  | nil => simp
  | cons a P ih =>
    obtain ⟨h1, h2⟩ := List.pairwise_cons.1 hs
    have ih := ih h2
    unfold Cq at *
    cases ha : D3 a.1 g with
    | true =>
      have hf : (a :: P).filter (fun p => D3 p.1 g) = a :: P.filter (fun p => D3 p.1 g) := by simp [List.filter_cons, ha]
      rw [hf]
      simp only [List.length_cons, List.take_succ_cons, List.drop_succ_cons]
      refine ⟨fun x hx => ?_, ih.2⟩
      rcases List.mem_cons.1 hx with rfl | hx
      · exact ha
      · exact ih.1 x hx
    | false =>
      have hall : ∀ x ∈ a :: P, D3 x.1 g = false := fun x hx => by
        rcases List.mem_cons.1 hx with rfl | hx
        · exact ha
        · cases h : D3 x.1 g with
          | false => rfl
          | true => rw [Ff (h1 x hx) h] at ha; cases ha
      rw [List.filter_eq_nil_iff.2 (fun x hx => by rw [hall x hx]; simp)]
      exact ⟨by simp, by simpa using hall⟩
structure HG (P : List AR) : Prop where
  sort : Db P
  rise : ∀ p ∈ P, p.2.Pairwise (· < ·)
theorem Tl {P : List AR} {g : Bs} {n : Int} (h : HG P) : HG (post P g n) := by
  unfold post
  split
  · rename_i hh
    obtain ⟨t, ht⟩ := GS h.sort hh
    have hk : GC (P.set (Cq P g) (g, Fh (P.getD (Cq P g) ([], [])).2 n)) = GC P := by
      unfold GC
      rw [List.map_set]
      apply List.ext_getElem?
      intro i
      rw [List.getElem?_set]
      split
      · rename_i hi; subst hi
        rw [List.getElem?_map, ht]
        simp [(List.getElem?_eq_some_iff.1 ht).1]
      · rfl
    refine ⟨by rw [Gj, hk]; exact Gj.1 h.sort, fun p hp => ?_⟩
    rcases List.mem_or_eq_of_mem_set hp with hp | rfl
    · exact h.rise p hp
    · rw [show P.getD (Cq P g) ([], []) = (g, t) by rw [List.getD_eq_getElem?_getD, ht]; rfl]
      exact PT (h.rise _ (List.mem_of_getElem? ht))
  · rename_i hh
    obtain ⟨h1, h2⟩ := PY h.sort g
    refine ⟨?_, fun p hp => ?_⟩
    · have hs := h.sort
      unfold Db at hs ⊢
      rw [← List.take_append_drop (Cq P g) P, List.pairwise_append] at hs
      refine List.pairwise_append.2 ⟨hs.1, List.pairwise_cons.2 ⟨fun q hq => ?_, hs.2.1⟩, fun a ha b hb => ?_⟩
      · cases hgq : D3 g q.1 with
        | true => rfl
        | false =>
          have := I8 hgq (h2 q hq)
          exact absurd (decide_eq_true (List.mem_map.2 ⟨q, List.mem_of_mem_drop hq, this.symm⟩)) hh
      · rcases List.mem_cons.1 hb with rfl | hb
        · exact h1 a ha
        · exact hs.2.2 a ha b hb
    · rcases List.mem_append.1 hp with hp | hp
      · exact h.rise p (List.mem_of_mem_take hp)
      · rcases List.mem_cons.1 hp with rfl | hp
        · simp
        · exact h.rise p (List.mem_of_mem_drop hp)
theorem V6 {P : List AR} {g : Bs} {n : Int} : (post P g n).length ≤ P.length + 1 := by
  unfold post; split
  · simp
  · simp only [List.length_append, List.length_take, List.length_cons, List.length_drop]; omega
theorem V7 {P : List AR} {g : Bs} {n : Int} {M : Nat} (hM : 0 < M) (h : ∀ p ∈ P, p.2.length ≤ M) : ∀ p ∈ post P g n, p.2.length ≤ M + 1 := by
  intro p hp
  unfold post at hp
  split at hp
  · rcases List.mem_or_eq_of_mem_set hp with hp | rfl
    · have := h p hp; omega
    · have h1 : (P.getD (Cq P g) ([], [])).2.length ≤ M := by
        rw [List.getD_eq_getElem?_getD]
        cases hk : P[Cq P g]? with
        | none => simp
        | some q => exact h q (List.mem_of_getElem? hk)
      have := WW (l := (P.getD (Cq P g) ([], [])).2) (n := n)
      show (Fh _ n).length ≤ M + 1
      omega
  · rcases List.mem_append.1 hp with hp | hp
    · have := h p (List.mem_of_mem_take hp); omega
    · rcases List.mem_cons.1 hp with rfl | hp
      · simp only [List.length_cons, List.length_nil]; omega
      · have := h p (List.mem_of_mem_drop hp); omega
def gr (s : Bs) (i : Nat) : Bs := (s.drop i).take 3
def Be (P : List AR) (n : Int) (s : Bs) : Nat → List AR
  | 0 => P
  | k + 1 => post (Be P n s k) (gr s k) n
theorem FK {P : List AR} {n : Int} {s : Bs} (h : HG P) : ∀ k, HG (Be P n s k)
  | 0 => h
  | k + 1 => Tl (FK h k)
theorem HK {P : List AR} {n : Int} {s : Bs} : ∀ k, (Be P n s k).length ≤ P.length + k
  | 0 => Nat.le_refl _
  | k + 1 => by have := HK (P := P) (n := n) (s := s) k; have := V6 (P := Be P n s k) (g := gr s k) (n := n); simp only [Be]; omega
theorem HL {P : List AR} {n : Int} {s : Bs} {M : Nat} (hM : 0 < M) (h : ∀ p ∈ P, p.2.length ≤ M) : ∀ k, ∀ p ∈ Be P n s k, p.2.length ≤ M + k
  | 0 => h
  | k + 1 => V7 (M := M + k) (by omega) (HL hM h k)
def KQ (P : List AR) (n : Int) (s : Bs) : List AR := Be P n s (s.length - 2)
def JX : DP
  | [.ptr 0 0 0, .d (.int .i64 n), .d (.str s)], [some (.one tx [.sl 1 0 a, .sl 2 0 b]), some (.vec t z xs), some (.ob (.uv t2 z2 f e2 z3 ps))] =>
    some (∃ P : List AR, ps = P.map uP ∧ t = 3 ∧ z = 1 ∧ xs = rows eI (dI xs) ∧ a = (dI xs).length ∧ (dI xs).Pairwise (· < ·) ∧ (dI xs).length ≤ 100000000 ∧ t2 = 85 ∧ z2 = 2 ∧ f = 1 ∧ e2 = 3 ∧ z3 = 1 ∧ b = ps.length ∧ HG P ∧ P.length ≤ 100000000 ∧ (∀ p ∈ P, p.2.length ≤ 100000000) ∧ s.length ≤ 100000000,
      .tup [], [some (.one tx [.sl 3 0 (Fh (dI xs) n).length, .sl 4 0 (KQ (unP ps) n s).length]), none, none, some (.vec 3 1 (rows eI (Fh (dI xs) n))), some (.ob (.uv 85 2 1 3 1 ((KQ (unP ps) n s).map uP)))])
  | _, _ => none
where
  unP (ps : List (List D × List (List D))) : List AR := ps.map fun q => (match q.1 with | [.str g, _] => (g, dI q.2) | _ => ([], []))
theorem Wl (P : List AR) : JX.unP (P.map uP) = P := by
  unfold JX.unP
  rw [List.map_map]
  conv => rhs; rw [← List.map_id P]
  apply List.map_congr_left
  intro p _
  show (p.1, dI (rows eI p.2)) = p
  rw [AE]
