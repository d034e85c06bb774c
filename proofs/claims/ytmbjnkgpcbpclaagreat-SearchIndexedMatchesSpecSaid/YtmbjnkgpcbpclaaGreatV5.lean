/- The Vc layer, part 5. -/
import Derived.Test.YtmbjnkgpcbpclaaGreatV4
import Derived.Lib.Overlaps
import Derived.Lib.AppendZerosOnto
import Derived.Lib.Bytealg
/- The Vc layer: rows whose elements own slices: opened (a row of raw values and a bag of slices), closed, read as data. -/
set_option linter.all false
namespace Go.Vc
open Go Go.RowKit
section
variable [Bl] {w : World} {S : Lays} {n : Nat} {W0 : World} {M0 : Nat → Prop} {H : Av}
theorem Ai.remap (hH : Ai W0 M0 H n w S) (H' : Av) (n' : Nat) (S' : Lays) (hn : n ≤ n') (hold : ∀ i, i < n → S' i = S i ∨ S' i = none) (hbnd : ∀ i, n' ≤ i → S' i = none)
  (hsub : ∀ i l b, n ≤ i → S' i = some l → l.has b → ∃ j l', S j = some l' ∧ l'.has b ∧ (H j).isSome = true) (hinj : ∀ i j l l' b, S' i = some l → S' j = some l' → l.has b → l'.has b → i = j)
  (hnod : ∀ i l, n ≤ i → S' i = some l → l.subs.Nodup ∧ ∀ b, l.blk = some b → b ∉ l.subs) (hpl : ∀ i l b, H' i = some b → S' i = some l → G6 b = true → l.subs = [])
  (hliv : ∀ i, i < n → (H' i).isSome = true → (H i).isSome = true)
  (hbox : Cu w S n w S' n' → ∀ i b, H' i = some b → (i < n ∧ H i = some b ∧ S' i = S i) ∨ ∃ l, S' i = some l ∧ BQ w S' n' b l) : Ai W0 M0 H' n' w S' ∧ Cu w S n w S' n' := by
 have back : ∀ i l b, S' i = some l → l.has b → ∃ j l', S j = some l' ∧ l'.has b ∧ (i < n → j = i) ∧ (n ≤ i → (H j).isSome = true) := by
  intro i l b hi hb
  by_cases h : i < n
  ·rcases hold i h with e | e
   ·exact ⟨i, l, by rw [← e]; exact hi, hb, fun _ => rfl, fun h' => by omega⟩
   ·rw [e] at hi; cases hi
  ·obtain ⟨j, l', h1, h2, h3⟩ := hsub i l b (by omega) hi hb
   exact ⟨j, l', h1, h2, fun h' => absurd h' h, fun _ => h3⟩
 have hE : Cu w S n w S' n' := by
  refine ⟨hn, Nat.le_refl _, hold, fun b hb hno ho => ?_, fun _ _ _ => rfl⟩
  rcases ho with ho | ⟨i, l, h1, h2⟩
  ·exact hno (.inl ho)
  ·obtain ⟨j, l', h3, h4, _⟩ := back i l b h1 h2
   exact hno (.inr ⟨j, l', h3, h4⟩)
 refine ⟨⟨hbnd, fun i l b h1 h2 => ?_, fun i b hb => ?_, hinj, fun i l hi => ?_, fun i l b h1 h2 h3 => hpl i l b h1 h2 h3, fun i l b hl hi hb => ?_, hH.os, hH.tape, hH.output, hH.size, hH.same, fun b hb => ?_, fun i hi => ?_, hH.glx hE⟩, hE⟩
 ·obtain ⟨j, l', h3, h4, _⟩ := back i l b h1 h2
  exact hH.lt2 j l' b h3 h4
 ·rcases hbox hE i b hb with ⟨h1, h2, h3⟩ | h
  ·obtain ⟨l, h4, h5⟩ := hH.box i b h2
   exact ⟨l, h3.trans h4, h5.ext hE fun _ _ => rfl⟩
  ·exact h
 ·by_cases h : i < n
  ·rcases hold i h with e | e
   ·exact hH.nod i l (by rw [← e]; exact hi)
   ·rw [e] at hi; cases hi
  ·exact hnod i l (by omega) hi
 ·obtain ⟨j, l', h3, h4, h5, h6⟩ := back i l b hi hb
  by_cases h : i < n
  ·have := h5 h; subst this
   exact hH.mut2 j l' b (hliv j h hl) h3 h4
  ·exact hH.mut2 j l' b (h6 (by omega)) h3 h4
 ·obtain ⟨h1, h2⟩ := hH.far b hb
  refine ⟨h1, fun i l hi hb' => ?_⟩
  obtain ⟨j, l', h3, h4, _⟩ := back i l b hi hb'
  exact h2 j l' h3 h4
 ·obtain ⟨h1, h2⟩ := hH.pin i hi
  refine ⟨by omega, ?_⟩
  rcases hold i h1 with e | e
  ·rw [e]; exact h2
  ·exact .inr e
def rem {α : Type} (K : List Nat) (n : Nat) (new : List α) (f : Nat → Option α) : Nat → Option α := fun i => if i < n then (if i ∈ K then none else f i) else new[i - n]?
theorem E2 {α : Type} {K : List Nat} {n : Nat} {new : List α} {f : Nat → Option α} {i : Nat} (h : i < n) : rem K n new f i = if i ∈ K then none else f i := by unfold rem; rw [if_pos h]
theorem Ej {α : Type} {K : List Nat} {n : Nat} {new : List α} {f : Nat → Option α} {i : Nat} (h : n ≤ i) : rem K n new f i = new[i - n]? := by unfold rem; rw [if_neg (by omega)]
theorem Ai.redeal (hH : Ai W0 M0 H n w S) (K : List Nat) (bs : List B7) (ls : List Lay) (G : Av) (hlen : ls.length = bs.length)
  (hG : Cu w S n w (rem K n ls S) (n + bs.length) → ∀ i b l, i ∉ K → G i = some b → S i = some l → H i = some b ∨ (G6 b = true ∧ l.subs = [] ∧ BQ w (rem K n ls S) (n + bs.length) b l)) (hGl : ∀ i, (G i).isSome = true → (H i).isSome = true)
  (hsub : ∀ l ∈ ls, ∀ b, l.has b → ∃ j ∈ K, ∃ l', S j = some l' ∧ l'.has b ∧ (H j).isSome = true) (hinj : ∀ (i j : Nat) (l l' : Lay) (b : Nat), ls[i]? = some l → ls[j]? = some l' → l.has b → l'.has b → i = j)
  (hnod : ∀ l ∈ ls, l.subs.Nodup ∧ ∀ b, l.blk = some b → b ∉ l.subs) (hpl : ∀ (i : Nat) (l : Lay) (b : B7), bs[i]? = some b → ls[i]? = some l → G6 b = true → l.subs = [])
  (hbox : Cu w S n w (rem K n ls S) (n + bs.length) → ∀ (i : Nat) (l : Lay) (b : B7), bs[i]? = some b → ls[i]? = some l → BQ w (rem K n ls S) (n + bs.length) b l) :
  Ai W0 M0 (rem K n bs G) (n + bs.length) w (rem K n ls S) ∧ Cu w S n w (rem K n ls S) (n + bs.length) := by
 have kept : ∀ i l, i < n → rem K n ls S i = some l → S i = some l ∧ i ∉ K := fun i l hi h => by
  rw [E2 hi] at h
  split at h
  ·cases h
  ·exact ⟨h, by assumption⟩
 have fresh : ∀ i l, n ≤ i → rem K n ls S i = some l → ls[i - n]? = some l := fun i l hi h => by rwa [Ej hi] at h
 have hE0 : Cu w S n w (rem K n ls S) (n + bs.length) := by
  refine ⟨by omega, Nat.le_refl _, fun i hi => ?_, fun b hb hno ho => ?_, fun _ _ _ => rfl⟩
  ·rw [E2 hi]; split
   ·exact .inr rfl
   ·exact .inl rfl
  ·rcases ho with ho | ⟨i, l, h1, h2⟩
   ·exact hno (.inl ho)
   ·by_cases hin : i < n
    ·exact hno (.inr ⟨i, l, (kept i l hin h1).1, h2⟩)
    ·obtain ⟨j, _, l', h3, h4, _⟩ := hsub l (List.mem_of_getElem? (fresh i l (by omega) h1)) b h2
     exact hno (.inr ⟨j, l', h3, h4⟩)
 have hG := hG hE0
 refine hH.remap _ _ _ (by omega) (fun i hi => ?_) (fun i hi => ?_) (fun i l b hi hl hb => ?_) (fun i j l l' b hi hj h1 h2 => ?_) (fun i l hi hl => hnod l (List.mem_of_getElem? (fresh i l hi hl))) (fun i l b hb hl hf => ?_) (fun i hi h => ?_) (fun hE i b hb => ?_)
 ·rw [E2 hi]; split
  ·exact .inr rfl
  ·exact .inl rfl
 ·rw [Ej (by omega), List.getElem?_eq_none (by omega)]
 ·obtain ⟨j, _, l', h⟩ := hsub l (List.mem_of_getElem? (fresh i l hi hl)) b hb
  exact ⟨j, l', h⟩
 ·by_cases hin : i < n
  ·obtain ⟨g1, g2⟩ := kept i l hin hi
   by_cases hjn : j < n
   ·exact hH.inj2 i j l l' b g1 (kept j l' hjn hj).1 h1 h2
   ·obtain ⟨k, hk, l2, h3, h4, _⟩ := hsub l' (List.mem_of_getElem? (fresh j l' (by omega) hj)) b h2
    have := hH.inj2 i k l l2 b g1 h3 h1 h4
    exact absurd (this ▸ hk) g2
  ·by_cases hjn : j < n
   ·obtain ⟨g1, g2⟩ := kept j l' hjn hj
    obtain ⟨k, hk, l2, h3, h4, _⟩ := hsub l (List.mem_of_getElem? (fresh i l (by omega) hi)) b h1
    have := hH.inj2 j k l' l2 b g1 h3 h2 h4
    exact absurd (this ▸ hk) g2
   ·have := hinj _ _ l l' b (fresh i l (by omega) hi) (fresh j l' (by omega) hj) h1 h2
    omega
 ·by_cases hin : i < n
  ·rw [E2 hin] at hb
   split at hb
   ·cases hb
   ·rename_i hk
    rcases hG i b l hk hb (kept i l hin hl).1 with h | h
    ·exact hH.plain i l b h (kept i l hin hl).1 hf
    ·exact h.2.1
  ·rw [Ej (by omega)] at hb
   exact hpl _ l b hb (fresh i l (by omega) hl) hf
 ·rw [E2 hi] at h
  split at h
  ·cases h
  ·exact hGl i h
 ·by_cases hin : i < n
  ·rw [E2 hin] at hb
   split at hb
   ·cases hb
   ·rename_i hk
    obtain ⟨b0, hb0⟩ := Option.isSome_iff_exists.1 (hGl i (by rw [hb]; rfl))
    obtain ⟨l, hl, _⟩ := hH.box i b0 hb0
    rcases hG i b l hk hb hl with h | h
    ·exact .inl ⟨hin, h, by rw [E2 hin, if_neg hk]⟩
    ·exact .inr ⟨l, by rw [E2 hin, if_neg hk]; exact hl, h.2.2⟩
  ·rw [Ej (by omega)] at hb
   have hl : i - n < ls.length := by rw [hlen]; exact (List.getElem?_eq_some_iff.1 hb).1
   exact .inr ⟨ls[i - n], by rw [Ej (by omega)]; exact List.getElem?_eq_getElem hl, hbox hE (i - n) _ b hb (List.getElem?_eq_getElem hl)⟩
end
end Go.Vc
/- The Vc layer: slices taken out of a bag and put back; rows opened, closed, read as data. -/
set_option linter.all false
namespace Go.Vc
open Go Go.RowKit
theorem NZ {α β : Type} (f : α → Option β) (l1 l2 : List α) (x : α) : (l1 ++ x :: l2).filterMap f = l1.filterMap f ++ ((f x).toList ++ l2.filterMap f) := by
 rw [List.filterMap_append, List.filterMap_cons]
 cases f x <;> simp
theorem OV {α : Type} {l : List α} {i : Nat} {x : α} (h : l[i]? = some x) : l = l.take i ++ x :: l.drop (i + 1) := by
 have hi := (List.getElem?_eq_some_iff.1 h).1
 have : x = l[i] := ((List.getElem?_eq_some_iff.1 h).2).symm
 rw [this, List.getElem_cons_drop, List.take_append_drop]
theorem JJ.take {w : World} {O : Nat → Prop} {ety : TypeId} {esz : Nat} {m1 m2 : List (Value × List (List D))} {v : Value} {ys : List (List D)} {subs : List Nat} (h : JJ w O ety esz (m1 ++ (v, ys) :: m2) subs) :
  ∃ (l : Lay) (s1 s2 : List Nat), subs = s1 ++ (l.blk.toList ++ s2) ∧ l.subs = [] ∧ HI w O ety esz ys l ∧ v = T6 l ys.length ∧ JJ w O ety esz (m1 ++ m2) (s1 ++ s2) := by
 obtain ⟨ls, h1, h2, h3⟩ := h
 have hi : m1.length < ls.length := by rw [h1]; simp
 obtain ⟨l, hl⟩ : ∃ l, ls[m1.length]? = some l := ⟨_, List.getElem?_eq_getElem hi⟩
 obtain ⟨g1, g2, g3⟩ := h3 m1.length l (v, ys) hl (by simp)
 have hs := OV hl
 refine ⟨l, (ls.take m1.length).filterMap (·.blk), (ls.drop (m1.length + 1)).filterMap (·.blk), ?_, g1, g2, g3, ls.take m1.length ++ ls.drop (m1.length + 1), ?_, by rw [List.filterMap_append], fun i l' p hi hp => ?_⟩
 ·rw [h2]
  conv => lhs; rw [hs]
  exact NZ _ _ _ _
 ·simp at h1 ⊢; omega
 ·have hlt : (ls.take m1.length).length = m1.length := by rw [List.length_take]; omega
  by_cases hlt' : i < m1.length
  ·rw [List.getElem?_append_left (by omega), List.getElem?_take, if_pos hlt'] at hi
   rw [List.getElem?_append_left hlt'] at hp
   exact h3 i l' p hi (by rw [List.getElem?_append_left hlt']; exact hp)
  ·rw [List.getElem?_append_right (by omega), hlt, List.getElem?_drop] at hi
   rw [List.getElem?_append_right (by omega)] at hp
   refine h3 (i + 1) l' p ?_ ?_
   ·rw [← hi]; congr 1; omega
   ·rw [List.getElem?_append_right (by omega), show i + 1 - m1.length = (i - m1.length) + 1 by omega, List.getElem?_cons_succ]; exact hp
theorem JJ.add {w : World} {O : Nat → Prop} {ety : TypeId} {esz : Nat} {m1 m2 : List (Value × List (List D))} {l : Lay} {ys : List (List D)} {subs : List Nat} (h : JJ w O ety esz (m1 ++ m2) subs) (hl : l.subs = []) (hv : HI w O ety esz ys l) :
  ∃ s1 s2 : List Nat, subs = s1 ++ s2 ∧ JJ w O ety esz (m1 ++ (T6 l ys.length, ys) :: m2) (s1 ++ (l.blk.toList ++ s2)) := by
 obtain ⟨ls, h1, h2, h3⟩ := h
 have hle : m1.length ≤ ls.length := by rw [h1]; simp
 have hlt : (ls.take m1.length).length = m1.length := by rw [List.length_take]; omega
 refine ⟨(ls.take m1.length).filterMap (·.blk), (ls.drop m1.length).filterMap (·.blk), by rw [h2, ← List.filterMap_append, List.take_append_drop], ls.take m1.length ++ l :: ls.drop m1.length, ?_, (NZ _ _ _ _).symm, fun i l' p hi hp => ?_⟩
 ·simp at h1 ⊢; omega
 ·by_cases hlt' : i < m1.length
  ·rw [List.getElem?_append_left (by omega), List.getElem?_take, if_pos hlt'] at hi
   rw [List.getElem?_append_left hlt'] at hp
   exact h3 i l' p hi (by rw [List.getElem?_append_left hlt']; exact hp)
  ·rw [List.getElem?_append_right (by omega), hlt] at hi
   rw [List.getElem?_append_right (by omega)] at hp
   cases hk : i - m1.length with
   | zero =>
    rw [hk] at hi hp
    simp at hi hp
    subst hi; subst hp
    exact ⟨hl, hv, rfl⟩
   | succ k =>
    rw [hk] at hi hp
    simp only [List.getElem?_cons_succ] at hi hp
    rw [List.getElem?_drop] at hi
    refine h3 (m1.length + k) l' p hi ?_
    rw [List.getElem?_append_right (by omega), show m1.length + k - m1.length = k by omega]; exact hp
section
variable [Bl] {P : Program} {E : Bq P} {W0 : World} {M0 : Nat → Prop} {w : World} {S : Lays} {n : Nat} {H : Av} {fr : Nat → AV} {K : St → Prop} {d : Option Tmp} {t t' ty' : TypeId} {p : String} {af : Array Edge}
theorem KC (hH : Ai W0 M0 H n w S) {b esz : Nat} {ety : TypeId} {m1 m2 : List (Value × List (List D))} {v : Value} {ys : List (List D)} (hb : H b = some (.ob (.bag ety esz (m1 ++ (v, ys) :: m2)))) :
  ∃ S', Ai W0 M0 (rem [b] n [.vec ety esz ys, .ob (.bag ety esz (m1 ++ m2))] H) (n + 2) w S' ∧ Cu w S n w S' (n + 2) ∧ R w S' (n + 2) (.sl n 0 ys.length) v := by
 obtain ⟨lb, hS, hbox⟩ := hH.box b _ hb
 obtain ⟨hb0, hbag⟩ := hbox
 obtain ⟨l, s1, s2, e1, e2, e3, e4, e5⟩ := hbag.take
 have hnd := (hH.nod b lb hS).1
 rw [e1] at hnd
 have key := hH.redeal [b] [.vec ety esz ys, .ob (.bag ety esz (m1 ++ m2))] [l, ⟨none, 0, 0, s1 ++ s2⟩] H rfl (fun _ i b l _ h _ => .inl h) (fun _ h => h) (fun l' hl' c hc => ?_) (fun i j l1 l2 c hi hj h1 h2 => ?_) (fun l' hl' => ?_) (fun i l' b' hb' hl' hf => ?_) (fun hE i l' b' hb' hl' => ?_)
 ·refine ⟨_, key.1, key.2, ?_⟩
  rw [e4]
  have := @R.sl _ w (rem [b] n [l, ⟨none, 0, 0, s1 ++ s2⟩] S) (n + 2) n 0 ys.length 0 l (by omega) (by rw [Ej (Nat.le_refl _)]; simp) (by have := e3.2.2.1; omega) (fun _ => by simp) (fun _ => rfl)
  simpa [T6] using this
 ·refine ⟨b, by simp, lb, hS, .inr ?_, by rw [hb]; rfl⟩
  rw [e1]
  simp only [List.mem_cons, List.not_mem_nil, or_false] at hl'
  rcases hl' with rfl | rfl
  ·rcases hc with hc | hc
   ·simp [hc]
   ·rw [e2] at hc; cases hc
  ·rcases hc with hc | hc
   ·cases hc
   ·simp only [List.mem_append] at hc ⊢
    rcases hc with hc | hc
    ·exact .inl hc
    ·exact .inr (.inr hc)
 ·have dis : ∀ c, l.blk = some c → c ∈ s1 ++ s2 → False := fun c hc hm => by
   rw [hc] at hnd
   simp only [Option.toList_some, List.nodup_append, List.mem_append, List.mem_cons, List.not_mem_nil, or_false, List.nodup_cons] at hnd
   obtain ⟨_, ⟨_, _, q1⟩, q2⟩ := hnd
   rcases List.mem_append.1 hm with hm | hm
   ·exact q2 c hm c (.inl rfl) rfl
   ·exact q1 c rfl c hm rfl
  have h0 : ∀ {x : Lay} {k : Nat}, [l, (⟨none, 0, 0, s1 ++ s2⟩ : Lay)][k]? = some x → (k = 0 ∧ x = l) ∨ (k = 1 ∧ x = ⟨none, 0, 0, s1 ++ s2⟩) := by
   intro x k hk
   match k, hk with
   | 0, hk => simp at hk; exact .inl ⟨rfl, hk.symm⟩
   | 1, hk => simp at hk; exact .inr ⟨rfl, hk.symm⟩
  have hl0 : ∀ c, l.has c → l.blk = some c := fun c hc => hc.elim id (fun hc => by rw [e2] at hc; cases hc)
  rcases h0 hi with ⟨rfl, rfl⟩ | ⟨rfl, rfl⟩ <;> rcases h0 hj with ⟨rfl, rfl⟩ | ⟨rfl, rfl⟩
  ·rfl
  ·exact (dis c (hl0 c h1) (h2.elim (fun h => by cases h) id)).elim
  ·exact (dis c (hl0 c h2) (h1.elim (fun h => by cases h) id)).elim
  ·rfl
 ·simp only [List.mem_cons, List.not_mem_nil, or_false] at hl'
  rcases hl' with rfl | rfl
  ·rw [e2]; exact ⟨List.nodup_nil, fun _ _ h => by cases h⟩
  ·refine ⟨hnd.sublist ?_, fun _ h => by cases h⟩
   exact List.Sublist.append_left (List.sublist_append_right _ _) _
 ·match i, hb', hl' with
  | 0, hb', hl' => simp at hl'; rw [← hl']; exact e2
  | 1, hb', hl' => simp at hb'; subst hb'; cases hf
 ·have hnew := hE.new
  match i, hb', hl' with
  | 0, hb', hl' =>
   simp at hb' hl'; subst hb'; subst hl'
   exact e3.ext (Nat.le_refl _) (fun _ _ _ _ _ h => h) hnew (fun _ _ => rfl)
  | 1, hb', hl' =>
   simp at hb' hl'; subst hb'; subst hl'
   exact ⟨rfl, e5.ext (Nat.le_refl _) (fun _ _ _ _ _ h => h) hnew (fun _ _ => rfl)⟩
theorem Qp (hH : Ai W0 M0 H n w S) {b j len esz : Nat} {ety : TypeId} {m1 m2 : List (Value × List (List D))} {v : Value} {xs : List (List D)} (hne : b ≠ j) (hb : H b = some (.ob (.bag ety esz (m1 ++ m2)))) (hj : H j = some (.vec ety esz xs)) (hv : R w S n (.sl j 0 len) v) (hlen : len ≤ xs.length) :
  v.oneCell' = true ∧ ∃ S', Ai W0 M0 (rem [b, j] n [.ob (.bag ety esz (m1 ++ (v, xs.take len) :: m2))] H) (n + 1) w S' ∧ Cu w S n w S' (n + 1) := by
 obtain ⟨lb, hS, hbox⟩ := hH.box b _ hb
 obtain ⟨hb0, hbag⟩ := hbox
 obtain ⟨l, o, hSj, hboxj, rfl, hcap, ho, h0⟩ := hv.sl_live hH hj
 have hl0 := hH.plain j l _ hj hSj rfl
 have hvec : HI w (own S) ety esz (xs.take len) l := BQ.short (ys := xs.drop len) (by rw [List.take_append_drop]; exact hboxj)
 obtain ⟨s1, s2, e1, e2⟩ := hbag.add hl0 hvec
 have hsv : (Value.slice (l.blk.map fun b => (⟨b, o, none⟩ : Addr)) len (l.cap - 0)) = T6 l (xs.take len).length := by
  rw [h0 rfl, List.length_take, Nat.min_eq_left hlen]; rfl
 rw [hsv]
 refine ⟨rfl, ?_⟩
 have hnd := (hH.nod b lb hS).1
 rw [e1] at hnd
 have dis : ∀ c, l.blk = some c → c ∈ lb.subs → False := fun c hc hm => hne (hH.inj2 b j lb l c hS hSj (.inr hm) (.inl hc))
 have key := hH.redeal [b, j] [.ob (.bag ety esz (m1 ++ (T6 l (xs.take len).length, xs.take len) :: m2))] [⟨none, 0, 0, s1 ++ (l.blk.toList ++ s2)⟩] H rfl (fun _ i b l _ h _ => .inl h) (fun _ h => h) (fun l' hl' c hc => ?_) (fun i k l1 l2 c hi hk h1 h2 => ?_) (fun l' hl' => ?_) (fun i l' b' hb' hl' hf => ?_) (fun hE i l' b' hb' hl' => ?_)
 ·exact ⟨_, key.1, key.2⟩
 ·simp only [List.mem_cons, List.not_mem_nil, or_false] at hl'
  subst hl'
  rcases hc with hc | hc
  ·cases hc
  ·simp only [List.mem_append, Option.mem_toList] at hc
   rcases hc with hc | hc | hc
   ·exact ⟨b, by simp, lb, hS, .inr (by rw [e1]; simp [hc]), by rw [hb]; rfl⟩
   ·exact ⟨j, by simp, l, hSj, .inl hc, by rw [hj]; rfl⟩
   ·exact ⟨b, by simp, lb, hS, .inr (by rw [e1]; simp [hc]), by rw [hb]; rfl⟩
 ·have hi' : i < 1 := (List.getElem?_eq_some_iff.1 hi).1
  have hk' : k < 1 := (List.getElem?_eq_some_iff.1 hk).1
  omega
 ·simp only [List.mem_cons, List.not_mem_nil, or_false] at hl'
  subst hl'
  refine ⟨?_, fun _ h => by cases h⟩
  cases hbk : l.blk with
  | none => simpa using hnd
  | some c =>
   have h1 : c ∉ s1 := fun h => dis c hbk (by rw [e1]; simp [h])
   have h2 : c ∉ s2 := fun h => dis c hbk (by rw [e1]; simp [h])
   rw [List.nodup_append] at hnd
   obtain ⟨q1, q2, q3⟩ := hnd
   simp only [Option.toList_some, List.singleton_append, List.nodup_append, List.nodup_cons]
   refine ⟨q1, ⟨h2, q2⟩, fun x hx y hy => ?_⟩
   rcases List.mem_cons.1 hy with rfl | hy
   ·exact fun e => h1 (e ▸ hx)
   ·exact q3 x hx y hy
 ·have hi' : i < 1 := (List.getElem?_eq_some_iff.1 hl').1
  have : i = 0 := by omega
  subst this
  simp at hb'; subst hb'; cases hf
 ·have hnew := hE.new
  have hi' : i < 1 := (List.getElem?_eq_some_iff.1 hl').1
  have : i = 0 := by omega
  subst this
  simp only [List.getElem?_cons_zero, Option.some.injEq] at hb' hl'; subst hb'; subst hl'
  exact ⟨rfl, e2.ext (Nat.le_refl _) (fun _ _ _ _ _ h => h) hnew (fun _ _ => rfl)⟩
end
end Go.Vc
/- The Vc layer: rows whose elements own slices: opened, closed, read as data. -/
set_option linter.all false
namespace Go.Vc
open Go Go.RowKit
theorem Ix {w : World} {O O' : Nat → Prop} {ty sz : Nat} {xs : List (List D)} {l : Lay} (h : HI w O ty sz xs l) (hO : ∀ b, b < w.heap.size → ¬ O b → ¬ O' b) (hb : ∀ b, l.blk = some b → ¬ O' b) (o : Nat) (ho : o = 0) : RD w O' (.sl xs) (.slice (l.blk.map fun b => ⟨b, o, none⟩) xs.length (l.cap - 0)) := by
 subst ho
 obtain ⟨h1, h2, h3, h4, h5, h6⟩ := h
 cases hk : l.blk with
 | none =>
  have := h5 hk
  have : xs = [] := List.eq_nil_of_length_eq_zero (by omega)
  subst this
  exact .sl0 _ _
 | some b =>
  obtain ⟨cur, hc, hz, hr⟩ := h6 b hk
  have hlt : b < w.heap.size := (Array.getElem?_eq_some_iff.1 hc).1
  refine .sl xs sz b 0 _ (fun e f => (cur[e * sz + f]?).getD undef) (by omega) hlt (hb b hk) h4 (fun e f c hh => ?_) (fun e f c hh => ?_)
  ·obtain ⟨u, hu, _⟩ := hr e f c hh
   simp only [hu, Option.getD_some]
   unfold World.cell?
   simp only [hc, Nat.zero_add]
   exact hu
  ·obtain ⟨u, hu, hR⟩ := hr e f c hh
   simp only [hu, Option.getD_some]
   exact hR.extC (Nat.le_refl _) (fun _ _ _ _ _ h => h) hO
section
variable [Bl] {P : Program} {E : Bq P} {W0 : World} {M0 : Nat → Prop} {w : World} {S : Lays} {n : Nat} {H : Av} {fr : Nat → AV}
theorem GH (hH : Ai W0 M0 H n w S) {K : List Nat} {ls : List Lay} {id c : Nat} {l : Lay} (hS : S id = some l) (hc : l.has c) (hk : id ∈ K) (hls : ∀ l' ∈ ls, ¬ l'.has c) : ¬ own (rem K n ls S) c := by
 rintro (h | ⟨i, l', h1, h2⟩)
 ·exact (hH.far c (Bl.sub c h)).2 id l hS hc
 ·by_cases hi : i < n
  ·rw [E2 hi] at h1
   split at h1
   ·cases h1
   ·rename_i hno
    exact hno (hH.inj2 i id l' l c h1 hS h2 hc ▸ hk)
  ·rw [Ej (by omega)] at h1
   exact hls l' (List.mem_of_getElem? h1) h2
def Nt (H G : Av) (K : List Nat) (w : World) (S S' : Lays) (n n' : Nat) (c c' : AV) : Prop :=
 (∀ v, R w S n c v → R w S' n' c' v) → Cu w S n w S' n' → (∀ i b l, i ∉ K → G i = some b → S i = some l → H i = some b ∨ (G6 b = true ∧ l.subs = [] ∧ BQ w S' n' b l))
theorem Gl (hH : Ai W0 M0 H n w S) {x tx g : Nat} {cells : List AV} {c c' : AV} (hx : H x = some (.one tx cells)) (hg : cells[g]? = some c) (K : List Nat) (S' : Lays) (n' : Nat) :
  Nt H (CI H x (some (.one tx (cells.set g c')))) K w S S' n n' c c' := by
 intro hr hE i b l hi hb hl
 rw [AA] at hb
 split at hb
 ·rename_i hix
  subst hix
  cases hb
  obtain ⟨l', hl', hbox⟩ := hH.box i _ hx
  rw [hl] at hl'; cases hl'
  refine .inr ⟨rfl, hH.plain i l _ hx hl rfl, ?_⟩
  obtain ⟨h1, h2, k, hk, cur, hc, hz, hcell⟩ := hbox
  refine ⟨by simpa using h1, h2, k, hk, cur, hc, by simpa using hz, fun f e hf => ?_⟩
  rw [List.getElem?_set] at hf
  split at hf
  ·rename_i hgf
   subst hgf
   split at hf
   ·cases hf
    obtain ⟨u, g1, g2, g3⟩ := hcell g c hg
    exact ⟨u, g1, g2, hr u g3⟩
   ·cases hf
  ·obtain ⟨u, g1, g2, g3⟩ := hcell f e hf
   exact ⟨u, g1, g2, hE.r g3⟩
 ·exact .inl hb
theorem GU {x tx : Nat} {cells cells' : List AV} (hx : H x = some (.one tx cells)) : ∀ i, (CI H x (some (.one tx cells')) i).isSome = true → (H i).isSome = true := by
 intro i h
 rw [AA] at h
 split at h
 ·rename_i hi; rw [hi, hx]; rfl
 ·exact h
theorem Xp (hH : Ai W0 M0 H n w S) (G : Av) (hGl : ∀ i, (G i).isSome = true → (H i).isSome = true) {id ty sz f ety esz off len : Nat} {ps : List (List D × List (List D))} (hb : H id = some (.ob (.uv ty sz f ety esz ps)))
  (hG : ∀ S', Nt H G [id] w S S' n (n + 2) (.sl id off len) (.sl n off len)) :
  ∃ vs : List Value, vs.length = ps.length ∧ ∃ S', Ai W0 M0 (rem [id] n [.vec ty sz (Ik f ps vs), .ob (.bag ety esz (K7 ps vs))] G) (n + 2) w S' ∧ Cu w S n w S' (n + 2) ∧ ∀ v, R w S n (.sl id off len) v → R w S' (n + 2) (.sl n off len) v := by
 obtain ⟨l, hS, vs, h1, h2, h3⟩ := hH.box id _ hb
 have hnd := hH.nod id l hS
 have tr : ∀ v, R w S n (.sl id off len) v → R w (rem [id] n [⟨l.blk, l.sz, l.cap, []⟩, ⟨none, 0, 0, l.subs⟩] S) (n + 2) (.sl n off len) v := fun v hv => by
  obtain ⟨l', o, hS', _, rfl, hcap, ho, h0⟩ := hv.sl_live hH hb
  rw [hS] at hS'; cases hS'
  exact .sl n off len o ⟨l.blk, l.sz, l.cap, []⟩ (by omega) (by rw [Ej (Nat.le_refl _)]; simp) hcap ho h0
 have h0 : ∀ {x : Lay} {k : Nat}, [(⟨l.blk, l.sz, l.cap, []⟩ : Lay), ⟨none, 0, 0, l.subs⟩][k]? = some x → (k = 0 ∧ x = ⟨l.blk, l.sz, l.cap, []⟩) ∨ (k = 1 ∧ x = ⟨none, 0, 0, l.subs⟩) := by
  intro x k hk
  match k, hk with
  | 0, hk => simp at hk; exact .inl ⟨rfl, hk.symm⟩
  | 1, hk => simp at hk; exact .inr ⟨rfl, hk.symm⟩
 have key := hH.redeal [id] [.vec ty sz (Ik f ps vs), .ob (.bag ety esz (K7 ps vs))] [⟨l.blk, l.sz, l.cap, []⟩, ⟨none, 0, 0, l.subs⟩] G rfl (fun hE => hG _ tr hE) hGl (fun l' hl' c hc => ?_) (fun i j l1 l2 c hi hj g1 g2 => ?_) (fun l' hl' => ?_) (fun i l' b' hb' hl' hf => ?_) (fun hE i l' b' hb' hl' => ?_)
 ·exact ⟨vs, h1, _, key.1, key.2, tr⟩
 ·simp only [List.mem_cons, List.not_mem_nil, or_false] at hl'
  refine ⟨id, by simp, l, hS, ?_, by rw [hb]; rfl⟩
  rcases hl' with rfl | rfl
  ·exact .inl (hc.elim (fun h => h) (fun h => by cases h))
  ·exact .inr (hc.elim (fun h => by cases h) (fun h => h))
 ·rcases h0 hi with ⟨rfl, rfl⟩ | ⟨rfl, rfl⟩ <;> rcases h0 hj with ⟨rfl, rfl⟩ | ⟨rfl, rfl⟩
  ·rfl
  ·exact (hnd.2 c (g1.elim (fun h => h) (fun h => by cases h)) (g2.elim (fun h => by cases h) (fun h => h))).elim
  ·exact (hnd.2 c (g2.elim (fun h => h) (fun h => by cases h)) (g1.elim (fun h => by cases h) (fun h => h))).elim
  ·rfl
 ·simp only [List.mem_cons, List.not_mem_nil, or_false] at hl'
  rcases hl' with rfl | rfl
  ·exact ⟨List.nodup_nil, fun _ _ h => by cases h⟩
  ·exact ⟨hnd.1, fun _ h => by cases h⟩
 ·rcases h0 hl' with ⟨rfl, rfl⟩ | ⟨rfl, rfl⟩
  ·rfl
  ·simp at hb'; subst hb'; cases hf
 ·rcases h0 hl' with ⟨rfl, rfl⟩ | ⟨rfl, rfl⟩
  ·simp at hb'; subst hb'
   exact h2.ext (Nat.le_refl _) (fun _ _ _ _ _ h => h) hE.new (fun _ _ => rfl)
  ·simp at hb'; subst hb'
   exact ⟨rfl, h3.ext (Nat.le_refl _) (fun _ _ _ _ _ h => h) hE.new (fun _ _ => rfl)⟩
theorem Up (hH : Ai W0 M0 H n w S) (G : Av) (hGl : ∀ i, (G i).isSome = true → (H i).isSome = true) {id b ty sz f ety esz off len : Nat} {ps : List (List D × List (List D))} {vs : List Value} (hne : b ≠ id) (hvs : vs.length = ps.length)
  (hb : H id = some (.vec ty sz (Ik f ps vs))) (hbg : H b = some (.ob (.bag ety esz (K7 ps vs)))) (hG : ∀ S', Nt H G [id, b] w S S' n (n + 1) (.sl id off len) (.sl n off len)) :
  ∃ S', Ai W0 M0 (rem [id, b] n [.ob (.uv ty sz f ety esz ps)] G) (n + 1) w S' ∧ Cu w S n w S' (n + 1) ∧ ∀ v, R w S n (.sl id off len) v → R w S' (n + 1) (.sl n off len) v := by
 obtain ⟨l, hS, h2⟩ := hH.box id _ hb
 obtain ⟨lb, hSb, hb0, h3⟩ := hH.box b _ hbg
 have tr : ∀ v, R w S n (.sl id off len) v → R w (rem [id, b] n [⟨l.blk, l.sz, l.cap, lb.subs⟩] S) (n + 1) (.sl n off len) v := fun v hv => by
  obtain ⟨l', o, hS', _, rfl, hcap, ho, h0⟩ := hv.sl_live hH hb
  rw [hS] at hS'; cases hS'
  exact .sl n off len o ⟨l.blk, l.sz, l.cap, lb.subs⟩ (by omega) (by rw [Ej (Nat.le_refl _)]; simp) hcap ho h0
 have key := hH.redeal [id, b] [.ob (.uv ty sz f ety esz ps)] [⟨l.blk, l.sz, l.cap, lb.subs⟩] G rfl (fun hE => hG _ tr hE) hGl (fun l' hl' c hc => ?_) (fun i j l1 l2 c hi hj g1 g2 => ?_) (fun l' hl' => ?_) (fun i l' b' hb' hl' hf => ?_) (fun hE i l' b' hb' hl' => ?_)
 ·exact ⟨_, key.1, key.2, tr⟩
 ·simp only [List.mem_cons, List.not_mem_nil, or_false] at hl'
  subst hl'
  rcases hc with hc | hc
  ·exact ⟨id, by simp, l, hS, .inl hc, by rw [hb]; rfl⟩
  ·exact ⟨b, by simp, lb, hSb, .inr hc, by rw [hbg]; rfl⟩
 ·have := (List.getElem?_eq_some_iff.1 hi).1
  have := (List.getElem?_eq_some_iff.1 hj).1
  simp at *; omega
 ·simp only [List.mem_cons, List.not_mem_nil, or_false] at hl'
  subst hl'
  exact ⟨(hH.nod b lb hSb).1, fun c hc hm => hne (hH.inj2 b id lb l c hSb hS (.inr hm) (.inl hc))⟩
 ·have : i < 1 := (List.getElem?_eq_some_iff.1 hl').1
  obtain rfl : i = 0 := by omega
  simp at hb'; subst hb'; cases hf
 ·have : i < 1 := (List.getElem?_eq_some_iff.1 hl').1
  obtain rfl : i = 0 := by omega
  simp at hb' hl'; subst hb'; subst hl'
  exact ⟨vs, hvs, HI.ext h2 (Nat.le_refl _) (fun _ _ _ _ _ h => h) hE.new (fun _ _ => rfl), h3.ext (Nat.le_refl _) (fun _ _ _ _ _ h => h) hE.new (fun _ _ => rfl)⟩
theorem WI (hH : Ai W0 M0 H n w S) (G : Av) (hGl : ∀ i, (G i).isSome = true → (H i).isSome = true) {id ty sz f ety esz : Nat} {ps : List (List D × List (List D))} (hb : H id = some (.ob (.uv ty sz f ety esz ps)))
  (hG : ∀ S', Nt H G [id] w S S' n n (.sl id 0 ps.length) (.d (.sl (G4 f ps)))) :
  ∃ S', Ai W0 M0 (rem [id] n [] G) n w S' ∧ Cu w S n w S' n ∧ ∀ v, R w S n (.sl id 0 ps.length) v → R w S' n (.d (.sl (G4 f ps))) v := by
 obtain ⟨l, hS, vs, h1, h2, ls, h3, h4, h5⟩ := hH.box id _ hb
 have hnew : ∀ c, c < w.heap.size → ¬ own S c → ¬ own (rem [id] n ([] : List Lay) S) c := fun c _ hno ho => by
  rcases ho with ho | ⟨i, l', g1, g2⟩
  ·exact hno (.inl ho)
  ·by_cases hi : i < n
   ·rw [E2 hi] at g1
    split at g1
    ·cases g1
    ·exact hno (.inr ⟨i, l', g1, g2⟩)
   ·rw [Ej (by omega)] at g1; simp at g1
 have nown : ∀ c, l.has c → ¬ own (rem [id] n ([] : List Lay) S) c := fun c hc => GH hH hS hc (by simp) (fun l' h => by cases h)
 have hrl : (Ik f ps vs).length = ps.length := by simp [Ik, h1]
 have hdl : (G4 f ps).length = ps.length := by simp [G4]
 have A9 : ∀ (k : Nat) (q : List D × List (List D)) (v : Value), ps[k]? = some q → vs[k]? = some v → RD w (own (rem [id] n ([] : List Lay) S)) (.sl q.2) v := fun k q v hq hv => by
  have hm : (K7 ps vs)[k]? = some (v, q.2) := by simp [K7, List.getElem?_zipWith, hq, hv]
  have hkl : k < ls.length := by rw [h3]; exact (List.getElem?_eq_some_iff.1 hm).1
  obtain ⟨g1, g2, g3⟩ := h5 k ls[k] (v, q.2) (List.getElem?_eq_getElem hkl) hm
  simp only at g2 g3
  rw [g3]
  exact Ix g2 hnew (fun c hc => nown c (.inr (by rw [h4]; exact List.mem_filterMap.2 ⟨_, List.getElem_mem hkl, hc⟩))) 0 rfl
 have outer : HI w (own (rem [id] n ([] : List Lay) S)) ty sz (G4 f ps) l := by
  obtain ⟨q1, q2, q3, q4, q5, q6⟩ := h2
  refine ⟨q1, q2, by omega, fun x hx => ?_, q5, fun c hc => ?_⟩
  ·obtain ⟨q, hq, rfl⟩ := List.mem_map.1 hx
   obtain ⟨k, hk⟩ := List.getElem?_of_mem hq
   obtain ⟨v, hv⟩ : ∃ v, vs[k]? = some v := ⟨_, List.getElem?_eq_getElem (by rw [h1]; exact (List.getElem?_eq_some_iff.1 hk).1)⟩
   have := q4 (q.1.set f (.raw v)) (List.mem_of_getElem? (i := k) (by simp [Ik, List.getElem?_zipWith, hk, hv]))
   simpa using this
  ·obtain ⟨cur, e1, e2, e3⟩ := q6 c hc
   refine ⟨cur, e1, e2, fun e g x hh => ?_⟩
   obtain ⟨row, hrow, hg⟩ := B4 hh
   obtain ⟨q, hq, rfl⟩ : ∃ q, ps[e]? = some q ∧ q.1.set f (.sl q.2) = row := by
    simp only [G4, List.getElem?_map, Option.map_eq_some_iff] at hrow; exact hrow
   obtain ⟨v, hv⟩ : ∃ v, vs[e]? = some v := ⟨_, List.getElem?_eq_getElem (by rw [h1]; exact (List.getElem?_eq_some_iff.1 hq).1)⟩
   have hraw : (Ik f ps vs)[e]? = some (q.1.set f (.raw v)) := by simp [Ik, List.getElem?_zipWith, hq, hv]
   rw [List.getElem?_set] at hg
   split at hg
   ·rename_i hfg
    subst hfg
    split at hg
    ·rename_i hlt
     cases hg
     obtain ⟨u, hu, hR⟩ := e3 e f (.raw v) (by simp [D4, hraw, List.getElem?_set, hlt])
     cases hR
     exact ⟨_, hu, A9 e q _ hq hv⟩
    ·cases hg
   ·rename_i hfg
    obtain ⟨u, hu, hR⟩ := e3 e g x (by simp [D4, hraw, List.getElem?_set, hfg, hg])
    exact ⟨u, hu, hR.extC (Nat.le_refl _) (fun _ _ _ _ _ h => h) hnew⟩
 have tr : ∀ v, R w S n (.sl id 0 ps.length) v → R w (rem [id] n [] S) n (.d (.sl (G4 f ps))) v := fun v hv => by
  obtain ⟨l', o, hS', _, rfl, hcap, ho, h0⟩ := hv.sl_live hH hb
  rw [hS] at hS'; cases hS'
  have := Ix outer (fun _ _ h => h) (fun c hc => nown c (.inl hc)) o (h0 rfl)
  rw [hdl] at this
  exact .d this
 have key := hH.redeal [id] [] [] G rfl (fun hE => hG _ tr hE) hGl (fun l' hl' => by cases hl') (fun i j l1 l2 c hi => by simp at hi) (fun l' hl' => by cases hl') (fun i l' b' hb' => by simp at hb') (fun hE i l' b' hb' => by simp at hb')
 exact ⟨_, key.1, key.2, tr⟩
theorem Td (hH : Ai W0 M0 H n w S) (ety esz : Nat) : ∃ S', Ai W0 M0 (rem [] n [.ob (.bag ety esz [])] H) (n + 1) w S' ∧ Cu w S n w S' (n + 1) := by
 have no : ∀ c, ¬ (⟨none, 0, 0, []⟩ : Lay).has c := fun c h => h.elim (fun h => by cases h) (fun h => by cases h)
 have key := hH.redeal [] [.ob (.bag ety esz [])] [⟨none, 0, 0, []⟩] H rfl (fun _ i b l _ h _ => .inl h) (fun _ h => h) (fun l' hl' c hc => ?_) (fun i j l1 l2 c hi hj g1 g2 => ?_) (fun l' hl' => ?_) (fun i l' b' hb' hl' hf => ?_) (fun hE i l' b' hb' hl' => ?_)
 ·exact ⟨_, key.1, key.2⟩
 ·simp only [List.mem_cons, List.not_mem_nil, or_false] at hl'
  subst hl'; exact (no c hc).elim
 ·have := (List.getElem?_eq_some_iff.1 hi).1
  have := (List.getElem?_eq_some_iff.1 hj).1
  simp at *; omega
 ·simp only [List.mem_cons, List.not_mem_nil, or_false] at hl'
  subst hl'; exact ⟨List.nodup_nil, fun _ h => by cases h⟩
 ·have : i < 1 := (List.getElem?_eq_some_iff.1 hl').1
  obtain rfl : i = 0 := by omega
  simp at hb'; subst hb'; cases hf
 ·have : i < 1 := (List.getElem?_eq_some_iff.1 hl').1
  obtain rfl : i = 0 := by omega
  simp at hb' hl'; subst hb'; subst hl'
  exact ⟨rfl, [], rfl, rfl, fun i l p hi => by simp at hi⟩
end
end Go.Vc
/- The Vc layer: copy, capacities, an append that grows for sure, library functions without a body, a box under a new number. -/
set_option linter.all false
namespace Go.Vc
open Go Go.RowKit
section
variable [Bl] {P : Program} {E : Bq P} {W0 : World} {M0 : Nat → Prop} {w : World} {S : Lays} {n : Nat} {H : Av} {fr : Nat → AV} {K : St → Prop} {d : Option Tmp} {t t2 t' ty' : TypeId} {p : String} {af : Array Edge}
theorem Ai.rebox (hH : Ai W0 M0 H n w S) {id : Nat} {b b' : B7} (hb : H id = some b) (hbox : ∀ l, S id = some l → BQ w S n b l → (G6 b = true → l.subs = []) → BQ w S n b' l ∧ (G6 b' = true → l.subs = [])) : Ai W0 M0 (CI H id (some b')) n w S := by
 obtain ⟨l0, hS, hbx⟩ := hH.box id b hb
 have h0 := hbox l0 hS hbx (fun h => hH.plain id l0 b hb hS h)
 refine ⟨hH.bnd, hH.lt2, fun i b1 h => ?_, hH.inj2, hH.nod, fun i l b1 h1 h2 h3 => ?_, fun i l b1 h1 h2 h3 => ?_, hH.os, hH.tape, hH.output, hH.size, hH.same, hH.far, hH.pin, hH.gl⟩
 ·rw [AA] at h
  split at h
  ·rename_i hi; subst hi; cases h; exact ⟨l0, hS, h0.1⟩
  ·exact hH.box i b1 h
 ·rw [AA] at h1
  split at h1
  ·rename_i hi; subst hi; cases h1; rw [hS] at h2; cases h2; exact h0.2 h3
  ·exact hH.plain i l b1 h1 h2 h3
 ·rw [AA] at h1
  split at h1
  ·rename_i hi; subst hi; exact hH.mut2 i l b1 (by rw [hb]; rfl) h2 h3
  ·exact hH.mut2 i l b1 h1 h2 h3
theorem Em {e ety : TypeId} {s b s' b' : Nat} {z z' : List D} {sh : Sh} {x y : Operand} {id off len sz : Nat} {xs ys : List (List D)} {q : Prop} {c : AV} (hx : AD (Bc fr x) = .sl id off len) (hn : Bw (Bc fr x)) (hbx : H id = some (.vec ety sz xs)) (hty : E.X.ty t = some ⟨.slice e, s, b, z⟩) (hte : E.X.ty e = some ⟨sh, s', b', z'⟩) (hsz : s' = sz)
  (hy : AD (Bc fr y) = c) (hny : Bw (Bc fr y)) (hsrc : C7 H c = some (q, ys)) (hq : q) (hr : CW sz ys) (hb : off + len ≤ xs.length)
  (k : K ⟨putD d (.d (.int .i64 (min ys.length len : Nat))) fr, CI H id (some (.vec ety sz (A6 xs off (ys.take len)))), n⟩) : D2 W0 M0 E ⟨d, .call ⟨.builtin .copy, #[x, y], #[t, t2]⟩, t', p, af, none⟩ ⟨fr, H, n⟩ K := by
 refine .value (fun c h => by cases h) fun a w S hH hop => ?_
 have hR := (hop x (by simp [Op.operands, Call.operands])).bare_of hn
 have hY := (hop y (by simp [Op.operands, Call.operands])).bare_of hny
 rw [hx] at hR
 rw [hy] at hY
 obtain ⟨lay, o, hS, hbox, hv, hcap, ho, h0⟩ := hR.sl_live hH hbx
 have hbox' := hbox
 obtain ⟨hsz', hcm, hxl, hz, hnil, hbk⟩ := hbox'
 obtain ⟨A, cx, news, hvy, hs⟩ := K8 hH hsrc hq hr hY
 have hes : s' = lay.sz := by rw [hsz]; exact hsz'.symm
 obtain ⟨i, zv, hi, his, _⟩ := (E.X.facts hte).info
 simp only at his
 have hu := (E.X.facts hty).slice
 have hsize : ∀ w, (sizeOf e).run P w = .ok i.size w := fun w => by simp [sizeOf, typeInfo, hi]
 have hmin : Nat.min ys.length len = min ys.length len := rfl
 have exec : ∀ {r : Value} {w' : World}, (Builtin.copy_ #[t, t2] t' #[a.eval x, a.eval y]).run P w = .ok r w' → (execOp a.eval ⟨d, .call ⟨.builtin .copy, #[x, y], #[t, t2]⟩, t', p, af, none⟩).run P w = .ok (.value r) w' := by
  intro r w' hrun
  simp only [execOp, resolve, invoke, builtin, Sem.run_bind, Sem.run_pure, Result.andThen_ok, List.map_toArray, List.map_cons, List.map_nil]
  rw [hrun]; rfl
 have same : ys.take len = [] → CI H id (some (.vec ety sz (A6 xs off (ys.take len)))) = H := by
  intro h0
  funext j
  rw [AA]
  split
  ·rename_i hj; rw [hj, hbx, h0]; simp [A6]
  ·rfl
 have hl : (ys.take len).length = min ys.length len := by rw [List.length_take, Nat.min_comm]
 have rint : ∀ {w : World} {S : Lays} {n m : Nat}, R w S n (.d (.int .i64 (m : Nat))) (goInt m) := .d (.int _ _)
 have hfirst : (Builtin.firstCells i.size (min ys.length len) (.slice A ys.length cx)).run P w = .ok (news.take (min ys.length len * sz)).toArray w := by
  cases hA : A with
  | none =>
   have hy0 := hs.none_ hA
   have : news = [] := List.eq_nil_of_length_eq_zero (by rw [hs.len, hy0]; simp)
   simp [Builtin.firstCells, this]
  | some ad =>
   have hln : (news.take (min ys.length len * sz)).length = min ys.length len * i.size := by
    rw [List.length_take, hs.len, his, hsz]
    have := Nat.mul_le_mul_right sz (Nat.min_le_left ys.length len)
    omega
   have := run_loadCells_list (P := P) w ad (news.take (min ys.length len * sz)) (fun j v hj => hs.cells ad hA j v (by rw [List.getElem?_take] at hj; split at hj; exact hj; cases hj))
   rw [hln] at this
   simpa [Builtin.firstCells] using this
 cases hk : lay.blk with
 | none =>
  have hc0 := hnil hk
  have hl0 : len = 0 := by omega
  refine ⟨_, _, n, goInt (min ys.length len : Nat), w, S, exec ?_, by rw [same (by rw [hl0]; simp)]; exact hH, Cu.refl _ _ _, rint, k⟩
  rw [hv, hvy, hk]
  simp [Builtin.copy_, run_underlying hu, Builtin.lenOf, hsize, hmin, hfirst]
 | some g =>
  obtain ⟨cur, hcur, hsize', hcell⟩ := hbk g hk
  by_cases hz0 : ys.take len = []
  ·have hm0 : min ys.length len = 0 := by rw [← hl, hz0]; rfl
   refine ⟨_, _, n, goInt (min ys.length len : Nat), w, S, exec ?_, by rw [same hz0]; exact hH, Cu.refl _ _ _, rint, k⟩
   rw [hv, hvy, hk]
   have hf0 := hfirst
   rw [hm0] at hf0 ⊢
   simp at hf0
   simp [Builtin.copy_, run_underlying hu, Builtin.lenOf, hsize, hmin, hm0, hf0, storeCells]
  ·have hpos : 0 < len := by
    rcases Nat.eq_zero_or_pos len with h | h
    ·rw [h] at hz0; simp at hz0
    ·exact h
   have hoff := ho (by omega)
   subst hoff
   have hr' : CW sz (ys.take len) := fun y hy => hr y (List.mem_of_mem_take hy)
   have hnl : (news.take (min ys.length len * sz)).length = (ys.take len).length * sz := by
    rw [List.length_take, hs.len, hl]
    have := Nat.mul_le_mul_right sz (Nat.min_le_left ys.length len)
    omega
   have hst := run_storeCells_at (P := P) g (off * lay.sz) ety (news.take (min ys.length len * sz)) 0 cur w hcur (by
    rw [hnl, hsize', hsz', Nat.add_zero, ← Nat.add_mul]
    exact Nat.mul_le_mul_right _ (by rw [hl]; omega)) (fun v hv => hs.one v (List.mem_of_mem_take hv))
   obtain ⟨hH', hE⟩ := KK hH hbx hS hk hcur hr' hnl (e0 := off) (by omega) (by rw [hl]; omega) (fun e' f' c' hh => by
    obtain ⟨row, hrow, hf⟩ := B4 hh
    rw [List.getElem?_take] at hrow
    split at hrow
    ·rename_i hlt
     obtain ⟨u, h1, h2⟩ := hs.rd e' f' c' (by simp [D4, hrow, hf])
     refine ⟨u, ?_, h2⟩
     have hel : e' < ys.length := (List.getElem?_eq_some_iff.1 hrow).1
     have hfl : f' < sz := by rw [← hr row (List.mem_of_getElem? hrow)]; exact (List.getElem?_eq_some_iff.1 hf).1
     rw [List.getElem?_take, if_pos]
     ·exact h1
     ·have := Nat.mul_le_mul_right sz (show e' + 1 ≤ min ys.length len by omega)
      rw [Nat.add_mul] at this; omega
    ·cases hrow)
   refine ⟨_, _, n, goInt (min ys.length len : Nat), _, S, exec ?_, hH', hE, rint, k⟩
   rw [hv, hvy, hk]
   simp only [Nat.add_zero, hsz'] at hst
   simp only [Option.map_some]
   simp [Builtin.copy_, run_underlying hu, Builtin.lenOf, hsize, hmin, hfirst, hst, A6, hsz']
theorem OP {e : TypeId} {s b sz : Nat} {z : List D} {x : Operand} {id len : Nat} {xs : List (List D)} (hx : AD (Bc fr x) = .sl id 0 len) (hn : Bw (Bc fr x)) (hbx : H id = some (.vec e sz xs)) (hty : E.X.ty t = some ⟨.slice e, s, b, z⟩)
  (k : ∀ c : Nat, xs.length ≤ c → len ≤ c → K ⟨putD d (.d (.int .i64 c)) fr, CI H id (some (.ob (.full e sz xs c))), n⟩) : D2 W0 M0 E ⟨d, .call ⟨.builtin .cap, #[x], #[t]⟩, ty', p, af, none⟩ ⟨fr, H, n⟩ K := by
 refine .value (fun c h => by cases h) fun a w S hH hop => ?_
 have hR := (hop x (by simp [Op.operands, Call.operands])).bare_of hn
 rw [hx] at hR
 obtain ⟨lay, o, hS, hbox, hv, hcap, ho, h0⟩ := hR.sl_live hH hbx
 refine ⟨_, _, n, .int .i64 (lay.cap : Nat), w, S, ?_, hH.rebox (b' := .ob (.full e sz xs lay.cap)) hbx (fun l hl hb hf => ⟨⟨hf rfl, ?_, hb⟩, fun h => by cases h⟩), Cu.refl _ _ _, .d (.int _ _), k lay.cap hbox.2.2.1 (by omega)⟩
 ·simp [execOp, resolve, invoke, builtin, hv, Builtin.cap_, run_underlying (E.X.facts hty).slice, goInt]
 ·rw [hS] at hl; cases hl; rfl
theorem LP (hH : Ai W0 M0 H n w S) {id e sz c : Nat} {xs : List (List D)} (hb : H id = some (.ob (.full e sz xs c))) : Ai W0 M0 (CI H id (some (.vec e sz xs))) n w S :=
 hH.rebox hb fun l _ hb _ => ⟨hb.2.2, fun _ => hb.1⟩
theorem TJ {id e sz c : Nat} {xs : List (List D)} (hb : H id = some (.ob (.full e sz xs c))) {cd : Code} {Q : Exit → St → Prop} (h : VC E W0 M0 cd ⟨fr, CI H id (some (.vec e sz xs)), n⟩ Q) : VC E W0 M0 cd ⟨fr, H, n⟩ Q :=
 VC.sub (st' := ⟨fr, CI H id (some (.vec e sz xs)), n⟩) (fun a w ⟨S, hH, hF, hM⟩ => ⟨S, LP hH hb, hF, hM⟩) h
theorem Gi {e : TypeId} {s b s' b' sz cp : Nat} {z z' : List D} {sh : Sh} {x y2 : Operand} {id len : Nat} {xs : List (List D)} {k2 : IntKind} {h : Int} (hx : AD (Bc fr x) = .sl id 0 len) (hn : Bw (Bc fr x)) (hbx : H id = some (.ob (.full e sz xs cp))) (hty : E.X.ty t = some ⟨.slice e, s, b, z⟩) (hte : E.X.ty e = some ⟨sh, s', b', z'⟩)
  (hy2 : AD (Bc fr y2) = .d (.int k2 h)) (hn2 : Bw (Bc fr y2)) (hb : 0 ≤ h ∧ h ≤ cp)
  (k : K ⟨putD d (.sl id 0 h.toNat) fr, H, n⟩) : D2 W0 M0 E ⟨d, .slice t x none (some y2) none, t', p, af, none⟩ ⟨fr, H, n⟩ K := by
 refine .value (fun c h => by cases h) fun a w S hH hop => ?_
 have hR := (hop x (by simp [Op.operands])).bare_of hn
 have h2 := (hop y2 (by simp [Op.operands])).bare_of hn2
 rw [hx] at hR
 rw [hy2, R.int_iff] at h2
 obtain ⟨lay, o, hS, hbox, hv, hcap, ho, h0⟩ := hR.sl_live hH hbx
 obtain ⟨b1, b2⟩ := hb
 have b3 : lay.cap = cp := hbox.2.1
 refine ⟨_, H, n, .slice (lay.blk.map fun b => ⟨b, o, none⟩) h.toNat (lay.cap - 0), w, S, ?_, hH, Cu.refl _ _ _, .sl id 0 h.toNat o lay (hH.lt hS) hS (by omega) ho h0, k⟩
 simp only [execOp, hv, h2, Option.map_some, Option.map_none]
 unfold Instr.sliceAt
 simp only [Sem.run_bind, run_underlying (E.X.facts hty).slice, Result.andThen_ok]
 have hsz := (E.X.facts hte).sizeOf
 simp only at hsz
 simp [Instr.slice, Instr.sliceBounds, Instr.sliceBound, asIntOf, run_underlying (E.X.facts hty).slice, hsz, b1, show h ≤ (lay.cap : Int) by omega]
 cases lay.blk <;> simp [Ck]
theorem KA {f : FuncId} {fn : Func} {ex : Array Value → Sem Value} (hf : P.funcs[f]? = some fn) (hname : (fn.name == "runtime.NumGoroutine") = false) (hb : fn.body.isNone = true) (hnx : Extern.findNext fn = none) (he : Extern.find fn = some ex) {ops : List Operand} {ts : Array TypeId} {c : AV}
  (hrun : ∀ (a : Act) (w : World) (S : Lays), Ai W0 M0 H n w S → (∀ x ∈ ops, R w S n (Bc fr x) (a.eval x)) → ∃ r, (ex (ops.map a.eval).toArray).run P w = .ok r w ∧ R w S n c r)
  (k : K ⟨putD d c fr, H, n⟩) : D2 W0 M0 E ⟨d, .call ⟨.value (.func f), ops.toArray, ts⟩, t', p, af, none⟩ ⟨fr, H, n⟩ K := by
 refine .value (fun c h => by cases h) fun a w S hH hop => ?_
 obtain ⟨r, h1, h2⟩ := hrun a w S hH (fun x hx => hop x (by simp only [Op.operands, Call.operands, Array.toList_append, List.mem_append]; exact .inr (by simpa using hx)))
 refine ⟨c, H, n, r, w, S, ?_, hH, Cu.refl _ _ _, h2, k⟩
 simp only [execOp, resolve, Sem.run_bind, show a.eval (.func f) = .func (.func f) #[] #[] from rfl]
 simp [Deferred.ofValue, invoke, run_callFunc_extern hf hname hb hnx he, h1]
end
end Go.Vc
/- The Vc layer: copies within a row, an append that grows for sure, overlaps, comparisons of strings, a box under a new number. -/
set_option linter.all false
namespace Go.Vc
open Go Go.RowKit
section
variable [Bl] {P : Program} {E : Bq P} {W0 : World} {M0 : Nat → Prop} {w : World} {S : Lays} {n : Nat} {H : Av} {fr : Nat → AV} {K : St → Prop} {d : Option Tmp} {t t2 t' ty' : TypeId} {p : String} {af : Array Edge}
theorem LL {e : TypeId} {s b s' b' : Nat} {z z' : List D} {sh : Sh} {x y : Operand} {id off len off2 len2 sz : Nat} {xs : List (List D)} (hx : AD (Bc fr x) = .sl id off len) (hn : Bw (Bc fr x)) (hbx : H id = some (.vec e sz xs)) (hty : E.X.ty t = some ⟨.slice e, s, b, z⟩) (hte : E.X.ty e = some ⟨sh, s', b', z'⟩) (hsz : s' = sz)
  (hy : AD (Bc fr y) = .sl id off2 len2) (hny : Bw (Bc fr y)) (hb : off ≤ xs.length ∧ off2 + min len2 len ≤ xs.length ∧ 0 < min len2 len)
  (k : K ⟨putD d (.d (.int .i64 (min len2 len : Nat))) fr, CI H id (some (.vec e sz (A6 xs off ((xs.drop off2).take (min len2 len))))), n⟩) : D2 W0 M0 E ⟨d, .call ⟨.builtin .copy, #[x, y], #[t, t2]⟩, t', p, af, none⟩ ⟨fr, H, n⟩ K := by
 refine .value (fun c h => by cases h) fun a w S hH hop => ?_
 have hR := (hop x (by simp [Op.operands, Call.operands])).bare_of hn
 have hY := (hop y (by simp [Op.operands, Call.operands])).bare_of hny
 rw [hx] at hR
 rw [hy] at hY
 obtain ⟨hb1, hb2, hb3⟩ := hb
 generalize hm : min len2 len = m at *
 have hle : m ≤ len := by omega
 have hle2 : m ≤ len2 := by omega
 obtain ⟨lay, o, hS, hbox, hv, hcap, ho, h0⟩ := hR.sl_live hH hbx
 obtain ⟨lay', o2, hS', hbox2, hv2, hcap2, ho2, h02⟩ := hY.sl_live hH hbx
 rw [hS] at hS'; cases hS'
 have hbox' := hbox
 obtain ⟨hsz', hcm, hxl, hz, hnil, hbk⟩ := hbox'
 have hes : s' = lay.sz := by rw [hsz]; exact hsz'.symm
 obtain ⟨i, zv, hi, his, _⟩ := (E.X.facts hte).info
 simp only at his
 have hu := (E.X.facts hty).slice
 have hsize : ∀ w, (sizeOf e).run P w = .ok i.size w := fun w => by simp [sizeOf, typeInfo, hi]
 have hmin : Nat.min len2 len = m := hm
 have exec : ∀ {r : Value} {w' : World}, (Builtin.copy_ #[t, t2] t' #[a.eval x, a.eval y]).run P w = .ok r w' → (execOp a.eval ⟨d, .call ⟨.builtin .copy, #[x, y], #[t, t2]⟩, t', p, af, none⟩).run P w = .ok (.value r) w' := by
  intro r w' hrun
  simp only [execOp, resolve, invoke, builtin, Sem.run_bind, Sem.run_pure, Result.andThen_ok, List.map_toArray, List.map_cons, List.map_nil]
  rw [hrun]; rfl
 have rint : ∀ {w : World} {S : Lays} {n m : Nat}, R w S n (.d (.int .i64 (m : Nat))) (goInt m) := .d (.int _ _)
 cases hk : lay.blk with
 | none => have hc0 := hnil hk; omega
 | some g =>
  obtain ⟨cur, hcur, hsize', hcell⟩ := hbk g hk
  have hoff := ho (by omega)
  have hoff2 := ho2 (by omega)
  subst hoff hoff2
  have hlt : ∀ j, j < m * sz → off2 * sz + j < cur.size := fun j hj => by
   rw [hsize']
   have := Nat.mul_le_mul_right sz (show off2 + m ≤ lay.cap by omega)
   rw [Nat.add_mul] at this; omega
  obtain ⟨news, hnews⟩ : ∃ news, news = (cur.toList.drop (off2 * sz)).take (m * sz) := ⟨_, rfl⟩
  have hnl : news.length = m * sz := by
   rw [hnews, List.length_take, List.length_drop]
   have := Nat.mul_le_mul_right sz (show off2 + m ≤ lay.cap by omega)
   rw [Nat.add_mul] at this
   have : cur.toList.length = lay.cap * sz := by simpa using hsize'
   omega
  have hget : ∀ j, j < m * sz → news[j]? = cur[off2 * sz + j]? := fun j hj => by
   rw [hnews, List.getElem?_take, if_pos hj, List.getElem?_drop, Array.getElem?_toList]
  have hyl : ((xs.drop off2).take m).length = m := by rw [List.length_take, List.length_drop]; omega
  have hr' : CW sz ((xs.drop off2).take m) := fun y hy => hz y (List.mem_of_mem_drop (List.mem_of_mem_take hy))
  have hrd : ∀ e' f' c', D4 ((xs.drop off2).take m) e' f' = some c' → ∃ u, news[e' * sz + f']? = some u ∧ RD w (own S) c' u := fun e' f' c' hh => by
   have h1 := CF hh
   obtain ⟨row, hrow, hf⟩ := B4 hh
   have hel : e' < m := by rw [← hyl]; exact (List.getElem?_eq_some_iff.1 hrow).1
   have hfl : f' < sz := by rw [← hr' row (List.mem_of_getElem? hrow)]; exact (List.getElem?_eq_some_iff.1 hf).1
   obtain ⟨u, hu, hR⟩ := hcell _ _ _ h1
   refine ⟨u, ?_, hR⟩
   have := Nat.mul_le_mul_right sz (show e' + 1 ≤ m by omega)
   rw [Nat.add_mul] at this
   rw [hget _ (by omega), ← hu]
   congr 1
   rw [Nat.add_mul]; omega
  have hone : ∀ u ∈ news, u.oneCell' = true := fun u hu => by
   obtain ⟨j, hj⟩ := List.getElem?_of_mem hu
   have hjl : j < m * sz := by rw [← hnl]; exact (List.getElem?_eq_some_iff.1 hj).1
   have hspos : 0 < sz := by
    rcases Nat.eq_zero_or_pos sz with h | h
    ·rw [h] at hjl; simp at hjl
    ·exact h
   have hdv : j / sz < m := (Nat.div_lt_iff_lt_mul hspos).2 hjl
   have hmd := Nat.mod_lt j hspos
   obtain ⟨row, hrow⟩ : ∃ row, ((xs.drop off2).take m)[j / sz]? = some row := ⟨_, List.getElem?_eq_getElem (by rw [hyl]; exact hdv)⟩
   have hrl := hr' row (List.mem_of_getElem? hrow)
   obtain ⟨c', hc'⟩ : ∃ c', row[j % sz]? = some c' := ⟨_, List.getElem?_eq_getElem (by omega)⟩
   obtain ⟨u', h1, h2⟩ := hrd (j / sz) (j % sz) c' (by simp [D4, hrow, hc'])
   have e1 : j / sz * sz + j % sz = j := by rw [Nat.mul_comm]; exact Nat.div_add_mod j sz
   rw [e1, hj] at h1
   cases h1
   exact h2.one
  have hfirst : (Builtin.firstCells i.size m (.slice (some ⟨g, off2 * sz, none⟩) len2 (lay.cap - off2))).run P w = .ok news.toArray w := by
   have := run_loadCells_list (P := P) w ⟨g, off2 * sz, none⟩ news (fun j v hj => by
    have hjl : j < m * sz := by rw [← hnl]; exact (List.getElem?_eq_some_iff.1 hj).1
    rw [hget j hjl] at hj
    rw [Ck]
    unfold World.cell?
    simp only [hcur]
    exact hj)
   rw [hnl] at this
   simpa [Builtin.firstCells, his, hsz] using this
  obtain ⟨hH', hE⟩ := KK hH hbx hS hk hcur hr' (by rw [hnl, hyl]) (e0 := off) hb1 (by rw [hyl]; omega) hrd
  refine ⟨_, _, n, goInt (m : Nat), _, S, exec ?_, hH', hE, rint, k⟩
  rw [hv, hv2, hk]
  have hst := run_storeCells_at (P := P) g (off * sz) e news 0 cur w hcur (by
   rw [hnl, hsize', Nat.add_zero, ← Nat.add_mul]
   exact Nat.mul_le_mul_right _ (by omega)) hone
  simp only [Nat.add_zero] at hst
  simp only [Option.map_some]
  simp [Builtin.copy_, run_underlying hu, Builtin.lenOf, hsize, hmin, hsz', hfirst, hst, A6]
theorem Jk {e ti : TypeId} {s b s' b' s2 b2 : Nat} {z z' z2 : List D} {z0 : D} {sh : Sh} {x y : Operand} {id len cp : Nat} {xs : List (List D)} {k2 : IntKind} {m : Int} (hx : AD (Bc fr x) = .sl id 0 len) (hn : Bw (Bc fr x)) (hbx : H id = some (.ob (.full e s' xs cp))) (hty : E.X.ty t = some ⟨.slice e, s, b, z⟩)
  (hte : E.X.ty e = some ⟨sh, s', b', z0 :: z'⟩) (hti : E.X.ty ti = some ⟨.int k2, s2, b2, z2⟩) (hy : AD (Bc fr y) = .d (.int .i64 m)) (hny : Bw (Bc fr y)) (hm : 0 < m) (hlen : len ≤ xs.length) (hg : (cp : Int) < len + m) (hb : (len + m) * b' ≤ 140737488355328) (hb1 : (len + m) ≤ 140737488355328)
  (k : K ⟨putD d (.sl n 0 (len + m.toNat)) fr, CI H n (some (.vec e s' (xs.take len ++ List.replicate m.toNat ((z0 :: z').map Bi)))), n + 1⟩) : D2 W0 M0 E ⟨d, .call ⟨.builtin .append, #[x, y], #[t, ti]⟩, ty', p, af, none⟩ ⟨fr, H, n⟩ K := by
 refine .value (fun c h => by cases h) fun a w S hH hop => ?_
 have hR := (hop x (by simp [Op.operands, Call.operands])).bare_of hn
 have hY := (hop y (by simp [Op.operands, Call.operands])).bare_of hny
 rw [hx] at hR
 rw [hy, R.int_iff] at hY
 obtain ⟨lay, o, hS, hbox, hv, hcap, ho, h0⟩ := hR.sl_live hH hbx
 obtain ⟨hl0, hcp, hvec⟩ := hbox
 obtain ⟨hsz', hcm, hxl, hz, hnil, hbk⟩ := hvec
 have ho0 := h0 rfl
 subst ho0
 have hu := (E.X.facts hty).slice
 have hui := (E.X.facts hti).int
 obtain ⟨i, zv, hi, his, hib, hzv, hzs, hzero⟩ := (E.X.facts hte).info
 obtain ⟨hzl, hzr⟩ := hzero (by simp)
 simp only at his hib hzs hzl
 obtain ⟨N, rfl⟩ : ∃ N : Nat, m = N := ⟨m.toNat, by omega⟩
 have hN : 0 < N := by omega
 simp only [Int.toNat_natCast] at k ⊢
 have hs1 : 0 < s' := by rw [← hzl]; simp
 have hgN : lay.cap < len + N := by omega
 have hge := grownCap_ge w (len + N) lay.cap e
 have hcm' : grownCap w (len + N) lay.cap e ≤ maxLen := grownCap_le_maxLen w (len + N) lay.cap e (by simp only [maxLen]; omega)
 have hbb : (len + N) * i.bytes ≤ 140737488355328 := by
  rw [hib]
  have e9 : (((len + N) * b' : Nat) : Int) = ((len : Int) + N) * b' := by simp
  omega
 obtain ⟨olds, hol, hold, hoc⟩ : ∃ olds : List Value, olds.length = len * s' ∧ (Builtin.firstCells i.size len (.slice (lay.blk.map fun b => (⟨b, 0, none⟩ : Addr)) len lay.cap)).run P w.drew = .ok olds.toArray w.drew ∧
   ∀ e1 f1 c1, D4 (xs.take len) e1 f1 = some c1 → ∃ u, olds[e1 * s' + f1]? = some u ∧ RD w (own S) c1 u := by
  cases hk : lay.blk with
  | none =>
   have hc0 := hnil hk
   have hl0 : len = 0 := by omega
   subst hl0
   exact ⟨[], by simp, by simp [Builtin.firstCells], fun e1 f1 c1 h => by simp [D4] at h⟩
  | some g =>
   obtain ⟨cur, hcur, hsize', hcell⟩ := hbk g hk
   have hll : len * s' ≤ cur.size := by rw [hsize']; exact Nat.mul_le_mul_right _ (by omega)
   refine ⟨cur.toList.take (len * s'), by rw [List.length_take]; simp; omega, ?_, fun e1 f1 c1 h => ?_⟩
   ·have := run_firstCells_some (P := P) w.drew i.size len ⟨g, 0, none⟩ len lay.cap (cur.toList.take (len * s')) (by rw [List.length_take, his]; simp; omega) (fun j v hj => by
     rw [List.getElem?_take] at hj
     split at hj
     ·rw [Ck]
      unfold World.cell?
      have : w.drew.heap[g]? = some (.cells cur e (0, 0)) := hcur
      simp only [this, Nat.zero_add]
      simpa using hj
     ·cases hj)
    exact this
   ·obtain ⟨row, hrow, hf⟩ := B4 h
    rw [List.getElem?_take] at hrow
    split at hrow
    ·rename_i hlt
     obtain ⟨u, h1, h2⟩ := hcell e1 f1 c1 (by simp [D4, hrow, hf])
     refine ⟨u, ?_, h2⟩
     have hfl : f1 < s' := by rw [← hz row (List.mem_of_getElem? hrow)]; exact (List.getElem?_eq_some_iff.1 hf).1
     have := Nat.mul_le_mul_right s' (show e1 + 1 ≤ len by omega)
     rw [Nat.add_mul] at this
     rw [List.getElem?_take, if_pos (by omega)]
     simpa using h1
    ·cases hrow
 have hrun := Go.Lib.run_append_grow_zeros (P := P) w t ti ty' e i zv .i64 k2 hu hui hi hzv (lay.blk.map fun b => (⟨b, 0, none⟩ : Addr)) len lay.cap olds hold N hN (by rw [his]; exact hs1) hgN (by omega) (by
  have := Nat.mul_le_mul_right i.bytes (show N ≤ len + N by omega)
  omega) (growslice_fits hgN hbb)
 obtain ⟨G, hG⟩ : ∃ G, grownCap w (len + N) lay.cap e = G := ⟨_, rfl⟩
 rw [hG] at hrun hge hcm'
 have e3 : olds.toArray ++ Builtin.zeroCells zv.cells N ++ Builtin.zeroCells zv.cells (G - (len + N)) = olds.toArray ++ Builtin.zeroCells zv.cells (G - len) := by
  rw [Array.append_assoc, TK]; congr 2; omega
 rw [e3] at hrun
 have hzsz : (Builtin.zeroCells zv.cells (G - len)).size = (G - len) * s' := by simp [Builtin.zeroCells, hzs]
 obtain ⟨hH', hE⟩ := hH.alloc (w1 := w.drew) ⟨rfl, rfl, rfl, rfl⟩ (olds.toArray ++ Builtin.zeroCells zv.cells (G - len)) e (.vec e s' (xs.take len ++ List.replicate N ((z0 :: z').map Bi))) s' G (fun S' n' hE hnew => by
  have htl : (xs.take len).length = len := by rw [List.length_take]; omega
  refine ⟨rfl, hcm', by simp; omega, fun x hx => ?_, by simp, fun b hb => ?_⟩
  ·rcases List.mem_append.1 hx with hx | hx
   ·exact hz x (List.mem_of_mem_take hx)
   ·rw [List.mem_replicate] at hx
    rw [hx.2, List.length_map]; exact hzl
  ·cases hb
   refine ⟨_, hnew, ?_, fun e1 f1 c1 hh => ?_⟩
   ·simp only [Array.size_append, hzsz, List.size_toArray, hol]
    rw [← Nat.add_mul]; congr 1; omega
   ·obtain ⟨row, hrow, hf⟩ := B4 hh
    by_cases hlt : e1 < len
    ·rw [List.getElem?_append_left (by omega)] at hrow
     obtain ⟨u, h1, h2⟩ := hoc e1 f1 c1 (by simp [D4, hrow, hf])
     refine ⟨u, ?_, hE.rd h2⟩
     have hj : e1 * s' + f1 < olds.length := (List.getElem?_eq_some_iff.1 h1).1
     rw [Array.getElem?_append_left (by simpa using hj)]
     simpa using h1
    ·rw [List.getElem?_append_right (by omega), htl] at hrow
     obtain ⟨he1, hf1⟩ := J7 (by simp only [D4, hrow, Option.bind_some]; exact hf : D4 (List.replicate N ((z0 :: z').map Bi)) (e1 - len) f1 = some c1)
     rw [List.getElem?_map] at hf1
     cases hd : (z0 :: z')[f1]? with
     | none => rw [hd] at hf1; cases hf1
     | some dd =>
      rw [hd] at hf1; cases hf1
      have hf1l : f1 < s' := by have := (List.getElem?_eq_some_iff.1 hd).1; omega
      have hlt2 : (e1 - len) * s' + f1 < (G - len) * zv.cells.size := by
       rw [hzs]
       have := Nat.mul_le_mul_right s' (show (e1 - len) + 1 ≤ G - len by omega)
       rw [Nat.add_mul] at this; omega
      obtain ⟨u, h1, h2⟩ := Dx hlt2
      have hmod : ((e1 - len) * s' + f1) % zv.cells.size = f1 := by rw [hzs, Nat.mul_comm, Nat.mul_add_mod]; exact Nat.mod_eq_of_lt hf1l
      rw [hmod] at h2
      refine ⟨u, ?_, (hzr _ _ _ _ _ hd h2).clean⟩
      have e4 : e1 * s' = len * s' + (e1 - len) * s' := by rw [← Nat.add_mul]; congr 1; omega
      rw [Array.getElem?_append_right (by simp [hol]; omega)]
      simp only [List.size_toArray, hol]
      rw [show e1 * s' + f1 - len * s' = (e1 - len) * s' + f1 by omega]
      exact h1)
 refine ⟨_, _, _, .slice (some ⟨w.heap.size, 0, none⟩) (len + N) G, _, _, ?_, hH', hE, ?_, k⟩
 ·simp only [execOp, resolve, invoke, builtin, Sem.run_bind, Sem.run_pure, Result.andThen_ok, List.map_toArray, List.map_cons, List.map_nil, hv, hY, Nat.sub_zero]
  rw [hrun]; rfl
 ·have := R.sl (w := w.drew.alloc (.cells (olds.toArray ++ Builtin.zeroCells zv.cells (G - len)) e)) (S := CI S n (some ⟨some w.heap.size, s', G, []⟩)) (n := n + 1) n 0 (len + N) 0 ⟨some w.heap.size, s', G, []⟩ (by omega) (by rw [AA, if_pos rfl]) (by simpa using hge) (fun _ => by simp) (fun _ => rfl)
  simpa using this
theorem FR (w : World) (tR e : TypeId) (hu : P.underlying t = some (.slice e)) (size : Nat) (hz : ∀ w, (sizeOf e).run P w = .ok size w) (A B : Option Addr) (h : A = none ∨ B = none) (la ca lb cb : Nat) :
  (Extern.SlicesOverlaps.overlaps #[t, t] #[tR] #[.slice A la ca, .slice B lb cb]).run P w = .ok (.bool false) w := by
 have key : Sem.run P (α := Value) (do
   let some t := (#[t, t] : Array TypeId)[0]? | stuck "slices.overlaps: no parameter types"
   let .slice elem ← underlying t | stuck "slices.overlaps: slice type expected"
   let _ ← sizeOf elem
   pure (Value.bool false)) w = .ok (.bool false) w := by simp [run_underlying hu, hz]
 rcases h with rfl | rfl
 ·exact key
 ·cases A <;> exact key
theorem Iq {f : FuncId} {fn : Func} {e tR : TypeId} {s b s' b' : Nat} {z z' : List D} {sh : Sh} (hf : P.funcs[f]? = some fn) (hname : (fn.name == "runtime.NumGoroutine") = false) (hb : fn.body.isNone = true) (hnx : Extern.findNext fn = none) (he : Extern.find fn = some (Extern.SlicesOverlaps.overlaps #[t, t] #[tR]))
  {x y : Operand} {ts : Array TypeId} {i j off len len2 : Nat} {e1 e2 z1 z2 : Nat} {xs ys : List (List D)} (hx : AD (Bc fr x) = .sl i 0 len) (hn : Bw (Bc fr x)) (hy : AD (Bc fr y) = .sl j off len2) (hny : Bw (Bc fr y)) (hij : i ≠ j) (hbi : H i = some (.vec e1 z1 xs)) (hbj : H j = some (.vec e2 z2 ys)) (hz2 : 0 < z2) (hpos : 0 < off + len2)
  (hty : E.X.ty t = some ⟨.slice e, s, b, z⟩) (hte : E.X.ty e = some ⟨sh, s', b', z'⟩) (k : K ⟨putD d (.d (.bool false)) fr, H, n⟩) : D2 W0 M0 E ⟨d, .call ⟨.value (.func f), #[x, y], ts⟩, t', p, af, none⟩ ⟨fr, H, n⟩ K := by
 refine KA (ops := [x, y]) hf hname hb hnx he (fun a w S hH hop => ?_) k
 have hR := (hop x (by simp)).bare_of hn
 have hY := (hop y (by simp)).bare_of hny
 rw [hx] at hR
 rw [hy] at hY
 obtain ⟨l1, o1, hS1, hbox1, hv1, hc1, ho1, h01⟩ := hR.sl_live hH hbi
 obtain ⟨l2, o2, hS2, hbox2, hv2, hc2, ho2, h02⟩ := hY.sl_live hH hbj
 obtain ⟨ii, zv, hi, his, _⟩ := (E.X.facts hte).info
 have hu := (E.X.facts hty).slice
 have hsize : ∀ w, (sizeOf e).run P w = .ok ii.size w := fun w => by simp [sizeOf, typeInfo, hi]
 refine ⟨.bool false, ?_, .d (.bool _)⟩
 simp only [List.map_cons, List.map_nil, hv1, hv2]
 cases hk1 : l1.blk with
 | none => exact FR w tR e hu _ hsize _ _ (.inl rfl) _ _ _ _
 | some g1 =>
  cases hk2 : l2.blk with
  | none => exact FR w tR e hu _ hsize _ _ (.inr rfl) _ _ _ _
  | some g2 =>
   obtain ⟨cur1, hcur1, hs1, _⟩ := hbox1.2.2.2.2.2 g1 hk1
   obtain ⟨cur2, hcur2, hs2, _⟩ := hbox2.2.2.2.2.2 g2 hk2
   have hne : g1 ≠ g2 := fun e => hij (hH.inj i j l1 l2 g1 hS1 hS2 hk1 (by rw [e]; exact hk2))
   refine Go.Lib.run_overlaps_apart w t tR e hu ii.size hsize ⟨g1, o1, none⟩ ⟨g2, o2, none⟩ len (l1.cap - 0) len2 (l2.cap - off) hne e1 e2 cur1.size cur2.size (by simp [World.shape?, hcur1]) (by simp [World.shape?, hcur2]) ?_ (by simp [World.frozen?, hcur1]) (by simp [World.frozen?, hcur1])
   rw [hs2]
   have : 0 < l2.cap := by omega
   have := Nat.mul_pos this hz2
   omega
theorem Qw {f : FuncId} {fn : Func} (hf : P.funcs[f]? = some fn) (hname : (fn.name == "runtime.NumGoroutine") = false) (hb : fn.body.isNone = true) (hnx : Extern.findNext fn = none) (he : Extern.find fn = some Extern.BytealgCompare.compare)
  {x y : Operand} {ts : Array TypeId} {u v : List UInt8} (hx : AD (Bc fr x) = .d (.str u)) (hn : Bw (Bc fr x)) (hy : AD (Bc fr y) = .d (.str v)) (hny : Bw (Bc fr y))
  (k : K ⟨putD d (.d (.int .i64 (Lib.compareBytes u v))) fr, H, n⟩) : D2 W0 M0 E ⟨d, .call ⟨.value (.func f), #[x, y], ts⟩, t', p, af, none⟩ ⟨fr, H, n⟩ K := by
 refine KA (ops := [x, y]) hf hname hb hnx he (fun a w S hH hop => ?_) k
 have hR := (hop x (by simp)).bare_of hn
 have hY := (hop y (by simp)).bare_of hny
 rw [hx] at hR
 rw [hy] at hY
 cases hR with | d hR =>
 cases hY with | d hY =>
 refine ⟨.int .i64 (Lib.compareBytes u v), ?_, .d (.int _ _)⟩
 simp only [List.map_cons, List.map_nil]
 generalize a.eval x = vx at hR
 generalize a.eval y = vy at hY
 cases hR
 cases hY
 exact Go.Lib.run_compareString _ _ w
theorem To (hH : Ai W0 M0 H n w S) {id : Nat} {b : B7} (hb : H id = some b) :
  ∃ S', Ai W0 M0 (rem [id] n [b] H) (n + 1) w S' ∧ Cu w S n w S' (n + 1) ∧ ∀ v off len, R w S n (.sl id off len) v → R w S' (n + 1) (.sl n off len) v := by
 obtain ⟨l, hS, hbox⟩ := hH.box id b hb
 have key := hH.redeal [id] [b] [l] H rfl (fun _ i b l _ h _ => .inl h) (fun _ h => h) (fun l' hl' c hc => ?_) (fun i j l1 l2 c hi hj g1 g2 => ?_) (fun l' hl' => ?_) (fun i l' b' hb' hl' hf => ?_) (fun hE i l' b' hb' hl' => ?_)
 ·refine ⟨_, key.1, key.2, fun v off len hv => ?_⟩
  obtain ⟨l', o, hS', _, rfl, hcap, ho, h0⟩ := hv.sl_live hH hb
  rw [hS] at hS'; cases hS'
  exact .sl n off len o l (by omega) (by rw [Ej (Nat.le_refl _)]; simp) hcap ho h0
 ·simp only [List.mem_cons, List.not_mem_nil, or_false] at hl'
  subst hl'
  exact ⟨id, by simp, l', hS, hc, by rw [hb]; rfl⟩
 ·have := (List.getElem?_eq_some_iff.1 hi).1
  have := (List.getElem?_eq_some_iff.1 hj).1
  simp at *; omega
 ·simp only [List.mem_cons, List.not_mem_nil, or_false] at hl'
  subst hl'; exact hH.nod id l' hS
 ·have : i < 1 := (List.getElem?_eq_some_iff.1 hl').1
  obtain rfl : i = 0 := by omega
  simp only [List.getElem?_cons_zero, Option.some.injEq] at hb' hl'; subst hb'; subst hl'
  exact hH.plain id l b hb hS hf
 ·have : i < 1 := (List.getElem?_eq_some_iff.1 hl').1
  obtain rfl : i = 0 := by omega
  simp only [List.getElem?_cons_zero, Option.some.injEq] at hb' hl'; subst hb'; subst hl'
  exact hbox.ext hE fun _ _ => rfl
theorem TH (tm : Nat) {id off len : Nat} {b : B7} (hN : tm < E.N) (ht : fr tm = .sl id off len) (hb : H id = some b) {cd : Code} {Q : Exit → St → Prop} (h : VC E W0 M0 cd ⟨CI fr tm (.sl n off len), rem [id] n [b] H, n + 1⟩ Q) : VC E W0 M0 cd ⟨fr, H, n⟩ Q := by
 refine VC.sub (st' := ⟨CI fr tm (.sl n off len), rem [id] n [b] H, n + 1⟩) ?_ h
 rintro a w ⟨S, hH, hF, hM⟩
 obtain ⟨S', h1, h2, h3⟩ := To hH hb
 refine ⟨S', h1, ⟨hF.size, fun i => ?_⟩, hM.ext h2⟩
 simp only [AA]
 split
 ·rename_i hi
  subst hi
  exact h3 _ _ _ (ht ▸ hF.at_ i)
 ·exact h2.r (hF.at_ i)
end
end Go.Vc
/- The Vc layer: the rules of opened rows, over states by lists. -/
set_option linter.all false
namespace Go.Vc
open Go Go.RowKit
theorem D6 (B : List Nat) : ∀ (l : List (Option B7)) (i : Nat), (Bk B l i).length = l.length
 | [], _ => rfl
 | _ :: r, i => by simp [Bk, D6 B r (i + 1)]
theorem EM (b : Option B7) : ∀ (l : List (Option B7)) (i : Nat), i < l.length → (Cc l i b).length = l.length
 | [], i, h => by simp at h
 | _ :: l, 0, _ => rfl
 | _ :: l, i + 1, h => by simp [Cc, EM b l i (by simpa using h)]
theorem HU {bl : List (Option B7)} {i : Nat} {b : B7} (h : Ax bl i = some b) : i < bl.length := by
 unfold Ax at h
 cases hx : bl[i]? with
 | none => rw [hx] at h; cases h
 | some x => exact (List.getElem?_eq_some_iff.1 hx).1
theorem G9 (l r : List (Option B7)) (i : Nat) : Ax (l ++ r) i = if i < l.length then Ax l i else Ax r (i - l.length) := by
 unfold Ax
 split
 ·rename_i h; rw [List.getElem?_append_left h]
 ·rename_i h; rw [List.getElem?_append_right (by omega)]
theorem Cz {m : Nat} (bl : List (Option B7)) (K : List Nat) (bs : List B7) (hm : m = bl.length) : rem K m bs (Ax bl) = Ax (Bk K bl 0 ++ bs.map some) := by
 subst hm
 funext i
 rw [G9, D6, FM]
 unfold rem
 split
 ·simp
 ·simp only [Ax, List.getElem?_map]
  cases bs[i - bl.length]? <;> rfl
section
variable [Bl] {P : Program} {E : Bq P} {W0 : World} {M0 : Nat → Prop} {w : World} {S : Lays} {n m : Nat} {H : Av} {fr : Nat → AV} {K : St → Prop} {d : Option Tmp} {t t2 t' ty' : TypeId} {p : String} {af : Array Edge} {bl : List (Option B7)} {cd : Code} {Q : Exit → St → Prop}
theorem VC.sub' {st : St} {p : St → Prop} (hs : ∀ a w, Mh W0 M0 E.N st a w → ∃ st', p st' ∧ Mh W0 M0 E.N st' a w) (h : ∀ st', p st' → VC E W0 M0 cd st' Q) : VC E W0 M0 cd st Q := fun a w hw => by
 obtain ⟨st', h1, h2⟩ := hs a w hw
 exact h st' h1 a w h2
theorem Ws (x g : Nat) (hm : m = bl.length) {id tx ty sz f ety esz len : Nat} {ps : List (List D × List (List D))} {cells : List AV} (hx : Ax bl x = some (.one tx cells)) (hg : cells[g]? = some (.sl id 0 len)) (hb : Ax bl id = some (.ob (.uv ty sz f ety esz ps)))
  (h : ∀ vs : List Value, vs.length = ps.length → VC E W0 M0 cd ⟨fr, Ax (Bk [id] (Cc bl x (some (.one tx (cells.set g (.sl m 0 len))))) 0 ++ [some (.vec ty sz (Ik f ps vs)), some (.ob (.bag ety esz (K7 ps vs)))]), m + 2⟩ Q) : VC E W0 M0 cd ⟨fr, Ax bl, m⟩ Q := by
 refine VC.sub' (p := fun st' => ∃ vs : List Value, vs.length = ps.length ∧ st' = ⟨fr, Ax (Bk [id] (Cc bl x (some (.one tx (cells.set g (.sl m 0 len))))) 0 ++ [some (.vec ty sz (Ik f ps vs)), some (.ob (.bag ety esz (K7 ps vs)))]), m + 2⟩) ?_ (fun st' ⟨vs, h1, h2⟩ => h2 ▸ h vs h1)
 rintro a w ⟨S, hH, hF, hM⟩
 obtain ⟨vs, h1, S', h2, h3, _⟩ := Xp hH (CI (Ax bl) x (some (.one tx (cells.set g (.sl m 0 len))))) (GU hx) hb (fun S' => Gl hH hx hg [id] S' (m + 2))
 refine ⟨_, ⟨vs, h1, rfl⟩, S', ?_, hF.ext h3, hM.ext h3⟩
 rw [Es, Cz _ _ _ (by rw [EM _ _ _ (HU hx)]; exact hm)] at h2
 exact h2
theorem TF (x g b : Nat) (hm : m = bl.length) {id tx ty sz f ety esz len : Nat} {ps : List (List D × List (List D))} {vs : List Value} {cells : List AV} {mb : List (Value × List (List D))} {xs : List (List D)} (hx : Ax bl x = some (.one tx cells)) (hg : cells[g]? = some (.sl id 0 len)) (hb : Ax bl id = some (.vec ty sz xs)) (hbg : Ax bl b = some (.ob (.bag ety esz mb)))
  (hne : b ≠ id) (hvs : vs.length = ps.length) (hxs : xs = Ik f ps vs) (hmb : mb = K7 ps vs)
  (h : VC E W0 M0 cd ⟨fr, Ax (Bk [id, b] (Cc bl x (some (.one tx (cells.set g (.sl m 0 len))))) 0 ++ [some (.ob (.uv ty sz f ety esz ps))]), m + 1⟩ Q) : VC E W0 M0 cd ⟨fr, Ax bl, m⟩ Q := by
 subst hxs hmb
 refine VC.sub ?_ h
 rintro a w ⟨S, hH, hF, hM⟩
 obtain ⟨S', h2, h3, _⟩ := Up hH (CI (Ax bl) x (some (.one tx (cells.set g (.sl m 0 len))))) (GU hx) hne hvs hb hbg (fun S' => Gl hH hx hg [id, b] S' (m + 1))
 refine ⟨S', ?_, hF.ext h3, hM.ext h3⟩
 rw [Es, Cz _ _ _ (by rw [EM _ _ _ (HU hx)]; exact hm)] at h2
 exact h2
theorem Wr (x g : Nat) (hm : m = bl.length) {id tx ty sz f ety esz len : Nat} {ps : List (List D × List (List D))} {cells : List AV} (hx : Ax bl x = some (.one tx cells)) (hg : cells[g]? = some (.sl id 0 len)) (hb : Ax bl id = some (.ob (.uv ty sz f ety esz ps))) (hl : len = ps.length)
  (h : VC E W0 M0 cd ⟨fr, Ax (Bk [id] (Cc bl x (some (.one tx (cells.set g (.d (.sl (G4 f ps))))))) 0), m⟩ Q) : VC E W0 M0 cd ⟨fr, Ax bl, m⟩ Q := by
 subst hl
 refine VC.sub ?_ h
 rintro a w ⟨S, hH, hF, hM⟩
 obtain ⟨S', h2, h3, _⟩ := WI hH (CI (Ax bl) x (some (.one tx (cells.set g (.d (.sl (G4 f ps))))))) (GU hx) hb (fun S' => Gl hH hx hg [id] S' m)
 refine ⟨S', ?_, hF.ext h3, hM.ext h3⟩
 rw [Es, Cz _ _ _ (by rw [EM _ _ _ (HU hx)]; exact hm)] at h2
 simpa using h2
theorem IY (ety esz : Nat) (hm : m = bl.length) (h : VC E W0 M0 cd ⟨fr, Ax (bl ++ [some (.ob (.bag ety esz []))]), m + 1⟩ Q) : VC E W0 M0 cd ⟨fr, Ax bl, m⟩ Q := by
 refine VC.sub ?_ h
 rintro a w ⟨S, hH, hF, hM⟩
 obtain ⟨S', h2, h3⟩ := Td hH ety esz
 refine ⟨S', ?_, hF.ext h3, hM.ext h3⟩
 rw [Cz _ _ _ hm] at h2
 have : Bk [] bl 0 = bl := by
  have : ∀ (l : List (Option B7)) i, Bk [] l i = l := by
   intro l
   induction l with
   | nil => intro i; rfl
   | cons x l ih => intro i; simp [Bk, ih]
  exact this bl 0
 rw [this] at h2
 exact h2
theorem Ko : ∀ (l : List (Option B7)) (i : Nat), Bk [] l i = l
 | [], _ => rfl
 | x :: l, i => by simp [Bk, Ko l (i + 1)]
theorem Te (hH : Ai W0 M0 H n w S) (G : Av) (hGl : ∀ i, (G i).isSome = true → (H i).isSome = true) (b : B7) (sz : Nat) (hb : ∀ w S n, BQ w S n b ⟨none, sz, 0, []⟩) (hG : ∀ S', Nt H G [] w S S' n (n + 1) (.d .nils) (.sl n 0 0)) :
  ∃ S', Ai W0 M0 (rem [] n [b] G) (n + 1) w S' ∧ Cu w S n w S' (n + 1) ∧ ∀ v, R w S n (.d .nils) v → R w S' (n + 1) (.sl n 0 0) v := by
 have no : ∀ c, ¬ (⟨none, sz, 0, []⟩ : Lay).has c := fun c h => h.elim (fun h => by cases h) (fun h => by cases h)
 have tr : ∀ v, R w S n (.d .nils) v → R w (rem [] n [⟨none, sz, 0, []⟩] S) (n + 1) (.sl n 0 0) v := fun v hv => by
  cases hv with | d hv =>
  cases hv
  exact .sl n 0 0 0 ⟨none, sz, 0, []⟩ (by omega) (by rw [Ej (Nat.le_refl _)]; simp) (by simp) (fun h => by simp at h) (fun _ => rfl)
 have key := hH.redeal [] [b] [⟨none, sz, 0, []⟩] G rfl (fun hE => hG _ tr hE) hGl (fun l' hl' c hc => ?_) (fun i j l1 l2 c hi hj g1 g2 => ?_) (fun l' hl' => ?_) (fun i l' b' hb' hl' hf => ?_) (fun hE i l' b' hb' hl' => ?_)
 ·exact ⟨_, key.1, key.2, tr⟩
 ·simp only [List.mem_cons, List.not_mem_nil, or_false] at hl'
  subst hl'; exact (no c hc).elim
 ·have := (List.getElem?_eq_some_iff.1 hi).1
  have := (List.getElem?_eq_some_iff.1 hj).1
  simp at *; omega
 ·simp only [List.mem_cons, List.not_mem_nil, or_false] at hl'
  subst hl'; exact ⟨List.nodup_nil, fun _ h => by cases h⟩
 ·have : i < 1 := (List.getElem?_eq_some_iff.1 hl').1
  obtain rfl : i = 0 := by omega
  simp only [List.getElem?_cons_zero, Option.some.injEq] at hl'; subst hl'; rfl
 ·have : i < 1 := (List.getElem?_eq_some_iff.1 hl').1
  obtain rfl : i = 0 := by omega
  simp only [List.getElem?_cons_zero, Option.some.injEq] at hb' hl'; subst hb'; subst hl'
  exact hb _ _ _
theorem JG [Bl] (ty sz : Nat) (w : World) (S : Lays) (n : Nat) : BQ w S n (.vec ty sz []) ⟨none, sz, 0, []⟩ := ⟨rfl, by simp [maxLen], by simp, by simp, fun _ => rfl, fun b hb => by cases hb⟩
theorem YX [Bl] (ty sz f ety esz : Nat) (w : World) (S : Lays) (n : Nat) : BQ w S n (.ob (.uv ty sz f ety esz [])) ⟨none, sz, 0, []⟩ :=
 ⟨[], rfl, JG ty sz w S n, [], rfl, rfl, fun i l p hi => by simp at hi⟩
theorem Iw (x g : Nat) (b : B7) (sz : Nat) (hbx : ∀ w S n, BQ w S n b ⟨none, sz, 0, []⟩) (hm : m = bl.length) {tx : Nat} {cells : List AV} (hx : Ax bl x = some (.one tx cells)) (hg : cells[g]? = some (.d .nils))
  (h : VC E W0 M0 cd ⟨fr, Ax (Cc bl x (some (.one tx (cells.set g (.sl m 0 0)))) ++ [some b]), m + 1⟩ Q) : VC E W0 M0 cd ⟨fr, Ax bl, m⟩ Q := by
 refine VC.sub ?_ h
 rintro a w ⟨S, hH, hF, hM⟩
 obtain ⟨S', h2, h3, _⟩ := Te hH (CI (Ax bl) x (some (.one tx (cells.set g (.sl m 0 0))))) (GU hx) b sz hbx (fun S' => Gl hH hx hg [] S' (m + 1))
 refine ⟨S', ?_, hF.ext h3, hM.ext h3⟩
 rw [Es, Cz _ _ _ (by rw [EM _ _ _ (HU hx)]; exact hm), Ko] at h2
 exact h2
theorem IW (hH : Ai W0 M0 H n w S) {f : FuncId} {sp : Spec} (hf : E.Γ f = some sp) (D : List Nat) {args : List AV} {vals : List Value} (hl : vals.length = args.length) (hR : ∀ (i : Nat) (c : AV) (u : Value), args[i]? = some c → vals[i]? = some u → R w S n c u)
  {q : Prop} {r : AV} {H' : Av} {n' : Nat} (hrun : sp.run args (Cb D H) n = some (q, r, some (H', n'))) (hq : q) :
  Calls P f vals.toArray w fun e w' => ∃ v S', e = .returned v ∧ Ai W0 M0 (Ed D n H H') n' w' S' ∧ Cu w S n w' S' n' ∧ R w' S' n' r v := by
 have hkl : B6 [] S = S := by funext i; simp [B6]
 have hE0 := hH.enter D [] (fun i hi => by cases hi)
 rw [hkl] at hE0
 have hcall := E.ok f sp hf args (Cb D H) n q r _ hrun hq w S vals hE0 hl hR
 refine Calls.mono hcall ?_
 rintro e w' ⟨v, S', rfl, hL, hs, hR⟩
 have hb := hH.back (D := D) (B := []) (fun i hi => by cases hi) (by rw [hkl]; exact hL)
 rw [show B6 [] (Ed D n H (Option.getD (some (H', n')) (Cb D H, n)).1) = Ed D n H H' by funext i; simp [B6]] at hb
 exact ⟨v, S', rfl, hb.1, hb.2, hR⟩
theorem Tz (D : List Nat) {f : FuncId} {sp : Spec} (hf : E.Γ f = some sp) {ops : List Operand} {ts : Array TypeId} {args : List AV} (ha : (ops.map fun x => AD (Bc fr x)) = args) (hn : nd fr ops) {q : Prop} {r : AV} {H' : Av} {n' : Nat} {bl2 : List (Option B7)}
  (hrun : sp.run args (Cb D (Ax bl)) m = some (q, r, some (H', n'))) (hq : q) (h2 : Ed D m (Ax bl) H' = Ax bl2) (k : K ⟨putD d r fr, Ax bl2, n'⟩) : D2 W0 M0 E ⟨d, .call ⟨.value (.func f), ops.toArray, ts⟩, t', p, af, none⟩ ⟨fr, Ax bl, m⟩ K := by
 intro a w S hH hop Q
 have hvs : ∀ (i : Nat) (c : AV) (u : Value), args[i]? = some c → (ops.map a.eval)[i]? = some u → R w S m c u := fun i c u hc hu => by
  rw [← ha, List.getElem?_map] at hc
  rw [List.getElem?_map] at hu
  cases hx : ops[i]? with
  | none => rw [hx] at hc; cases hc
  | some x =>
   rw [hx] at hc hu; cases hc; cases hu
   have hm : x ∈ ops := List.mem_of_getElem? hx
   exact (hop x (by simp only [Op.operands, Call.operands, Array.toList_append, List.mem_append]; exact .inr (by simpa using hm))).bare_of (H8 hn x hm)
 have hcall := IW hH hf D (vals := ops.map a.eval) (by rw [← ha]; simp) hvs hrun hq
 have hex : (execOp a.eval ⟨d, .call ⟨.value (.func f), ops.toArray, ts⟩, t', p, af, none⟩).run P w = .ok (.enter f (ops.map a.eval).toArray) w := by
  simp only [execOp, resolve, Sem.run_bind, show a.eval (.func f) = .func (.func f) #[] #[] from rfl]
  simp [Deferred.ofValue, invoke, Fr (E.ent f sp hf)]
 refine FY (fun c h => by cases h) ?_
 rw [hex, Oper.uponIn_enter]
 refine ⟨fun h => (by cases h), GQ (Calls.mono hcall ?_)⟩
 rintro e w' ⟨v, S', rfl, h3, h4, h5⟩
 simp only at h3 h4 h5
 rw [h2] at h3
 exact ⟨r, _, _, v, S', rfl, h3, h4, h5, k⟩
theorem Gn (id : Nat) {e sz c : Nat} {xs : List (List D)} (hb : Ax bl id = some (.ob (.full e sz xs c))) (h : VC E W0 M0 cd ⟨fr, Ax (Cc bl id (some (.vec e sz xs))), m⟩ Q) : VC E W0 M0 cd ⟨fr, Ax bl, m⟩ Q :=
 TJ hb (by rw [Es]; exact h)
theorem Gm (tm id : Nat) {off len : Nat} {b : B7} (hm : m = bl.length) (hN : tm < E.N) (ht : fr tm = .sl id off len) (hb : Ax bl id = some b) (h : VC E W0 M0 cd ⟨putD (some tm) (.sl m off len) fr, Ax (Bk [id] bl 0 ++ [some b]), m + 1⟩ Q) : VC E W0 M0 cd ⟨fr, Ax bl, m⟩ Q :=
 TH tm hN ht hb (by rw [Cz _ _ _ hm]; exact h)
theorem Fa (b : Nat) (hm : m = bl.length) {f : FuncId} {sp : Spec} (hf : E.Γ f = some sp) {ops : List Operand} {ts : Array TypeId} {args : List AV} (ha : (ops.map fun x => AD (Bc fr x)) = args) (hn : nd fr ops) {ety esz : Nat} {m1 m2 : List (Value × List (List D))} {v : Value} {ys : List (List D)} {mb : List (Value × List (List D))} (hb0 : Ax bl b = some (.ob (.bag ety esz mb))) (hmb : mb = m1 ++ (v, ys) :: m2)
  (ai : Nat) (hai : args[ai]? = some (.d (.raw v))) {bl1 : List (Option B7)} (hb1 : Bk [b] bl 0 ++ [some (.vec ety esz ys), some (.ob (.bag ety esz (m1 ++ m2)))] = bl1)
  {q : Prop} {H' : Av} {n' j len : Nat} {bl2 : List (Option B7)} {xs : List (List D)}
  (hrun : sp.run (args.set ai (.sl m 0 ys.length)) (Cb [m] (Ax bl1)) (m + 2) = some (q, .sl j 0 len, some (H', n'))) (hq : q) (h2 : Ed [m] (m + 2) (Ax bl1) H' = Ax bl2) (hn2 : n' = bl2.length) (hj : Ax bl2 j = some (.vec ety esz xs)) (hb : Ax bl2 (m + 1) = some (.ob (.bag ety esz (m1 ++ m2)))) (hbj : m + 1 ≠ j) (hlen : len ≤ xs.length)
  (k : ∀ v', K ⟨putD d (.d (.raw v')) fr, Ax (Bk [m + 1, j] bl2 0 ++ [some (.ob (.bag ety esz (m1 ++ (v', xs.take len) :: m2)))]), n' + 1⟩) : D2 W0 M0 E ⟨d, .call ⟨.value (.func f), ops.toArray, ts⟩, t', p, af, none⟩ ⟨fr, Ax bl, m⟩ K := by
 subst hmb
 intro a w S hH hop Q
 obtain ⟨S1, hH1, hE1, hR1⟩ := KC hH hb0
 rw [Cz _ _ _ hm] at hH1
 simp only [List.map_cons, List.map_nil] at hH1
 rw [hb1] at hH1
 have hvs : ∀ (i : Nat) (c : AV) (u : Value), (args.set ai (.sl m 0 ys.length))[i]? = some c → (ops.map a.eval)[i]? = some u → R w S1 (m + 2) c u := fun i c u hc hu => by
  have base : ∀ c0, args[i]? = some c0 → R w S m c0 u := fun c0 h0 => by
   rw [← ha, List.getElem?_map] at h0
   rw [List.getElem?_map] at hu
   cases hx : ops[i]? with
   | none => rw [hx] at h0; cases h0
   | some x =>
    rw [hx] at h0 hu; cases h0; cases hu
    have hm : x ∈ ops := List.mem_of_getElem? hx
    exact (hop x (by simp only [Op.operands, Call.operands, Array.toList_append, List.mem_append]; exact .inr (by simpa using hm))).bare_of (H8 hn x hm)
  rw [List.getElem?_set] at hc
  split at hc
  ·rename_i hi
   subst hi
   split at hc
   ·cases hc
    have := base _ hai
    cases this with | d h =>
    cases h
    exact hR1
   ·cases hc
  ·exact hE1.r (base c hc)
 have hcall := IW hH1 hf [m] (vals := ops.map a.eval) (by rw [← ha]; simp) hvs hrun hq
 have hex : (execOp a.eval ⟨d, .call ⟨.value (.func f), ops.toArray, ts⟩, t', p, af, none⟩).run P w = .ok (.enter f (ops.map a.eval).toArray) w := by
  simp only [execOp, resolve, Sem.run_bind, show a.eval (.func f) = .func (.func f) #[] #[] from rfl]
  simp [Deferred.ofValue, invoke, Fr (E.ent f sp hf)]
 refine FY (fun c h => by cases h) ?_
 rw [hex, Oper.uponIn_enter]
 refine ⟨fun h => (by cases h), GQ (Calls.mono hcall ?_)⟩
 rintro e w' ⟨v, S', rfl, h3, h4, h5⟩
 rw [h2] at h3
 obtain ⟨h6, S2, h7, h8⟩ := Qp h3 hbj hb hj h5 hlen
 rw [Cz _ _ _ hn2] at h7
 exact ⟨_, _, _, v, S2, rfl, h7, (hE1.trans h4).trans h8, .d (.raw v h6), k v⟩
end
end Go.Vc
/- The Vc layer: nils kept raw. -/
set_option linter.all false
namespace Go.Vc
open Go Go.RowKit
def GF : Value := .slice none 0 0
def Xw : AV → AV
 | .d .nils => .d (.raw GF)
 | c => c
theorem Kc (v : Value) : Bi (.raw v) = .raw v := rfl
section
variable [Bl] {P : Program} {E : Bq P} {W0 : World} {M0 : Nat → Prop} {w : World} {S : Lays} {n m : Nat} {H : Av} {fr : Nat → AV} {K : St → Prop} {d : Option Tmp} {t t2 t' ty' : TypeId} {p : String} {af : Array Edge} {bl : List (Option B7)} {cd : Code} {Q : Exit → St → Prop}
theorem E7 (b ai : Nat) {f : FuncId} {sp : Spec} (hf : E.Γ f = some sp) {ops : List Operand} {ts : Array TypeId} {args : List AV} (ha : (ops.map fun x => AD (Bc fr x)) = args) (hai : args[ai]? = some (.d (.raw GF))) (hn : nd fr ops) {q : Prop} {H' : Av} {n' j len ety esz : Nat} {bl2 : List (Option B7)} {xs : List (List D)} {m1 m2 : List (Value × List (List D))} {mb : List (Value × List (List D))}
  (hrun : sp.run (args.set ai (.d .nils)) (Cb [] (Ax bl)) m = some (q, .sl j 0 len, some (H', n'))) (hq : q) (h2 : Ed [] m (Ax bl) H' = Ax bl2) (hn2 : n' = bl2.length) (hj : Ax bl2 j = some (.vec ety esz xs)) (hb : Ax bl2 b = some (.ob (.bag ety esz mb))) (hmb : mb = m1 ++ m2) (hbj : b ≠ j) (hlen : len ≤ xs.length)
  (k : ∀ v', K ⟨putD d (.d (.raw v')) fr, Ax (Bk [b, j] bl2 0 ++ [some (.ob (.bag ety esz (m1 ++ (v', xs.take len) :: m2)))]), n' + 1⟩) : D2 W0 M0 E ⟨d, .call ⟨.value (.func f), ops.toArray, ts⟩, t', p, af, none⟩ ⟨fr, Ax bl, m⟩ K := by
 subst hmb
 intro a w S hH hop Q
 have base : ∀ (i : Nat) (c : AV) (u : Value), args[i]? = some c → (ops.map a.eval)[i]? = some u → R w S m c u := fun i c u hc hu => by
  rw [← ha, List.getElem?_map] at hc
  rw [List.getElem?_map] at hu
  cases hx : ops[i]? with
  | none => rw [hx] at hc; cases hc
  | some x =>
   rw [hx] at hc hu; cases hc; cases hu
   have hm : x ∈ ops := List.mem_of_getElem? hx
   exact (hop x (by simp only [Op.operands, Call.operands, Array.toList_append, List.mem_append]; exact .inr (by simpa using hm))).bare_of (H8 hn x hm)
 have hvs : ∀ (i : Nat) (c : AV) (u : Value), (args.set ai (.d .nils))[i]? = some c → (ops.map a.eval)[i]? = some u → R w S m c u := fun i c u hc hu => by
  rw [List.getElem?_set] at hc
  split at hc
  ·rename_i hi
   subst hi
   split at hc
   ·cases hc
    have := base _ _ _ hai hu
    cases this with | d h =>
    cases h
    exact .d .nils
   ·cases hc
  ·exact base i c u hc hu
 have hcall := IW hH hf [] (vals := ops.map a.eval) (by rw [List.length_set, ← ha]; simp) hvs hrun hq
 have hex : (execOp a.eval ⟨d, .call ⟨.value (.func f), ops.toArray, ts⟩, t', p, af, none⟩).run P w = .ok (.enter f (ops.map a.eval).toArray) w := by
  simp only [execOp, resolve, Sem.run_bind, show a.eval (.func f) = .func (.func f) #[] #[] from rfl]
  simp [Deferred.ofValue, invoke, Fr (E.ent f sp hf)]
 refine FY (fun c h => by cases h) ?_
 rw [hex, Oper.uponIn_enter]
 refine ⟨fun h => (by cases h), GQ (Calls.mono hcall ?_)⟩
 rintro e w' ⟨v, S', rfl, h3, h4, h5⟩
 simp only at h3 h4 h5
 rw [h2] at h3
 obtain ⟨h6, S2, h7, h8⟩ := Qp h3 hbj hb hj h5 hlen
 rw [Cz _ _ _ hn2] at h7
 exact ⟨_, _, _, v, S2, rfl, h7, h4.trans h8, .d (.raw v h6), k v⟩
theorem Xx {c : AV} {v : Value} (h : R w S n c v) : R w S n (Xw c) v := by
 unfold Xw
 split
 ·cases h with | d h =>
  cases h
  exact .d (.raw _ rfl)
 ·exact h
theorem Qv {parts : List (Nat × Operand)} {cs : List AV} {q : Prop} (h : Fm E.X.ty H t (parts.map fun x => (x.1, AD (Bc fr x.2))) = some (q, .agg cs)) (hq : q) (hn : nd fr (parts.map (·.2))) (k : K ⟨putD d (.agg (cs.map Xw)) fr, H, n⟩) :
  D2 W0 M0 E ⟨d, .build t parts.toArray, t', p, af, none⟩ ⟨fr, H, n⟩ K := by
 refine .value (fun c h => by cases h) fun a w S hH hop => ?_
 have hx : ∀ x ∈ parts, R w S n (AD (Bc fr x.2)) (a.eval x.2) := fun x hx => (hop x.2 (by simp only [Op.operands, List.toList_toArray, List.mem_map]; exact ⟨x, by simpa using hx, rfl⟩)).bare_of (H8 hn x.2 (List.mem_map.2 ⟨x, hx, rfl⟩))
 obtain ⟨r, h1, h2⟩ := Li (X := E.X) hH h (vparts := (parts.map fun x => (x.1, a.eval x.2)).toArray) (by simp) (fun i k c hi => by
  rw [List.getElem?_map] at hi
  cases hq : parts[i]? with
  | none => rw [hq] at hi; cases hi
  | some x =>
   rw [hq] at hi
   simp only [Option.map_some, Option.some.injEq, Prod.mk.injEq] at hi
   obtain ⟨rfl, rfl⟩ := hi
   exact ⟨a.eval x.2, by simp [hq], hx x (List.mem_of_getElem? hq)⟩)
 refine ⟨_, H, n, r, w, S, ?_, hH, Cu.refl _ _ _, ?_, k⟩
 ·simp only [execOp]
  simp [h1]
 ·cases h2 with | agg _ us hl h1' hr =>
  refine .agg _ us (by simpa using hl) h1' (fun i c u hc hu => ?_)
  rw [List.getElem?_map] at hc
  cases hq : cs[i]? with
  | none => rw [hq] at hc; cases hc
  | some c0 => rw [hq] at hc; cases hc; exact Xx (hr i c0 u hq hu)
end
def wB := And.intro @Bo (And.intro @AX (And.intro @AP (And.intro @AW (And.intro @Bp @bw))))
def wL := And.intro @Af (And.intro @BJ (And.intro @AF (And.intro @BT (And.intro @Bd (And.intro @Bv (And.intro @AY (And.intro @BS (And.intro @BU (And.intro @Cn (And.intro @Nat.zero_add (And.intro @Nat.add_zero (And.intro @true_and (And.intro @and_true (And.intro @and_assoc (And.intro @BO (And.intro @Cr (And.intro @BV (And.intro @Ct (And.intro @Cs (And.intro @BR (And.intro @BP (And.intro @Cl (And.intro @BG (And.intro @AZ (And.intro @Br (And.intro @Bt (And.intro @BF (And.intro @or_false (And.intro @false_or (And.intro @not_true_eq_false @not_false_eq_true))))))))))))))))))))))))))))))
def wG := And.intro @GR (And.intro @gw (And.intro @HS (And.intro @IG (And.intro @DD.eq_1 (And.intro @DD.eq_2 @DD.eq_3)))))
