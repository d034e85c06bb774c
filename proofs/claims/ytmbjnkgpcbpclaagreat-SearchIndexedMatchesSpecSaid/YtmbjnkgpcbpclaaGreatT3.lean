import Derived.Test.YtmbjnkgpcbpclaaGreatT2
set_option linter.all false
set_option maxRecDepth 100000
set_option maxHeartbeats 4000000
namespace Go.Proofs.YtmbjnkgpcbpclaaGreat
open Go Go.Vc Go.RowKit
def Fh (l : List Int) (n : Int) : List Int := if n ∈ l then l else l.takeWhile (fun x => decide (x < n)) ++ n :: l.dropWhile (fun x => decide (x < n))
theorem Dy {l : List Int} {n : Int} {k : Nat} (hn : n ∉ l) (h : ∀ x ∈ l.take k, x < n) (hk : k = l.length ∨ ∃ x, l[k]? = some x ∧ ¬x < n) : Fh l n = l.take k ++ n :: l.drop k := by
  have key : l.takeWhile (fun x => decide (x < n)) = l.take k ∧ l.dropWhile (fun x => decide (x < n)) = l.drop k := by
    clear hn
    induction l generalizing k with
    | nil => simp
    | cons a l ih =>
      cases k with
      | zero =>
        rcases hk with hk | ⟨x, hx, hxn⟩
        · simp at hk
        · simp only [List.getElem?_cons_zero, Option.some.injEq] at hx
          subst hx
          simp [List.takeWhile_cons, List.dropWhile_cons, hxn]
      | succ k =>
        have ha : a < n := h a (by simp)
        have := ih (k := k) (fun x hx => h x (by simp [hx])) (by simpa using hk)
        simp [List.takeWhile_cons, List.dropWhile_cons, ha, this.1, this.2]
  unfold Fh; rw [if_neg hn, key.1, key.2]
theorem JA {l : List Int} {n x : Int} : x ∈ Fh l n ↔ x = n ∨ x ∈ l := by
  unfold Fh
  split
  · rename_i h
    exact ⟨.inr, fun h' => by rcases h' with rfl | h'; exact h; exact h'⟩
  · rw [List.mem_append, List.mem_cons]
    have := List.takeWhile_append_dropWhile (p := fun x => decide (x < n)) (l := l)
    conv => rhs; rw [← this, List.mem_append]
    constructor
    · rintro (h | h | h)
      · exact .inr (.inl h)
      · exact .inl h
      · exact .inr (.inr h)
    · rintro (h | h | h)
      · exact .inr (.inl h)
      · exact .inl h
      · exact .inr (.inr h)
theorem PT {l : List Int} {n : Int} (h : l.Pairwise (· < ·)) : (Fh l n).Pairwise (· < ·) := by
  unfold Fh
  split
  · exact h
  · rename_i hn
    induction l with
    | nil => simp
    | cons a l ih =>
      have ha := List.pairwise_cons.1 h
      simp only [List.mem_cons, not_or] at hn
      by_cases hlt : a < n
      · simp only [List.takeWhile_cons, List.dropWhile_cons, hlt, decide_true, if_true, List.cons_append]
        refine List.pairwise_cons.2 ⟨fun x hx => ?_, ih ha.2 hn.2⟩
        rcases List.mem_append.1 hx with hx | hx
        · exact ha.1 x ((List.takeWhile_sublist _).subset hx)
        · rcases List.mem_cons.1 hx with rfl | hx
          · exact hlt
          · exact ha.1 x ((List.dropWhile_sublist _).subset hx)
      · simp only [List.takeWhile_cons, List.dropWhile_cons, hlt, decide_false, List.nil_append, Bool.false_eq_true, if_false]
        refine List.pairwise_cons.2 ⟨fun x hx => ?_, h⟩
        rcases List.mem_cons.1 hx with rfl | hx
        · omega
        · have := ha.1 x hx; omega
theorem WW {l : List Int} {n : Int} : (Fh l n).length ≤ l.length + 1 := by
  unfold Fh
  split
  · omega
  · rw [List.length_append, List.length_cons]
    have := congrArg List.length (List.takeWhile_append_dropWhile (p := fun x => decide (x < n)) (l := l))
    rw [List.length_append] at this; omega
def PQ : List AV → Option (Prop × AV)
  | [.d (.sl xs), .d (.int .i64 n)] => some (xs = rows eI (dI xs) ∧ (dI xs).length ≤ 1000000000, .d (.sl (rows eI (Fh (dI xs) n))))
  | _ => none
theorem N0 {l : List Int} {k : Nat} {x : Int} {P : Int → Prop} (h : ∀ y ∈ l.take k, P y) (hx : l[k]? = some x) (hp : P x) : ∀ y ∈ l.take (k + 1), P y := fun y hy => by
  rw [List.take_add_one, hx] at hy
  rcases List.mem_append.1 hy with hy | hy
  · exact h y hy
  · simp only [Option.toList_some, List.mem_singleton] at hy; rw [hy]; exact hp
def Km : List AV → Option (Prop × AV)
  | [.d (.sl xs), .d (.int .i64 n)] => some (xs = rows eI (dI xs) ∧ (dI xs).length ≤ 9223372036854775807, .d (.int .i64 (if n ∈ dI xs then ((dI xs).idxOf n : Nat) else -1)))
  | _ => none
theorem U9 {l : List Int} {i : Nat} {n : Int} (h : l[i]? = some n) (hn : n ∉ l.take i) : l.idxOf n = i := by
  induction l generalizing i with
  | nil => simp at h
  | cons a l ih =>
    cases i with
    | zero => simp only [List.getElem?_cons_zero, Option.some.injEq] at h; subst h; exact List.idxOf_cons_self
    | succ i =>
      simp only [List.take_succ_cons, List.mem_cons, not_or] at hn
      rw [List.idxOf_cons, ih (by simpa using h) hn.2, show (a == n) = false by simpa using fun h => hn.1 h.symm]; rfl
theorem Aaa {A : List (List D)} {x : List D} {m : Nat} (h : m = A.length + 1) : List.take m (A ++ [x]) = A ++ [x] := List.take_of_length_le (by rw [h]; simp)
theorem Ol {l : List Int} {k : Nat} {n : Int} : List.take ((l.take (k - 0)).length + 1 + ((l.drop k).take (l.length - k)).length) (List.take ((l.take (k - 0)).length + 1) (rows eI ((l.take (k - 0)).take (l.take (k - 0)).length) ++ [[.int .i64 n]]) ++ rows eI ((l.drop k).take (l.length - k))) = rows eI (l.take k ++ n :: l.drop k) := by
  have e1 : (l.drop k).take (l.length - k) = l.drop k := List.take_of_length_le (by simp)
  rw [Nat.sub_zero, List.take_length, e1, Aaa (by rw [Bd]), List.take_of_length_le (by simp only [List.length_append, Bd, List.length_singleton]; omega)]
  simp [rows, eI]
def Dg : List AV → Option (Prop × AV)
  | [.d (.sl xs), .d (.int .i64 n)] => some (xs = rows eI (dI xs) ∧ (dI xs).length ≤ 9223372036854775807, .d (.bool (decide (n ∈ dI xs))))
  | _ => none
theorem Bz {p : Prop} (h : p := by (first | (constructor <;> simp only [List.length_append, Bd, List.length_singleton, List.length_take, List.length_drop] <;> omega) | exact AQ)) : p := h
theorem Bx {p : Prop} (h : p := by (repeat' apply And.intro) <;> (first | (first | rfl | exact congrArg D.sl Ol | exact Or.inl (congrArg D.sl Ol) | (simp only [List.length_append, Bd, List.length_singleton, List.length_take, List.length_drop]; omega)) | exact Au)) : p := h
theorem M9 : A5 Tryz.prog 59 (Spec.pure PQ) := by
 refine A1 (GO.at_ 35) Tryz.func59 rfl rfl rfl ?_
 intro args p r hg hp
 unfold PQ at hg
 split at hg
 rename_i xs n
 simp only [Option.some.injEq, Prod.mk.injEq] at hg
 obtain ⟨rfl, rfl⟩ := hg
 obtain ⟨he, hl⟩ := hp
 generalize dI xs = l at *
 subst he
 have hT : (GO).X = T := rfl
 have hx0 := @Tryz.results59
 have hx := hx0
 refine ⟨by rfl, ?_⟩
 intro F W0 hnp hmk
 refine Aa fun N1 h1 => Ac ?_
 refine Az ?_
 refine Ad ?_
 refine Ab (h1 _ (Aa fun N2 h2 => ?_)); clear h1
 refine Aa fun N3 h3 => Ac ?_
 iterate 2 refine Ad ?_
 have hc := Ag (E := (GO.at_ 35)) (f := 26) (sp := Spec.pure U1) rfl
 have hs := @U1.eq_1
 refine Ba ?_
 refine Ab (h3 _ (Ak (fun hb4 => ?_) (fun hb4 => ?_))); clear h3
 refine Aa fun N5 h5 => Ac ?_
 iterate 2 refine Ad ?_
 refine Ab (h5 _ (Am ?_)); clear h5
 try simp only [Ae]
 have hr : Fh l n = l := by unfold Fh; rw [if_pos (by simpa using hb4)]
 rw [hr]
 refine Aw ?_
 exact Au
 refine An ?_
 try simp only [Ae]
 refine h2 _ (Aa fun N6 h6 => Ac ?_); clear h2
 refine Ad ?_
 refine Ab (h6 _ (Aa fun N7 h7 => As ?_)); clear h6
 refine A3 (σ := Nat) (fun s => (fun k => k ≤ l.length ∧ ∀ x ∈ l.take k, x < n) s)
  (fun s => (fun k => [(0, .d (.sl (rows eI l))), (1, .d (.int .i64 n)), (5, .d (.int .i64 (k : Nat)))]) s)
  (fun s => (fun k => []) s) (fun s => (fun k => l.length - k) s) hnp 0 ?_ [] ?_ ?_
 dsimp only
 simp
 dsimp only
 refine ⟨by rfl, ?_, ?_⟩
 refine Aj ?_
 exact Au
 refine Aj ?_
 exact Au
 rintro k hinv N8 h8
 dsimp only at hinv ⊢
 obtain ⟨k1, k2⟩ := hinv
 refine Aa fun N9 h9 => Aa fun N10 h10 => ?_
 rcases Nat.lt_or_ge k l.length with hk | hk
 obtain ⟨x, hxe⟩ := BA hk
 have hk' : decide ((k : Int) < (l.length : Int)) = true := by simp; omega
 have hx := And.intro @hxe (And.intro @hk' (And.intro @eI.eq_1 hx0))
 refine Ac ?_
 refine Az ?_
 iterate 2 refine Ad ?_
 refine AU ?_
 refine Ao ?_
 refine Ad ?_
 iterate 2 refine Cw ?_
 refine B9 ?_
 refine B8 ?_
 refine Cw ?_
 refine CD ?_
 refine AH ?_
 have hx := hx0
 refine Ab (h10 _ (Ak (fun hb11 => ?_) (fun hb11 => ?_))); clear h10
 refine An ?_
 try simp only [Ae]
 refine h9 _ (As (Ac ?_)); clear h9
 refine Ad ?_
 refine Ao ?_
 refine Ad ?_
 refine Ab ?_
 refine h8 _ ⟨k + 1, ?_, ?_, [], ?_⟩
 dsimp only
 exact ⟨by omega, N0 k2 hxe (by simpa using hb11)⟩
 dsimp only
 omega
 dsimp only
 refine ⟨by rfl, ?_, ?_⟩
 refine Aj ?_
 exact Au
 refine Aj ?_
 exact Au
 refine AJ ?_
 simp only [Ae, Nat.reduceEqDiff, reduceIte, eq_self]
 refine h7 _ (Aa fun N12 h12 => ?_); clear h7
 refine EA [1000027] (.seq [0, 1, 2, 4, 7, 8] (.alt 3 (.alt 5 (.alt 6 (.seq [9, 10, 11] .nil) (.alt 9 (.seq [6, 10, 11] .nil) .nil)) (.alt 9 (.seq [5, 6, 10, 11] .nil) .nil)) (.alt 5 (.alt 3 (.alt 6 (.seq [9, 10, 11] .nil) (.alt 9 (.seq [6, 10, 11] .nil) .nil)) (.alt 9 (.seq [3, 6, 10, 11] .nil) .nil)) (.alt 9 (.alt 3 (.seq [5, 6, 10, 11] .nil) (.alt 5 (.seq [3, 6, 10, 11] .nil) .nil)) .nil)))) ER (by kernel_rfl) ?_
 refine A7 ?_
 simp only [Ah, Af]
 iterate 2 refine Ad ?_
 refine BZ ?_
 iterate 3 refine Ad ?_
 refine Ab ?_
 refine A0 ?_ ?_
 simp only [Ah, Af]
 refine Bf ?_
 refine Ab ?_
 refine A0 ?_ ?_
 simp only [Ah, Af]
 refine Di ?_
 refine Ab ?_
 refine A0 ?_ ?_
 simp only [Ah, Af]
 refine Bf ?_
 refine Ab ?_
 refine A7 ?_
 simp only [Ah, Af]
 refine BZ ?_
 refine Bf (hq := Bz) ?_
 refine Ad ?_
 refine Ab ?_
 refine AK ?_
 refine h12 _ (Am ?_); clear h12
 try simp only [Ae]
 have hr : Fh l n = l.take k ++ n :: l.drop k := Dy (by simpa using hb4) k2 (by first | exact Or.inl (by omega) | exact Or.inr ⟨x, hxe, by simpa using hb11⟩)
 rw [hr]
 refine Aw ?_
 exact Bx
 refine A0 ?_ ?_
 simp only [Ah, Af]
 refine BZ ?_
 refine Ab ?_
 refine A7 ?_
 simp only [Ah, Af]
 refine Bf ?_
 refine Bf (hq := Bz) ?_
 refine Ad ?_
 refine Ab ?_
 refine AK ?_
 refine h12 _ (Am ?_); clear h12
 try simp only [Ae]
 have hr : Fh l n = l.take k ++ n :: l.drop k := Dy (by simpa using hb4) k2 (by first | exact Or.inl (by omega) | exact Or.inr ⟨x, hxe, by simpa using hb11⟩)
 rw [hr]
 refine Aw ?_
 exact Bx
 exact Bh
 refine A0 ?_ ?_
 simp only [Ah, Af]
 refine BZ ?_
 refine Ab ?_
 refine A7 ?_
 simp only [Ah, Af]
 refine Di ?_
 refine Bf ?_
 refine Bf (hq := Bz) ?_
 refine Ad ?_
 refine Ab ?_
 refine AK ?_
 refine h12 _ (Am ?_); clear h12
 try simp only [Ae]
 have hr : Fh l n = l.take k ++ n :: l.drop k := Dy (by simpa using hb4) k2 (by first | exact Or.inl (by omega) | exact Or.inr ⟨x, hxe, by simpa using hb11⟩)
 rw [hr]
 refine Aw ?_
 exact Bx
 exact Bh
 refine A0 ?_ ?_
 simp only [Ah, Af]
 refine Di ?_
 refine Ab ?_
 refine A0 ?_ ?_
 simp only [Ah, Af]
 refine Bf ?_
 refine Ab ?_
 refine A0 ?_ ?_
 simp only [Ah, Af]
 refine Bf ?_
 refine Ab ?_
 refine A7 ?_
 simp only [Ah, Af]
 refine BZ ?_
 refine Bf (hq := Bz) ?_
 refine Ad ?_
 refine Ab ?_
 refine AK ?_
 refine h12 _ (Am ?_); clear h12
 try simp only [Ae]
 have hr : Fh l n = l.take k ++ n :: l.drop k := Dy (by simpa using hb4) k2 (by first | exact Or.inl (by omega) | exact Or.inr ⟨x, hxe, by simpa using hb11⟩)
 rw [hr]
 refine Aw ?_
 exact Bx
 refine A0 ?_ ?_
 simp only [Ah, Af]
 refine BZ ?_
 refine Ab ?_
 refine A7 ?_
 simp only [Ah, Af]
 refine Bf ?_
 refine Bf (hq := Bz) ?_
 refine Ad ?_
 refine Ab ?_
 refine AK ?_
 refine h12 _ (Am ?_); clear h12
 try simp only [Ae]
 have hr : Fh l n = l.take k ++ n :: l.drop k := Dy (by simpa using hb4) k2 (by first | exact Or.inl (by omega) | exact Or.inr ⟨x, hxe, by simpa using hb11⟩)
 rw [hr]
 refine Aw ?_
 exact Bx
 exact Bh
 refine A0 ?_ ?_
 simp only [Ah, Af]
 refine BZ ?_
 refine Ab ?_
 refine A7 ?_
 simp only [Ah, Af]
 iterate 2 refine Bf ?_
 refine Bf (hq := Bz) ?_
 refine Ad ?_
 refine Ab ?_
 refine AK ?_
 refine h12 _ (Am ?_); clear h12
 try simp only [Ae]
 have hr : Fh l n = l.take k ++ n :: l.drop k := Dy (by simpa using hb4) k2 (by first | exact Or.inl (by omega) | exact Or.inr ⟨x, hxe, by simpa using hb11⟩)
 rw [hr]
 refine Aw ?_
 exact Bx
 exact Bh
 refine A0 ?_ ?_
 simp only [Ah, Af]
 refine BZ ?_
 refine Ab ?_
 refine A0 ?_ ?_
 simp only [Ah, Af]
 refine Bf ?_
 refine Ab ?_
 refine A7 ?_
 simp only [Ah, Af]
 refine Di ?_
 refine Bf ?_
 refine Bf (hq := Bz) ?_
 refine Ad ?_
 refine Ab ?_
 refine AK ?_
 refine h12 _ (Am ?_); clear h12
 try simp only [Ae]
 have hr : Fh l n = l.take k ++ n :: l.drop k := Dy (by simpa using hb4) k2 (by first | exact Or.inl (by omega) | exact Or.inr ⟨x, hxe, by simpa using hb11⟩)
 rw [hr]
 refine Aw ?_
 exact Bx
 refine A0 ?_ ?_
 simp only [Ah, Af]
 refine Di ?_
 refine Ab ?_
 refine A7 ?_
 simp only [Ah, Af]
 iterate 2 refine Bf ?_
 refine Bf (hq := Bz) ?_
 refine Ad ?_
 refine Ab ?_
 refine AK ?_
 refine h12 _ (Am ?_); clear h12
 try simp only [Ae]
 have hr : Fh l n = l.take k ++ n :: l.drop k := Dy (by simpa using hb4) k2 (by first | exact Or.inl (by omega) | exact Or.inr ⟨x, hxe, by simpa using hb11⟩)
 rw [hr]
 refine Aw ?_
 exact Bx
 exact Bh
 exact Bh
 have hxe : l[k]? = none := List.getElem?_eq_none hk
 have hk' : decide ((k : Int) < (l.length : Int)) = false := by simp; omega
 have hx := And.intro @hxe (And.intro @hk' (And.intro @eI.eq_1 hx0))
 refine Ac ?_
 refine Az ?_
 iterate 2 refine Ad ?_
 refine AU ?_
 refine Ao ?_
 refine Ad ?_
 iterate 2 refine Cw ?_
 refine B9 ?_
 refine B8 ?_
 refine Cw ?_
 refine CD ?_
 refine AH ?_
 have hx := hx0
 refine Ab (h10 _ (Ak (fun hb13 => ?_) (fun hb13 => ?_))); clear h10
 cases hb13
 refine AJ ?_
 simp only [Ae, Nat.reduceEqDiff, reduceIte, eq_self]
 refine h7 _ (Aa fun N14 h14 => ?_); clear h7
 refine EA [1000027] (.seq [0, 1, 2, 4, 7, 8] (.alt 3 (.alt 5 (.alt 6 (.seq [9, 10, 11] .nil) (.alt 9 (.seq [6, 10, 11] .nil) .nil)) (.alt 9 (.seq [5, 6, 10, 11] .nil) .nil)) (.alt 5 (.alt 3 (.alt 6 (.seq [9, 10, 11] .nil) (.alt 9 (.seq [6, 10, 11] .nil) .nil)) (.alt 9 (.seq [3, 6, 10, 11] .nil) .nil)) (.alt 9 (.alt 3 (.seq [5, 6, 10, 11] .nil) (.alt 5 (.seq [3, 6, 10, 11] .nil) .nil)) .nil)))) ER (by kernel_rfl) ?_
 refine A7 ?_
 simp only [Ah, Af]
 iterate 2 refine Ad ?_
 refine BZ ?_
 iterate 3 refine Ad ?_
 refine Ab ?_
 refine A0 ?_ ?_
 simp only [Ah, Af]
 refine Bf ?_
 refine Ab ?_
 refine A0 ?_ ?_
 simp only [Ah, Af]
 refine Di ?_
 refine Ab ?_
 refine A0 ?_ ?_
 simp only [Ah, Af]
 refine Bf ?_
 refine Ab ?_
 refine A7 ?_
 simp only [Ah, Af]
 refine BZ ?_
 refine Bf (hq := Bz) ?_
 refine Ad ?_
 refine Ab ?_
 refine AK ?_
 refine h14 _ (Am ?_); clear h14
 try simp only [Ae]
 have hr : Fh l n = l.take k ++ n :: l.drop k := Dy (by simpa using hb4) k2 (by first | exact Or.inl (by omega) | exact Or.inr ⟨x, hxe, by simpa using hb13⟩)
 rw [hr]
 refine Aw ?_
 exact Bx
 refine A0 ?_ ?_
 simp only [Ah, Af]
 refine BZ ?_
 refine Ab ?_
 refine A7 ?_
 simp only [Ah, Af]
 refine Bf ?_
 refine Bf (hq := Bz) ?_
 refine Ad ?_
 refine Ab ?_
 refine AK ?_
 refine h14 _ (Am ?_); clear h14
 try simp only [Ae]
 have hr : Fh l n = l.take k ++ n :: l.drop k := Dy (by simpa using hb4) k2 (by first | exact Or.inl (by omega) | exact Or.inr ⟨x, hxe, by simpa using hb13⟩)
 rw [hr]
 refine Aw ?_
 exact Bx
 exact Bh
 refine A0 ?_ ?_
 simp only [Ah, Af]
 refine BZ ?_
 refine Ab ?_
 refine A7 ?_
 simp only [Ah, Af]
 refine Di ?_
 refine Bf ?_
 refine Bf (hq := Bz) ?_
 refine Ad ?_
 refine Ab ?_
 refine AK ?_
 refine h14 _ (Am ?_); clear h14
 try simp only [Ae]
 have hr : Fh l n = l.take k ++ n :: l.drop k := Dy (by simpa using hb4) k2 (by first | exact Or.inl (by omega) | exact Or.inr ⟨x, hxe, by simpa using hb13⟩)
 rw [hr]
 refine Aw ?_
 exact Bx
 exact Bh
 refine A0 ?_ ?_
 simp only [Ah, Af]
 refine Di ?_
 refine Ab ?_
 refine A0 ?_ ?_
 simp only [Ah, Af]
 refine Bf ?_
 refine Ab ?_
 refine A0 ?_ ?_
 simp only [Ah, Af]
 refine Bf ?_
 refine Ab ?_
 refine A7 ?_
 simp only [Ah, Af]
 refine BZ ?_
 refine Bf (hq := Bz) ?_
 refine Ad ?_
 refine Ab ?_
 refine AK ?_
 refine h14 _ (Am ?_); clear h14
 try simp only [Ae]
 have hr : Fh l n = l.take k ++ n :: l.drop k := Dy (by simpa using hb4) k2 (by first | exact Or.inl (by omega) | exact Or.inr ⟨x, hxe, by simpa using hb13⟩)
 rw [hr]
 refine Aw ?_
 exact Bx
 refine A0 ?_ ?_
 simp only [Ah, Af]
 refine BZ ?_
 refine Ab ?_
 refine A7 ?_
 simp only [Ah, Af]
 refine Bf ?_
 refine Bf (hq := Bz) ?_
 refine Ad ?_
 refine Ab ?_
 refine AK ?_
 refine h14 _ (Am ?_); clear h14
 try simp only [Ae]
 have hr : Fh l n = l.take k ++ n :: l.drop k := Dy (by simpa using hb4) k2 (by first | exact Or.inl (by omega) | exact Or.inr ⟨x, hxe, by simpa using hb13⟩)
 rw [hr]
 refine Aw ?_
 exact Bx
 exact Bh
 refine A0 ?_ ?_
 simp only [Ah, Af]
 refine BZ ?_
 refine Ab ?_
 refine A7 ?_
 simp only [Ah, Af]
 iterate 2 refine Bf ?_
 refine Bf (hq := Bz) ?_
 refine Ad ?_
 refine Ab ?_
 refine AK ?_
 refine h14 _ (Am ?_); clear h14
 try simp only [Ae]
 have hr : Fh l n = l.take k ++ n :: l.drop k := Dy (by simpa using hb4) k2 (by first | exact Or.inl (by omega) | exact Or.inr ⟨x, hxe, by simpa using hb13⟩)
 rw [hr]
 refine Aw ?_
 exact Bx
 exact Bh
 refine A0 ?_ ?_
 simp only [Ah, Af]
 refine BZ ?_
 refine Ab ?_
 refine A0 ?_ ?_
 simp only [Ah, Af]
 refine Bf ?_
 refine Ab ?_
 refine A7 ?_
 simp only [Ah, Af]
 refine Di ?_
 refine Bf ?_
 refine Bf (hq := Bz) ?_
 refine Ad ?_
 refine Ab ?_
 refine AK ?_
 refine h14 _ (Am ?_); clear h14
 try simp only [Ae]
 have hr : Fh l n = l.take k ++ n :: l.drop k := Dy (by simpa using hb4) k2 (by first | exact Or.inl (by omega) | exact Or.inr ⟨x, hxe, by simpa using hb13⟩)
 rw [hr]
 refine Aw ?_
 exact Bx
 refine A0 ?_ ?_
 simp only [Ah, Af]
 refine Di ?_
 refine Ab ?_
 refine A7 ?_
 simp only [Ah, Af]
 iterate 2 refine Bf ?_
 refine Bf (hq := Bz) ?_
 refine Ad ?_
 refine Ab ?_
 refine AK ?_
 refine h14 _ (Am ?_); clear h14
 try simp only [Ae]
 have hr : Fh l n = l.take k ++ n :: l.drop k := Dy (by simpa using hb4) k2 (by first | exact Or.inl (by omega) | exact Or.inr ⟨x, hxe, by simpa using hb13⟩)
 rw [hr]
 refine Aw ?_
 exact Bx
 exact Bh
 exact Bh
 cases hg
def JN : Bq Tryz.prog := GO.add 59 (Spec.pure PQ) M9 (by kernel_rfl)
theorem Oi : A5 Tryz.prog 85 (Spec.pure Km) := by
 refine A1 (JN.at_ 19) Tryz.func85 rfl rfl rfl ?_
 intro args p r hg hp
 unfold Km at hg
 split at hg
 rename_i xs n
 simp only [Option.some.injEq, Prod.mk.injEq] at hg
 obtain ⟨rfl, rfl⟩ := hg
 obtain ⟨he, hl⟩ := hp
 generalize dI xs = l at *
 subst he
 have hT : (JN).X = T := rfl
 have hx0 := @Tryz.results85
 have hx := hx0
 refine ⟨by rfl, ?_⟩
 intro F W0 hnp hmk
 refine Aa fun N1 h1 => Ac ?_
 refine Az ?_
 refine Ad ?_
 refine Ab (h1 _ (Aa fun N2 h2 => ?_)); clear h1
 refine Aa fun N3 h3 => Ac ?_
 refine Ad ?_
 refine AU ?_
 refine Ad ?_
 refine Ab (h3 _ (As ?_)); clear h3
 refine A3 (σ := Nat) (fun s => (fun k => k ≤ l.length ∧ n ∉ l.take k) s)
  (fun s => (fun k => [(0, .d (.sl (rows eI l))), (1, .d (.int .i64 n)), (6, .d (.sl (rows eI l))), (7, .d (.int .i64 (l.length : Nat))), (8, .d (.int .i64 (k : Nat)))]) s)
  (fun s => (fun k => []) s) (fun s => (fun k => l.length - k) s) hnp 0 ?_ [] ?_ ?_
 dsimp only
 simp
 dsimp only
 refine ⟨by rfl, ?_, ?_⟩
 refine Aj ?_
 exact Au
 refine Aj ?_
 exact Au
 rintro k hinv N4 h4
 dsimp only at hinv ⊢
 obtain ⟨k1, k2⟩ := hinv
 refine Aa fun N5 h5 => Ac ?_
 refine Az ?_
 refine Ao ?_
 refine Ab (h5 _ (Aa fun N6 h6 => Ak (fun hb7 => ?_) (fun hb7 => ?_))); clear h5
 obtain ⟨x, hxe⟩ := BA (l := l) (i := k) (by omega)
 refine An ?_
 try simp only [Ae]
 refine h6 _ (Aa fun N8 h8 => As ?_); clear h6
 refine Aa fun N9 h9 => Ac ?_
 iterate 2 refine Ad ?_
 have hx := And.intro @hxe (And.intro @eI.eq_1 hx0)
 refine Ab (h9 _ (Aa fun N10 h10 => Ac ?_)); clear h9
 iterate 3 refine Ad ?_
 refine Ar ?_
 refine Aq ?_
 refine Ao ?_
 have hx := hx0
 refine Ab (h10 _ (Ak (fun hb11 => ?_) (fun hb11 => ?_))); clear h10
 refine Aa fun N12 h12 => Ac ?_
 iterate 2 refine Ad ?_
 refine Ab (h12 _ (Am ?_)); clear h12
 try simp only [Ae]
 have hx2 : l[k]? = some n := by rw [hxe, hb11]
 have hr : (if n ∈ l then ((l.idxOf n : Nat) : Int) else -1) = (k : Int) := by rw [if_pos (AB hx2), U9 hx2 k2]
 rw [hr]
 refine Aw ?_
 exact Au
 refine An ?_
 try simp only [Ae]
 refine h8 _ (Ac ?_); clear h8
 refine Ao ?_
 refine Ad ?_
 refine Ab ?_
 refine h4 _ ⟨k + 1, ?_, ?_, [], ?_⟩
 dsimp only
 exact ⟨by omega, Kz hxe k2 (by have := hb11; omega)⟩
 dsimp only
 omega
 dsimp only
 refine ⟨by rfl, ?_, ?_⟩
 refine Aj ?_
 exact Au
 refine Aj ?_
 exact Au
 refine AJ ?_
 simp only [Ae, Nat.reduceEqDiff, reduceIte, eq_self]
 refine h2 _ (Aa fun N13 h13 => Ac ?_); clear h2
 refine Ad ?_
 refine Ab (h13 _ (Am ?_)); clear h13
 try simp only [Ae]
 have hr : (if n ∈ l then ((l.idxOf n : Nat) : Int) else -1) = -1 := by
  rw [List.take_of_length_le (by omega)] at k2; exact if_neg k2
 rw [hr]
 refine Aw ?_
 exact Au
 cases hg
def J3 : Bq Tryz.prog := JN.add 85 (Spec.pure Km) Oi (by kernel_rfl)
theorem Kf : A5 Tryz.prog 73 (Spec.pure Dg) := by
 refine A1 (J3.at_ 9) Tryz.func73 rfl rfl rfl ?_
 intro args p r hg hp
 unfold Dg at hg
 split at hg
 rename_i xs n
 simp only [Option.some.injEq, Prod.mk.injEq] at hg
 obtain ⟨rfl, rfl⟩ := hg
 obtain ⟨he, hl⟩ := hp
 generalize dI xs = l at *
 subst he
 have hT : (J3).X = T := rfl
 have hx0 := @Tryz.results73
 have hx := hx0
 refine ⟨by rfl, ?_⟩
 intro F W0 hnp hmk
 refine Aa fun N1 h1 => Ac ?_
 refine Az ?_
 refine Ad ?_
 have hx := And.intro @AE hx0
 refine Ab (h1 _ (Aa fun N2 h2 => Ac ?_)); clear h1
 iterate 2 refine Ad ?_
 have hc := Ag (E := (J3.at_ 9)) (f := 85) (sp := Spec.pure Km) rfl
 have hs := @Km.eq_1
 refine Ba ?_
 refine Ao ?_
 refine Ad ?_
 have hx := hx0
 refine Ab (h2 _ (Am ?_)); clear h2
 try simp only [Ae]
 have hr : decide (0 ≤ (if n ∈ l then ((l.idxOf n : Nat) : Int) else -1)) = decide (n ∈ l) := by split <;> simp_all
 refine Aw ?_
 ·(repeat' apply And.intro) <;> (first | (first | rfl | (left; rw [← hr]; done) | (rw [← hr]; simp; done) | (simp [← hr]; done)) | exact Au)
 cases hg
def Ht : Bq Tryz.prog := J3.add 73 (Spec.pure Dg) Kf (by kernel_rfl)
def Ow : List AV → Option (Prop × AV)
  | [.d (.int .i64 a), .d (.int .i64 b)] => some (True, .d (.bool (decide (a < b))))
  | _ => none
def Gt : List AV → Option (Prop × AV)
  | [.d (.int .i64 _)] => some (True, .d (.bool false))
  | _ => none
def SU (l : List Int) (n : Int) : Nat := (l.filter fun x => decide (x < n)).length
theorem XT {l : List Int} {n : Int} {k : Nat} (h1 : ∀ x ∈ l.take k, x < n) (h2 : ∀ x ∈ l.drop k, n ≤ x) (hk : k ≤ l.length) : SU l n = k := by
  unfold SU
  conv => lhs; rw [← List.take_append_drop k l]
  rw [List.filter_append, List.filter_eq_self.2 (fun x hx => by simpa using h1 x hx), List.filter_eq_nil_iff.2 (fun x hx => by simpa using h2 x hx), List.append_nil, List.length_take]; omega
theorem Vf {l : List Int} {n : Int} {k : Nat} (h1 : ∀ x ∈ l.take k, x < n) : n ∈ l ↔ n ∈ l.drop k := by
  conv => lhs; rw [← List.take_append_drop k l]
  rw [List.mem_append]
  exact ⟨fun h => by rcases h with h | h; exact absurd (h1 n h) (by omega); exact h, .inr⟩
def Yk : List AV → Option (Prop × AV)
  | [.d (.sl xs), .d (.int .i64 n)] => some (xs = rows eI (dI xs) ∧ (dI xs).Pairwise (· < ·) ∧ (dI xs).length ≤ 1000000000, .tup [.d (.int .i64 (SU (dI xs) n : Nat)), .d (.bool (decide (n ∈ dI xs)))])
  | _ => none
theorem XA {l : List Int} {n x : Int} {m : Nat} (hs : l.Pairwise (· < ·)) (hx : l[m]? = some x) (hxn : x < n) : ∀ y ∈ l.take (m + 1), y < n := by
  intro y hy
  rw [List.take_add_one, hx, List.mem_append] at hy
  rcases hy with hy | hy
  · obtain ⟨h1, h2⟩ := List.getElem?_eq_some_iff.1 hx
    have := List.take_append_drop m l
    rw [← this, List.pairwise_append] at hs
    have := hs.2.2 y hy x (by rw [List.drop_eq_getElem_cons h1, h2]; simp)
    omega
  · simp only [Option.toList_some, List.mem_singleton] at hy; omega
theorem WK {l : List Int} {n x : Int} {m : Nat} (hs : l.Pairwise (· < ·)) (hx : l[m]? = some x) (hxn : n ≤ x) : ∀ y ∈ l.drop m, n ≤ y := by
  obtain ⟨h1, h2⟩ := List.getElem?_eq_some_iff.1 hx
  intro y hy
  have := List.take_append_drop m l
  rw [← this, List.pairwise_append, List.drop_eq_getElem_cons h1, h2] at hs
  rw [List.drop_eq_getElem_cons h1, h2] at hy
  rcases List.mem_cons.1 hy with rfl | hy
  · exact hxn
  · have := (List.pairwise_cons.1 hs.2.1).1 y hy; omega
theorem Rl {lo hi : Nat} (h : lo + hi ≤ 1000000000000) : (IntKind.u64.wrap ((lo : Int) + (hi : Int))).fdiv (2 ^ min 1 IntKind.u64.bits) = (((lo + hi) / 2 : Nat) : Int) := by
  have e : IntKind.u64.wrap ((lo : Int) + (hi : Int)) = ((lo + hi : Nat) : Int) := by
    rw [show (lo : Int) + (hi : Int) = ((lo + hi : Nat) : Int) by omega]
    simp [IntKind.wrap, IntKind.bits, IntKind.signed]; omega
  rw [e]
  have : min 1 IntKind.u64.bits = 1 := by decide
  rw [this, show (2 : Int) ^ 1 = 2 from rfl, Int.fdiv_eq_ediv_of_nonneg _ (by omega)]; omega
theorem Zm {l : List Int} {n x : Int} {k : Nat} (hs : l.Pairwise (· < ·)) (h1 : ∀ y ∈ l.take k, y < n) (h2 : ∀ y ∈ l.drop k, n ≤ y) (hx : l[k]? = some x) : decide (n ∈ l) = decide (x = n) := by
  apply decide_eq_decide.2
  obtain ⟨g1, g2⟩ := List.getElem?_eq_some_iff.1 hx
  rw [Vf h1, List.drop_eq_getElem_cons g1, g2]
  constructor
  · intro h
    rcases List.mem_cons.1 h with h | h
    · exact h.symm
    · have h3 := h2 x (by rw [List.drop_eq_getElem_cons g1, g2]; simp)
      have hd := List.take_append_drop k l
      rw [← hd, List.pairwise_append, List.drop_eq_getElem_cons g1, g2] at hs
      have := (List.pairwise_cons.1 hs.2.1).1 n h
      omega
  · rintro rfl; simp
theorem Yl {l : List Int} {n : Int} {k : Nat} (h1 : ∀ y ∈ l.take k, y < n) (hk : l.length ≤ k) : decide (n ∈ l) = false := by
  apply decide_eq_false
  rw [Vf h1, List.drop_eq_nil_of_le hk]; simp
theorem Qi : A5 Tryz.prog 101 (Spec.pure Gt) := by
 refine A1 (Ht.at_ 6) Tryz.func101 rfl rfl rfl ?_
 intro args p r hg hp
 unfold Gt at hg
 split at hg
 rename_i n
 simp only [Option.some.injEq, Prod.mk.injEq] at hg
 obtain ⟨rfl, rfl⟩ := hg
 have hT : (Ht).X = T := rfl
 have hx0 := @Tryz.results101
 have hx := hx0
 refine ⟨by rfl, ?_⟩
 intro F W0 hnp hmk
 refine Aa fun N1 h1 => Ac ?_
 refine Az ?_
 refine Ad ?_
 refine Ab (h1 _ (Aa fun N2 h2 => Ac ?_)); clear h1
 iterate 2 refine Ad ?_
 refine Ao ?_
 refine Ad ?_
 refine Ab (h2 _ (Am ?_)); clear h2
 try simp only [Ae]
 refine Aw ?_
 ·(repeat' apply And.intro) <;> (first | (first | rfl | (simp; done)) | exact Au)
 cases hg
def Pq : Bq Tryz.prog := Ht.add 101 (Spec.pure Gt) Qi (by kernel_rfl)
theorem Qh : A5 Tryz.prog 117 (Spec.pure Gt) := by
 refine A1 (Pq.at_ 6) Tryz.func117 rfl rfl rfl ?_
 intro args p r hg hp
 unfold Gt at hg
 split at hg
 rename_i n
 simp only [Option.some.injEq, Prod.mk.injEq] at hg
 obtain ⟨rfl, rfl⟩ := hg
 have hT : (Pq).X = T := rfl
 have hx0 := @Tryz.results117
 have hx := hx0
 refine ⟨by rfl, ?_⟩
 intro F W0 hnp hmk
 refine Aa fun N1 h1 => Ac ?_
 refine Az ?_
 refine Ad ?_
 refine Ab (h1 _ (Aa fun N2 h2 => Ac ?_)); clear h1
 iterate 2 refine Ad ?_
 refine Ao ?_
 refine Ad ?_
 refine Ab (h2 _ (Am ?_)); clear h2
 try simp only [Ae]
 refine Aw ?_
 ·(repeat' apply And.intro) <;> (first | (first | rfl | (simp; done)) | exact Au)
 cases hg
def JP : Bq Tryz.prog := Pq.add 117 (Spec.pure Gt) Qh (by kernel_rfl)
theorem PZ : A5 Tryz.prog 100 (Spec.pure Ow) := by
 refine A1 (JP.at_ 17) Tryz.func100 rfl rfl rfl ?_
 intro args p r hg hp
 unfold Ow at hg
 split at hg
 rename_i a b
 simp only [Option.some.injEq, Prod.mk.injEq] at hg
 obtain ⟨rfl, rfl⟩ := hg
 have hT : (JP).X = T := rfl
 have hx0 := @Tryz.results100
 have hx := hx0
 refine ⟨by rfl, ?_⟩
 intro F W0 hnp hmk
 refine Aa fun N1 h1 => Ac ?_
 refine Az ?_
 refine Ad ?_
 refine Ab (h1 _ (Aa fun N2 h2 => Ac ?_)); clear h1
 refine Ad ?_
 have hc := Ag (E := (JP.at_ 17)) (f := 117) (sp := Spec.pure Gt) rfl
 have hs := @Gt.eq_1
 refine Ba ?_
 refine Ad ?_
 refine Cw ?_
 have hc := Ag (E := (JP.at_ 17)) (f := 117) (sp := Spec.pure Gt) rfl
 have hs := @Gt.eq_1
 refine H3 ?_
 refine KW ?_
 refine AH ?_
 refine Ad ?_
 iterate 2 refine Cw ?_
 refine CD ?_
 refine AH ?_
 refine Ad ?_
 refine Ab (h2 _ (Am ?_)); clear h2
 try simp only [Ae]
 refine Aw ?_
 exact Au
 cases hg
def Gz : Bq Tryz.prog := JP.add 100 (Spec.pure Ow) PZ (by kernel_rfl)
theorem Uh : A5 Tryz.prog 87 (Spec.pure Yk) := by
 refine A1 (Gz.at_ 54) Tryz.func87 rfl rfl rfl ?_
 intro args p r hg hp
 unfold Yk at hg
 split at hg
 rename_i xs n
 simp only [Option.some.injEq, Prod.mk.injEq] at hg
 obtain ⟨rfl, rfl⟩ := hg
 obtain ⟨he, hso, hl⟩ := hp
 generalize dI xs = l at *
 subst he
 have hT : (Gz).X = T := rfl
 have hx0 := And.intro @Ci (And.intro @Ch @Tryz.results87)
 have hx := hx0
 refine ⟨by rfl, ?_⟩
 intro F W0 hnp hmk
 refine Aa fun N1 h1 => Ac ?_
 refine Az ?_
 iterate 2 refine Ad ?_
 refine Ab (h1 _ (Aa fun N2 h2 => Ac ?_)); clear h1
 refine Ad ?_
 refine AU ?_
 refine Ad ?_
 refine Ab (h2 _ (Aa fun N3 h3 => Ac ?_)); clear h2
 iterate 3 refine Ad ?_
 refine Ab (h3 _ (Aa fun N4 h4 => As ?_)); clear h3
 refine A3 (σ := Nat × Nat) (fun s => (fun lo hi => lo ≤ hi ∧ hi ≤ l.length ∧ (∀ x ∈ l.take lo, x < n) ∧ ∀ x ∈ l.drop hi, n ≤ x) (s.1) (s.2))
  (fun s => (fun lo hi => [(0, .d (.sl (rows eI l))), (1, .d (.int .i64 n)), (6, .d (.int .i64 (l.length : Nat))), (7, .d (.int .i64 (lo : Nat))), (8, .d (.int .i64 (hi : Nat)))]) (s.1) (s.2))
  (fun s => (fun lo hi => []) (s.1) (s.2)) (fun s => (fun lo hi => hi - lo) (s.1) (s.2)) hnp (0, l.length) ?_ [] ?_ ?_
 dsimp only
 simp
 dsimp only
 refine ⟨by rfl, ?_, ?_⟩
 refine Aj ?_
 exact Au
 refine Aj ?_
 exact Au
 rintro ⟨lo, hi⟩ hinv N5 h5
 dsimp only at hinv ⊢
 obtain ⟨i1, i2, i3, i4⟩ := hinv
 refine Aa fun N6 h6 => ?_
 refine Aa fun N7 h7 => Ac ?_
 refine Az ?_
 iterate 2 refine Ad ?_
 refine Ao ?_
 refine Ab (h7 _ (Ak (fun hb8 => ?_) (fun hb8 => ?_))); clear h7
 have hmid := Rl (lo := lo) (hi := hi) (by omega)
 obtain ⟨x, hxe⟩ := BA (l := l) (i := (lo + hi) / 2) (by omega)
 refine An ?_
 try simp only [Ae]
 refine h6 _ (As ?_); clear h6
 have hx := And.intro @hmid hx0
 refine Aa fun N9 h9 => Ac ?_
 iterate 2 refine Ad ?_
 refine Ao ?_
 refine Wk ?_
 refine Ao ?_
 refine Wk ?_
 refine Ad ?_
 have hx := And.intro @hxe (And.intro @eI.eq_1 hx0)
 refine Ab (h9 _ (Aa fun N10 h10 => Ac ?_)); clear h9
 iterate 2 refine Ad ?_
 refine Ar ?_
 refine Aq ?_
 refine Ad ?_
 have hc := Ag (E := (Gz.at_ 54)) (f := 100) (sp := Spec.pure Ow) rfl
 have hs := @Ow.eq_1
 refine Ba ?_
 have hx := hx0
 refine Ab (h10 _ (Ak (fun hb11 => ?_) (fun hb11 => ?_))); clear h10
 refine Ac ?_
 refine Ad ?_
 refine Ao ?_
 refine Ad ?_
 refine Ab ?_
 refine h5 _ ⟨((lo + hi) / 2 + 1, hi), ?_, ?_, [], ?_⟩
 dsimp only
 exact ⟨by omega, by omega, XA hso hxe hb11, i4⟩
 dsimp only
 omega
 dsimp only
 refine ⟨by rfl, ?_, ?_⟩
 refine Aj ?_
 exact Au
 refine Aj ?_
 exact Au
 refine Ac ?_
 iterate 2 refine Ad ?_
 refine Ab ?_
 refine h5 _ ⟨(lo, (lo + hi) / 2), ?_, ?_, [], ?_⟩
 dsimp only
 exact ⟨by omega, by omega, i3, WK hso hxe (by have := hb11; omega)⟩
 dsimp only
 omega
 dsimp only
 refine ⟨by rfl, ?_, ?_⟩
 refine Aj ?_
 exact Au
 refine Aj ?_
 exact Au
 have hlh : lo = hi := by omega
 subst hlh
 refine AJ ?_
 simp only [Ae, Nat.reduceEqDiff, reduceIte, eq_self]
 refine h4 _ (Aa fun N12 h12 => ?_); clear h4
 rcases Nat.lt_or_ge lo l.length with hk | hk
 obtain ⟨x, hxe⟩ := BA hk
 have hk' : decide ((lo : Int) < (l.length : Int)) = true := by simp; omega
 have hx := And.intro @hxe (And.intro @hk' (And.intro @eI.eq_1 hx0))
 refine Ac ?_
 iterate 3 refine Ad ?_
 refine Ao ?_
 refine Ad ?_
 iterate 2 refine Cw ?_
 refine B9 ?_
 refine B8 ?_
 refine Cw ?_
 refine CD ?_
 iterate 3 refine Cw ?_
 refine B9 ?_
 refine B8 ?_
 have hc := Ag (E := (Gz.at_ 54)) (f := 101) (sp := Spec.pure Gt) rfl
 have hs := @Gt.eq_1
 refine H3 ?_
 iterate 2 refine Cw ?_
 have hc := Ag (E := (Gz.at_ 54)) (f := 101) (sp := Spec.pure Gt) rfl
 have hs := @Gt.eq_1
 refine H3 ?_
 iterate 2 refine Z0 ?_
 refine AH ?_
 iterate 2 refine Ad ?_
 have hx := hx0
 refine Ab (h12 _ (Am ?_)); clear h12
 try simp only [Ae]
 have hr := Zm hso i3 i4 hxe
 have hr2 := XT i3 i4 i2
 rw [hr, hr2]
 refine Aw ?_
 exact Au
 have hxe : l[lo]? = none := List.getElem?_eq_none hk
 have hk' : decide ((lo : Int) < (l.length : Int)) = false := by simp; omega
 have hx := And.intro @hxe (And.intro @hk' (And.intro @eI.eq_1 hx0))
 refine Ac ?_
 iterate 3 refine Ad ?_
 refine Ao ?_
 refine Ad ?_
 iterate 2 refine Cw ?_
 refine B9 ?_
 refine B8 ?_
 refine Cw ?_
 refine CD ?_
 iterate 3 refine Cw ?_
 refine B9 ?_
 refine B8 ?_
 have hc := Ag (E := (Gz.at_ 54)) (f := 101) (sp := Spec.pure Gt) rfl
 have hs := @Gt.eq_1
 refine H3 ?_
 iterate 2 refine Cw ?_
 have hc := Ag (E := (Gz.at_ 54)) (f := 101) (sp := Spec.pure Gt) rfl
 have hs := @Gt.eq_1
 refine H3 ?_
 iterate 2 refine Z0 ?_
 refine AH ?_
 iterate 2 refine Ad ?_
 have hx := hx0
 refine Ab (h12 _ (Am ?_)); clear h12
 try simp only [Ae]
 have hr := Yl i3 hk
 have hr2 := XT i3 i4 i2
 rw [hr, hr2]
 refine Aw ?_
 exact Au
 cases hg
def Yc : Bq Tryz.prog := Gz.add 87 (Spec.pure Yk) Uh (by kernel_rfl)
