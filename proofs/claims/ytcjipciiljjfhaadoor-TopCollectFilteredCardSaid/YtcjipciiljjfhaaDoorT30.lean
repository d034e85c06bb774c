/- Walks, printed by wip/gen/walk.py. -/
import Derived.Test.YtcjipciiljjfhaaDoorT22
import Derived.Test.YtcjipciiljjfhaaDoorV5
set_option linter.all false
set_option maxRecDepth 100000
set_option maxHeartbeats 4000000
namespace Go.Proofs.YtcjipciiljjfhaaDoor
open Go Go.Vc Go.RowKit
/-- The parts between slashes. -/
def cpsA : List UInt8 → List UInt8 → List (List UInt8)
  | now, [] => [now]
  | now, c :: s => if c = 47 then now :: cpsA [] s else cpsA (now ++ [c]) s
def cps (s : List UInt8) : List (List UInt8) := cpsA [] s
def okB (b : UInt8) : Bool := decide ((97 ≤ b.toNat ∧ b.toNat ≤ 122) ∨ (48 ≤ b.toNat ∧ b.toNat ≤ 57) ∨ b.toNat = 45 ∨ b.toNat = 95 ∨ b.toNat = 46)
def dots : List UInt8 → Bool
  | [] => false
  | [_] => false
  | a :: b :: s => (a == 46 && b == 46) || dots (b :: s)
def lockS : List UInt8 := [46, 108, 111, 99, 107]
def cpOk (x : List UInt8) : Bool := !(decide (x = [])) && !(decide (x.head? = some 46)) && !(lockS.isSuffixOf x) && !(dots x) && x.all okB
def nameB (n : List UInt8) : Bool := decide (n.length ≤ 60) && (cps n).all cpOk
def preS (a b : List UInt8) : Bool := (b ++ [47]).isPrefixOf a
def cnfB (a b : List UInt8) : Bool := preS a b || preS b a
theorem cpsA_cons (now : List UInt8) : ∀ s : List UInt8, ∃ x l, cpsA [] s = x :: l ∧ cpsA now s = (now ++ x) :: l
  | s => by
    suffices h : ∀ (s : List UInt8) (a b : List UInt8), ∃ x l, cpsA b s = (b ++ x) :: l ∧ cpsA (a ++ b) s = (a ++ b ++ x) :: l by
      obtain ⟨x, l, h1, h2⟩ := h s now []
      rw [List.append_nil] at h2
      exact ⟨x, l, h1, h2⟩
    intro s
    induction s with
    | nil => intro a b; exact ⟨[], [], by simp [cpsA], by simp [cpsA]⟩
    | cons c s ih =>
      intro a b
      by_cases hc : c = 47
      · exact ⟨[], cpsA [] s, by simp [cpsA, hc], by simp [cpsA, hc]⟩
      · obtain ⟨x, l, h1, h2⟩ := ih a (b ++ [c])
        refine ⟨c :: x, l, ?_, ?_⟩
        · simp only [cpsA, if_neg hc]; rw [h1]; simp
        · simp only [cpsA, if_neg hc]; rw [List.append_assoc, h2]; simp
theorem cpsA_ne (now s : List UInt8) : cpsA now s ≠ [] := by
  obtain ⟨x, l, _, h⟩ := cpsA_cons now s
  rw [h]; simp
theorem cps_slash (now u v : List UInt8) (h : 47 ∉ u) : cpsA now (u ++ 47 :: v) = (now ++ u) :: cps v := by
  induction u generalizing now with
  | nil => simp [cpsA, cps]
  | cons c u ih =>
    have hc : c ≠ 47 := fun e => h (by simp [e])
    rw [List.cons_append]
    simp only [cpsA, if_neg hc]
    rw [ih _ (fun hm => h (by simp [hm]))]
    simp
theorem cps_none (now u : List UInt8) (h : 47 ∉ u) : cpsA now u = [now ++ u] := by
  induction u generalizing now with
  | nil => simp [cpsA]
  | cons c u ih =>
    have hc : c ≠ 47 := fun e => h (by simp [e])
    simp only [cpsA, if_neg hc]
    rw [ih _ (fun hm => h (by simp [hm]))]
    simp
theorem cpsA_app (now u v : List UInt8) : cpsA now (u ++ 47 :: v) = cpsA now u ++ cps v := by
  induction u generalizing now with
  | nil => simp [cpsA, cps]
  | cons c u ih =>
    rw [List.cons_append]
    by_cases hc : c = 47
    · simp only [cpsA, if_pos hc]; rw [ih]; rfl
    · simp only [cpsA, if_neg hc]; rw [ih]
theorem cps_app (u v : List UInt8) : cps (u ++ 47 :: v) = cps u ++ cps v := cpsA_app [] u v
/-- Put together again. -/
def joinS : List (List UInt8) → List UInt8
  | [] => []
  | [x] => x
  | x :: y :: l => x ++ 47 :: joinS (y :: l)
theorem joinS_cons (x : List UInt8) {l : List (List UInt8)} (h : l ≠ []) : joinS (x :: l) = x ++ 47 :: joinS l := by
  cases l with
  | nil => exact absurd rfl h
  | cons y l => rfl
theorem joinS_app (l : List (List UInt8)) {m : List (List UInt8)} (hl : l ≠ []) (h : m ≠ []) : joinS (l ++ m) = joinS l ++ 47 :: joinS m := by
  induction l with
  | nil => exact absurd rfl hl
  | cons x l ih =>
    cases l with
    | nil => rw [List.singleton_append, joinS_cons x h]; rfl
    | cons y l =>
      rw [List.cons_append, joinS_cons x (by simp), ih (by simp), joinS_cons x (by simp)]; simp
theorem joinS_cpsA (now s : List UInt8) : joinS (cpsA now s) = now ++ s := by
  induction s generalizing now with
  | nil => simp [cpsA, joinS]
  | cons c s ih =>
    by_cases hc : c = 47
    · simp only [cpsA, if_pos hc]; rw [joinS_cons _ (cpsA_ne _ _), ih, hc]; simp
    · simp only [cpsA, if_neg hc]; rw [ih]; simp
theorem preS_iff (a b : List UInt8) : preS a b = true ↔ ∃ l, l ≠ [] ∧ cps a = cps b ++ l := by
  unfold preS
  rw [List.isPrefixOf_iff_prefix]
  constructor
  · rintro ⟨t, rfl⟩
    refine ⟨cps t, cpsA_ne _ _, ?_⟩
    rw [List.append_assoc, List.singleton_append, cps_app]
  · rintro ⟨l, hl, h⟩
    have h1 : joinS (cps a) = a := joinS_cpsA [] a
    have h2 : joinS (cps b) = b := joinS_cpsA [] b
    rw [h, joinS_app _ (show cps b ≠ [] from cpsA_ne _ _) hl, h2] at h1
    exact ⟨joinS l, by rw [← h1]; simp⟩
theorem cnf_pre {l m : List (List UInt8)} (h : l.length < m.length) : l.take (min l.length m.length) = m.take (min l.length m.length) ↔ ∃ r, r ≠ [] ∧ m = l ++ r := by
  rw [Nat.min_eq_left (by omega), List.take_length]
  constructor
  · intro e
    refine ⟨m.drop l.length, fun hh => ?_, ?_⟩
    · have := congrArg List.length hh; rw [List.length_drop] at this; simp at this; omega
    · conv => lhs; rw [← List.take_append_drop l.length m, ← e]
  · rintro ⟨r, _, rfl⟩; simp
/-- The reference's words. -/
theorem cnfB_is (a b : List UInt8) : cnfB a b = (decide ((cps a).length ≠ (cps b).length) && decide ((cps a).take (min (cps a).length (cps b).length) = (cps b).take (min (cps a).length (cps b).length))) := by
  unfold cnfB
  rw [Bool.eq_iff_iff]
  simp only [Bool.or_eq_true, Bool.and_eq_true, decide_eq_true_eq, preS_iff]
  constructor
  · rintro (⟨l, hl, h⟩ | ⟨l, hl, h⟩)
    · have h1 : (cps b).length < (cps a).length := by rw [h, List.length_append]; have := List.length_pos_iff.2 hl; omega
      refine ⟨by omega, ?_⟩
      rw [Nat.min_comm]; exact ((cnf_pre h1).2 ⟨l, hl, h⟩).symm
    · have h1 : (cps a).length < (cps b).length := by rw [h, List.length_append]; have := List.length_pos_iff.2 hl; omega
      exact ⟨by omega, (cnf_pre h1).2 ⟨l, hl, h⟩⟩
  · rintro ⟨h1, h2⟩
    rcases Nat.lt_or_gt_of_ne h1 with h | h
    · exact .inr ((cnf_pre h).1 h2)
    · rw [Nat.min_comm] at h2; exact .inl ((cnf_pre h).1 h2.symm)
theorem dots_iff (x : List UInt8) : dots x = true ↔ ∃ j : Nat, x[j]? = some 46 ∧ x[j + 1]? = some 46 := by
  induction x with
  | nil => simp [dots]
  | cons a x ih =>
    cases x with
    | nil => simp [dots]
    | cons b x =>
      unfold dots
      rw [Bool.or_eq_true, ih]
      constructor
      · rintro (h | ⟨j, h1, h2⟩)
        · simp at h; exact ⟨0, by simp [h.1], by simp [h.2]⟩
        · exact ⟨j + 1, by simpa using h1, by simpa using h2⟩
      · rintro ⟨j, h1, h2⟩
        cases j with
        | zero => left; simp at h1 h2; simp [h1, h2]
        | succ j => right; exact ⟨j, by simpa using h1, by simpa using h2⟩
theorem dots_contains (x : List UInt8) : Lib.contains x [46, 46] = dots x := by
  have key : ∀ j, Lib.occAt x [46, 46] j = true ↔ x[j]? = some 46 ∧ x[j + 1]? = some 46 := fun j => by
    unfold Lib.occAt
    have e0 : x[j]? = (x.drop j)[0]? := by rw [List.getElem?_drop]; simp
    have e1 : x[j + 1]? = (x.drop j)[1]? := by rw [List.getElem?_drop]
    rw [e0, e1]
    match x.drop j with
    | [] => simp
    | [a] => simp
    | a :: b :: l => simp only [List.isPrefixOf, List.getElem?_cons_zero, List.getElem?_cons_succ, Option.some.injEq, Bool.and_eq_true, beq_iff_eq, Bool.and_true]; exact ⟨fun h => ⟨h.1.symm, h.2.symm⟩, fun h => ⟨h.1.symm, h.2.symm⟩⟩
  rw [Bool.eq_iff_iff, dots_iff]
  unfold Lib.contains
  rw [decide_eq_true_eq]
  rcases Lib.index_spec x [46, 46] with ⟨h1, h2⟩ | ⟨i, h1, h2, h3, _⟩
  · rw [h1]
    constructor
    · intro h; omega
    · rintro ⟨j, h⟩
      have hj : j ≤ x.length := by have := (List.getElem?_eq_some_iff.1 h.1).1; omega
      have := (key j).2 h
      rw [h2 j hj] at this; cases this
  · rw [h1]
    exact ⟨fun _ => ⟨i, (key i).1 h3⟩, fun _ => by omega⟩
theorem dropWhile_nil {α : Type} {p : α → Bool} {l : List α} : l.dropWhile p = [] ↔ l.all p = true := by
  induction l with
  | nil => simp
  | cons a l ih => rw [List.dropWhile_cons, List.all_cons]; cases h : p a <;> simp [ih]
theorem trim_nil (x cs : List UInt8) : Lib.trimS x cs = [] ↔ x.all (cs.contains ·) = true := by
  unfold Lib.trimS Lib.trimLeftS
  rw [dropWhile_nil]
  unfold Lib.trimRightS
  rw [List.all_reverse]
  constructor
  · intro h
    have h2 : (x.reverse.dropWhile (cs.contains ·)) = [] := by
      cases hd : x.reverse.dropWhile (cs.contains ·) with
      | nil => rfl
      | cons a l =>
        rw [hd] at h
        have := List.head?_dropWhile_not (cs.contains ·) x.reverse
        rw [hd] at this
        simp at this
        simp at h
        simp_all
    rw [dropWhile_nil, List.all_reverse] at h2
    exact h2
  · intro h
    have h2 : (x.reverse.dropWhile (cs.contains ·)) = [] := by rw [dropWhile_nil, List.all_reverse]; exact h
    rw [h2]; rfl
def cutS : List UInt8 := [97,98,99,100,101,102,103,104,105,106,107,108,109,110,111,112,113,114,115,116,117,118,119,120,121,122,48,49,50,51,52,53,54,55,56,57,45,95,46]
theorem cutS_is (b : UInt8) : cutS.contains b = okB b := by
  have h : ∀ n : Fin 256, cutS.contains (UInt8.ofNat n.val) = okB (UInt8.ofNat n.val) := by decide +kernel
  have := h ⟨b.toNat, b.toNat_lt⟩
  simpa using this
theorem trim_ok (x : List UInt8) : decide (Lib.trimS x cutS = []) = x.all okB := by
  rw [Bool.eq_iff_iff, decide_eq_true_eq, trim_nil, show (fun b => cutS.contains b) = okB from funext cutS_is]

theorem cps_no (s : List UInt8) : ∀ x ∈ cps s, 47 ∉ x := by
  suffices h : ∀ (s now : List UInt8), 47 ∉ now → ∀ x ∈ cpsA now s, 47 ∉ x from h s [] (by simp)
  intro s
  induction s with
  | nil => intro now h x hx; simp [cpsA] at hx; rw [hx]; exact h
  | cons c s ih =>
    intro now h x hx
    unfold cpsA at hx
    split at hx
    · rcases List.mem_cons.1 hx with rfl | hx
      · exact h
      · exact ih [] (by simp) x hx
    · rename_i hc
      exact ih _ (by simp only [List.mem_append, List.mem_singleton, not_or]; exact ⟨h, fun e => hc e.symm⟩) x hx
theorem idx_sl {x : List UInt8} (h : 47 ∉ x) (t : List UInt8) : Lib.indexByte (x ++ 47 :: t) 47 = (x.length : Nat) := by
  induction x with
  | nil => rfl
  | cons a x ih =>
    have ha : (a == 47) = false := by rw [beq_eq_false_iff_ne]; exact fun e => h (by simp [e])
    have := ih (fun e => h (by simp [e]))
    rw [List.cons_append]; unfold Lib.indexByte
    rw [ha, this]
    have e : (((x.length : Nat) : Int) == -1) = false := by rw [beq_eq_false_iff_ne]; omega
    simp [e]
theorem idx_no {x : List UInt8} (h : 47 ∉ x) : Lib.indexByte x 47 = -1 := by
  induction x with
  | nil => rfl
  | cons a x ih =>
    have ha : (a == 47) = false := by rw [beq_eq_false_iff_ne]; exact fun e => h (by simp [e])
    unfold Lib.indexByte
    rw [ha, ih (fun e => h (by simp [e]))]; rfl
/-- What is left before part k. -/
def restS (s : List UInt8) (k : Nat) : List UInt8 := joinS ((cps s).drop k)
theorem restS_zero (s : List UInt8) : restS s 0 = s := by unfold restS; rw [List.drop_zero]; exact joinS_cpsA [] s
theorem restS_cut {s : List UInt8} {k : Nat} (h : k < (cps s).length) : ∃ x, (cps s)[k]? = some x ∧ 47 ∉ x ∧
    ((k + 1 < (cps s).length ∧ restS s k = x ++ 47 :: restS s (k + 1)) ∨ (k + 1 = (cps s).length ∧ restS s k = x)) := by
  refine ⟨(cps s)[k], List.getElem?_eq_getElem h, cps_no s _ (List.getElem_mem h), ?_⟩
  unfold restS
  rw [List.drop_eq_getElem_cons h]
  by_cases h2 : k + 1 < (cps s).length
  · left
    refine ⟨h2, joinS_cons _ ?_⟩
    intro e
    have := congrArg List.length e
    rw [List.length_drop] at this; simp at this; omega
  · right
    refine ⟨by omega, ?_⟩
    rw [List.drop_of_length_le (by omega)]; rfl
theorem restS_len {s : List UInt8} {k : Nat} : (restS s k).length ≤ s.length := by
  induction k with
  | zero => rw [restS_zero]; exact Nat.le_refl _
  | succ k ih =>
    rcases Nat.lt_or_ge k (cps s).length with h | h
    · obtain ⟨x, _, _, ⟨_, h2⟩ | ⟨h1, _⟩⟩ := restS_cut h
      · have := congrArg List.length h2; simp at this; omega
      · unfold restS; rw [List.drop_of_length_le (by omega)]; simp [joinS]
    · unfold restS; rw [List.drop_of_length_le (by omega)]; simp [joinS]
theorem cps_le {s x : List UInt8} (h : x ∈ cps s) : x.length ≤ s.length := by
  obtain ⟨k, hk⟩ := List.getElem?_of_mem h
  obtain ⟨y, hy, _, ⟨_, h2⟩ | ⟨_, h2⟩⟩ := restS_cut (List.getElem?_eq_some_iff.1 hk).1
  · rw [hk] at hy; cases hy
    have := congrArg List.length h2; have := restS_len (s := s) (k := k); simp at *; omega
  · rw [hk] at hy; cases hy
    have := restS_len (s := s) (k := k); rw [h2] at this; exact this
theorem cps_pos (s : List UInt8) : 0 < (cps s).length := List.length_pos_iff.2 (cpsA_ne _ _)
theorem cps_few (s : List UInt8) : (cps s).length ≤ s.length + 1 := by
  suffices h : ∀ (s now : List UInt8), (cpsA now s).length ≤ s.length + 1 from h s []
  intro s
  induction s with
  | nil => intro now; simp [cpsA]
  | cons c s ih => intro now; unfold cpsA; split <;> simp only [List.length_cons] <;> have := ih <;> (first | exact Nat.succ_le_succ (ih []) | exact Nat.le_trans (ih _) (by omega))
/-- A reference; the first fault of a set of references. -/
structure Rf where
  nm : List UInt8
  tg : Int
  deriving DecidableEq, Inhabited
def rfC (l : List Rf) (i : Nat) : Int :=
  if nameB (l.getD i default).nm = false then 12 else if (l.getD i default).tg < 0 ∨ 2305843009213693951 ≤ (l.getD i default).tg then 3
  else if 0 < i ∧ (Op.bytesLess (l.getD i default).nm (l.getD (i - 1) default).nm || decide ((l.getD i default).nm = (l.getD (i - 1) default).nm)) = true then 5
  else if ((l.take i).any fun r => cnfB r.nm (l.getD i default).nm) = true then 19 else 0
def rfF (l : List Rf) : Int × Int := if 30 < l.length then (2, -1) else firstF (rfC l) nI l.length
def eR (r : Rf) : List D := [.str r.nm, .int .i64 r.tg]
def dR1 : List D → Rf
  | [.str s, .int _ t] => ⟨s, t⟩
  | _ => ⟨[], 0⟩
def dR (xs : List (List D)) : List Rf := xs.map dR1
theorem dR_rows (l : List Rf) : dR (rows eR l) = l := by
  simp only [dR, rows, List.map_map]
  conv => rhs; rw [← List.map_id l]
  exact List.map_congr_left fun c _ => rfl
theorem rect_eR (l : List Rf) : Rect 2 (rows eR l) = True := eq_true (rows_rect (f := eR) (fun _ => rfl) l)
def smallR (l : List Rf) : Prop := ∀ r ∈ l, r.nm.length ≤ 9223372036854775807

theorem HeapOk.below [Far] {W0 : World} {M0 : Nat → Prop} {H : Heap} {n : Nat} {w w' : World} {S : Lays} (hH : HeapOk W0 M0 H n w S) (h : Go.RowKit.Below w.heap.size w w') : HeapOk W0 M0 H n w' S ∧ Ext w S n w' S n := by
  have hs : ∀ b, b < w.heap.size → w'.heap[b]? = w.heap[b]? := fun b hb => h.block b hb
  have hE : Ext w S n w' S n := ⟨Nat.le_refl _, h.size, fun _ _ => .inl rfl, fun _ _ h => h, fun b hb _ => hs b hb⟩
  refine ⟨⟨hH.bnd, fun i l b h1 h2 => Nat.lt_of_lt_of_le (hH.lt2 i l b h1 h2) h.size, fun id b hb => ?_, hH.inj2, hH.nod, hH.plain, hH.mut2, h.os.trans hH.os, h.tape.trans hH.tape, h.output.trans hH.output, Nat.le_trans hH.size h.size, fun b hb hM => (hs b (Nat.lt_of_lt_of_le hb hH.size)).trans (hH.same b hb hM), fun b hb => ⟨(hH.far b hb).1, (hH.far b hb).2⟩, hH.pin, hH.glx hE⟩, hE⟩
  obtain ⟨l, hl, hb'⟩ := hH.box id b hb
  exact ⟨l, hl, hb'.ext hE (fun k hk => hs k (hH.lt2 id l k hl hk))⟩
theorem meets_below {P : Program} {f : FuncId} {g : List AV → Option (Prop × AV)} (h : ∀ args p r, g args = some (p, r) → p → ∀ [Far] (H : Heap) (n : Nat) (w : World) (S : Lays) (vs : List Value), HeapOk w (liveB H S) H n w S → vs.length = args.length → (∀ (i : Nat) (c : AV) (u : Value), args[i]? = some c → vs[i]? = some u → R w S n c u) →
    Calls P f vs.toArray w fun e w' => ∃ v, e = .returned v ∧ Go.RowKit.Below w.heap.size w w' ∧ R w' S n r v) : Meets P f (Spec.pure g) := by
  intro args H n p r o hrun hp F w S vs hH hl hr
  simp only [Spec.pure] at hrun
  split at hrun
  · rename_i p' r' hg
    simp only [Option.some.injEq, Prod.mk.injEq] at hrun
    obtain ⟨rfl, rfl, rfl⟩ := hrun
    refine (h args p' r' hg hp H n w S vs hH hl hr).mono ?_
    rintro e w' ⟨v, rfl, hb, hR⟩
    obtain ⟨h1, e1⟩ := HeapOk.below hH hb
    exact ⟨v, S, rfl, ⟨h1, e1, fun _ _ _ => rfl, fun i hi _ => hH.bnd i hi⟩, fun _ => ⟨rfl, fun b hb' => hb.block b hb'⟩, hR⟩
  · cases hrun
def hpreG : List AV → Option (Prop × AV)
  | [.d (.str s), .d (.str p)] => some (True, .d (.bool (p.isPrefixOf s)))
  | _ => none
def hsufG : List AV → Option (Prop × AV)
  | [.d (.str s), .d (.str p)] => some (s.length ≤ 1000000000, .d (.bool (p.isSuffixOf s)))
  | _ => none
def contG : List AV → Option (Prop × AV)
  | [.d (.str s), .d (.str p)] => some (s.length ≤ 1000000000, .d (.bool (Lib.contains s p)))
  | _ => none
def trimG : List AV → Option (Prop × AV)
  | [.d (.str s), .d (.str c)] => some (s.length ≤ 1000000000 ∧ c = cutS, .d (.str (Lib.trimS s c)))
  | _ => none
def cfnG : List AV → Option (Prop × AV)
  | [.d (.str s), .clo (.func 52) []] => some (s.length ≤ 1000000000 ∧ s.all okB = true, .d (.bool false))
  | _ => none
theorem str2 {P : Program} {f : FuncId} [Far] {w : World} {S : Lays} {n : Nat} {s p : List UInt8} {vs : List Value} (hl : vs.length = 2) (hr : ∀ (i : Nat) (c : AV) (u : Value), [AV.d (.str s), .d (.str p)][i]? = some c → vs[i]? = some u → R w S n c u) :
    vs = [.string ⟨s.toArray⟩, .string ⟨p.toArray⟩] := by
  match vs, hl with
  | [u, v], _ =>
    have h1 := R.str_iff.1 (hr 0 _ u rfl rfl)
    have h2 := R.str_iff.1 (hr 1 _ v rfl rfl)
    rw [h1, h2]
theorem hpre_meets : Meets Tryd.prog 54 (Spec.pure hpreG) := by
 refine meets_below fun args p r hg hp F H n w S vs hH hl hr => ?_
 unfold hpreG at hg
 split at hg
 ·simp only [Option.some.injEq, Prod.mk.injEq] at hg
  obtain ⟨rfl, rfl⟩ := hg
  rw [str2 (P := Tryd.prog) (f := 0) hl hr]
  refine (Any.strings_HasPrefix Tryd.lays99 _ _ w).mono ?_
  rintro e w' ⟨rfl, rfl⟩
  exact ⟨_, rfl, Go.RowKit.Below.refl _ _, R.mkBool _⟩
 ·cases hg
theorem hsuf_meets : Meets Tryd.prog 48 (Spec.pure hsufG) := by
 refine meets_below fun args p r hg hp F H n w S vs hH hl hr => ?_
 unfold hsufG at hg
 split at hg
 ·simp only [Option.some.injEq, Prod.mk.injEq] at hg
  obtain ⟨rfl, rfl⟩ := hg
  rw [str2 (P := Tryd.prog) (f := 0) hl hr]
  refine (Any.strings_HasSuffix Tryd.lays100 _ _ w (Nat.le_trans hp (by decide))).mono ?_
  rintro e w' ⟨rfl, rfl⟩
  exact ⟨_, rfl, Go.RowKit.Below.refl _ _, R.mkBool _⟩
 ·cases hg
theorem mx_at [Far] {W0 : World} {M0 : Nat → Prop} {H : Heap} {n : Nat} {w : World} {S : Lays} (hH : HeapOk W0 M0 H n w S) : w.cell? ⟨2, 0, none⟩ = some (.int .i64 Far.mx) := by
  have h := hH.gl (2, [.int .i64 Far.mx]) (by unfold globs; simp)
  cases h with | ptr _ b o u hb hO hc hr =>
  have h1 := hc 0 _ rfl
  have h2 := hr 0 _ rfl
  generalize u 0 = z at h1 h2
  cases h2
  exact h1
theorem cont_meets : Meets Tryd.prog 49 (Spec.pure contG) := by
 refine meets_below fun args p r hg hp F H n w S vs hH hl hr => ?_
 unfold contG at hg
 split at hg
 ·rename_i s q
  simp only [Option.some.injEq, Prod.mk.injEq] at hg
  obtain ⟨rfl, rfl⟩ := hg
  rw [str2 (P := Tryd.prog) (f := 0) hl hr]
  refine (Any.strings_Contains Tryd.lays144 _ _ Far.mx w (Nat.lt_of_le_of_lt hp (by decide)) (mx_at hH)).mono ?_
  rintro e w' ⟨rfl, rfl⟩
  exact ⟨_, rfl, Go.RowKit.Below.refl _ _, R.mkBool _⟩
 ·cases hg
theorem cut_ascii : ∀ (j : Nat) (b : UInt8), cutS[j]? = some b → b.toNat < 128 := by
  have h : ∀ b ∈ cutS, b.toNat < 128 := by decide
  exact fun j b hb => h b (List.mem_of_getElem? hb)
theorem trim_meets : Meets Tryd.prog 50 (Spec.pure trimG) := by
 refine meets_below fun args p r hg hp F H n w S vs hH hl hr => ?_
 unfold trimG at hg
 split at hg
 ·rename_i s q
  simp only [Option.some.injEq, Prod.mk.injEq] at hg
  obtain ⟨rfl, rfl⟩ := hg
  obtain ⟨hs, rfl⟩ := hp
  rw [str2 (P := Tryd.prog) (f := 0) hl hr]
  refine (Any.strings_Trim_laid Tryd.lays160 (by kernel_rfl) ⟨s.toArray⟩ ⟨cutS.toArray⟩ w (Nat.le_trans hs (by decide)) (by decide) cut_ascii).mono ?_
  rintro e w' ⟨rfl, hb⟩
  exact ⟨_, rfl, hb, R.mkStr _⟩
 ·cases hg
def runeB (x : Nat) : Bool := !decide ((97 ≤ x ∧ x ≤ 122) ∨ (48 ≤ x ∧ x ≤ 57) ∨ x = 45 ∨ x = 95 ∨ x = 46)
theorem comp1_gives (W : World) (x : Nat) : FnGives Tryd.prog 52 #[] #[encR x] (.bool (runeB x)) W := by
  show Calls Tryd.prog 52 #[.int .i32 (x : Int)] W _
  go_enter Tryd.func52, Tryd.ntmps52
  go_wp2
  all_goals (go_ret; refine ⟨?_, 0, rfl⟩; show Ending.returned (Value.bool _) = Ending.returned (Value.bool _); refine congrArg (fun b => Ending.returned (Value.bool b)) ?_; rw [Bool.eq_iff_iff]; unfold runeB; simp; omega)
theorem idx_runes {s : List UInt8} (h : s.all okB = true) : ∀ (f pos : Nat), Lib.idxFuncFrom runeB true ⟨s.toArray⟩ f pos = -1
  | 0, _ => rfl
  | f + 1, pos => by
    unfold Lib.idxFuncFrom
    split
    · rename_i hp
      have hp' : pos < s.length := hp
      have hm : okB s[pos] = true := List.all_eq_true.1 h _ (List.getElem_mem hp')
      have hm2 := of_decide_eq_true hm
      have hd : Utf8.decode ⟨s.toArray⟩ pos = (s[pos].toNat, 1) := by
        refine decode_ascii ⟨s.toArray⟩ pos hp ?_
        show s[pos].toNat < 128
        omega
      rw [hd, if_neg, idx_runes h f (pos + 1)]
      show ¬ runeB s[pos].toNat = true
      unfold runeB
      rw [decide_eq_true hm2]; simp
    · rfl
theorem cfn_meets : Meets Tryd.prog 51 (Spec.pure cfnG) := by
 refine meets_below fun args p r hg hp F H n w S vs hH hl hr => ?_
 unfold cfnG at hg
 split at hg
 ·rename_i s
  simp only [Option.some.injEq, Prod.mk.injEq] at hg
  obtain ⟨rfl, rfl⟩ := hg
  obtain ⟨hs, ho⟩ := hp
  match vs, hl with
  | [u, v], _ =>
   have h1 := R.str_iff.1 (hr 0 _ u rfl rfl)
   have h2 := hr 1 _ v rfl rfl
   cases h2 with | clo _ _ us hlu _ =>
   have hu0 : us = [] := List.eq_nil_of_length_eq_zero hlu
   subst hu0 h1
   refine (Any.strings_ContainsFunc_runes Tryd.laysGw17 52 #[] (enters_run (by kernel_rfl)) runeB ⟨s.toArray⟩ w (fun W x _ _ => comp1_gives W x)).mono ?_
   rintro e w' ⟨rfl, hb⟩
   refine ⟨_, rfl, hb, ?_⟩
   have : decide (0 ≤ Lib.idxFunc runeB true ⟨s.toArray⟩) = false := by
    unfold Lib.idxFunc; rw [idx_runes ho]; rfl
   rw [this]; exact R.mkBool _
 ·cases hg

def E_hpre : Env Tryd.prog := E_reach.add 54 (Spec.pure hpreG) hpre_meets (by kernel_rfl)

def E_hsuf : Env Tryd.prog := E_hpre.add 48 (Spec.pure hsufG) hsuf_meets (by kernel_rfl)

def E_cont : Env Tryd.prog := E_hsuf.add 49 (Spec.pure contG) cont_meets (by kernel_rfl)

def E_trim : Env Tryd.prog := E_cont.add 50 (Spec.pure trimG) trim_meets (by kernel_rfl)

def E_cfn : Env Tryd.prog := E_trim.add 51 (Spec.pure cfnG) cfn_meets (by kernel_rfl)
end Go.Proofs.YtcjipciiljjfhaaDoor
