/- Walks, printed by wip/gen/walk.py. -/
import Derived.Test.YtcjipciiljjfhaaDoorT19
import Derived.Test.YtcjipciiljjfhaaDoorV5
set_option linter.all false
set_option maxRecDepth 100000
set_option maxHeartbeats 4000000
namespace Go.Proofs.YtcjipciiljjfhaaDoor
open Go Go.Vc Go.RowKit
/-- A sorted list with one more number. -/
def ins (l : List Int) (n : Int) : List Int := if n ∈ l then l else l.takeWhile (fun x => decide (x < n)) ++ n :: l.dropWhile (fun x => decide (x < n))
theorem ins_at {l : List Int} {n : Int} {k : Nat} (hn : n ∉ l) (h : ∀ x ∈ l.take k, x < n) (hk : k = l.length ∨ ∃ x, l[k]? = some x ∧ ¬x < n) : ins l n = l.take k ++ n :: l.drop k := by
  have key : l.takeWhile (fun x => decide (x < n)) = l.take k ∧ l.dropWhile (fun x => decide (x < n)) = l.drop k := by
    clear hn
    induction l generalizing k with
    | nil => simp
    | cons a l ih =>
      cases k with
      | zero =>
        rcases hk with hk | ⟨x, hx, hxn⟩
        · simp at hk
        · simp only [List.getElem?_cons_zero, Option.some.injEq] at hx
          subst hx
          simp [List.takeWhile_cons, List.dropWhile_cons, hxn]
      | succ k =>
        have ha : a < n := h a (by simp)
        have := ih (k := k) (fun x hx => h x (by simp [hx])) (by simpa using hk)
        simp [List.takeWhile_cons, List.dropWhile_cons, ha, this.1, this.2]
  unfold ins; rw [if_neg hn, key.1, key.2]
theorem ins_mem {l : List Int} {n x : Int} : x ∈ ins l n ↔ x = n ∨ x ∈ l := by
  unfold ins
  split
  · rename_i h
    exact ⟨.inr, fun h' => by rcases h' with rfl | h'; exact h; exact h'⟩
  · rw [List.mem_append, List.mem_cons]
    have := List.takeWhile_append_dropWhile (p := fun x => decide (x < n)) (l := l)
    conv => rhs; rw [← this, List.mem_append]
    constructor
    · rintro (h | h | h)
      · exact .inr (.inl h)
      · exact .inl h
      · exact .inr (.inr h)
    · rintro (h | h | h)
      · exact .inr (.inl h)
      · exact .inl h
      · exact .inr (.inr h)
theorem ins_sorted {l : List Int} {n : Int} (h : l.Pairwise (· < ·)) : (ins l n).Pairwise (· < ·) := by
  unfold ins
  split
  · exact h
  · rename_i hn
    induction l with
    | nil => simp
    | cons a l ih =>
      have ha := List.pairwise_cons.1 h
      simp only [List.mem_cons, not_or] at hn
      by_cases hlt : a < n
      · simp only [List.takeWhile_cons, List.dropWhile_cons, hlt, decide_true, if_true, List.cons_append]
        refine List.pairwise_cons.2 ⟨fun x hx => ?_, ih ha.2 hn.2⟩
        rcases List.mem_append.1 hx with hx | hx
        · exact ha.1 x ((List.takeWhile_sublist _).subset hx)
        · rcases List.mem_cons.1 hx with rfl | hx
          · exact hlt
          · exact ha.1 x ((List.dropWhile_sublist _).subset hx)
      · simp only [List.takeWhile_cons, List.dropWhile_cons, hlt, decide_false, List.nil_append, Bool.false_eq_true, if_false]
        refine List.pairwise_cons.2 ⟨fun x hx => ?_, h⟩
        rcases List.mem_cons.1 hx with rfl | hx
        · omega
        · have := ha.1 x hx; omega
theorem ins_len {l : List Int} {n : Int} : (ins l n).length ≤ l.length + 1 := by
  unfold ins
  split
  · omega
  · rw [List.length_append, List.length_cons]
    have := congrArg List.length (List.takeWhile_append_dropWhile (p := fun x => decide (x < n)) (l := l))
    rw [List.length_append] at this; omega

def insG : List AV → Option (Prop × AV)
  | [.d (.sl xs), .d (.int .i64 n)] => some (xs = rows eI (dI xs) ∧ (dI xs).length ≤ 1000000000, .d (.sl (rows eI (ins (dI xs) n))))
  | _ => none
theorem all_snoc {l : List Int} {k : Nat} {x : Int} {P : Int → Prop} (h : ∀ y ∈ l.take k, P y) (hx : l[k]? = some x) (hp : P x) : ∀ y ∈ l.take (k + 1), P y := fun y hy => by
  rw [List.take_add_one, hx] at hy
  rcases List.mem_append.1 hy with hy | hy
  · exact h y hy
  · simp only [Option.toList_some, List.mem_singleton] at hy; rw [hy]; exact hp
theorem app1 {A : List (List D)} {x : List D} {m : Nat} (h : m = A.length + 1) : List.take m (A ++ [x]) = A ++ [x] := List.take_of_length_le (by rw [h]; simp)
theorem ins_rows {l : List Int} {k : Nat} {n : Int} : List.take ((l.take (k - 0)).length + 1 + ((l.drop k).take (l.length - k)).length) (List.take ((l.take (k - 0)).length + 1) (rows eI ((l.take (k - 0)).take (l.take (k - 0)).length) ++ [[.int .i64 n]]) ++ rows eI ((l.drop k).take (l.length - k))) = rows eI (l.take k ++ n :: l.drop k) := by
  have e1 : (l.drop k).take (l.length - k) = l.drop k := List.take_of_length_le (by simp)
  rw [Nat.sub_zero, List.take_length, e1, app1 (by rw [rows_len]), List.take_of_length_le (by simp only [List.length_append, rows_len, List.length_singleton]; omega)]
  simp [rows, eI]
end Go.Proofs.YtcjipciiljjfhaaDoor
