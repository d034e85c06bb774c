/- The Vc layer: boxes as lists: rewriting rules. -/
import Derived.Test.YtaoifpmifpmhmaaVc28
set_option linter.all false
namespace Go.Vc
open Go Go.RowKit

def updL : List (Option Box) → Nat → Option Box → List (Option Box)
  | [], 0, b => [b]
  | [], i + 1, b => none :: updL [] i b
  | _ :: l, 0, b => b :: l
  | x :: l, i + 1, b => x :: updL l i b

theorem getB_nil (i : Nat) : getB [] i = none := rfl
theorem getB_zero (b : Option Box) (l : List (Option Box)) : getB (b :: l) 0 = b := by simp [getB]
theorem getB_succ (b : Option Box) (l : List (Option Box)) (i : Nat) : getB (b :: l) (i + 1) = getB l i := by simp [getB]

theorem getB_updL : ∀ (i : Nat) (l : List (Option Box)) (b : Option Box) (j : Nat), getB (updL l i b) j = if j = i then b else getB l j := by
  intro i
  induction i with
  | zero =>
    intro l b j
    cases l with
    | nil => cases j with
      | zero => simp [updL, getB]
      | succ j => simp [updL, getB]
    | cons x l => cases j with
      | zero => simp [updL, getB]
      | succ j => simp [updL, getB]
  | succ i ih =>
    intro l b j
    cases l with
    | nil => cases j with
      | zero => simp [updL, getB]
      | succ j => rw [updL, getB_succ, ih, getB_nil, getB_nil]; simp
    | cons x l => cases j with
      | zero => simp [updL, getB]
      | succ j => rw [updL, getB_succ, ih, getB_succ]; simp
theorem upd_getB (l : List (Option Box)) (i : Nat) (b : Option Box) : upd (getB l) i b = getB (updL l i b) := by
  funext j; rw [getB_updL]; rfl

def kilL (B : List Nat) : List (Option Box) → Nat → List (Option Box)
  | [], _ => []
  | b :: r, i => (if i ∈ B then none else b) :: kilL B r (i + 1)
theorem getB_kilL (B : List Nat) : ∀ (l : List (Option Box)) (k j : Nat), getB (kilL B l k) j = if k + j ∈ B then none else getB l j := by
  intro l
  induction l with
  | nil => intro k j; simp [kilL, getB]
  | cons b r ih =>
    intro k j
    cases j with
    | zero => simp [kilL, getB]
    | succ j => rw [kilL, getB_succ, ih, getB_succ, show k + 1 + j = k + (j + 1) by omega]
theorem kill_getB (B : List Nat) (l : List (Option Box)) : killL B (getB l) = getB (kilL B l 0) := by
  funext j; rw [getB_kilL]; simp [killL]

/-! ### calls that hand boxes over -/
def outL (ds B : List Nat) (n : Nat) (bf : List (Option Box)) : List (Option Box) → Nat → List (Option Box)
  | [], _ => []
  | b :: r, i => (if i ∈ B then none else match ixOf ds i with | some j => ouBox ds n (getB bf j) | none => b) :: outL ds B n bf r (i + 1)
def newL (ds : List Nat) (n : Nat) : List (Option Box) → List (Option Box)
  | [] => []
  | b :: r => ouBox ds n b :: newL ds n r
def ltAll : List Nat → Nat → Prop
  | [], _ => True
  | b :: r, n => b < n ∧ ltAll r n

theorem outL_length (ds B : List Nat) (n : Nat) (bf : List (Option Box)) : ∀ (l : List (Option Box)) (k : Nat), (outL ds B n bf l k).length = l.length := by
  intro l
  induction l with
  | nil => intro k; rfl
  | cons b r ih => intro k; simp [outL, ih]
theorem getB_outL (ds B : List Nat) (n : Nat) (bf : List (Option Box)) : ∀ (l : List (Option Box)) (k j : Nat), j < l.length → getB (outL ds B n bf l k) j = if k + j ∈ B then none else match ixOf ds (k + j) with | some m => ouBox ds n (getB bf m) | none => getB l j := by
  intro l
  induction l with
  | nil => intro k j h; simp at h
  | cons b r ih =>
    intro k j h
    cases j with
    | zero => simp [outL, getB]
    | succ j => rw [outL, getB_succ, ih _ _ (by simpa using h), getB_succ, show k + 1 + j = k + (j + 1) by omega]
theorem getB_newL (ds : List Nat) (n : Nat) : ∀ (l : List (Option Box)) (j : Nat), getB (newL ds n l) j = ouBox ds n (getB l j) := by
  intro l
  induction l with
  | nil => intro j; rfl
  | cons b r ih =>
    intro j
    cases j with
    | zero => simp [newL, getB]
    | succ j => rw [newL, getB_succ, ih, getB_succ]
theorem getB_append_left {l m : List (Option Box)} {j : Nat} (h : j < l.length) : getB (l ++ m) j = getB l j := by simp [getB, List.getElem?_append_left h]
theorem getB_append_right {l m : List (Option Box)} {j : Nat} (h : l.length ≤ j) : getB (l ++ m) j = getB m (j - l.length) := by simp [getB, List.getElem?_append_right h]
theorem getB_drop (l : List (Option Box)) (k j : Nat) : getB (l.drop k) j = getB l (k + j) := by simp [getB, List.getElem?_drop]

theorem ltAll_lt : ∀ {B : List Nat} {n i : Nat}, ltAll B n → i ∈ B → i < n := by
  intro B
  induction B with
  | nil => intro n i _ h; cases h
  | cons b r ih =>
    intro n i h hi
    rcases List.mem_cons.1 hi with rfl | hi
    · exact h.1
    · exact ih h.2 hi

theorem gen_heap {ds B : List Nat} {n : Nat} {bl bf : List (Option Box)} (hn : bl.length = n) (hB : ltAll B n) : killL B (merge ds n (getB bl) (ouH ds n (restr ds (getB bl)) bf)) = getB (outL ds B n bf bl 0 ++ newL ds n (bf.drop ds.length)) := by
  funext j
  have hol := outL_length ds B n bf bl 0
  by_cases hj : j < n
  · rw [getB_append_left (by omega), getB_outL _ _ _ _ _ _ _ (by omega), Nat.zero_add]
    show (if j ∈ B then none else merge ds n (getB bl) (ouH ds n (restr ds (getB bl)) bf) j) = _
    split
    · rfl
    · unfold merge
      cases hx : ixOf ds j with
      | none =>
        have := ixOf_none hx
        rw [if_neg (by rintro (h | h); exact this h; omega)]
      | some m =>
        have := ixOf_mem hx
        rw [if_pos (.inl this)]
        unfold ouH
        rw [if_pos hj, hx]
  · rw [getB_append_right (by omega), getB_newL, getB_drop, hol, hn]
    show (if j ∈ B then none else merge ds n (getB bl) (ouH ds n (restr ds (getB bl)) bf) j) = _
    rw [if_neg (fun h => hj (ltAll_lt hB h))]
    unfold merge ouH
    rw [if_pos (.inr (by omega)), if_neg hj]
theorem gen_heap0 {ds : List Nat} {n : Nat} {bl bf : List (Option Box)} (hn : bl.length = n) : merge ds n (getB bl) (ouH ds n (restr ds (getB bl)) bf) = getB (outL ds [] n bf bl 0 ++ newL ds n (bf.drop ds.length)) := by
  rw [← gen_heap hn (B := []) trivial]
  funext j; simp [killL]

theorem bx_rules : (∀ b, updL [] 0 b = [b]) ∧ (∀ i b, updL [] (i + 1) b = none :: updL [] i b) ∧ (∀ x l b, updL (x :: l) 0 b = b :: l) ∧ (∀ x l i b, updL (x :: l) (i + 1) b = x :: updL l i b) ∧
    (∀ B i, kilL B [] i = []) ∧ (∀ B b r i, kilL B (b :: r) i = (if i ∈ B then none else b) :: kilL B r (i + 1)) ∧
    (∀ ds B n bf i, outL ds B n bf [] i = []) ∧ (∀ ds B n bf b r i, outL ds B n bf (b :: r) i = (if i ∈ B then none else match ixOf ds i with | some j => ouBox ds n (getB bf j) | none => b) :: outL ds B n bf r (i + 1)) ∧
    (∀ ds n, newL ds n [] = []) ∧ (∀ ds n b r, newL ds n (b :: r) = ouBox ds n b :: newL ds n r) ∧ (∀ n, ltAll [] n = True) ∧ (∀ b r n, ltAll (b :: r) n = (b < n ∧ ltAll r n)) :=
  ⟨fun _ => rfl, fun _ _ => rfl, fun _ _ _ => rfl, fun _ _ _ _ => rfl, fun _ _ => rfl, fun _ _ _ _ => rfl, fun _ _ _ _ _ => rfl, fun _ _ _ _ _ _ _ => rfl, fun _ _ => rfl, fun _ _ _ _ => rfl, fun _ => rfl, fun _ _ _ => rfl⟩

theorem id_rules : (∀ i o l, ids1 (.sl i o l) = [i]) ∧ (∀ i o l, ids1 (.ptr i o l) = [i]) ∧ (∀ x, ids1 (.d x) = []) ∧ (ids1 .any = []) ∧ (∀ z xs e f, ids1 (.ip z xs e f) = []) ∧ (idsL [] = []) ∧ (∀ c cs, idsL (c :: cs) = ids1 c ++ idsL cs) ∧
    (∀ cs, ids2 (.agg cs) = idsL cs) ∧ (∀ f cs, ids2 (.clo f cs) = idsL cs) ∧ (∀ i o l, ids2 (.sl i o l) = [i]) ∧ (∀ i o l, ids2 (.ptr i o l) = [i]) ∧ (∀ x, ids2 (.d x) = []) ∧ (ids2 .any = []) ∧ (∀ z xs e f, ids2 (.ip z xs e f) = []) ∧
    (idsA [] = []) ∧ (∀ c cs, idsA (c :: cs) = ids2 c ++ idsA cs) ∧ (∀ t cs, idsB (some (.one t cs)) = idsL cs) ∧ (∀ t s xs, idsB (some (.vec t s xs)) = []) ∧ (idsB none = []) ∧ (∀ l, addIds l [] = l) ∧ (∀ l i r, addIds l (i :: r) = if i ∈ l then addIds l r else addIds (l ++ [i]) r) ∧
    (∀ H, idsBs H [] = []) ∧ (∀ H i r, idsBs H (i :: r) = idsB (H i) ++ idsBs H r) ∧ (∀ args H, reach args H = addIds (addIds [] (idsA args)) (idsBs H (addIds [] (idsA args)))) ∧
    (∀ i, ixOf [] i = none) ∧ (∀ d r i, ixOf (d :: r) i = if i = d then some 0 else (ixOf r i).map (· + 1)) ∧ (nodupB [] = true) ∧ (∀ d r, nodupB (d :: r) = if d ∈ r then false else nodupB r) := by
  refine ⟨fun _ _ _ => rfl, fun _ _ _ => rfl, fun _ => rfl, rfl, fun _ _ _ _ => rfl, rfl, fun _ _ => rfl, fun _ => rfl, fun _ _ => rfl, fun _ _ _ => rfl, fun _ _ _ => rfl, fun _ => rfl, rfl, fun _ _ _ _ => rfl, rfl, fun _ _ => rfl, fun _ _ => rfl, fun _ _ _ => rfl, rfl, fun _ => rfl, fun l i r => ?_, fun _ => rfl, fun _ _ _ => rfl, fun _ _ => rfl, fun _ => rfl, fun d r i => ?_, rfl, fun d r => ?_⟩
  · by_cases h : i ∈ l
    · simp [addIds, h]
    · simp [addIds, h]
  · by_cases hi : i = d
    · simp [ixOf, hi]
    · cases h : ixOf r i <;> simp [ixOf, hi, h]
  · by_cases h : d ∈ r <;> simp [nodupB, h]

theorem ix_rules : (∀ ds i o l, ix1 ds (.sl i o l) = (ixOf ds i).map fun j => .sl j o l) ∧ (∀ ds i e f, ix1 ds (.ptr i e f) = (ixOf ds i).map fun j => .ptr j e f) ∧ (∀ ds x, ix1 ds (.d x) = some (.d x)) ∧ (∀ ds z xs e f, ix1 ds (.ip z xs e f) = some (.ip z xs e f)) ∧ (∀ ds, ix1 ds .any = some .any) ∧
    (∀ ds, ixL ds [] = some []) ∧ (∀ ds c cs, ixL ds (c :: cs) = (ix1 ds c).bind fun x => (ixL ds cs).map (x :: ·)) ∧ (∀ ds cs, ix2 ds (.agg cs) = (ixL ds cs).map .agg) ∧ (∀ ds f cs, ix2 ds (.clo f cs) = (ixL ds cs).map (.clo f)) ∧
    (∀ ds i o l, ix2 ds (.sl i o l) = (ixOf ds i).map fun j => .sl j o l) ∧ (∀ ds i e f, ix2 ds (.ptr i e f) = (ixOf ds i).map fun j => .ptr j e f) ∧ (∀ ds x, ix2 ds (.d x) = some (.d x)) ∧ (∀ ds z xs e f, ix2 ds (.ip z xs e f) = some (.ip z xs e f)) ∧ (∀ ds, ix2 ds .any = some .any) ∧
    (∀ ds, ixA ds [] = some []) ∧ (∀ ds c cs, ixA ds (c :: cs) = (ix2 ds c).bind fun x => (ixA ds cs).map (x :: ·)) ∧ (∀ ds t s xs, ixBox ds (some (.vec t s xs)) = some (.vec t s xs)) ∧ (∀ ds t cs, ixBox ds (some (.one t cs)) = (ixL ds cs).map (.one t)) ∧ (∀ ds, ixBox ds none = none) ∧
    (∀ ds H, ixBs ds H [] = some []) ∧ (∀ ds H d r, ixBs ds H (d :: r) = (ixBox ds (H d)).bind fun b => (ixBs ds H r).map (some b :: ·)) := by
  refine ⟨fun ds i o l => ?_, fun ds i o l => ?_, fun _ _ => rfl, fun _ _ _ _ _ => rfl, fun _ => rfl, fun _ => rfl, fun ds c cs => ?_, fun ds cs => ?_, fun ds f cs => ?_, fun ds i o l => ?_, fun ds i o l => ?_, fun _ _ => rfl, fun _ _ _ _ _ => rfl, fun _ => rfl, fun _ => rfl, fun ds c cs => ?_, fun _ _ _ _ => rfl, fun ds t cs => ?_, fun _ => rfl, fun _ _ => rfl, fun ds H d r => ?_⟩
  · cases h : ixOf ds i <;> simp [ix1, h]
  · cases h : ixOf ds i <;> simp [ix1, h]
  · rw [ixL]; cases ix1 ds c <;> cases ixL ds cs <;> rfl
  · cases h : ixL ds cs <;> simp [ix2, h]
  · cases h : ixL ds cs <;> simp [ix2, h]
  · cases h : ixOf ds i <;> simp [ix2, ix1, h]
  · cases h : ixOf ds i <;> simp [ix2, ix1, h]
  · rw [ixA]; cases ix2 ds c <;> cases ixA ds cs <;> rfl
  · cases h : ixL ds cs <;> simp [ixBox, h]
  · rw [ixBs]; cases ixBox ds (H d) <;> cases ixBs ds H r <;> rfl

theorem ou_rules : (∀ n i, ouN [] n i = n + i) ∧ (∀ d ds n, ouN (d :: ds) n 0 = d) ∧ (∀ d ds n i, ouN (d :: ds) n (i + 1) = ouN ds n i) ∧ (∀ ds n i o l, ou1 ds n (.sl i o l) = .sl (ouN ds n i) o l) ∧ (∀ ds n i e f, ou1 ds n (.ptr i e f) = .ptr (ouN ds n i) e f) ∧ (∀ ds n x, ou1 ds n (.d x) = .d x) ∧
    (∀ ds n z xs e f, ou1 ds n (.ip z xs e f) = .ip z xs e f) ∧ (∀ ds n, ou1 ds n .any = .any) ∧ (∀ ds n, ouL ds n [] = []) ∧ (∀ ds n c cs, ouL ds n (c :: cs) = ou1 ds n c :: ouL ds n cs) ∧ (∀ ds n, ouL2 ds n [] = []) ∧ (∀ ds n c cs, ouL2 ds n (c :: cs) = ou2 ds n c :: ouL2 ds n cs) ∧
    (∀ ds n cs, ou2 ds n (.agg cs) = .agg (ouL ds n cs)) ∧ (∀ ds n f cs, ou2 ds n (.clo f cs) = .clo f (ouL ds n cs)) ∧ (∀ ds n i o l, ou2 ds n (.sl i o l) = .sl (ouN ds n i) o l) ∧ (∀ ds n i e f, ou2 ds n (.ptr i e f) = .ptr (ouN ds n i) e f) ∧ (∀ ds n x, ou2 ds n (.d x) = .d x) ∧
    (∀ ds n z xs e f, ou2 ds n (.ip z xs e f) = .ip z xs e f) ∧ (∀ ds n, ou2 ds n .any = .any) ∧ (∀ ds n cs, ou3 ds n (.tup cs) = .tup (ouL2 ds n cs)) ∧ (∀ ds n cs, ou3 ds n (.agg cs) = .agg (ouL ds n cs)) ∧ (∀ ds n f cs, ou3 ds n (.clo f cs) = .clo f (ouL ds n cs)) ∧
    (∀ ds n i o l, ou3 ds n (.sl i o l) = .sl (ouN ds n i) o l) ∧ (∀ ds n i e f, ou3 ds n (.ptr i e f) = .ptr (ouN ds n i) e f) ∧ (∀ ds n x, ou3 ds n (.d x) = .d x) ∧ (∀ ds n, ou3 ds n .any = .any) ∧ (∀ ds n t s xs, ouBox ds n (some (.vec t s xs)) = some (.vec t s xs)) ∧ (∀ ds n t cs, ouBox ds n (some (.one t cs)) = some (.one t (ouL ds n cs))) ∧ (∀ ds n, ouBox ds n none = none) ∧
    (allSome [] = true) ∧ (∀ b r, allSome (some b :: r) = allSome r) := by
  refine ⟨fun n i => ?_, fun _ _ _ => rfl, fun d ds n i => ?_, fun _ _ _ _ _ => rfl, fun _ _ _ _ _ => rfl, fun _ _ _ => rfl, fun _ _ _ _ _ _ => rfl, fun _ _ => rfl, fun _ _ => rfl, fun _ _ _ _ => rfl, fun _ _ => rfl, fun _ _ _ _ => rfl, fun _ _ _ => rfl, fun _ _ _ _ => rfl, fun _ _ _ _ _ => rfl, fun _ _ _ _ _ => rfl, fun _ _ _ => rfl, fun _ _ _ _ _ _ => rfl, fun _ _ => rfl, fun _ _ _ => rfl, fun _ _ _ => rfl, fun _ _ _ _ => rfl, fun _ _ _ _ _ => rfl, fun _ _ _ _ _ => rfl, fun _ _ _ => rfl, fun _ _ => rfl, fun _ _ _ _ _ => rfl, fun _ _ _ _ => rfl, fun _ _ => rfl, rfl, fun _ _ => rfl⟩
  · simp [ouN]
  · simp only [ouN, List.getElem?_cons_succ, List.length_cons, Nat.add_sub_add_right]

theorem gen_run (g : GFun) (ds : List Nat) (args : List AV) (H : Heap) (n : Nat) : genRun g ds args H n = (ixA ds args).bind fun ia => (ixBs ds H ds).bind fun bl => (g ia bl).bind fun x => if nodupB ds = true ∧ ds.length ≤ x.2.2.length ∧ allSome (x.2.2.drop ds.length) = true then some (x.1, ou3 ds n x.2.1, some (ouH ds n H x.2.2, n + (x.2.2.length - ds.length))) else none := by
  unfold genRun
  cases ixA ds args with
  | none => rfl
  | some ia =>
    cases ixBs ds H ds with
    | none => rfl
    | some bl =>
      simp only [Option.bind_some]
      cases g ia bl with
      | none => rfl
      | some x => obtain ⟨p, r, bf⟩ := x; rfl

/-! ### more boxes -/
def leL : List (Option Box) → List (Option Box) → Prop
  | [], _ => True
  | none :: r, _ :: r' => leL r r'
  | some b :: r, c :: r' => c = some b ∧ leL r r'
  | none :: r, [] => leL r []
  | some _ :: _, [] => False
theorem leL_ok : ∀ {l l' : List (Option Box)}, leL l l' → HLe (getB l) (getB l') := by
  intro l
  induction l with
  | nil => intro l' _ i b h; cases h
  | cons x l ih =>
    intro l' h i b hb
    cases x with
    | none => cases l' with
      | nil =>
        cases i with
        | zero => cases hb
        | succ i => rw [getB_succ] at hb; exact ih (l' := []) h i b hb
      | cons c r =>
        cases i with
        | zero => cases hb
        | succ i => rw [getB_succ] at hb ⊢; exact ih h i b hb
    | some y => cases l' with
      | nil => exact h.elim
      | cons c r =>
        cases i with
        | zero => rw [getB_zero] at hb ⊢; cases hb; exact h.1
        | succ i => rw [getB_succ] at hb ⊢; exact ih h.2 i b hb
theorem le_rules : (∀ l, leL [] l = True) ∧ (∀ r c r', leL (none :: r) (c :: r') = leL r r') ∧ (∀ b r c r', leL (some b :: r) (c :: r') = (c = some b ∧ leL r r')) := ⟨fun l => by cases l <;> rfl, fun _ _ _ => rfl, fun _ _ _ _ => rfl⟩
theorem hle_getB (dr : Bool) (calm : List FuncId) (d : Option Tmp) (o : Op) {l l' : List (Option Box)} (h : leL l l') : (dr && growB calm d o) = true → HLe (getB l) (getB l') := fun _ => leL_ok h
def bw := And.intro @upd_getB (And.intro @kill_getB @bx_rules)
def gw := And.intro @id_rules (And.intro @ix_rules (And.intro @ou_rules @gen_run))
end Go.Vc
