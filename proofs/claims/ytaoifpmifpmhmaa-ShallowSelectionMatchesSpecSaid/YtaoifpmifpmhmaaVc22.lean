/- The Vc layer: rows of typed data; the rewriting rules of the walk; steps. -/
import Derived.Test.YtaoifpmifpmhmaaVc21
set_option linter.all false
namespace Go.Vc
open Go Go.RowKit

/-! ### rows -/
def rows {α : Type} (f : α → List D) (l : List α) : List (List D) := l.map f
theorem rows_len {α : Type} (f : α → List D) (l : List α) : (rows f l).length = l.length := List.length_map _
theorem rows_get {α : Type} (f : α → List D) (l : List α) (i : Nat) : (rows f l)[i]? = (l[i]?).map f := List.getElem?_map
theorem rows_drop {α : Type} (f : α → List D) (l : List α) (i : Nat) : (rows f l).drop i = rows f (l.drop i) := (List.map_drop).symm
theorem rows_take {α : Type} (f : α → List D) (l : List α) (i : Nat) : (rows f l).take i = rows f (l.take i) := (List.map_take).symm
theorem rows_app {α : Type} (f : α → List D) (l m : List α) : rows f l ++ rows f m = rows f (l ++ m) := (List.map_append).symm
theorem rows_nil {α : Type} (f : α → List D) : rows f [] = [] := rfl
theorem rows_cons {α : Type} (f : α → List D) (a : α) (l : List α) : rows f (a :: l) = f a :: rows f l := rfl
theorem rows_set {α : Type} (f : α → List D) (l : List α) (i : Nat) (a : α) : (rows f l).set i (f a) = rows f (l.set i a) := (List.map_set).symm
theorem rows_rep {α : Type} (f : α → List D) (n : Nat) (a : α) : List.replicate n (f a) = rows f (List.replicate n a) := (List.map_replicate).symm
theorem rows_snoc {α : Type} (f : α → List D) (l : List α) (a : α) : rows f l ++ [f a] = rows f (l ++ [a]) := by rw [← rows_app]; rfl
theorem rows_rect {α : Type} {f : α → List D} {k : Nat} (h : ∀ a, (f a).length = k) (l : List α) : Rect k (rows f l) := by
  intro x hx
  obtain ⟨a, _, rfl⟩ := List.mem_map.1 hx
  exact h a

def eI (n : Int) : List D := [.int .i64 n]
def eB (b : Bool) : List D := [.bool b]
def eU (b : UInt8) : List D := [.int .u8 (b.toNat : Int)]
def eS (s : List UInt8) : List D := [.str s]
def eL {α : Type} (f : α → List D) (l : List α) : List D := [.sl (rows f l)]
abbrev ints (l : List Int) : D := .sl (rows eI l)
abbrev bools (l : List Bool) : D := .sl (rows eB l)
abbrev bytes (l : List UInt8) : D := .sl (rows eU l)
theorem rect_eI (l : List Int) : Rect 1 (rows eI l) := rows_rect (f := eI) (fun _ => rfl) l
theorem rect_eB (l : List Bool) : Rect 1 (rows eB l) := rows_rect (f := eB) (fun _ => rfl) l
theorem rect_eU (l : List UInt8) : Rect 1 (rows eU l) := rows_rect (f := eU) (fun _ => rfl) l
theorem rect_eS (l : List (List UInt8)) : Rect 1 (rows eS l) := rows_rect (f := eS) (fun _ => rfl) l
theorem rect_eL {α : Type} (f : α → List D) (l : List (List α)) : Rect 1 (rows (eL f) l) := rows_rect (f := eL f) (fun _ => rfl) l
theorem rect_nil (k : Nat) : Rect k [] := fun x h => by cases h
theorem rect_cons (k : Nat) (x : List D) (xs : List (List D)) : Rect k (x :: xs) = (x.length = k ∧ Rect k xs) := by
  apply propext; unfold Rect; simp
theorem bytes_is (l : List UInt8) : IsBytes (rows eU l) := by
  intro x hx
  obtain ⟨b, _, rfl⟩ := List.mem_map.1 hx
  exact ⟨b, rfl⟩
theorem bytes_str (l : List UInt8) : strOf (rows eU l) = l := by simp [strOf, rows, eU, Function.comp_def]

/-- Rows read back. -/
def dI : List (List D) → List Int := List.map fun x => match x with | [.int _ n] => n | _ => 0
def dB : List (List D) → List Bool := List.map fun x => match x with | [.bool b] => b | _ => false
def dU : List (List D) → List UInt8 := strOf
theorem dI_rows (l : List Int) : dI (rows eI l) = l := by simp [dI, rows, eI, Function.comp_def]
theorem dB_rows (l : List Bool) : dB (rows eB l) = l := by simp [dB, rows, eB, Function.comp_def]
theorem dU_rows (l : List UInt8) : dU (rows eU l) = l := bytes_str l

/-! ### the rules -/
section
variable {P : Program}

theorem fr_rules : (∀ (f : Nat → AV) (i : Nat) (x : AV) (j : Nat), upd f i x j = if j = i then x else f j) ∧ (∀ (f : Nat → Option Box) (i : Nat) (x : Option Box) (j : Nat), upd f i x j = if j = i then x else f j) ∧
    (∀ (d : Tmp) (c : AV) (f : Nat → AV), putD (some d) c f = upd f d c) ∧ (∀ (c : AV) (f : Nat → AV), putD none c f = f) ∧
    (∀ (j : Nat) (c : AV) (r : List (Nat × AV)) (i : Nat), getF ((j, c) :: r) i = if i = j then c else getF r i) ∧ (∀ (i : Nat), getF [] i = .any) ∧
    (∀ (b : Option Box) (r : List (Option Box)), getB (b :: r) 0 = b) ∧ (∀ (b : Option Box) (r : List (Option Box)) (i : Nat), getB (b :: r) (i + 1) = getB r i) ∧ (∀ (i : Nat), getB [] i = none) ∧
    (∀ (k : Nat), enumF k [] = []) ∧ (∀ (k : Nat) (c : AV) (cs : List AV), enumF k (c :: cs) = (k, c) :: enumF (k + 1) cs) := by
  refine ⟨fun _ _ _ _ => rfl, fun _ _ _ _ => rfl, fun _ _ _ => rfl, fun _ _ => rfl, fun _ _ _ _ => rfl, fun _ => rfl, fun b r => ?_, fun b r i => ?_, fun i => rfl, fun _ => rfl, fun _ _ _ => rfl⟩
  · simp [getB]
  · simp [getB]

theorem av_rules : (∀ (x : D), bare (.d x) = .d x) ∧ (∀ (i o l : Nat), bare (.sl i o l) = .sl i o l) ∧ (∀ (i o l : Nat), bare (.ptr i o l) = .ptr i o l) ∧ (∀ (cs : List AV), bare (.agg cs) = .agg cs) ∧ (∀ (cs : List AV), bare (.tup cs) = .tup cs) ∧
    (∀ (f : Fn) (cs : List AV), bare (.clo f cs) = .clo f cs) ∧ (∀ (z : Nat) (xs : List (List D)) (e f : Nat), bare (.ip z xs e f) = .ip z xs e f) ∧ (bare .any = .any) ∧ (∀ (b : Bool) (v : AV), bare (.cond b v) = v) ∧
    (∀ (x : D), needs (.d x) = True) ∧ (∀ (i o l : Nat), needs (.sl i o l) = True) ∧ (∀ (i o l : Nat), needs (.ptr i o l) = True) ∧ (∀ (cs : List AV), needs (.agg cs) = True) ∧ (∀ (cs : List AV), needs (.tup cs) = True) ∧
    (∀ (f : Fn) (cs : List AV), needs (.clo f cs) = True) ∧ (∀ (z : Nat) (xs : List (List D)) (e f : Nat), needs (.ip z xs e f) = True) ∧ (needs .any = True) ∧ (∀ (b : Bool) (v : AV), needs (.cond b v) = (b = true)) :=
  ⟨fun _ => rfl, fun _ _ _ => rfl, fun _ _ _ => rfl, fun _ => rfl, fun _ => rfl, fun _ _ => rfl, fun _ _ _ _ => rfl, rfl, fun _ _ => rfl, fun _ => rfl, fun _ _ _ => rfl, fun _ _ _ => rfl, fun _ => rfl, fun _ => rfl, fun _ _ => rfl, fun _ _ _ _ => rfl, rfl, fun _ _ => rfl⟩

theorem ev_rules : (∀ (fr : Nat → AV) (t : Tmp), evO fr (.tmp t) = fr t) ∧ (∀ (fr : Nat → AV) (b : Bool), evO fr (.const (.bool b)) = .d (.bool b)) ∧ (∀ (fr : Nat → AV) (k : IntKind) (n : Int), evO fr (.const (.int k n)) = .d (.int k n)) ∧
    (∀ (fr : Nat → AV) (s : ByteArray), evO fr (.const (.string s)) = .d (.str s.data.toList)) ∧ (∀ (fr : Nat → AV), evO fr (.const (.slice none 0 0)) = .d .nils) ∧ (∀ (fr : Nat → AV), evO fr (.const (.pointer none)) = .d .nilp) ∧ (∀ (fr : Nat → AV), evO fr (.const .nilFunc) = .any) ∧
    (∀ (fr : Nat → AV) (f : FuncId), evO fr (.func f) = .clo (.func f) []) ∧ (∀ (fr : Nat → AV), nd fr [] = True) ∧ (∀ (fr : Nat → AV) (x : Operand) (r : List Operand), nd fr (x :: r) = (needs (evO fr x) ∧ nd fr r)) :=
  ⟨fun _ _ => rfl, fun _ _ => rfl, fun _ _ _ => rfl, fun _ _ => rfl, fun _ => rfl, fun _ => rfl, fun _ => rfl, fun _ _ => rfl, fun _ => rfl, fun _ _ _ => rfl⟩

variable {E : Env P}

theorem op_rules (E : Env P) : (∀ (fr : Nat → AV) (H : Heap) (n : Nat) (e : TypeId), aOp E fr H n (.alloc e) = .ofH (aAlloc E.X.ty H n e)) ∧ (∀ (fr : Nat → AV) (H : Heap) (n : Nat) (e : TypeId) (x : Operand), aOp E fr H n (.box e x) = .ofH (aBox H n e (bare (evO fr x)))) ∧
    (∀ (fr : Nat → AV) (H : Heap) (n : Nat) (t : TypeId) (len : Nat) (ps : List (Nat × Operand)), aOp E fr H n (.buildSlice t len ps.toArray) = .ofH (aBuildSlice E.X.ty H n t len (ps.map fun p => (p.1, bare (evO fr p.2))))) ∧
    (∀ (fr : Nat → AV) (H : Heap) (n : Nat) (t : TypeId) (l c : Operand), aOp E fr H n (.makeSlice t l c) = .ofH (aMake E.X.ty H n t (bare (evO fr l)) (bare (evO fr c)))) ∧
    (∀ (fr : Nat → AV) (H : Heap) (n : Nat) (t : TypeId) (a x : Operand), aOp E fr H n (.store t a x) = match aStore E.X.ty H t (bare (evO fr a)) (bare (evO fr x)) with | some (p, H') => .h p .any H' n | none => .bad) ∧
    (∀ (fr : Nat → AV) (H : Heap) (n : Nat) (c a b : Operand), aOp E fr H n (.pick c a b) = .ofV (aPick (evO fr c) (evO fr a) (evO fr b))) ∧
    (∀ (fr : Nat → AV) (H : Heap) (n : Nat) (s x : Operand) (t : TypeId), aOp E fr H n (.call ⟨.builtin .append, #[s, x], #[t, t]⟩) = .ofH (aAppend E.X.ty H n t (bare (evO fr s)) (bare (evO fr x)))) ∧
    (∀ (fr : Nat → AV) (H : Heap) (n : Nat) (x : Operand), aOp E fr H n (.move x) = .v True (bare (evO fr x))) ∧ (∀ (fr : Nat → AV) (H : Heap) (n : Nat) (x : Operand), aOp E fr H n (.assign x) = .v True (bare (evO fr x))) ∧
    (∀ (fr : Nat → AV) (H : Heap) (n : Nat) (x : Operand), aOp E fr H n (.nilCheck x) = .ofV (aNil H (bare (evO fr x)))) ∧
    (∀ (fr : Nat → AV) (H : Heap) (n : Nat) (op : BinOp) (t r : TypeId) (x y : Operand), aOp E fr H n (.binOp op t x y r) = .ofV (aBin E.X.ty op t (bare (evO fr x)) (bare (evO fr y)))) ∧
    (∀ (fr : Nat → AV) (H : Heap) (n : Nat) (op : UnOp) (t : TypeId) (x : Operand), aOp E fr H n (.unOp op t x) = .ofV (aUn op (bare (evO fr x)))) ∧
    (∀ (fr : Nat → AV) (H : Heap) (n : Nat) (s t : TypeId) (x : Operand), aOp E fr H n (.convert s t x) = .ofV (aConv E.X.ty H s t (bare (evO fr x)))) :=
  ⟨fun _ _ _ _ => rfl, fun _ _ _ _ _ => rfl, fun _ _ _ _ _ _ => rfl, fun _ _ _ _ _ _ => rfl, fun _ _ _ _ _ _ => rfl, fun _ _ _ _ _ _ => rfl, fun fr H n s x t => if_pos rfl, fun _ _ _ _ => rfl, fun _ _ _ _ => rfl, fun _ _ _ _ => rfl, fun _ _ _ _ _ _ _ _ => rfl, fun _ _ _ _ _ _ => rfl, fun _ _ _ _ _ _ => rfl⟩

theorem op_rules2 (E : Env P) : (∀ (fr : Nat → AV) (H : Heap) (n : Nat) (t : TypeId) (x : Operand), aOp E fr H n (.slice t x none none none) = .ofV (aSlice E.X.ty H t (bare (evO fr x)) none none)) ∧
    (∀ (fr : Nat → AV) (H : Heap) (n : Nat) (t : TypeId) (x y : Operand), aOp E fr H n (.slice t x (some y) none none) = .ofV (aSlice E.X.ty H t (bare (evO fr x)) (some (bare (evO fr y))) none)) ∧
    (∀ (fr : Nat → AV) (H : Heap) (n : Nat) (t : TypeId) (x y : Operand), aOp E fr H n (.slice t x none (some y) none) = .ofV (aSlice E.X.ty H t (bare (evO fr x)) none (some (bare (evO fr y))))) ∧
    (∀ (fr : Nat → AV) (H : Heap) (n : Nat) (t : TypeId) (x y z : Operand), aOp E fr H n (.slice t x (some y) (some z) none) = .ofV (aSlice E.X.ty H t (bare (evO fr x)) (some (bare (evO fr y))) (some (bare (evO fr z))))) ∧
    (∀ (fr : Nat → AV) (H : Heap) (n : Nat) (s : TypeId) (x : Operand) (f : Nat), aOp E fr H n (.fieldAddr s x f) = .ofV (aFieldAddr E.X.ty H s (bare (evO fr x)) f)) ∧ (∀ (fr : Nat → AV) (H : Heap) (n : Nat) (s : TypeId) (x : Operand) (f : Nat), aOp E fr H n (.field s x f) = .ofV (aField E.X.ty s (bare (evO fr x)) f)) ∧
    (∀ (fr : Nat → AV) (H : Heap) (n : Nat) (s : TypeId) (x i : Operand), aOp E fr H n (.indexAddr s x i) = .ofV (aIndexAddr E.X.ty H s (bare (evO fr x)) (bare (evO fr i)))) ∧ (∀ (fr : Nat → AV) (H : Heap) (n : Nat) (s : TypeId) (x i : Operand), aOp E fr H n (.index s x i) = .ofV (aIndex E.X.ty s (bare (evO fr x)) (bare (evO fr i)))) ∧
    (∀ (fr : Nat → AV) (H : Heap) (n : Nat) (t : TypeId) (x : Operand), aOp E fr H n (.load t x) = .ofV (aLoad E.X.ty H t (bare (evO fr x)))) ∧ (∀ (fr : Nat → AV) (H : Heap) (n : Nat) (x : Operand) (i : Nat), aOp E fr H n (.extract x i) = .ofV (aExtract (bare (evO fr x)) i)) ∧
    (∀ (fr : Nat → AV) (H : Heap) (n : Nat) (t : TypeId) (ps : List (Nat × Operand)), aOp E fr H n (.build t ps.toArray) = .ofV (aBuild E.X.ty H t (ps.map fun p => (p.1, bare (evO fr p.2))))) ∧
    (∀ (fr : Nat → AV) (H : Heap) (n : Nat) (f : Fn) (cs : List Operand), aOp E fr H n (.makeFunc f #[] cs.toArray) = .v True (.clo f (cs.map fun x => bare (evO fr x)))) ∧
    (∀ (fr : Nat → AV) (H : Heap) (n : Nat) (t : TypeId) (x : Operand), aOp E fr H n (.call ⟨.builtin .len, #[x], #[t]⟩) = .ofV (aLen E.X.ty H t (bare (evO fr x)))) :=
  ⟨fun _ _ _ _ _ => rfl, fun _ _ _ _ _ _ => rfl, fun _ _ _ _ _ _ => rfl, fun _ _ _ _ _ _ _ => rfl, fun _ _ _ _ _ _ => rfl, fun _ _ _ _ _ _ => rfl, fun _ _ _ _ _ _ => rfl, fun _ _ _ _ _ _ => rfl, fun _ _ _ _ _ => rfl, fun _ _ _ _ _ => rfl, fun _ _ _ _ _ => rfl, fun _ _ _ _ _ => rfl, fun _ _ _ _ _ => rfl⟩

theorem call_rule (E : Env P) {f : FuncId} {sp : Spec} (h : E.Γ f = some sp) (fr : Nat → AV) (H : Heap) (n : Nat) (args : List Operand) (ts : Array TypeId) :
    aOp E fr H n (.call ⟨.value (.func f), args.toArray, ts⟩) = callS sp H n (args.map fun x => bare (evO fr x)) := by
  have : aOp E fr H n (.call ⟨.value (.func f), args.toArray, ts⟩) = match E.Γ f with | some sp => callS sp H n ((args.map fun x => bare (evO fr x)) ++ []) | none => .bad := rfl
  rw [this, h, List.append_nil]

theorem call_clo (E : Env P) (fr : Nat → AV) (H : Heap) (n : Nat) (t : Tmp) (args : List Operand) (ts : Array TypeId) :
    aOp E fr H n (.call ⟨.value (.tmp t), args.toArray, ts⟩) = match bare (fr t) with
      | .clo (.func f) cap => (match E.Γ f with | some sp => callS sp H n ((args.map fun x => bare (evO fr x)) ++ cap) | none => .bad)
      | _ => .bad := rfl

theorem mm_rules (E : Env P) : (∀ (fr : Nat → AV) (H : Heap) (n : Nat) (x y : Operand) (ts : Array TypeId), aOp E fr H n (.call ⟨.builtin .max, #[x, y], ts⟩) = .ofV (match bare (evO fr x), bare (evO fr y) with | .d (.int k a), .d (.int _ b) => some (True, .d (.int k (max a b))) | _, _ => none)) ∧
    (∀ (fr : Nat → AV) (H : Heap) (n : Nat) (x y : Operand) (ts : Array TypeId), aOp E fr H n (.call ⟨.builtin .min, #[x, y], ts⟩) = .ofV (match bare (evO fr x), bare (evO fr y) with | .d (.int k a), .d (.int _ b) => some (True, .d (.int k (min a b))) | _, _ => none)) :=
  ⟨fun _ _ _ _ _ _ => rfl, fun _ _ _ _ _ _ => rfl⟩

theorem rs_rules : (∀ (p : Prop) (c : AV), RS.ofV (some (p, c)) = .v p c) ∧ (∀ (p : Prop) (c : AV) (H : Heap) (n : Nat), RS.ofH (some (p, c, H, n)) = .h p c H n) :=
  ⟨fun _ _ => rfl, fun _ _ _ _ => rfl⟩

/-! ### what is asked of operands -/
theorem nd_rules : (∀ (fr : Nat → AV) (x : Operand), ndO fr (.move x) = nd fr [x]) ∧ (∀ (fr : Nat → AV) (x : Operand), ndO fr (.assign x) = nd fr [x]) ∧ (∀ (fr : Nat → AV) (e : TypeId), ndO fr (.alloc e) = True) ∧ (∀ (fr : Nat → AV) (e : TypeId) (x : Operand), ndO fr (.box e x) = nd fr [x]) ∧
    (∀ (fr : Nat → AV) (c a b : Operand), ndO fr (.pick c a b) = True) ∧ (∀ (fr : Nat → AV) (t : TypeId) (a x : Operand), ndO fr (.store t a x) = nd fr [a, x]) ∧ (∀ (fr : Nat → AV) (t : TypeId) (x : Operand), ndO fr (.load t x) = nd fr [x]) ∧
    (∀ (fr : Nat → AV) (x : Operand), ndO fr (.nilCheck x) = nd fr [x]) ∧ (∀ (fr : Nat → AV) (op : BinOp) (t r : TypeId) (x y : Operand), ndO fr (.binOp op t x y r) = nd fr [x, y]) ∧ (∀ (fr : Nat → AV) (op : UnOp) (t : TypeId) (x : Operand), ndO fr (.unOp op t x) = nd fr [x]) ∧
    (∀ (fr : Nat → AV) (s t : TypeId) (x : Operand), ndO fr (.convert s t x) = nd fr [x]) ∧ (∀ (fr : Nat → AV) (s : TypeId) (x : Operand) (f : Nat), ndO fr (.fieldAddr s x f) = nd fr [x]) ∧ (∀ (fr : Nat → AV) (s : TypeId) (x : Operand) (f : Nat), ndO fr (.field s x f) = nd fr [x]) ∧
    (∀ (fr : Nat → AV) (s : TypeId) (x i : Operand), ndO fr (.indexAddr s x i) = nd fr [x, i]) ∧ (∀ (fr : Nat → AV) (s : TypeId) (x i : Operand), ndO fr (.index s x i) = nd fr [x, i]) ∧ (∀ (fr : Nat → AV) (x : Operand) (i : Nat), ndO fr (.extract x i) = nd fr [x]) ∧
    (∀ (fr : Nat → AV) (t : TypeId) (l c : Operand), ndO fr (.makeSlice t l c) = nd fr [l, c]) ∧ (∀ (fr : Nat → AV) (t : TypeId) (ps : List (Nat × Operand)), ndO fr (.build t ps.toArray) = nd fr (ps.map (·.2))) ∧
    (∀ (fr : Nat → AV) (t : TypeId) (k : Nat) (ps : List (Nat × Operand)), ndO fr (.buildSlice t k ps.toArray) = nd fr (ps.map (·.2))) ∧ (∀ (fr : Nat → AV) (b : Builtin) (args : List Operand) (ts : Array TypeId), ndO fr (.call ⟨.builtin b, args.toArray, ts⟩) = nd fr args) ∧
    (∀ (fr : Nat → AV) (f : Operand) (args : List Operand) (ts : Array TypeId), ndO fr (.call ⟨.value f, args.toArray, ts⟩) = nd fr (f :: args)) ∧ (∀ (fr : Nat → AV) (f : Fn) (cs : List Operand), ndO fr (.makeFunc f #[] cs.toArray) = nd fr cs) := by
  refine ⟨?_, ?_, ?_, ?_, ?_, ?_, ?_, ?_, ?_, ?_, ?_, ?_, ?_, ?_, ?_, ?_, ?_, ?_, ?_, ?_, ?_, ?_⟩ <;> intros <;> simp [ndO, Op.operands, Call.operands, nd]

theorem nd_slice (fr : Nat → AV) (t : TypeId) (x : Operand) : (ndO fr (.slice t x none none none) = nd fr [x]) ∧ (∀ y, ndO fr (.slice t x (some y) none none) = nd fr [x, y]) ∧ (∀ y, ndO fr (.slice t x none (some y) none) = nd fr [x, y]) ∧ (∀ y z, ndO fr (.slice t x (some y) (some z) none) = nd fr [x, y, z]) := by
  refine ⟨?_, ?_, ?_, ?_⟩ <;> intros <;> simp [ndO, Op.operands, nd]

theorem bin_rules (ty : TypeId → Option TI) (t : TypeId) : (∀ (k : IntKind) (a b : Int), aBin ty .add t (.d (.int k a)) (.d (.int k b)) = some (ar k (a + b))) ∧ (∀ (k : IntKind) (a b : Int), aBin ty .sub t (.d (.int k a)) (.d (.int k b)) = some (ar k (a - b))) ∧ (∀ (k : IntKind) (a b : Int), aBin ty .mul t (.d (.int k a)) (.d (.int k b)) = some (ar k (a * b))) ∧
    (∀ (k : IntKind) (a b : Int), aBin ty .quo t (.d (.int k a)) (.d (.int k b)) = some (b ≠ 0 ∧ (ar k (a.tdiv b)).1, (ar k (a.tdiv b)).2)) ∧ (∀ (k : IntKind) (a b : Int), aBin ty .rem t (.d (.int k a)) (.d (.int k b)) = some (b ≠ 0, .d (.int k (a.tmod b)))) ∧
    (∀ (k : IntKind) (a b : Int), aBin ty .eql t (.d (.int k a)) (.d (.int k b)) = some (True, .d (.bool (decide (a = b))))) ∧ (∀ (k : IntKind) (a b : Int), aBin ty .neq t (.d (.int k a)) (.d (.int k b)) = some (True, .d (.bool (!decide (a = b))))) ∧
    (∀ (k : IntKind) (a b : Int), aBin ty .lss t (.d (.int k a)) (.d (.int k b)) = some (True, .d (.bool (decide (a < b))))) ∧ (∀ (k : IntKind) (a b : Int), aBin ty .leq t (.d (.int k a)) (.d (.int k b)) = some (True, .d (.bool (decide (a ≤ b))))) ∧
    (∀ (k : IntKind) (a b : Int), aBin ty .gtr t (.d (.int k a)) (.d (.int k b)) = some (True, .d (.bool (decide (b < a))))) ∧ (∀ (k : IntKind) (a b : Int), aBin ty .geq t (.d (.int k a)) (.d (.int k b)) = some (True, .d (.bool (decide (b ≤ a))))) ∧
    (∀ (op : BinOp) (a b : List UInt8), aBin ty op t (.d (.str a)) (.d (.str b)) = aStr op a b) ∧ (∀ (op : BinOp) (cs ds : List AV), aBin ty op t (.agg cs) (.agg ds) = match op with | .eql => aEqAgg ty t false cs ds | .neq => aEqAgg ty t true cs ds | _ => none) := by
  refine ⟨?_, ?_, ?_, ?_, ?_, ?_, ?_, ?_, ?_, ?_, ?_, ?_, ?_⟩ <;> intros <;> first | rfl | (simp [aBin, aInt]; done)

theorem ar_rules : (∀ (n : Int), ar .i64 n = (inI64 n, .d (.int .i64 n))) ∧ (∀ (n : Int), ar .u8 n = (True, .d (.int .u8 (IntKind.u8.wrap n)))) ∧ (∀ (n : Int), ar .u64 n = (True, .d (.int .u64 (IntKind.u64.wrap n)))) := ⟨fun _ => rfl, fun _ => rfl, fun _ => rfl⟩

theorem bit_rules (ty : TypeId → Option TI) (t : TypeId) : (∀ (k k' : IntKind) (a b : Int), aBin ty .shl t (.d (.int k a)) (.d (.int k' b)) = some (0 ≤ b, .d (.int k (k.wrap (a * 2 ^ (min b.toNat k.bits)))))) ∧ (∀ (k k' : IntKind) (a b : Int), aBin ty .shr t (.d (.int k a)) (.d (.int k' b)) = some (0 ≤ b, .d (.int k (a.fdiv (2 ^ (min b.toNat k.bits)))))) ∧
    (∀ (k : IntKind) (a b : Int), aBin ty .and t (.d (.int k a)) (.d (.int k b)) = some (True, .d (.int k (bitsR .and k a b)))) ∧ (∀ (k : IntKind) (a b : Int), aBin ty .or t (.d (.int k a)) (.d (.int k b)) = some (True, .d (.int k (bitsR .or k a b)))) ∧ (∀ (k : IntKind) (a b : Int), aBin ty .xor t (.d (.int k a)) (.d (.int k b)) = some (True, .d (.int k (bitsR .xor k a b)))) := by
  refine ⟨?_, ?_, ?_, ?_, ?_⟩ <;> intros <;> simp [aBin, aInt, aShift]

theorem un_rules : (∀ (b : Bool), aUn .not (.d (.bool b)) = some (True, .d (.bool !b))) ∧ (∀ (k : IntKind) (n : Int), aUn .neg (.d (.int k n)) = some (ar k (0 - n))) ∧
    (∀ (x y z : Bool), aPick (.d (.bool x)) (.d (.bool y)) (.d (.bool z)) = some (True, .d (.bool (bif x then y else z)))) ∧ (∀ (x g y z : Bool), aPick (.d (.bool x)) (.cond g (.d (.bool y))) (.d (.bool z)) = some (x = true → g = true, .d (.bool (bif x then y else z)))) ∧
    (∀ (x y g z : Bool), aPick (.d (.bool x)) (.d (.bool y)) (.cond g (.d (.bool z))) = some (x = false → g = true, .d (.bool (bif x then y else z)))) ∧
    (∀ (f x y z : Bool), aPick (.cond f (.d (.bool x))) (.d (.bool y)) (.d (.bool z)) = some (f = true, .d (.bool (bif x then y else z)))) ∧ (∀ (f x g y z : Bool), aPick (.cond f (.d (.bool x))) (.cond g (.d (.bool y))) (.d (.bool z)) = some (f = true ∧ (x = true → g = true), .d (.bool (bif x then y else z)))) ∧
    (∀ (f x y g z : Bool), aPick (.cond f (.d (.bool x))) (.d (.bool y)) (.cond g (.d (.bool z))) = some (f = true ∧ (x = false → g = true), .d (.bool (bif x then y else z)))) ∧
    (∀ b : Bool, aPick (.d (.bool false)) (.cond false .any) (.d (.bool b)) = some (True ∧ True, .d (.bool b))) ∧ (∀ b : Bool, aPick (.d (.bool true)) (.d (.bool b)) (.cond false .any) = some (True ∧ True, .d (.bool b))) := by
  refine ⟨fun _ => rfl, fun _ _ => rfl, ?_, ?_, ?_, ?_, ?_, ?_, fun _ => rfl, fun _ => rfl⟩ <;> intros <;> simp_all [aPick, bare, needs]
end

theorem bif_and (x y : Bool) : (bif x then y else false) = (x && y) := by cases x <;> rfl
theorem bif_or (x y : Bool) : (bif x then true else y) = (x || y) := by cases x <;> rfl

/-! ### steps -/
section
variable [Far] {P : Program} {E : Env P} {W0 : World} {M0 : Nat → Prop}

theorem vc_seq_k {x y : Code} {st : St} {K : Exit → St → Prop} (h : ∀ N : St → Prop, (∀ st, VC E W0 M0 y st K → N st) → VC E W0 M0 x st (thenK N K)) : VC E W0 M0 (.seq x y) st K :=
  vc_seq (h _ fun _ h => h)
theorem vc_reg_n {calm : List FuncId} (hc : Calm E calm) (hm : P.follows .mixedOrders = true) {id : Nat} {l : List Oper} {draw : Bool} (hok : okReg calm E.N draw l.toArray = true) {st : St} {N : St → Prop} {K : Exit → St → Prop} (h : AList E l.toArray N l st) : VC E W0 M0 (.region id l.toArray draw) st (thenK N K) :=
  vc_reg hc hm hok h
theorem vc_cond_k {c : Operand} {x y : Code} {st : St} {K : Exit → St → Prop} {b : Bool} (hb : evO st.fr c = .d (.bool b)) (h1 : b = true → VC E W0 M0 x st K) (h2 : b = false → VC E W0 M0 y st K) : VC E W0 M0 (.cond c x y) st K :=
  vc_cond (by unfold condK; rw [hb]; exact ⟨h1, h2⟩)
theorem AList_nil {ops : Array Oper} {K : St → Prop} {st : St} : AList E ops K [] st = K st := rfl
theorem AList_cons {ops : Array Oper} {K : St → Prop} {st : St} {o : Oper} {r : List Oper} : AList E ops K (o :: r) st = stepO E ops o st (AList E ops K r) := rfl

/-- As 'stepO'; an operation that is not wanted need not go through. -/
def stepX (E : Env P) (ops : Array Oper) (o : Oper) (st : St) (K : St → Prop) : Prop :=
  match guardA ops st.fr o.guard with
  | none => False
  | some none => match aOp E st.fr st.H st.n o.op with
    | .v p c => ndO st.fr o.op ∧ p ∧ K ⟨putD o.dst c st.fr, st.H, st.n⟩
    | .h p c H' n' => ndO st.fr o.op ∧ p ∧ K ⟨putD o.dst c st.fr, H', n'⟩
    | .bad => False
  | some (some b) => (b = false ∧ K ⟨putD o.dst (.cond false .any) st.fr, st.H, st.n⟩) ∨ match aOp E st.fr st.H st.n o.op with
    | .v p c => (b = true → ndO st.fr o.op ∧ p) ∧ K ⟨putD o.dst (.cond b c) st.fr, st.H, st.n⟩
    | .h p c H' n' => (b = true → ndO st.fr o.op ∧ p ∧ K ⟨putD o.dst c st.fr, H', n'⟩) ∧ (b = false → K ⟨putD o.dst (.cond false .any) st.fr, st.H, st.n⟩)
    | .bad => False

def AListX (E : Env P) (ops : Array Oper) (K : St → Prop) : List Oper → St → Prop
  | [], st => K st
  | o :: r, st => stepX E ops o st (AListX E ops K r)

theorem stepX_ok {w : World} {a : Act} {ops : Array Oper} {o : Oper} {st : St} {K : St → Prop} (h : stepX E ops o st K) (hd : ∀ d, o.dst = some d → d < E.N) (hs : Sim W0 M0 E.N st a w) (Q : Exit → Act → World → Prop) :
    if Region.wanted o (yielded ops a.tmps) = true then o.wpIn (fen E.ρ) 0 P a w (Behind W0 M0 E.N K) Q else Behind W0 M0 E.N K (a.put o.dst undef) w := by
  by_cases hb : ∃ b, guardA ops st.fr o.guard = some (some b) ∧ b = false ∧ K ⟨putD o.dst (.cond false .any) st.fr, st.H, st.n⟩
  · obtain ⟨b, h1, h2, h3⟩ := hb
    obtain ⟨S, hH, hF, hM⟩ := hs
    rw [guard_some h1 hF.at_, h2, if_neg (by simp)]
    exact ⟨_, h3, S, hH, hF.putD hd (.cond _ _ _ (fun e => by cases e) (fun _ => rfl)), by rw [put_defers]; exact hM⟩
  · refine stepO_ok ?_ hd hs Q
    unfold stepX at h
    unfold stepO
    split at h
    · exact h.elim
    · rename_i hg; simp only [hg]; exact h
    · rename_i b hg
      simp only [hg]
      rcases h with h | h
      · exact (hb ⟨b, hg, h⟩).elim
      · split at h
        · rename_i ha; simp only [ha]; exact h
        · rename_i ha; simp only [ha]; exact h
        · exact h.elim

theorem AListX_ok {ops : Array Oper} {K : St → Prop} {Q : Exit → Act → World → Prop} (hQ : ∀ st a w, K st → Sim W0 M0 E.N st a w → Q .normal a w) :
    ∀ (l : List Oper) (k : Nat) (st : St) (a : Act) (w : World), (∀ j, l[j]? = ops[k + j]?) → (∀ o ∈ l, ∀ d, o.dst = some d → d < E.N) → AListX E ops K l st → Sim W0 M0 E.N st a w → wpOpsIn (fen E.ρ) 0 P ops Q (List.range' k l.length) a w := by
  intro l
  induction l with
  | nil => intro k st a w _ _ h hs; exact hQ _ _ _ h hs
  | cons o r ih =>
    intro k st a w hl hd h hs
    have ho : ops[k]? = some o := by have := hl 0; simpa using this.symm
    have h1 := stepX_ok (h : stepX E ops o st (AListX E ops K r)) (hd o (by simp)) hs Q
    have ih' := fun st a w => ih (k + 1) st a w (fun j => by have := hl (j + 1); simpa [Nat.add_assoc, Nat.add_comm 1 j] using this) (fun o ho => hd o (by simp [ho]))
    simp only [List.length_cons, List.range'_succ, wpOpsIn, ho]
    split
    · rename_i hw
      rw [if_pos hw] at h1
      exact (Oper.wpIn_mono (fun a' w' ⟨st', h2, h3⟩ => ih' _ _ _ h2 h3) h1)
    · rename_i hw
      rw [if_neg hw] at h1
      obtain ⟨st', h2, h3⟩ := h1
      exact ⟨fun _ _ => trivial, ih' _ _ _ h2 h3⟩

/-- A region that draws no order. -/
theorem vc_regx {id : Nat} {l : List Oper} (hok : (l.all fun o => match o.dst with | some d => decide (d < E.N) | none => true) = true) {st : St} {K : Exit → St → Prop} (h : AListX E l.toArray (K .normal) l st) : VC E W0 M0 (.region id l.toArray false) st K := by
  intro a w hs
  have hd : ∀ o ∈ l, ∀ d, o.dst = some d → d < E.N := by
    intro o ho d hd
    have := List.all_eq_true.1 hok o ho
    rw [hd] at this
    simpa using this
  exact wpIn_region (by
      have := AListX_ok (E := E) (W0 := W0) (M0 := M0) (ops := l.toArray) (Q := Post E W0 M0 K) (fun st a w h1 h2 => ⟨st, h1, h2⟩) l 0 st a w (fun j => by simp) hd h hs
      simpa [List.range_eq_range'] using this)
theorem AListX_nil {ops : Array Oper} {K : St → Prop} {st : St} : AListX E ops K [] st = K st := rfl
theorem AListX_cons {ops : Array Oper} {K : St → Prop} {st : St} {o : Oper} {r : List Oper} : AListX E ops K (o :: r) st = stepX E ops o st (AListX E ops K r) := rfl

/-! one operation at a time -/
section
variable {ops : Array Oper} {K : St → Prop} {o : Op} {d : Option Tmp} {t : TypeId} {p : String} {af : Array Edge} {r : List Oper} {fr : Nat → AV} {H H' : Heap} {n n' : Nat} {q : Prop} {c : AV} {b : Bool} {gd : Nat × Bool}
theorem lx_nil {st : St} (h : K st) : AListX E ops K [] st := h
theorem la_nil {st : St} (h : K st) : AList E ops K [] st := h
theorem lx_mk {l : List Oper} {fl : List (Nat × AV)} {bl : List (Option Box)} (h : AListX E ops K l ⟨getF fl, getB bl, bl.length⟩) : AListX E ops K l (mkSt fl bl) := h
theorem la_mk {l : List Oper} {fl : List (Nat × AV)} {bl : List (Option Box)} (h : AList E ops K l ⟨getF fl, getB bl, bl.length⟩) : AList E ops K l (mkSt fl bl) := h
theorem lx_v (h : aOp E fr H n o = .v q c) (hn : ndO fr o) (hq : q) (hk : AListX E ops K r ⟨putD d c fr, H, n⟩) : AListX E ops K (⟨d, o, t, p, af, none⟩ :: r) ⟨fr, H, n⟩ := by
  show stepX E ops _ _ _; unfold stepX; simp only [guardA_none, h]; exact ⟨hn, hq, hk⟩
theorem lx_h (h : aOp E fr H n o = .h q c H' n') (hn : ndO fr o) (hq : q) (hk : AListX E ops K r ⟨putD d c fr, H', n'⟩) : AListX E ops K (⟨d, o, t, p, af, none⟩ :: r) ⟨fr, H, n⟩ := by
  show stepX E ops _ _ _; unfold stepX; simp only [guardA_none, h]; exact ⟨hn, hq, hk⟩
theorem la_v (h : aOp E fr H n o = .v q c) (hn : ndO fr o) (hq : q) (hk : AList E ops K r ⟨putD d c fr, H, n⟩) : AList E ops K (⟨d, o, t, p, af, none⟩ :: r) ⟨fr, H, n⟩ := by
  show stepO E ops _ _ _; unfold stepO; simp only [guardA_none, h]; exact ⟨hn, hq, hk⟩
theorem la_h (h : aOp E fr H n o = .h q c H' n') (hn : ndO fr o) (hq : q) (hk : AList E ops K r ⟨putD d c fr, H', n'⟩) : AList E ops K (⟨d, o, t, p, af, none⟩ :: r) ⟨fr, H, n⟩ := by
  show stepO E ops _ _ _; unfold stepO; simp only [guardA_none, h]; exact ⟨hn, hq, hk⟩
theorem lx_gv (hg : guardA ops fr (some gd) = some (some b)) (h : aOp E fr H n o = .v q c) (hq : b = true → ndO fr o ∧ q) (hk : AListX E ops K r ⟨putD d (.cond b c) fr, H, n⟩) : AListX E ops K (⟨d, o, t, p, af, some gd⟩ :: r) ⟨fr, H, n⟩ := by
  show stepX E ops _ _ _; unfold stepX; simp only [hg, h]; exact .inr ⟨hq, hk⟩
theorem lx_gh (hg : guardA ops fr (some gd) = some (some b)) (h : aOp E fr H n o = .h q c H' n') (h1 : b = true → ndO fr o ∧ q) (h2 : b = true → AListX E ops K r ⟨putD d c fr, H', n'⟩) (h3 : b = false → AListX E ops K r ⟨putD d (.cond false .any) fr, H, n⟩) : AListX E ops K (⟨d, o, t, p, af, some gd⟩ :: r) ⟨fr, H, n⟩ := by
  show stepX E ops _ _ _; unfold stepX; simp only [hg, h]; exact .inr ⟨fun hb => ⟨(h1 hb).1, (h1 hb).2, h2 hb⟩, h3⟩
/-- Not wanted. -/
theorem lx_g0 (hg : guardA ops fr (some gd) = some (some false)) (hk : AListX E ops K r ⟨putD d (.cond false .any) fr, H, n⟩) : AListX E ops K (⟨d, o, t, p, af, some gd⟩ :: r) ⟨fr, H, n⟩ := by
  show stepX E ops _ _ _; unfold stepX; simp only [hg]; exact .inl ⟨trivial, hk⟩
theorem la_gv (hg : guardA ops fr (some gd) = some (some b)) (h : aOp E fr H n o = .v q c) (hq : b = true → ndO fr o ∧ q) (hk : AList E ops K r ⟨putD d (.cond b c) fr, H, n⟩) : AList E ops K (⟨d, o, t, p, af, some gd⟩ :: r) ⟨fr, H, n⟩ := by
  show stepO E ops _ _ _; unfold stepO; simp only [hg, h]; exact ⟨hq, hk⟩
end

theorem vc_loop_mk {σ : Type} (inv : σ → Prop) (fl : σ → List (Nat × AV)) (bl : σ → List (Option Box)) (μ : σ → Nat) {np : Nat} (hnp : Far.np = np) (s0 : σ) {body : Code} {st : St} {K : Exit → St → Prop} (h0 : inv s0) (ρ : Ren) (hs : subOk np ρ st (fl s0) (bl s0))
    (round : ∀ s, inv s → ∀ N : St → Prop, (∀ st', (∃ s', inv s' ∧ μ s' < μ s ∧ ∃ ρ : Ren, subOk np ρ st' (fl s') (bl s')) → N st') → VC E W0 M0 body (mkSt (fl s) (bl s)) (thenK N K)) : VC E W0 M0 (.loop body) st K :=
  vc_loop inv (fun s => mkSt (fl s) (bl s)) μ s0 h0 (sub_mk hnp ρ hs) (fun s hi => (round s hi _ fun _ h => h).mono fun e st h => by
    cases e with
    | normal => obtain ⟨s', h1, h2, ρ', h3⟩ := h; exact ⟨s', h1, h2, sub_mk hnp ρ' h3⟩
    | _ => exact h)

/-- A cut: the state is seen as another. -/
theorem vc_cut {np : Nat} (hnp : Far.np = np) (fl : List (Nat × AV)) (bl : List (Option Box)) (ρ : Ren) {c : Code} {st : St} {K : Exit → St → Prop} (h : subOk np ρ st fl bl) (hc : VC E W0 M0 c (mkSt fl bl) K) : VC E W0 M0 c st K := VC.mk hnp ρ h hc
end
end Go.Vc
