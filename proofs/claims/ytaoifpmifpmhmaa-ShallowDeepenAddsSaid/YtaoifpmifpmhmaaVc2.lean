/- The types' table of the Vc layer, and its operations that yield a value and leave memory alone. -/
import Derived.Test.YtaoifpmifpmhmaaVc1
import Derived.Laws.StructEq
import Derived.Laws.IdiomStrings
import Derived.Laws.BytesArg
set_option linter.all false
namespace Go.Vc
open Go Go.RowKit
variable [Far]

/-- The kinds of the cells that '==' compares at once. -/
inductive BK where
  | b | i (k : IntKind) | s
  deriving DecidableEq

/-- What the layer knows of a type. -/
inductive Sh where
  | bool | int (k : IntKind) | str
  | slice (e : TypeId)
  | struct (fs : List (Nat × Nat × Bool)) (eq : List BK)
  | array (n : Nat) (e : TypeId)
  | ptr (e : TypeId)
  | other

structure TI where
  sh : Sh
  size : Nat
  bytes : Nat
  zero : List D

def tiAgg (ti : TI) : Bool := match ti.sh with | .struct .. | .array .. => true | _ => false

def dz : D → Value → Bool
  | .bool b, .bool c => !b && !c
  | .int k n, .int k' m => k == k' && n == 0 && m == 0
  | .str s, .string t => s.isEmpty && t.data.toList.isEmpty
  | .nils, .slice none 0 0 => true
  | .nilp, .pointer none => true
  | _, _ => false

def kindOf : Option TypeDesc → Option BK
  | some .bool => some .b
  | some (.int k) => some (.i k)
  | some .string => some .s
  | _ => none

def aggB : Option TypeDesc → Bool
  | some (.struct _) | some (.array _ _) => true
  | _ => false

def shB (P : Program) (t : TypeId) : TypeDesc → Sh → Bool
  | .bool, .bool => true
  | .int k, .int k' => k == k'
  | .string, .str => true
  | .slice e, .slice e' => e == e'
  | .struct fields, .struct fs eq => (fields.toList.map fun f => (f.offset, P.cellsOf f.type, aggB (P.underlying f.type))) == fs && fields.toList.all (fun f => (P.info? f.type).isSome && (P.underlying f.type).isSome) &&
      (eq.isEmpty || (!P.eqGuardType P.depth t && !P.stoodInHeld t && eq.length == fields.size && (fields.toList.zipIdx.all fun (f, i) => f.name != "_" && f.offset == i && P.cellsOf f.type == 1 && kindOf (P.underlying f.type) == eq[i]?)))
  | .array n e, .array n' e' => n == n' && e == e'
  | .pointer e, .ptr e' => e == e'
  | .func .., .other => true
  | .tuple .., .other => true
  | _, _ => false

def tyB (P : Program) (t : TypeId) (ti : TI) : Bool :=
  match P.underlying t, P.info? t with
  | some d, some i => shB P t d ti.sh && i.size == ti.size && i.bytes == ti.bytes &&
      (match i.zero with
        | some z => z.cells.size == ti.size && (ti.zero.isEmpty || (ti.zero.length == ti.size && (List.zip ti.zero z.cells.toList).all fun p => dz p.1 p.2))
        | none => false)
  | _, _ => false

structure TyFacts (P : Program) (t : TypeId) (ti : TI) : Prop where
  desc : ∃ d, P.underlying t = some d ∧ shB P t d ti.sh = true
  info : ∃ i z, P.info? t = some i ∧ i.size = ti.size ∧ i.bytes = ti.bytes ∧ i.zero = some z ∧ z.cells.size = ti.size ∧
    (ti.zero ≠ [] → ti.zero.length = ti.size ∧ ∀ (w : World) (O : Nat → Prop) (j : Nat) (c : D) (u : Value), ti.zero[j]? = some c → z.cells[j]? = some u → RD w O c u)

theorem dz_rd {c : D} {u : Value} (h : dz c u = true) (w : World) (O : Nat → Prop) : RD w O c u := by
  unfold dz at h
  split at h
  · simp at h; obtain ⟨rfl, rfl⟩ := h; exact .bool _
  · simp at h; obtain ⟨⟨rfl, rfl⟩, rfl⟩ := h; exact .int _ _
  · rename_i s t
    simp at h
    obtain ⟨rfl, h⟩ := h
    have : t = ⟨([] : List UInt8).toArray⟩ := by
      obtain ⟨⟨l⟩⟩ := t
      simp at h
      subst h
      rfl
    rw [this]; exact .str _
  · exact .nils
  · exact .nilp
  · cases h

theorem tyB_facts {P : Program} {t : TypeId} {ti : TI} (h : tyB P t ti = true) : TyFacts P t ti := by
  unfold tyB at h
  split at h
  · rename_i d i hd hi
    simp only [Bool.and_eq_true, beq_iff_eq] at h
    obtain ⟨⟨⟨h1, h2⟩, h3⟩, h4⟩ := h
    split at h4
    · rename_i z hz
      simp only [Bool.and_eq_true, beq_iff_eq, Bool.or_eq_true, List.all_eq_true] at h4
      obtain ⟨h4, h5⟩ := h4
      refine ⟨⟨d, hd, h1⟩, i, z, hi, h2, h3, hz, h4, fun hne => ?_⟩
      rcases h5 with h5 | ⟨h5, h6⟩
      · exact absurd (List.isEmpty_iff.1 h5) hne
      · refine ⟨h5, fun w O j c u hc hu => ?_⟩
        refine dz_rd (h6 (c, u) ?_) w O
        rw [← Array.getElem?_toList] at hu
        exact List.mem_of_getElem? (by rw [List.getElem?_zip_eq_some]; exact ⟨hc, hu⟩)
    · cases h4
  · cases h

/-- The table of the types that a program's walks meet. -/
structure Ctx (P : Program) where
  ty : TypeId → Option TI
  ok : ∀ t ti, ty t = some ti → tyB P t ti = true

section
variable {P : Program}
theorem Ctx.facts (X : Ctx P) {t : TypeId} {ti : TI} (h : X.ty t = some ti) : TyFacts P t ti := tyB_facts (X.ok t ti h)

theorem TyFacts.slice {t e : TypeId} {s b : Nat} {z : List D} (h : TyFacts P t ⟨.slice e, s, b, z⟩) : P.underlying t = some (.slice e) := by
  obtain ⟨d, hd, hs⟩ := h.desc
  cases d <;> simp [shB] at hs
  subst hs; exact hd
theorem TyFacts.int {t : TypeId} {k : IntKind} {s b : Nat} {z : List D} (h : TyFacts P t ⟨.int k, s, b, z⟩) : P.underlying t = some (.int k) := by
  obtain ⟨d, hd, hs⟩ := h.desc
  cases d <;> simp [shB] at hs
  subst hs; exact hd
theorem TyFacts.str {t : TypeId} {s b : Nat} {z : List D} (h : TyFacts P t ⟨.str, s, b, z⟩) : P.underlying t = some .string := by
  obtain ⟨d, hd, hs⟩ := h.desc
  cases d <;> simp [shB] at hs
  exact hd
theorem TyFacts.bool {t : TypeId} {s b : Nat} {z : List D} (h : TyFacts P t ⟨.bool, s, b, z⟩) : P.underlying t = some .bool := by
  obtain ⟨d, hd, hs⟩ := h.desc
  cases d <;> simp [shB] at hs
  exact hd
theorem TyFacts.array {t e : TypeId} {n s b : Nat} {z : List D} (h : TyFacts P t ⟨.array n e, s, b, z⟩) : P.underlying t = some (.array n e) := by
  obtain ⟨d, hd, hs⟩ := h.desc
  cases d <;> simp [shB] at hs
  obtain ⟨rfl, rfl⟩ := hs; exact hd
theorem TyFacts.struct {t : TypeId} {fs : List (Nat × Nat × Bool)} {eq : List BK} {s b : Nat} {z : List D} (h : TyFacts P t ⟨.struct fs eq, s, b, z⟩) :
    ∃ fields, P.underlying t = some (.struct fields) ∧ (fields.toList.map fun f => (f.offset, P.cellsOf f.type, aggB (P.underlying f.type))) = fs ∧ (∀ f ∈ fields.toList, (P.info? f.type).isSome = true ∧ (P.underlying f.type).isSome = true) ∧
      (eq ≠ [] → P.eqGuardType P.depth t = false ∧ P.stoodInHeld t = false ∧ eq.length = fields.size ∧ ∀ (i : Nat) (f : Field), fields.toList[i]? = some f → f.name ≠ "_" ∧ f.offset = i ∧ P.cellsOf f.type = 1 ∧ kindOf (P.underlying f.type) = eq[i]?) := by
  obtain ⟨d, hd, hs⟩ := h.desc
  cases d <;> simp only [shB, Bool.false_eq_true] at hs
  rename_i fields
  simp only [Bool.and_eq_true, beq_iff_eq, Bool.or_eq_true, Bool.not_eq_true', List.all_eq_true] at hs
  obtain ⟨⟨h1, h0⟩, h2⟩ := hs
  refine ⟨fields, hd, h1, h0, fun he => ?_⟩
  rcases h2 with h2 | ⟨⟨⟨h2, h3⟩, h5⟩, h4⟩
  · exact absurd (List.isEmpty_iff.1 h2) he
  · refine ⟨h2, h3, h5, fun i f hf => ?_⟩
    have := h4 (f, i) (by
      refine List.mem_of_getElem? (i := i) ?_
      rw [List.getElem?_zipIdx, hf]; simp)
    simp at this
    exact ⟨this.1.1.1, this.1.1.2, this.1.2, this.2⟩

theorem TyFacts.isAgg {t : TypeId} {ti : TI} (h : TyFacts P t ti) (w : World) :
    (isAgg t).run P w = .ok (tiAgg ti) w := by
  obtain ⟨d, hd, hs⟩ := h.desc
  unfold Go.isAgg
  simp only [Sem.run_bind, run_underlying hd, Result.andThen_ok, tiAgg]
  generalize ti.sh = sh at hs
  cases d <;> cases sh <;> simp_all [shB]

theorem TyFacts.sizeOf {t : TypeId} {ti : TI} (h : TyFacts P t ti) (w : World) : (sizeOf t).run P w = .ok ti.size w := by
  obtain ⟨i, z, hi, hs, _⟩ := h.info
  simp [Go.sizeOf, typeInfo, hi, hs]
theorem TyFacts.cells {t : TypeId} {ti : TI} (h : TyFacts P t ti) : P.cellsOf t = ti.size := by
  obtain ⟨i, z, hi, hs, _⟩ := h.info
  simp [Program.cellsOf, hi, hs]
end

/-! ## The operations -/
abbrev RV := Option (Prop × AV)

def bare : AV → AV
  | .cond _ v => v
  | v => v
def needs : AV → Prop
  | .cond b _ => b = true
  | _ => True

def inI64 (n : Int) : Prop := -9223372036854775808 ≤ n ∧ n ≤ 9223372036854775807

def ar (k : IntKind) (n : Int) : Prop × AV :=
  match k with
  | .i64 => (inI64 n, .d (.int .i64 n))
  | k => (True, .d (.int k (k.wrap n)))

def bitsR (op : BinOp) (k : IntKind) (a b : Int) : Int :=
  match op with
  | .and => k.wrap (BitVec.ofInt k.bits a &&& BitVec.ofInt k.bits b).toNat
  | .or => k.wrap (BitVec.ofInt k.bits a ||| BitVec.ofInt k.bits b).toNat
  | .xor => k.wrap (BitVec.ofInt k.bits a ^^^ BitVec.ofInt k.bits b).toNat
  | _ => k.wrap (BitVec.ofInt k.bits a &&& ~~~BitVec.ofInt k.bits b).toNat

def aInt (op : BinOp) (k : IntKind) (a b : Int) : RV :=
  match op with
  | .add => some (ar k (a + b))
  | .sub => some (ar k (a - b))
  | .mul => some (ar k (a * b))
  | .quo => some (b ≠ 0 ∧ (ar k (a.tdiv b)).1, (ar k (a.tdiv b)).2)
  | .rem => some (b ≠ 0, .d (.int k (a.tmod b)))
  | .eql => some (True, .d (.bool (decide (a = b))))
  | .neq => some (True, .d (.bool (!decide (a = b))))
  | .lss => some (True, .d (.bool (decide (a < b))))
  | .leq => some (True, .d (.bool (decide (a ≤ b))))
  | .gtr => some (True, .d (.bool (decide (b < a))))
  | .geq => some (True, .d (.bool (decide (b ≤ a))))
  | .and | .or | .xor | .andNot => some (True, .d (.int k (bitsR op k a b)))
  | .shl | .shr => none

def aShift (op : BinOp) (k : IntKind) (a b : Int) : RV :=
  match op with
  | .shl => some (0 ≤ b, .d (.int k (k.wrap (a * 2 ^ (min b.toNat k.bits)))))
  | .shr => some (0 ≤ b, .d (.int k (a.fdiv (2 ^ (min b.toNat k.bits)))))
  | _ => none

def aStr (op : BinOp) (a b : List UInt8) : RV :=
  match op with
  | .add => some (a.length + b.length ≤ 9223372036854775807, .d (.str (a ++ b)))
  | .eql => some (True, .d (.bool (decide (a = b))))
  | .neq => some (True, .d (.bool (!decide (a = b))))
  | .lss => some (True, .d (.bool (Op.bytesLess a b)))
  | .leq => some (True, .d (.bool (Op.bytesLess a b || decide (a = b))))
  | .gtr => some (True, .d (.bool !(Op.bytesLess a b || decide (a = b))))
  | .geq => some (True, .d (.bool !(Op.bytesLess a b)))
  | _ => none

def eqD : BK → D → D → Option Bool
  | .b, .bool a, .bool b => some (a == b)
  | .i k, .int k1 a, .int k2 b => if k1 = k ∧ k2 = k then some (decide (a = b)) else none
  | .s, .str a, .str b => some (decide (a = b))
  | _, _, _ => none
def eqAgg : List BK → List AV → List AV → Option Bool
  | [], [], [] => some true
  | k :: ks, .d x :: xs, .d y :: ys => match eqD k x y, eqAgg ks xs ys with
    | some b, some c => some (b && c)
    | _, _ => none
  | _, _, _ => none

def aEqAgg (ty : TypeId → Option TI) (t : TypeId) (neg : Bool) (cs ds : List AV) : RV :=
  match ty t with
  | some ⟨.struct _ (k :: ks), _, _, _⟩ => (eqAgg (k :: ks) cs ds).map fun b => (True, .d (.bool (if neg then !b else b)))
  | _ => none

def aBin (ty : TypeId → Option TI) (op : BinOp) (t : TypeId) (x y : AV) : RV :=
  match x, y with
  | .d (.int k a), .d (.int k' b) =>
    match op with
    | .shl | .shr => aShift op k a b
    | _ => if k = k' then aInt op k a b else none
  | .d (.str a), .d (.str b) => aStr op a b
  | .d (.bool a), .d (.bool b) => match ty t with
    | some ⟨.bool, _, _, _⟩ => match op with
      | .eql => some (True, .d (.bool (a == b)))
      | .neq => some (True, .d (.bool (!(a == b))))
      | _ => none
    | _ => none
  | .agg cs, .agg ds =>
    match op with
    | .eql => aEqAgg ty t false cs ds
    | .neq => aEqAgg ty t true cs ds
    | _ => none
  | _, _ => none

section
variable {P : Program} {X : Ctx P} {w : World} {S : Lays} {n : Nat}

theorem R.int_iff {k : IntKind} {a : Int} {v : Value} : R w S n (.d (.int k a)) v ↔ v = .int k a :=
  ⟨fun h => by cases h with | d h => cases h; rfl, fun h => by subst h; exact .d (.int _ _)⟩
theorem R.bool_iff {a : Bool} {v : Value} : R w S n (.d (.bool a)) v ↔ v = .bool a :=
  ⟨fun h => by cases h with | d h => cases h; rfl, fun h => by subst h; exact .d (.bool _)⟩
theorem R.str_iff {a : List UInt8} {v : Value} : R w S n (.d (.str a)) v ↔ v = .string ⟨a.toArray⟩ :=
  ⟨fun h => by cases h with | d h => cases h; rfl, fun h => by subst h; exact .d (.str _)⟩
theorem R.mkInt (k : IntKind) (a : Int) : R w S n (.d (.int k a)) (.int k a) := .d (.int _ _)
theorem R.mkBool (a : Bool) : R w S n (.d (.bool a)) (.bool a) := .d (.bool _)
theorem R.mkStr (a : List UInt8) : R w S n (.d (.str a)) (.string ⟨a.toArray⟩) := .d (.str _)

theorem wrap_i64_in {a : Int} (h : inI64 a) : IntKind.i64.wrap a = a := IntWalk.i64_in a ⟨h.1, h.2⟩

theorem ar_ok {k : IntKind} {a : Int} (h : (ar k a).1) : R w S n (ar k a).2 (.int k (k.wrap a)) := by
  unfold ar at *
  split
  · rw [wrap_i64_in h]; exact R.mkInt _ _
  · exact R.mkInt _ _

theorem aInt_ok {op : BinOp} {k : IntKind} {a b : Int} {t : TypeId} {p : Prop} {c : AV} (h : aInt op k a b = some (p, c)) (hp : p) :
    ∃ v, (binOp op t (.int k a) (.int k b)).run P w = .ok v w ∧ R w S n c v := by
  unfold aInt at h
  have hbe : (a == b) = decide (a = b) := by rw [Bool.eq_iff_iff]; simp
  have hne : (a != b) = !decide (a = b) := by rw [bne, hbe]
  split at h <;> simp only [Option.some.injEq, reduceCtorEq] at h
  case h_1 => exact ⟨.int k (k.wrap (a + b)), by simp [binOp, Op.intArith], by rw [show c = (ar k (a + b)).2 by rw [h]]; exact ar_ok (by rw [h]; exact hp)⟩
  case h_2 => exact ⟨.int k (k.wrap (a - b)), by simp [binOp, Op.intArith], by rw [show c = (ar k (a - b)).2 by rw [h]]; exact ar_ok (by rw [h]; exact hp)⟩
  case h_3 => exact ⟨.int k (k.wrap (a * b)), by simp [binOp, Op.intArith], by rw [show c = (ar k (a * b)).2 by rw [h]]; exact ar_ok (by rw [h]; exact hp)⟩
  case h_4 =>
    simp only [Prod.mk.injEq] at h
    obtain ⟨rfl, rfl⟩ := h
    exact ⟨_, by simp [binOp, Op.intDiv, hp.1], ar_ok hp.2⟩
  case h_5 =>
    simp only [Prod.mk.injEq] at h
    obtain ⟨rfl, rfl⟩ := h
    exact ⟨_, by simp [binOp, Op.intDiv, hp], R.mkInt _ _⟩
  all_goals
    simp only [Prod.mk.injEq] at h
    obtain ⟨_, rfl⟩ := h
    first
      | (refine ⟨.bool _, ?_, R.mkBool _⟩; simp only [binOp, Op.intCmp, hbe, hne]; simp; done)
      | (refine ⟨.bool _, ?_, R.mkBool _⟩; simp [binOp, Op.intCmp, hbe, hne]; done)
      | (refine ⟨.int k (bitsR .and k a b), ?_, R.mkInt _ _⟩; simp only [binOp, Op.intBits, bitsR]; simp; done)
      | (refine ⟨.int k (bitsR .or k a b), ?_, R.mkInt _ _⟩; simp only [binOp, Op.intBits, bitsR]; simp; done)
      | (refine ⟨.int k (bitsR .xor k a b), ?_, R.mkInt _ _⟩; simp only [binOp, Op.intBits, bitsR]; simp; done)
      | (refine ⟨.int k (bitsR .andNot k a b), ?_, R.mkInt _ _⟩; simp only [binOp, Op.intBits, bitsR]; simp; done)

theorem aShift_ok {op : BinOp} {k k' : IntKind} {a b : Int} {t : TypeId} {p : Prop} {c : AV} (h : aShift op k a b = some (p, c)) (hp : p) :
    ∃ v, (binOp op t (.int k a) (.int k' b)).run P w = .ok v w ∧ R w S n c v := by
  unfold aShift at h
  split at h <;> simp only [Option.some.injEq, Prod.mk.injEq, reduceCtorEq] at h
  all_goals
    obtain ⟨rfl, rfl⟩ := h
    exact ⟨_, by simp [binOp, Op.shift, Int.not_lt.2 hp], R.mkInt _ _⟩

theorem aStr_ok {op : BinOp} {a b : List UInt8} {t : TypeId} {p : Prop} {c : AV} (h : aStr op a b = some (p, c)) (hp : p) :
    ∃ v, (binOp op t (.string ⟨a.toArray⟩) (.string ⟨b.toArray⟩)).run P w = .ok v w ∧ R w S n c v := by
  unfold aStr at h
  have hb : binOp op t (.string ⟨a.toArray⟩) (.string ⟨b.toArray⟩) = Op.stringOp op ⟨a.toArray⟩ ⟨b.toArray⟩ := by cases op <;> rfl
  rw [hb]
  have he : (a == b) = decide (a = b) := by rw [Bool.eq_iff_iff]; simp
  split at h <;> simp only [Option.some.injEq, Prod.mk.injEq, reduceCtorEq] at h
  case h_1 =>
    obtain ⟨rfl, rfl⟩ := h
    refine ⟨_, run_string_add_sum w _ _ (by simpa [ByteArray.size] using hp), ?_⟩
    rw [ByteArray.mk_append_mk]
    exact R.mkStr _
  all_goals
    obtain ⟨_, rfl⟩ := h
    exact ⟨_, by simp only [Op.stringOp, ByteArray.toList_mk, he, Sem.run_pure], R.mkBool _⟩

theorem eqD_ok {d : Nat} {t : TypeId} {k : BK} {x y : D} {u v : Value} {O : Nat → Prop} {b : Bool} (h : eqD k x y = some b) (hx : RD w O x u) (hy : RD w O y v) (hb : kindOf (P.underlying t) = some k) :
    (Op.equalIn (d + 1) t u v).run P w = .ok b w := by
  generalize hd : P.underlying t = dd at hb
  unfold eqD at h
  split at h
  · cases hx; cases hy
    cases h
    unfold kindOf at hb
    split at hb <;> simp at hb
    simp [Op.equalIn, run_underlying hd]
  · split at h
    · rename_i k1 a k2 b0 hk; obtain ⟨rfl, rfl⟩ := hk
      cases hx; cases hy
      cases h
      have hbe : (a == b0) = decide (a = b0) := by rw [Bool.eq_iff_iff]; simp
      unfold kindOf at hb
      split at hb <;> simp at hb
      subst hb
      simp [Op.equalIn, run_underlying hd, hbe]
    · cases h
  · cases hx; cases hy
    cases h
    rename_i a b
    have he : (a == b) = decide (a = b) := by rw [Bool.eq_iff_iff]; simp
    unfold kindOf at hb
    split at hb <;> simp at hb
    simp [Op.equalIn, run_underlying hd, beq_toListBytes, he]
  · cases h

theorem run_isAgg_basic {t : TypeId} {k : BK} (hb : kindOf (P.underlying t) = some k) (w : World) : (isAgg t).run P w = .ok false w := by
  generalize hd : P.underlying t = dd at hb
  unfold kindOf at hb
  split at hb <;> simp at hb <;> simp [isAgg, run_underlying hd]

theorem run_part_basic {t : TypeId} {k : BK} (hb : kindOf (P.underlying t) = some k) {cs : Array Value} {i : Nat} {u : Value} (hu : cs[i]? = some u) (w : World) : (part t cs i).run P w = .ok u w := by
  simp [part, run_isAgg_basic hb, hu]

theorem eqAgg_ok {d : Nat} {O : Nat → Prop} (us vs : List Value) : ∀ (fields : List Field) (ks : List BK) (cs ds : List AV) (i : Nat) (b : Bool), eqAgg ks cs ds = some b →
    (∀ (j : Nat) (f : Field), fields[j]? = some f → f.name ≠ "_" ∧ f.offset = i + j ∧ kindOf (P.underlying f.type) = ks[j]?) → fields.length = ks.length →
    (∀ (j : Nat) (c : AV), cs[j]? = some c → ∃ u, us[i + j]? = some u ∧ R w S n c u) → (∀ (j : Nat) (c : AV), ds[j]? = some c → ∃ u, vs[i + j]? = some u ∧ R w S n c u) →
    (Op.eqFields (d + 1) us.toArray vs.toArray fields).run P w = .ok b w := by
  intro fields
  induction fields with
  | nil =>
    intro ks cs ds i b h _ hl _ _
    cases ks with
    | nil =>
      unfold eqAgg at h
      split at h <;> simp_all [Op.eqFields]
    | cons => simp at hl
  | cons f fields ih =>
    intro ks cs ds i b h hf hl hc hd
    cases ks with
    | nil => simp at hl
    | cons k ks =>
      unfold eqAgg at h
      split at h
      · rename_i heq; simp at heq
      · rename_i k' ks' x xs y ys heq
        obtain ⟨rfl, rfl⟩ : k = k' ∧ ks = ks' := by simpa using heq
        split at h
        · rename_i b1 c1 h1 h2
          cases h
          obtain ⟨hn, ho, hk⟩ := hf 0 f rfl
          simp only [Nat.add_zero, List.getElem?_cons_zero] at ho hk
          obtain ⟨u, hu, hru⟩ := hc 0 _ rfl
          obtain ⟨v, hv, hrv⟩ := hd 0 _ rfl
          simp only [Nat.add_zero] at hu hv
          have hux : us.toArray[i]? = some u := by simpa using hu
          have hvx : vs.toArray[i]? = some v := by simpa using hv
          cases hru with | d hru =>
          cases hrv with | d hrv =>
          have hrec := ih ks xs ys (i + 1) c1 h2 (fun j g hg => by
            have := hf (j + 1) g (by simpa using hg)
            refine ⟨this.1, by omega, by simpa using this.2.2⟩) (by simpa using hl)
            (fun j c hj => by have := hc (j + 1) c (by simpa using hj); rwa [show i + (j + 1) = i + 1 + j from by omega] at this)
            (fun j c hj => by have := hd (j + 1) c (by simpa using hj); rwa [show i + (j + 1) = i + 1 + j from by omega] at this)
          simp only [Op.eqFields, ne_eq, hn, not_false_eq_true, if_true, Sem.run_bind, ho, run_part_basic hk hux, run_part_basic hk hvx, Result.andThen_ok, eqD_ok h1 hru hrv hk]
          cases b1
          · simp
          · simpa using hrec
        · cases h
      · cases h

theorem aEqAgg_ok {t : TypeId} {neg : Bool} {cs ds : List AV} {u v : Value} {p : Prop} {c : AV} (h : aEqAgg X.ty t neg cs ds = some (p, c)) (hu : R w S n (.agg cs) u) (hv : R w S n (.agg ds) v) (x y : Operand) :
    ∃ r, (do eqGuard (if neg then .neq else .eql) t x y u v; binOp (if neg then .neq else .eql) t u v : Sem Value).run P w = .ok r w ∧ R w S n c r := by
  unfold aEqAgg at h
  split at h
  · rename_i fs k ks sz by_ z hty
    cases he : eqAgg (k :: ks) cs ds with
    | none => rw [he] at h; cases h
    | some b =>
      rw [he] at h
      simp only [Option.map_some, Option.some.injEq, Prod.mk.injEq] at h
      obtain ⟨_, rfl⟩ := h
      cases hu with | agg _ us hul hu1 hur =>
      cases hv with | agg _ vs hvl hv1 hvr =>
      obtain ⟨fields, hd, hfs, _, hF⟩ := (X.facts hty).struct
      obtain ⟨hg, hs, hlen, hF⟩ := hF (by simp)
      have hfo : P.fieldsOf t = fields := by simp [Program.fieldsOf, hd]
      have hE : (Op.equal t (.agg us.toArray) (.agg vs.toArray)).run P w = .ok b w := by
        unfold Op.equal Op.maxDepth
        rw [run_equalIn_struct w 9999 t _ _ (by rw [hfo]; exact hd) hs, hfo]
        refine eqAgg_ok (d := 9998) (S := S) (n := n) (O := own S) us vs fields.toList (k :: ks) cs ds 0 b he (fun j f hf => ?_) (by simp only [Array.length_toList]; omega) (fun j c hj => ?_) (fun j c hj => ?_)
        · obtain ⟨a1, a2, _, a4⟩ := hF j f hf
          exact ⟨a1, by omega, a4⟩
        · have : j < cs.length := (List.getElem?_eq_some_iff.1 hj).1
          exact ⟨us[j]'(by omega), by simp, hur j c _ hj (by simp)⟩
        · have : j < ds.length := (List.getElem?_eq_some_iff.1 hj).1
          exact ⟨vs[j]'(by omega), by simp, hvr j c _ hj (by simp)⟩
      have hG : (eqGuard (if neg then .neq else .eql) t x y (.agg us.toArray) (.agg vs.toArray)).run P w = .ok () w := by
        cases neg <;> simp [eqGuard, hg]
      cases neg
      · refine ⟨.bool b, ?_, R.mkBool _⟩
        simp only [Bool.false_eq_true, if_false] at hG ⊢
        simp [binOp, hE, hG]
      · refine ⟨.bool !b, ?_, R.mkBool _⟩
        simp only [if_true] at hG ⊢
        simp [binOp, hE, hG]
  · cases h
end
end Go.Vc
