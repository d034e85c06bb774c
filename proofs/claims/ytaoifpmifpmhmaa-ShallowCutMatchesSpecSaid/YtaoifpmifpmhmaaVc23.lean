/- The Vc layer: the walk's rewriting rules under one name. -/
import Derived.Test.YtaoifpmifpmhmaaVc22
set_option linter.all false
namespace Go.Vc
open Go Go.RowKit

theorem splice_rules {α : Type} : (∀ (cs : List α), splice cs 0 [] = cs) ∧ (∀ (c v : α) (cs vs : List α), splice (c :: cs) 0 (v :: vs) = v :: splice cs 0 vs) ∧ (∀ (c : α) (cs vs : List α) (n : Nat), splice (c :: cs) (n + 1) vs = c :: splice cs n vs) := by
  refine ⟨fun cs => by simp [splice], fun c v cs vs => by simp [splice], fun c cs vs n => ?_⟩
  simp [splice, Nat.add_right_comm]

theorem list_rules {α : Type} : (∀ (l : List α), l.take 0 = []) ∧ (∀ (l : List α), l.drop 0 = l) ∧ (∀ (a : α) (l : List α) (n : Nat), (a :: l).take (n + 1) = a :: l.take n) ∧ (∀ (a : α) (l : List α) (n : Nat), (a :: l).drop (n + 1) = l.drop n) ∧
    (∀ (n : Nat), ([] : List α).take n = []) ∧ (∀ (n : Nat), ([] : List α).drop n = []) ∧ (∀ (a : α) (l : List α), (a :: l)[0]? = some a) ∧ (∀ (a : α) (l : List α) (n : Nat), (a :: l)[n + 1]? = l[n]?) ∧ (∀ (n : Nat), ([] : List α)[n]? = none) ∧
    (∀ (a : α) (l : List α), (a :: l).length = l.length + 1) ∧ (([] : List α).length = 0) ∧ (∀ (l : List α), [] ++ l = l) ∧ (∀ (l : List α), l ++ [] = l) ∧ (∀ (a : α) (l m : List α), (a :: l) ++ m = a :: (l ++ m)) ∧
    (∀ (a b : α) (l : List α), (a :: l).set 0 b = b :: l) ∧ (∀ (a b : α) (l : List α) (n : Nat), (a :: l).set (n + 1) b = a :: l.set n b) := by
  refine ⟨fun _ => rfl, fun _ => rfl, fun _ _ _ => rfl, fun _ _ _ => rfl, fun n => List.take_nil, fun n => List.drop_nil, fun _ _ => rfl, fun _ _ _ => rfl, fun _ => rfl, fun _ _ => rfl, rfl, fun _ => rfl, fun l => List.append_nil l, fun _ _ _ => rfl, fun _ _ _ => rfl, fun _ _ _ _ => rfl⟩

theorem opt_rules {α β : Type} : (∀ (f : α → β) (a : α), Option.map f (some a) = some (f a)) ∧ (∀ (f : α → β), Option.map f none = none) := ⟨fun _ _ => rfl, fun _ => rfl⟩
theorem opt_bind {α β : Type} : (∀ (f : α → Option β) (a : α), Option.bind (some a) f = f a) := fun _ _ => rfl
theorem map_rules {α β : Type} : (∀ (f : α → β), List.map f [] = []) ∧ (∀ (f : α → β) (a : α) (l : List α), List.map f (a :: l) = f a :: List.map f l) := ⟨fun _ => rfl, fun _ _ _ => rfl⟩

theorem st_rules : (∀ (fl : List (Nat × AV)) (bl : List (Option Box)), mkSt fl bl = ⟨getF fl, getB bl, bl.length⟩) := fun _ _ => rfl
theorem b_rules : (∀ (p : Prop) [Decidable p], (decide p = true) = p) ∧ (∀ (p : Prop) [Decidable p], (decide p = false) ↔ ¬p) ∧ (∀ b : Bool, ((!b) = true) = (b = false)) ∧ (∀ b : Bool, ((!b) = false) = (b = true)) ∧ (∀ a b : Bool, ((a && b) = true) = (a = true ∧ b = true)) ∧ (∀ a b : Bool, ((a || b) = true) = (a = true ∨ b = true)) ∧ (∀ a b : Bool, ((!a) = b) ↔ a = !b) ∧ ((!true) = false) ∧ ((!false) = true) ∧ (∀ a b : Bool, ((a && b) = false) ↔ (a = true → b = false)) ∧ (∀ a b : Bool, ((a || b) = false) ↔ (a = false ∧ b = false)) ∧ (∀ b : Bool, (!!b) = b) := by
  refine ⟨fun _ _ => by simp, fun _ _ => by simp, ?_, ?_, ?_, ?_, ?_, ?_, ?_, ?_, ?_, ?_⟩ <;> simp

theorem bool_rules : (∀ b : Bool, (bif true then b else false) = b) ∧ (∀ b : Bool, (bif false then b else false) = false) ∧ ((!true) = false) ∧ ((!false) = true) ∧ (∀ b : Bool, (true && b) = b) ∧ (∀ b : Bool, (false && b) = false) ∧ (∀ b : Bool, (true || b) = true) ∧ (∀ b : Bool, (false || b) = b) ∧ (∀ b : Bool, (b && true) = b) ∧ (∀ b : Bool, (b || false) = b) := by
  refine ⟨?_, ?_, ?_, ?_, ?_, ?_, ?_, ?_, ?_, ?_⟩ <;> simp

theorem env_rules {P : Program} (E : Env P) : (∀ N : Nat, (E.at_ N).X = E.X) ∧ (∀ N : Nat, (E.at_ N).N = N) ∧ (∀ N : Nat, (E.at_ N).Γ = E.Γ) ∧ (∀ l : Nat, (E.inR l).X = E.X) ∧ (∀ l : Nat, (E.inR l).N = E.N) ∧ (∀ l : Nat, (E.inR l).Γ = E.Γ) :=
  ⟨fun _ => rfl, fun _ => rfl, fun _ => rfl, fun _ => rfl, fun _ => rfl, fun _ => rfl⟩
theorem envx_rules {P : Program} (X : Ctx P) : (Env.empty X).X = X := rfl

theorem guard_rules : (∀ (ops : Array Oper) (fr : Nat → AV), guardA ops fr none = some none) ∧ (∀ (ops : Array Oper) (fr : Nat → AV) (g : Nat) (want : Bool), guardA ops fr (some (g, want)) = match (ops[g]?).bind (·.dst) with
    | some d => (match gWant (fr d) want with | some b => some (some b) | none => none)
    | none => none) ∧ (∀ (l : List Oper) (i : Nat), (l.toArray)[i]? = l[i]?) ∧ (∀ (x : Bool), gWant (.d (.bool x)) true = some x) ∧ (∀ (x : Bool), gWant (.d (.bool x)) false = some !x) ∧ (∀ (g x : Bool), gWant (.cond g (.d (.bool x))) true = some (g && x)) ∧ (∀ (g x : Bool), gWant (.cond g (.d (.bool x))) false = some (g && !x)) ∧ (∀ (x : Bool), gWant (.cond false .any) x = some false) :=
  ⟨fun _ _ => rfl, fun _ _ _ _ => rfl, fun l i => by simp, fun _ => rfl, fun _ => rfl, fun _ _ => rfl, fun _ _ => rfl, fun _ => rfl⟩

theorem k_rules : (∀ (N : St → Prop) (K : Exit → St → Prop), thenK N K .normal = N) ∧ (∀ (N : St → Prop) (K : Exit → St → Prop), thenK N K .ret = K .ret) ∧ (∀ (N : St → Prop) (K : Exit → St → Prop) (i : Nat), thenK N K (.exit i) = K (.exit i)) ∧
    (∀ (i : Nat) (K : Exit → St → Prop), blockK i K .normal = K .normal) ∧ (∀ (i : Nat) (K : Exit → St → Prop), blockK i K .ret = K .ret) ∧ (∀ (i j : Nat) (K : Exit → St → Prop), blockK i K (.exit j) = if j = i then K .normal else K (.exit j)) := by
  refine ⟨fun _ _ => rfl, fun _ _ => rfl, fun _ _ _ => rfl, fun _ _ => rfl, fun _ _ => rfl, fun i j K => ?_⟩
  funext st
  simp only [blockK]
  split <;> rfl


theorem cell_rules : (∀ (cs : List AV), cellsOfA (.agg cs) = cs) ∧ (∀ (x : D), cellsOfA (.d x) = [.d x]) ∧ (∀ (i o l : Nat), cellsOfA (.sl i o l) = [.sl i o l]) ∧ (∀ (i o l : Nat), cellsOfA (.ptr i o l) = [.ptr i o l]) ∧
    (∀ (H : Heap) (cs : List AV), cellsA H (.agg cs) = some cs) ∧ (∀ (H : Heap) (x : D), cellsA H (.d x) = some [.d x]) ∧ (∀ (H : Heap) (z : Nat) (xs : List (List D)) (e f : Nat), cellsA H (.ip z xs e f) = some [.ip z xs e f]) ∧ (∀ (H : Heap) (f : Fn) (cs : List AV), cellsA H (.clo f cs) = some [.clo f cs]) ∧
    (∀ (H : Heap) (i o l : Nat), cellsA H (.sl i o l) = match H i with | some _ => some [.sl i o l] | none => none) ∧ (∀ (H : Heap) (i o l : Nat), cellsA H (.ptr i o l) = match H i with | some _ => some [.ptr i o l] | none => none) ∧
    (∀ (H : Heap), fz H [] = some (True, [], H)) ∧ (∀ (H : Heap) (c : AV) (cs : List AV), fz H (c :: cs) = match fz1 H c with | some (p, d, H1) => (match fz H1 cs with | some (q, ds, H2) => some (p ∧ q, d :: ds, H2) | none => none) | none => none) ∧
    (∀ (H : Heap) (x : D), fz1 H (.d x) = some (True, cleanD x, H)) ∧ (∀ (H : Heap) (id off len : Nat), fz1 H (.sl id off len) = match H id with | some (.vec _ _ xs) => some (off + len ≤ xs.length, .sl ((xs.drop off).take len), upd H id none) | _ => none) ∧
    (∀ (H : Heap) (id : Nat), fz1 H (.ptr id 0 0) = match H id with | some (.one _ cells) => (match pureL cells with | some ds => some (True, .ptr ds, upd H id none) | none => none) | _ => none) ∧
    (pureL [] = some []) ∧ (∀ (x : D) (cs : List AV), pureL (.d x :: cs) = match pureL cs with | some ds => some (cleanD x :: ds) | none => none) ∧
    (cleanD .nils = .sl []) ∧ (∀ b, cleanD (.bool b) = .bool b) ∧ (∀ k n, cleanD (.int k n) = .int k n) ∧ (∀ s, cleanD (.str s) = .str s) ∧ (∀ xs, cleanD (.sl xs) = .sl xs) ∧ (cleanD .nilp = .nilp) ∧ (∀ cs, cleanD (.ptr cs) = .ptr cs) := by
  refine ⟨fun _ => rfl, fun _ => rfl, fun _ _ _ => rfl, fun _ _ _ => rfl, fun _ _ => rfl, fun _ _ => rfl, fun _ _ _ _ _ => rfl, fun _ _ _ => rfl, fun _ _ _ _ => rfl, fun _ _ _ _ => rfl, fun _ => rfl, fun _ _ _ => rfl, fun _ _ => rfl, fun _ _ _ _ => rfl, fun _ _ => rfl, rfl, fun _ _ => rfl, rfl, fun _ => rfl, fun _ _ => rfl, fun _ => rfl, fun _ => rfl, rfl, fun _ => rfl⟩

theorem fill_rules : (∀ (H : Heap) (pl : Nat → Option (Nat × Nat)) (cs : List AV), fillA H pl cs [] = some cs) ∧ (∀ (H : Heap) (pl : Nat → Option (Nat × Nat)) (cs : List AV) (i : Nat) (v : AV) (rest : List (Nat × AV)), fillA H pl cs ((i, v) :: rest) = match pl i, cellsA H v with
      | some (off, sz), some vs => if vs.length = sz ∧ off + sz ≤ cs.length then fillA H pl (splice cs off vs) rest else none
      | _, _ => none) ∧
    (∀ (sz : Nat) (H : Heap) (k : Nat), fzRows sz H k [] = some (True, [], H)) ∧ (∀ (sz : Nat) (H : Heap) (k i : Nat) (v : AV) (r : List (Nat × AV)), fzRows sz H k ((i, v) :: r) = if i = k then match fz H (cellsOfA v) with
      | some (p, ds, H1) => if ds.length = sz then (match fzRows sz H1 (k + 1) r with
        | some (q, rows, H2) => some (p ∧ q, ds :: rows, H2)
        | none => none) else none
      | none => none else none) := ⟨fun _ _ _ => rfl, fun _ _ _ _ _ _ => rfl, fun _ _ _ => rfl, fun _ _ _ _ _ _ => rfl⟩

theorem bnd_rules : (∀ (len : Nat) (k : Nat → Nat → AV), bnds none none len k = some (True, k 0 len)) ∧ (∀ (q : IntKind) (l : Int) (len : Nat) (k : Nat → Nat → AV), bnds (some (.d (.int q l))) none len k = some (0 ≤ l ∧ l ≤ len, k l.toNat len)) ∧
    (∀ (q : IntKind) (h : Int) (len : Nat) (k : Nat → Nat → AV), bnds none (some (.d (.int q h))) len k = some (0 ≤ h ∧ h ≤ len, k 0 h.toNat)) ∧ (∀ (q q' : IntKind) (l h : Int) (len : Nat) (k : Nat → Nat → AV), bnds (some (.d (.int q l))) (some (.d (.int q' h))) len k = some (0 ≤ l ∧ l ≤ h ∧ h ≤ len, k l.toNat h.toNat)) :=
  ⟨fun _ _ => rfl, fun _ _ _ _ => rfl, fun _ _ _ _ => rfl, fun _ _ _ _ _ _ => rfl⟩

theorem str_rules : (∀ a b : List UInt8, aStr .add a b = some (a.length + b.length ≤ 9223372036854775807, .d (.str (a ++ b)))) ∧ (∀ a b : List UInt8, aStr .eql a b = some (True, .d (.bool (decide (a = b))))) ∧ (∀ a b : List UInt8, aStr .neq a b = some (True, .d (.bool (!decide (a = b))))) ∧
    (∀ a b : List UInt8, aStr .lss a b = some (True, .d (.bool (Op.bytesLess a b)))) ∧ (∀ a b : List UInt8, aStr .leq a b = some (True, .d (.bool (Op.bytesLess a b || decide (a = b))))) ∧
    (∀ a b : List UInt8, aStr .gtr a b = some (True, .d (.bool !(Op.bytesLess a b || decide (a = b))))) ∧ (∀ a b : List UInt8, aStr .geq a b = some (True, .d (.bool !(Op.bytesLess a b)))) :=
  ⟨fun _ _ => rfl, fun _ _ => rfl, fun _ _ => rfl, fun _ _ => rfl, fun _ _ => rfl, fun _ _ => rfl, fun _ _ => rfl⟩

theorem eq_rules : (∀ (ty : TypeId → Option TI) (t : TypeId) (neg : Bool) (cs ds : List AV), aEqAgg ty t neg cs ds = match ty t with
      | some ⟨.struct _ (k :: ks), _, _, _⟩ => (eqAgg (k :: ks) cs ds).map fun b => (True, .d (.bool (if neg then !b else b)))
      | _ => none) ∧ (eqAgg [] [] [] = some true) ∧ (∀ (k : BK) (ks : List BK) (x y : D) (xs ys : List AV), eqAgg (k :: ks) (.d x :: xs) (.d y :: ys) = match eqD k x y, eqAgg ks xs ys with | some b, some c => some (b && c) | _, _ => none) ∧
    (∀ a b, eqD .b (.bool a) (.bool b) = some (a == b)) ∧ (∀ k a b, eqD (.i k) (.int k a) (.int k b) = some (decide (a = b))) ∧ (∀ a b, eqD .s (.str a) (.str b) = some (decide (a = b))) := by
  refine ⟨fun _ _ _ _ _ => rfl, rfl, fun _ _ _ _ _ _ => rfl, fun _ _ => rfl, fun k a b => by simp [eqD], fun _ _ => rfl⟩

theorem bin_bool (ty : TypeId → Option TI) (t : TypeId) (a b : Bool) : (∀ (sz by_ : Nat) (z : List D), ty t = some ⟨.bool, sz, by_, z⟩ → aBin ty .eql t (.d (.bool a)) (.d (.bool b)) = some (True, .d (.bool (a == b)))) ∧ (∀ (sz by_ : Nat) (z : List D), ty t = some ⟨.bool, sz, by_, z⟩ → aBin ty .neq t (.d (.bool a)) (.d (.bool b)) = some (True, .d (.bool (!(a == b))))) := by
  refine ⟨fun _ _ _ h => ?_, fun _ _ _ h => ?_⟩ <;> simp [aBin, h]

/-! ### calls -/
theorem rd_rules : (∀ (H : Heap) (D : List Nat) (x : Vc.D), readA H D (.d x) = some (True, .d (cleanD x), [])) ∧ (∀ (H : Heap) (D : List Nat) (id off len : Nat), readA H D (.sl id off len) = if id ∈ D then some (True, .sl id off len, []) else match H id with
      | some (.vec _ _ xs) => some (off + len ≤ xs.length, .d (.sl ((xs.drop off).take len)), [id])
      | _ => none) ∧ (∀ (H : Heap) (D : List Nat) (id e f : Nat), readA H D (.ptr id e f) = if id ∈ D then some (True, .ptr id e f, []) else match H id with | some (.one _ cells) => (match pureL cells with | some ds => some (e = 0 ∧ f = 0, .d (.ptr ds), [id]) | none => none) | _ => none) ∧ (∀ (H : Heap) (D : List Nat) (z : Nat) (xs : List (List Vc.D)) (e f : Nat), readA H D (.ip z xs e f) = some (True, .ip z xs e f, [])) ∧
    (∀ (H : Heap) (D : List Nat) (cs : List AV), readA H D (.agg cs) = match readL H D cs with | some (p, cs', B) => some (p, .agg cs', B) | none => none) ∧ (∀ (H : Heap) (D : List Nat) (f : Fn) (cs : List AV), readA H D (.clo f cs) = match readL H D cs with | some (p, cs', B) => some (p, .clo f cs', B) | none => none) ∧
    (∀ (H : Heap) (D : List Nat) (x : Vc.D), read1 H D (.d x) = some (True, .d (cleanD x), [])) ∧ (∀ (H : Heap) (D : List Nat) (id off len : Nat), read1 H D (.sl id off len) = if id ∈ D then some (True, .sl id off len, []) else match H id with
      | some (.vec _ _ xs) => some (off + len ≤ xs.length, .d (.sl ((xs.drop off).take len)), [id])
      | _ => none) ∧ (∀ (H : Heap) (D : List Nat) (id e f : Nat), read1 H D (.ptr id e f) = if id ∈ D then some (True, .ptr id e f, []) else match H id with | some (.one _ cells) => (match pureL cells with | some ds => some (e = 0 ∧ f = 0, .d (.ptr ds), [id]) | none => none) | _ => none) ∧ (∀ (H : Heap) (D : List Nat) (z : Nat) (xs : List (List Vc.D)) (e f : Nat), read1 H D (.ip z xs e f) = some (True, .ip z xs e f, [])) ∧
    (∀ (H : Heap) (D : List Nat), readL H D [] = some (True, [], [])) ∧ (∀ (H : Heap) (D : List Nat) (c : AV) (cs : List AV), readL H D (c :: cs) = match read1 H D c with | some (p, c', B) => (match readL H D cs with | some (q, cs', B') => some (p ∧ q, c' :: cs', B ++ B') | none => none) | none => none) ∧
    (∀ (H : Heap) (D : List Nat), readArgs H D [] = some (True, [], [])) ∧ (∀ (H : Heap) (D : List Nat) (c : AV) (cs : List AV), readArgs H D (c :: cs) = match readA H D c with | some (p, c', B) => (match readArgs H D cs with | some (q, cs', B') => some (p ∧ q, c' :: cs', B ++ B') | none => none) | none => none) := by
  refine ⟨fun _ _ _ => rfl, fun _ _ _ _ _ => rfl, fun _ _ _ _ _ => rfl, fun _ _ _ _ _ _ => rfl, fun _ _ _ => rfl, fun _ _ _ _ => rfl, fun _ _ _ => rfl, fun _ _ _ _ _ => rfl, fun _ _ _ _ _ => rfl, fun _ _ _ _ _ _ => rfl, fun _ _ => rfl, fun _ _ _ _ => rfl, fun _ _ => rfl, fun _ _ _ _ => rfl⟩

theorem pure_rules (g : List AV → Option (Prop × AV)) : (∀ args H, (Spec.pure g).dom args H = []) ∧ (∀ args H n, (Spec.pure g).run args H n = match g args with | some (p, r) => some (p, r, none) | none => none) := ⟨fun _ _ => rfl, fun _ _ _ => rfl⟩
theorem gen_rules (g : GFun) : (∀ args H, (Spec.gen g).dom args H = reach args H) ∧ (∀ args H n, (Spec.gen g).run args H n = genRun g (reach args H) args H n) ∧ (∀ args H, (Spec.fresh g).dom args H = []) ∧ (∀ args H n, (Spec.fresh g).run args H n = genRun g [] args H n) := ⟨fun _ _ => rfl, fun _ _ _ => rfl, fun _ _ => rfl, fun _ _ _ => rfl⟩

theorem heap_rules : (∀ (D : List Nat) (f : Heap) (i : Nat), restr D f i = if i ∈ D then f i else none) ∧ (∀ (D : List Nat) (n : Nat) (f g : Heap) (i : Nat), merge D n f g i = if i ∈ D ∨ n ≤ i then g i else f i) ∧ (∀ (B : List Nat) (f : Heap) (i : Nat), killL B f i = if i ∈ B then none else f i) ∧
    (∀ (f : Heap), killL [] f = f) ∧ (∀ (n : Nat) (H : Heap) (bf : List (Option Box)) (ds : List Nat) (i : Nat), ouH ds n H bf i = if i < n then (match ixOf ds i with | some j => ouBox ds n (getB bf j) | none => H i) else ouBox ds n (getB bf (ds.length + (i - n)))) := by
  refine ⟨fun _ _ _ => rfl, fun _ _ _ _ _ => rfl, fun _ _ _ => rfl, fun f => ?_, fun _ _ _ _ _ => rfl⟩
  funext i; simp [killL]

theorem sc_rules : (∀ b, scA (.d (.bool b)) = true) ∧ (∀ k n, scA (.d (.int k n)) = true) ∧ (∀ s, scA (.d (.str s)) = true) ∧ (scA (.d .nils) = true) ∧ (scA (.d .nilp) = true) ∧ (∀ xs, scA (.d (.sl xs)) = false) ∧ (∀ xs, scA (.d (.ptr xs)) = false) ∧ (∀ cs, scA (.agg cs) = cs.all sc1) ∧ (∀ vs, scA (.tup vs) = vs.all sc2) ∧
    (∀ b, sc2 (.d (.bool b)) = true) ∧ (∀ k n, sc2 (.d (.int k n)) = true) ∧ (∀ s, sc2 (.d (.str s)) = true) ∧ (sc2 (.d .nils) = true) ∧ (sc2 (.d .nilp) = true) ∧ (∀ xs, sc2 (.d (.sl xs)) = false) ∧ (∀ xs, sc2 (.d (.ptr xs)) = false) ∧ (∀ cs, sc2 (.agg cs) = cs.all sc1) ∧
    (∀ b, sc1 (.d (.bool b)) = true) ∧ (∀ k n, sc1 (.d (.int k n)) = true) ∧ (∀ s, sc1 (.d (.str s)) = true) ∧ (sc1 (.d .nils) = true) ∧ (sc1 (.d .nilp) = true) ∧ (∀ xs, sc1 (.d (.sl xs)) = false) ∧ (∀ xs, sc1 (.d (.ptr xs)) = false) ∧
    (∀ {α : Type} (p : α → Bool), [].all p = true) ∧ (∀ {α : Type} (p : α → Bool) (a : α) (l : List α), (a :: l).all p = (p a && l.all p)) := by
  refine ⟨?_, ?_, ?_, ?_, ?_, ?_, ?_, ?_, ?_, ?_, ?_, ?_, ?_, ?_, ?_, ?_, ?_, ?_, ?_, ?_, ?_, ?_, ?_, ?_, ?_, ?_⟩ <;> intros <;> rfl


/-! ### a state seen as another -/
theorem mt_rules (ρ : Ren) (H : Heap) : (∀ x y : D, Vc.mt ρ H (.d x) (.d y) = (x = y ∨ cleanD x = y)) ∧ (∀ (k o l : Nat) (y : D), Vc.mt ρ H (.sl k o l) (.d y) = match H k with | some (.vec _ _ xs) => (some k ∈ ρ → False) ∧ o + l ≤ xs.length ∧ D.sl ((xs.drop o).take l) = y | _ => False) ∧
    (∀ (k e f : Nat) (y : D), Vc.mt ρ H (.ptr k e f) (.d y) = match H k with | some (.one _ cells) => (match pureL cells with | some ds => (some k ∈ ρ → False) ∧ e = 0 ∧ f = 0 ∧ D.ptr ds = y | none => False) | _ => False) ∧
    (∀ (k o l i o' l' : Nat), Vc.mt ρ H (.sl k o l) (.sl i o' l') = (ρ[i]? = some (some k) ∧ o = o' ∧ l = l')) ∧ (∀ (i o' l' : Nat), Vc.mt ρ H (.d .nils) (.sl i o' l') = (ρ[i]? = some none ∧ o' = 0 ∧ l' = 0)) ∧
    (∀ (k o l i o' l' : Nat), Vc.mt ρ H (.ptr k o l) (.ptr i o' l') = (ρ[i]? = some (some k) ∧ o = o' ∧ l = l')) ∧ (∀ c : AV, Vc.mt ρ H c .any = True) ∧ (∀ (c : AV) (z : Nat) (xs : List (List D)) (e f : Nat), Vc.mt ρ H c (.ip z xs e f) = (c = .ip z xs e f)) ∧
    (∀ cs cs' : List AV, Vc.mt ρ H (.agg cs) (.agg cs') = mtL ρ H cs cs') ∧ (∀ (f g : Fn) (cs cs' : List AV), Vc.mt ρ H (.clo f cs) (.clo g cs') = (f = g ∧ mtL ρ H cs cs')) ∧ (∀ cs cs' : List AV, Vc.mt ρ H (.tup cs) (.tup cs') = mtL2 ρ H cs cs') ∧
    (mtL ρ H [] [] = True) ∧ (∀ (c c' : AV) (cs cs' : List AV), mtL ρ H (c :: cs) (c' :: cs') = (mt1 ρ H c c' ∧ mtL ρ H cs cs')) ∧ (mtL2 ρ H [] [] = True) ∧ (∀ (c c' : AV) (cs cs' : List AV), mtL2 ρ H (c :: cs) (c' :: cs') = (mt2 ρ H c c' ∧ mtL2 ρ H cs cs')) := by
  refine ⟨?_, ?_, ?_, ?_, ?_, ?_, ?_, ?_, ?_, ?_, ?_, ?_, ?_, ?_, ?_⟩ <;> intros <;> first | rfl | (simp [Vc.mt, mt2, mt1]; done) | (simp [Vc.mt, mt2, mt1, and_comm, eq_comm]; done) | skip
  all_goals (simp only [Vc.mt, mt2, mt1]; apply propext; constructor <;> (intro h; simp_all))

theorem mt2_rules (ρ : Ren) (H : Heap) : (∀ x y : D, mt2 ρ H (.d x) (.d y) = (x = y ∨ cleanD x = y)) ∧ (∀ (k o l : Nat) (y : D), mt2 ρ H (.sl k o l) (.d y) = match H k with | some (.vec _ _ xs) => (some k ∈ ρ → False) ∧ o + l ≤ xs.length ∧ D.sl ((xs.drop o).take l) = y | _ => False) ∧
    (∀ (k e f : Nat) (y : D), mt2 ρ H (.ptr k e f) (.d y) = match H k with | some (.one _ cells) => (match pureL cells with | some ds => (some k ∈ ρ → False) ∧ e = 0 ∧ f = 0 ∧ D.ptr ds = y | none => False) | _ => False) ∧
    (∀ (k o l i o' l' : Nat), mt2 ρ H (.sl k o l) (.sl i o' l') = (ρ[i]? = some (some k) ∧ o = o' ∧ l = l')) ∧ (∀ (i o' l' : Nat), mt2 ρ H (.d .nils) (.sl i o' l') = (ρ[i]? = some none ∧ o' = 0 ∧ l' = 0)) ∧
    (∀ (k o l i o' l' : Nat), mt2 ρ H (.ptr k o l) (.ptr i o' l') = (ρ[i]? = some (some k) ∧ o = o' ∧ l = l')) ∧ (∀ c : AV, mt2 ρ H c .any = True) ∧ (∀ (c : AV) (z : Nat) (xs : List (List D)) (e f : Nat), mt2 ρ H c (.ip z xs e f) = (c = .ip z xs e f)) ∧
    (∀ cs cs' : List AV, mt2 ρ H (.agg cs) (.agg cs') = mtL ρ H cs cs') ∧ (∀ (f g : Fn) (cs cs' : List AV), mt2 ρ H (.clo f cs) (.clo g cs') = (f = g ∧ mtL ρ H cs cs')) := by
  refine ⟨?_, ?_, ?_, ?_, ?_, ?_, ?_, ?_, ?_, ?_⟩ <;> intros <;> first | rfl | (simp [mt2, mt1]; done) | skip
  all_goals (simp only [mt2, mt1]; apply propext; constructor <;> (intro h; simp_all))

theorem mt1_rules (ρ : Ren) (H : Heap) : (∀ x y : D, mt1 ρ H (.d x) (.d y) = (x = y ∨ cleanD x = y)) ∧ (∀ (k o l : Nat) (y : D), mt1 ρ H (.sl k o l) (.d y) = match H k with | some (.vec _ _ xs) => (some k ∈ ρ → False) ∧ o + l ≤ xs.length ∧ D.sl ((xs.drop o).take l) = y | _ => False) ∧
    (∀ (k e f : Nat) (y : D), mt1 ρ H (.ptr k e f) (.d y) = match H k with | some (.one _ cells) => (match pureL cells with | some ds => (some k ∈ ρ → False) ∧ e = 0 ∧ f = 0 ∧ D.ptr ds = y | none => False) | _ => False) ∧
    (∀ (k o l i o' l' : Nat), mt1 ρ H (.sl k o l) (.sl i o' l') = (ρ[i]? = some (some k) ∧ o = o' ∧ l = l')) ∧ (∀ (i o' l' : Nat), mt1 ρ H (.d .nils) (.sl i o' l') = (ρ[i]? = some none ∧ o' = 0 ∧ l' = 0)) ∧
    (∀ (k o l i o' l' : Nat), mt1 ρ H (.ptr k o l) (.ptr i o' l') = (ρ[i]? = some (some k) ∧ o = o' ∧ l = l')) ∧ (∀ c : AV, mt1 ρ H c .any = True) ∧ (∀ (c : AV) (z : Nat) (xs : List (List D)) (e f : Nat), mt1 ρ H c (.ip z xs e f) = (c = .ip z xs e f)) := by
  refine ⟨?_, ?_, ?_, ?_, ?_, ?_, ?_, ?_⟩ <;> intros <;> first | rfl | (simp [mt1]; done) | skip
  all_goals (simp only [mt1]; apply propext; constructor <;> (intro h; simp_all))

theorem sub_rules : (∀ (np : Nat) (ρ : Ren) (st : St) (fl : List (Nat × AV)) (bl : List (Option Box)), subOk np ρ st fl bl = ((apartB ρ && (ρ.take np == (List.range np).map some)) = true ∧ mtBs ρ st.H ρ bl ∧ mtFr ρ st.H st.fr fl)) ∧
    (∀ (ρ : Ren) (H : Heap) (fr : Nat → AV), mtFr ρ H fr [] = True) ∧ (∀ (ρ : Ren) (H : Heap) (fr : Nat → AV) (i : Nat) (c : AV) (r : List (Nat × AV)), mtFr ρ H fr ((i, c) :: r) = (Vc.mt ρ H (fr i) c ∧ mtFr ρ H fr r)) ∧
    (∀ (ρ : Ren) (H : Heap), mtBs ρ H [] [] = True) ∧ (∀ (ρ : Ren) (H : Heap) (k : Nat) (r : Ren) (b : Box) (bs : List (Option Box)), mtBs ρ H (some k :: r) (some b :: bs) = ((match H k with | some b0 => mtBox ρ H b0 b | none => False) ∧ mtBs ρ H r bs)) ∧
    (∀ (ρ : Ren) (H : Heap) (r : Ren) (t s : Nat) (xs : List (List D)) (bs : List (Option Box)), mtBs ρ H (none :: r) (some (.vec t s xs) :: bs) = (xs = [] ∧ mtBs ρ H r bs)) ∧ (∀ (ρ : Ren) (H : Heap) (q : Option Nat) (r : Ren) (bs : List (Option Box)), mtBs ρ H (q :: r) (none :: bs) = mtBs ρ H r bs) ∧
    (∀ (ρ : Ren) (H : Heap) (t s : Nat) (xs : List (List D)) (t' s' : Nat) (xs' : List (List D)), mtBox ρ H (.vec t s xs) (.vec t' s' xs') = (t = t' ∧ s = s' ∧ xs = xs')) ∧ (∀ (ρ : Ren) (H : Heap) (t : Nat) (cs : List AV) (t' : Nat) (cs' : List AV), mtBox ρ H (.one t cs) (.one t' cs') = (t = t' ∧ mtL ρ H cs cs')) := by
  refine ⟨fun _ _ _ _ _ => rfl, fun _ _ _ => rfl, fun _ _ _ _ _ _ => rfl, fun _ _ => rfl, fun _ _ _ _ _ _ => rfl, fun _ _ _ _ _ _ _ => rfl, fun _ _ q _ _ => ?_, fun _ _ _ _ _ _ _ _ => rfl, fun _ _ _ _ _ _ => rfl⟩
  cases q <;> rfl

theorem ret_rules {P : Program} (E : Env P) : (∀ (rs : List ResultVar) (r : AV) (e : Exit) (st : St), retP E rs r e st = ((e = .normal ∨ e = .ret) ∧ match resA E st.H st.fr rs with | some (p, cs) => p ∧ Vc.mt [] st.H (packA cs) r | none => False)) ∧
    (∀ (rs : List ResultVar) (m : Nat) (r : AV) (bf : List (Option Box)) (e : Exit) (st : St), retG E rs m r bf e st = ((e = .normal ∨ e = .ret) ∧ match resA E st.H st.fr rs with | some (p, cs) => p ∧ ∃ ρ : Ren, (apartB ρ && (ρ.take m == (List.range m).map some)) = true ∧ mtBs ρ st.H ρ bf ∧ Vc.mt ρ st.H (packA cs) r | none => False)) ∧
    (∀ (H : Heap) (fr : Nat → AV), resA E H fr [] = some (True, [])) ∧ (∀ (H : Heap) (fr : Nat → AV) (t : Tmp) (r : List ResultVar), resA E H fr (.tmp t :: r) = match resA E H fr r with | some (p, cs) => some (needs (fr t) ∧ p, bare (fr t) :: cs) | none => none) ∧
    (∀ (H : Heap) (fr : Nat → AV) (a : Tmp) (ty : TypeId) (r : List ResultVar), resA E H fr (.cell a ty :: r) = match aLoad E.X.ty H ty (bare (fr a)), resA E H fr r with | some (q, c), some (p, cs) => some (needs (fr a) ∧ q ∧ p, c :: cs) | _, _ => none) :=
  ⟨fun _ _ _ _ => rfl, fun _ _ _ _ _ _ => rfl, fun _ _ => rfl, fun _ _ _ _ => rfl, fun _ _ _ _ _ => rfl⟩
theorem pack_rules : (∀ c : AV, packA [c] = c) ∧ (∀ (c d : AV) (cs : List AV), packA (c :: d :: cs) = .tup (c :: d :: cs)) ∧ (packA [] = .tup []) := ⟨fun _ => rfl, fun _ _ _ => rfl, rfl⟩

/-- The rules of a region's walk. -/
def w1 := And.intro @st_rules (And.intro @guard_rules (And.intro @fr_rules (And.intro @av_rules (And.intro @ev_rules (And.intro @op_rules (And.intro @op_rules2 (And.intro @mm_rules (And.intro @rs_rules (And.intro @nd_rules (And.intro @nd_slice (And.intro @ar_rules (And.intro @bin_rules @un_rules))))))))))))
def w2 := And.intro @aAlloc.eq_1 (And.intro @aBox.eq_1 (And.intro @aMake.eq_1 (And.intro @aAppend.eq_1 (And.intro @aBuildSlice.eq_1 (And.intro @aStore.eq_1 (And.intro @aLoad.eq_1 (And.intro @loadRow.eq_1 (And.intro @aIndexAddr.eq_1 (And.intro @aFieldAddr.eq_1 (And.intro @aIndex.eq_1 (And.intro @aField.eq_1 (And.intro @aPart.eq_1 (And.intro @aLen.eq_1 (And.intro @aSlice.eq_1 (And.intro @bnd_rules (And.intro @aNil.eq_1 (And.intro @aConv.eq_1 (And.intro @aExtract.eq_1 (And.intro @aBuild.eq_1 (And.intro @tiAgg.eq_1 (And.intro @rowsSrc.eq_1 (And.intro @cell_rules (And.intro @fill_rules (And.intro @str_rules @eq_rules))))))))))))))))))))))))
def w3 := And.intro @callS.eq_1 (And.intro @rd_rules (And.intro @pure_rules (And.intro @gen_rules (And.intro @heap_rules (And.intro @sc_rules (And.intro @envx_rules (And.intro @env_rules (And.intro @bool_rules (And.intro @list_rules (And.intro @map_rules (And.intro @opt_rules (And.intro @opt_bind @splice_rules))))))))))))
def w4 := And.intro @mt_rules (And.intro @mt2_rules (And.intro @mt1_rules (And.intro @sub_rules (And.intro @pack_rules @ret_rules))))
end Go.Vc
