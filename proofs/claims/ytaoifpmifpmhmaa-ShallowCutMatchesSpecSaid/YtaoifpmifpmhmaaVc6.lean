/- The Vc layer: conversions, and all value operations under one name. -/
import Derived.Test.YtaoifpmifpmhmaaVc5
set_option linter.all false
namespace Go.Vc
open Go Go.RowKit
variable [Far]

def strOf (xs : List (List D)) : List UInt8 := xs.map fun x => match x with
  | [.int _ n] => UInt8.ofNat n.toNat
  | _ => 0
def IsBytes (xs : List (List D)) : Prop := ∀ x ∈ xs, ∃ b : UInt8, x = [.int .u8 b.toNat]

def aConv (ty : TypeId → Option TI) (H : Heap) (src dst : TypeId) (x : AV) : RV :=
  match ty dst, ty src with
  | some ⟨.int k', _, _, _⟩, some _ => match x with
    | .d (.int _ n) => some (ar k' n)
    | _ => none
  | some ⟨.str, _, _, _⟩, some ⟨.str, _, _, _⟩ => match x with
    | .d (.str s) => some (True, .d (.str s))
    | _ => none
  | some ⟨.str, _, _, _⟩, some ⟨.slice e, _, _, _⟩ => match ty e with
    | some ⟨.int .u8, _, _, _⟩ => match x with
      | .d (.sl xs) => some (IsBytes xs, .d (.str (strOf xs)))
      | .d .nils => some (True, .d (.str []))
      | .sl id off len => match H id with
        | some (.vec _ 1 xs) => some (off + len ≤ xs.length ∧ IsBytes ((xs.drop off).take len), .d (.str (strOf ((xs.drop off).take len))))
        | _ => none
      | _ => none
    | _ => none
  | _, _ => none

section
variable {P : Program} {X : Ctx P} {w : World} {S : Lays} {n : Nat} {W0 : World} {M0 : Nat → Prop} {H : Heap}

theorem bytes_ints {xs : List (List D)} (h : IsBytes xs) : ∃ l : List UInt8, xs = l.map fun b => [D.int .u8 (b.toNat : Int)] := by
  induction xs with
  | nil => exact ⟨[], rfl⟩
  | cons x xs ih =>
    obtain ⟨b, hb⟩ := h x (by simp)
    obtain ⟨l, hl⟩ := ih (fun y hy => h y (by simp [hy]))
    exact ⟨b :: l, by rw [hl, hb]; rfl⟩

theorem strOf_bytes (l : List UInt8) : strOf (l.map fun b => [D.int .u8 (b.toNat : Int)]) = l := by
  simp [strOf, Function.comp_def]

theorem conv_bytes_run {src dst e : TypeId} (hs : P.underlying src = some (.slice e)) (he : P.underlying e = some (.int .u8)) (hd : P.underlying dst = some .string) {xs : List (List D)} {b o cap len : Nat} {O : Nat → Prop}
    (hx : IsBytes xs) (hl : xs.length = len) (hc : ∀ e f c, at2 xs e f = some c → ∃ u, w.cell? ⟨b, o + e * 1 + f, none⟩ = some u ∧ RD w O c u) :
    (convert src dst (.slice (some ⟨b, o, none⟩) len cap)).run P w = .ok (.string ⟨(strOf xs).toArray⟩) w := by
  obtain ⟨l, rfl⟩ := bytes_ints hx
  rw [strOf_bytes]
  have := run_convert_bytes_arg (P := P) w src e hs he b o len cap (l.map fun b => (b.toNat : Int)) (by simpa using hl) (fun i hi => ?_) dst hd
  · rw [this]
    simp [strOfNums, Function.comp_def]
  · have hi' : i < l.length := by simpa using (by omega : i < (l.map fun b => [D.int .u8 (b.toNat : Int)]).length)
    obtain ⟨u, hu, hr⟩ := hc i 0 (.int .u8 (l[i].toNat : Int)) (by simp [at2, hi'])
    rw [Nat.mul_one, Nat.add_zero] at hu
    rw [hu]
    cases hr
    simp [List.getD, hi']

theorem aConv_ok (hH : HeapOk W0 M0 H n w S) {src dst : TypeId} {x c : AV} {v : Value} {p : Prop} (h : aConv X.ty H src dst x = some (p, c)) (hp : p) (hx : R w S n x v) : ∃ r, (convert src dst v).run P w = .ok r w ∧ R w S n c r := by
  unfold aConv at h
  split at h
  · rename_i k' _ _ _ ti hd hs
    have hu := (X.facts hd).int
    obtain ⟨d, hsrc, _⟩ := (X.facts hs).desc
    split at h
    · rename_i k a
      rw [R.int_iff] at hx; subst hx
      have : P.intKind dst = k' := by simp [Program.intKind, hu]
      have hrun := run_convert_int (P := P) w src dst k a (by rw [hsrc]; rfl) (by rw [this]; exact hu)
      rw [this] at hrun
      refine ⟨_, hrun, ?_⟩
      simp only [Option.some.injEq] at h
      rw [show c = (ar k' a).2 by rw [h]]
      exact ar_ok (by rw [h]; exact hp)
    · cases h
  · rename_i hd hs
    have hu := (X.facts hd).str
    have hus := (X.facts hs).str
    split at h
    · rename_i s
      simp only [Option.some.injEq, Prod.mk.injEq] at h
      obtain ⟨_, rfl⟩ := h
      rw [R.str_iff] at hx; subst hx
      exact ⟨_, by simp [convert, run_underlying hu, run_underlying hus], R.mkStr _⟩
    · cases h
  · rename_i e _ _ _ hd hs
    have hu := (X.facts hd).str
    have hus := (X.facts hs).slice
    split at h
    · rename_i he
      have hue := (X.facts he).int
      split at h
      · rename_i xs
        simp only [Option.some.injEq, Prod.mk.injEq] at h
        obtain ⟨rfl, rfl⟩ := h
        cases hx with | d hx =>
        obtain ⟨a, cap, rfl, _⟩ := hx.slice_form
        by_cases hne : xs = []
        · subst hne
          cases a with
          | none => exact ⟨_, run_convert_bytes_nil w src e hus hue _ _ dst hu, R.mkStr _⟩
          | some ad =>
            have hrun := run_convert_bytes_string (P := P) w src dst e (some ad) 0 cap hus hue hu
            refine ⟨.string ⟨([] : List UInt8).toArray⟩, ?_, R.mkStr _⟩
            show (convert src dst (.slice (some ad) 0 cap)).run P w = _
            rw [hrun, run_bytesToString w ad 0 cap [] (by simp [loadCells, loadCellsFrom])]
            rfl
        · obtain ⟨b, o, u, rfl, hlen, _, hb, hO, hc, hr⟩ := hx.rect (k := 1) (fun x hx => by obtain ⟨b, rfl⟩ := hp x hx; rfl) hne
          exact ⟨_, conv_bytes_run hus hue hu hp rfl (fun e f c hh => ⟨_, hc e f c hh, hr e f c hh⟩), R.mkStr _⟩
      · simp only [Option.some.injEq, Prod.mk.injEq] at h
        obtain ⟨rfl, rfl⟩ := h
        cases hx with | d hx =>
        cases hx
        exact ⟨_, run_convert_bytes_nil w src e hus hue _ _ dst hu, R.mkStr _⟩
      · rename_i id off len
        split at h
        · rename_i ty' xs hb
          simp only [Option.some.injEq, Prod.mk.injEq] at h
          obtain ⟨rfl, rfl⟩ := h
          obtain ⟨l, o, hS, ⟨hsz, _, _, hz, hnil, hbk⟩, rfl, hcap, ho, h0⟩ := hx.sl_live hH hb
          have hlen : ((xs.drop off).take len).length = len := by rw [List.length_take, List.length_drop]; omega
          cases hk : l.blk with
          | none =>
            have hc0 := hnil hk
            have : len = 0 := by omega
            subst this
            exact ⟨_, run_convert_bytes_nil w src e hus hue _ _ dst hu, by rw [List.take_zero]; exact R.mkStr _⟩
          | some b =>
            obtain ⟨cur, hcur, hsize, hcell⟩ := hbk b hk
            by_cases hl0 : len = 0
            · subst hl0
              have hrun := run_convert_bytes_string (P := P) w src dst e (some ⟨b, o, none⟩) 0 (l.cap - off) hus hue hu
              refine ⟨.string ⟨([] : List UInt8).toArray⟩, ?_, by rw [List.take_zero]; exact R.mkStr _⟩
              simp only [Option.map_some]
              rw [hrun, run_bytesToString w _ 0 _ [] (by simp [loadCells, loadCellsFrom])]
              rfl
            · refine ⟨_, conv_bytes_run (O := own S) hus hue hu hp.2 hlen (fun e' f c hh => ?_), R.mkStr _⟩
              obtain ⟨u, hu', hr⟩ := hcell _ _ _ (at2_drop_take hh)
              refine ⟨u, ?_, hr⟩
              rw [cell_of_row w b _ cur _ (0, 0) hcur, ho (by omega), hsz]
              rw [show off * 1 + e' * 1 + f = (off + e') * 1 + f by omega]
              exact hu'
        · cases h
      · cases h
    · cases h
  · cases h

/-! ### all of them -/
def cv : Value → AV
  | .bool b => .d (.bool b)
  | .int k n => .d (.int k n)
  | .string s => .d (.str s.data.toList)
  | .slice none 0 0 => .d .nils
  | .pointer none => .d .nilp
  | _ => .any

def evO (fr : Nat → AV) : Operand → AV
  | .tmp t => fr t
  | .const v => cv v
  | .func f => .clo (.func f) []
  | .global _ => .any

theorem cv_ok (v : Value) : R w S n (cv v) v := by
  unfold cv
  split
  · exact R.mkBool _
  · exact R.mkInt _ _
  · rename_i s
    have : s = ⟨s.data.toList.toArray⟩ := by simp
    conv => rhs; rw [this]
    exact R.mkStr _
  · exact .d .nils
  · exact .d .nilp
  · exact .any _

theorem evO_ok {fr : Nat → AV} {a : Act} (h : ∀ i, R w S n (fr i) (a.tmps.getD i undef)) (x : Operand) : R w S n (evO fr x) (a.eval x) := by
  cases x with
  | tmp t => exact h t
  | const v => exact cv_ok v
  | func f => exact .clo (.func f) [] [] rfl (fun i c u hc => by simp at hc)
  | global g => exact .any _

def nd (fr : Nat → AV) : List Operand → Prop
  | [] => True
  | x :: r => needs (evO fr x) ∧ nd fr r

theorem nd_mem {fr : Nat → AV} {l : List Operand} (h : nd fr l) : ∀ x ∈ l, needs (evO fr x) := by
  induction l with
  | nil => intro x hx; cases hx
  | cons y l ih =>
    intro x hx
    rcases List.mem_cons.1 hx with rfl | hx
    · exact h.1
    · exact ih h.2 x hx

/-- An operation that yields a value and leaves memory alone. -/
def absV (ty : TypeId → Option TI) (H : Heap) (fr : Nat → AV) (o : Op) : RV :=
  match o with
  | .move x => some (True, bare (evO fr x))
  | .assign x => some (True, bare (evO fr x))
  | .nilCheck x => aNil H (bare (evO fr x))
  | .binOp op t x y _ => aBin ty op t (bare (evO fr x)) (bare (evO fr y))
  | .unOp op _ x => aUn op (bare (evO fr x))
  | .convert src dst x => aConv ty H src dst (bare (evO fr x))
  | .slice t x lo hi none => aSlice ty H t (bare (evO fr x)) (lo.map fun y => bare (evO fr y)) (hi.map fun y => bare (evO fr y))
  | .fieldAddr s x f => aFieldAddr ty H s (bare (evO fr x)) f
  | .field s x f => aField ty s (bare (evO fr x)) f
  | .indexAddr t x i => aIndexAddr ty H t (bare (evO fr x)) (bare (evO fr i))
  | .index t x i => aIndex ty t (bare (evO fr x)) (bare (evO fr i))
  | .load t a => aLoad ty H t (bare (evO fr a))
  | .extract x i => aExtract (bare (evO fr x)) i
  | .build t parts => aBuild ty H t (parts.toList.map fun p => (p.1, bare (evO fr p.2)))
  | .makeFunc fn ⟨[]⟩ cap => some (True, .clo fn (cap.toList.map fun x => bare (evO fr x)))
  | .call ⟨.builtin .len, ⟨[x]⟩, ⟨[t]⟩⟩ => aLen ty H t (bare (evO fr x))
  | .call ⟨.builtin .max, ⟨[x, y]⟩, _⟩ => match bare (evO fr x), bare (evO fr y) with
    | .d (.int k a), .d (.int _ b) => some (True, .d (.int k (max a b)))
    | _, _ => none
  | .call ⟨.builtin .min, ⟨[x, y]⟩, _⟩ => match bare (evO fr x), bare (evO fr y) with
    | .d (.int k a), .d (.int _ b) => some (True, .d (.int k (min a b)))
    | _, _ => none
  | _ => none

theorem aBin_ok {op : BinOp} {t : TypeId} {x y c : AV} {u v : Value} {p : Prop} (h : aBin X.ty op t x y = some (p, c)) (hp : p) (hx : R w S n x u) (hy : R w S n y v) (ox oy : Operand) :
    ∃ r, (do eqGuard op t ox oy u v; binOp op t u v : Sem Value).run P w = .ok r w ∧ R w S n c r := by
  have fin : (eqGuard op t ox oy u v).run P w = .ok () w → (∃ r, (binOp op t u v).run P w = .ok r w ∧ R w S n c r) → ∃ r, (do eqGuard op t ox oy u v; binOp op t u v : Sem Value).run P w = .ok r w ∧ R w S n c r := by
    rintro hg ⟨r, hr, hR⟩
    exact ⟨r, by simp only [Sem.run_bind, hg, Result.andThen_ok, hr], hR⟩
  unfold aBin at h
  split at h
  · rename_i k a k' b
    rw [R.int_iff] at hx hy; subst hx hy
    refine fin (by cases op <;> simp [eqGuard]) ?_
    split at h
    · exact aShift_ok h hp
    · exact aShift_ok h hp
    · split at h
      · rename_i hk; subst hk
        exact aInt_ok h hp
      · cases h
  · rw [R.str_iff] at hx hy; subst hx hy
    exact fin (by cases op <;> simp [eqGuard]) (aStr_ok h hp)
  · rw [R.bool_iff] at hx hy; subst hx hy
    refine fin (by cases op <;> simp [eqGuard]) ?_
    split at h
    · rename_i hty
      have hu := (X.facts hty).bool
      split at h <;> simp only [Option.some.injEq, Prod.mk.injEq, reduceCtorEq] at h <;> obtain ⟨_, rfl⟩ := h
      · exact ⟨_, run_eql_bool w t _ _ hu, R.mkBool _⟩
      · exact ⟨_, run_neq_bool w t _ _ hu, R.mkBool _⟩
    · cases h
  · split at h
    · exact aEqAgg_ok (neg := false) h hx hy ox oy
    · exact aEqAgg_ok (neg := true) h hx hy ox oy
    · cases h
  · cases h

theorem absV_ok (hH : HeapOk W0 M0 H n w S) {fr : Nat → AV} {a : Act} (hF : ∀ i, R w S n (fr i) (a.tmps.getD i undef)) {o : Oper} {c : AV} {p : Prop} (h : absV X.ty H fr o.op = some (p, c)) (hp : p) (hn : nd fr o.op.operands.toList) :
    ∃ r, (execOp a.eval o).run P w = .ok (.value r) w ∧ R w S n c r := by
  have ev : ∀ x ∈ o.op.operands.toList, R w S n (bare (evO fr x)) (a.eval x) := fun x hx => (evO_ok hF x).bare_of (nd_mem hn x hx)
  obtain ⟨dst, op, type, pos, after, guard⟩ := o
  simp only at h hn ev
  have val : ∀ {s : Sem Value}, (∃ r, s.run P w = .ok r w ∧ R w S n c r) → ∃ r, (do pure (.value (← s)) : Sem Next).run P w = .ok (.value r) w ∧ R w S n c r := by
    rintro s ⟨r, hr, hR⟩
    exact ⟨r, by simp only [Sem.run_bind, hr, Result.andThen_ok, Sem.run_pure], hR⟩
  unfold absV at h
  split at h
  · rename_i x
    simp only [Option.some.injEq, Prod.mk.injEq] at h
    obtain ⟨_, rfl⟩ := h
    exact ⟨_, by simp only [execOp, Sem.run_pure], ev x (by simp [Op.operands])⟩
  · rename_i x
    simp only [Option.some.injEq, Prod.mk.injEq] at h
    obtain ⟨_, rfl⟩ := h
    exact ⟨_, by simp only [execOp, Sem.run_pure], ev x (by simp [Op.operands])⟩
  · rename_i x
    exact aNil_ok hH rfl rfl h (ev x (by simp [Op.operands]))
  · rename_i op t x y yt
    exact val (aBin_ok h hp (ev x (by simp [Op.operands])) (ev y (by simp [Op.operands])) x y)
  · rename_i op t x
    exact val (aUn_ok h hp (ev x (by simp [Op.operands])))
  · rename_i src dst x
    exact val (aConv_ok hH h hp (ev x (by simp [Op.operands])))
  · rename_i t x lo hi
    refine val (aSlice_ok hH h hp (ev x (by simp [Op.operands])) ?_ ?_)
    · cases lo with
      | none => trivial
      | some y => exact ev y (by simp [Op.operands])
    · cases hi with
      | none => trivial
      | some y => exact ev y (by simp [Op.operands])
  · rename_i s x f
    exact val (aFieldAddr_ok hH h (ev x (by simp [Op.operands])))
  · rename_i s x f
    exact val (aField_ok h hp (ev x (by simp [Op.operands])))
  · rename_i t x i
    exact val (aIndexAddr_ok hH h hp (ev x (by simp [Op.operands])) (ev i (by simp [Op.operands])))
  · rename_i t x i
    exact val (aIndex_ok h hp (ev x (by simp [Op.operands])) (ev i (by simp [Op.operands])))
  · rename_i t x
    exact val (aLoad_ok hH h hp (ev x (by simp [Op.operands])))
  · rename_i x i
    exact val (aExtract_ok h (ev x (by simp [Op.operands])))
  · rename_i t parts
    refine val (aBuild_ok hH h (by simp) (fun i k c hi => ?_))
    rw [List.getElem?_map] at hi
    cases hq : parts.toList[i]? with
    | none => rw [hq] at hi; cases hi
    | some q =>
      rw [hq] at hi
      simp only [Option.map_some, Option.some.injEq, Prod.mk.injEq] at hi
      obtain ⟨rfl, rfl⟩ := hi
      refine ⟨a.eval q.2, ?_, ev q.2 ?_⟩
      · rw [Array.getElem?_toList] at hq
        simp [hq]
      · simp only [Op.operands, List.toList_toArray, List.mem_map]
        exact ⟨q, List.mem_of_getElem? hq, rfl⟩
  · rename_i fn cap
    simp only [Option.some.injEq, Prod.mk.injEq] at h
    obtain ⟨_, rfl⟩ := h
    refine ⟨.func fn #[] (cap.toList.map a.eval).toArray, ?_, .clo fn _ _ (by simp) (fun i c u hc hu => ?_)⟩
    · simp [execOp, Instr.makeFunc]
      rw [← Array.toList_map]
    · rw [List.getElem?_map] at hc hu
      cases hq : cap.toList[i]? with
      | none => rw [hq] at hc; cases hc
      | some q =>
        rw [hq] at hc hu; cases hc; cases hu
        refine ev q ?_
        simp only [Op.operands, Array.toList_append, List.mem_append]
        exact .inr (List.mem_of_getElem? hq)
  · rename_i x t
    obtain ⟨r, hr, hR⟩ := aLen_ok (ty' := type) hH h (ev x (by simp [Op.operands, Call.operands]))
    refine ⟨r, ?_, hR⟩
    simp only [execOp, resolve, invoke, builtin, Sem.run_bind, Sem.run_pure, Result.andThen_ok, List.map_toArray, List.map_cons, List.map_nil]
    have : (⟨[t]⟩ : Array TypeId) = #[t] := rfl
    rw [hr]
    rfl
  · rename_i x y ts
    split at h
    · rename_i k b k' b' h1 h2
      simp only [Option.some.injEq, Prod.mk.injEq] at h
      obtain ⟨_, rfl⟩ := h
      have e1 := ev x (by simp [Op.operands, Call.operands])
      have e2 := ev y (by simp [Op.operands, Call.operands])
      rw [h1, R.int_iff] at e1
      rw [h2, R.int_iff] at e2
      refine ⟨.int k (max b b'), ?_, R.mkInt _ _⟩
      simp only [execOp, resolve, invoke, builtin, Sem.run_bind, Sem.run_pure, Result.andThen_ok, List.map_toArray, List.map_cons, List.map_nil, e1, e2, run_max_int2]
      simp only [Result.ok.injEq, Next.value.injEq, Value.int.injEq, true_and, and_true]
      omega
    · cases h
  · rename_i x y ts
    split at h
    · rename_i k b k' b' h1 h2
      simp only [Option.some.injEq, Prod.mk.injEq] at h
      obtain ⟨_, rfl⟩ := h
      have e1 := ev x (by simp [Op.operands, Call.operands])
      have e2 := ev y (by simp [Op.operands, Call.operands])
      rw [h1, R.int_iff] at e1
      rw [h2, R.int_iff] at e2
      refine ⟨.int k (min b b'), ?_, R.mkInt _ _⟩
      simp only [execOp, resolve, invoke, builtin, Sem.run_bind, Sem.run_pure, Result.andThen_ok, List.map_toArray, List.map_cons, List.map_nil, e1, e2, run_min_int2]
      simp only [Result.ok.injEq, Next.value.injEq, Value.int.injEq, true_and, and_true]
      omega
    · cases h
  · cases h
end
end Go.Vc
