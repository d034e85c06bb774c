/- The Vc layer: addresses, loads, slices, parts: the operations that read memory and leave it alone. -/
import Derived.Test.YtaoifpmifpmhmaaVc2
set_option linter.all false
namespace Go.Vc
open Go Go.RowKit
variable [Far]

section
variable {P : Program} {X : Ctx P} {w : World} {S : Lays} {n : Nat}

theorem add_none (b o k : Nat) : (⟨b, o, none⟩ : Addr).add k = ⟨b, o + k, none⟩ := by
  unfold Addr.add; split <;> simp_all

/-! ### one operand -/
def aUn (op : UnOp) (x : AV) : RV :=
  match op, x with
  | .not, .d (.bool b) => some (True, .d (.bool !b))
  | .neg, .d (.int k a) => some (ar k (0 - a))
  | _, _ => none
theorem aUn_ok {op : UnOp} {x c : AV} {v : Value} {p : Prop} (h : aUn op x = some (p, c)) (hp : p) (hx : R w S n x v) : ∃ r, (Op.unary op v).run P w = .ok r w ∧ R w S n c r := by
  unfold aUn at h
  split at h <;> simp only [Option.some.injEq, Prod.mk.injEq, reduceCtorEq] at h
  · obtain ⟨_, rfl⟩ := h
    rw [R.bool_iff] at hx; subst hx
    exact ⟨_, by simp [Op.unary], R.mkBool _⟩
  · rename_i k a
    rw [R.int_iff] at hx; subst hx
    refine ⟨.int k (k.wrap (0 - a)), by simp [Op.unary, Op.intArith], ?_⟩
    rw [show c = (ar k (0 - a)).2 by rw [h]]
    exact ar_ok (by rw [h]; exact hp)

def aNil (H : Nat → Option Box) (x : AV) : RV :=
  match x with
  | .ptr id e f => match H id with
    | some _ => some (True, .ptr id e f)
    | none => none
  | .ip sz xs e f => some (True, .ip sz xs e f)
  | .d (.ptr cs) => some (True, .ip cs.length [cs] 0 0)
  | .clo (.func g) cs => some (True, .clo (.func g) cs)
  | _ => none

/-! ### pick -/
def aPick (c a b : AV) : RV :=
  match bare c, bare a, bare b with
  | .d (.bool c'), .d (.bool x), .d (.bool y) => some (needs c ∧ (c' = true → needs a) ∧ (c' = false → needs b), .d (.bool (bif c' then x else y)))
  | .d (.bool true), .d (.bool x), _ => some (needs c ∧ needs a, .d (.bool x))
  | .d (.bool false), _, .d (.bool y) => some (needs c ∧ needs b, .d (.bool y))
  | _, _, _ => none
theorem R.bare_of {x : AV} {v : Value} (h : R w S n x v) (hx : needs x) : R w S n (bare x) v := by
  cases x <;> first | exact h | skip
  cases h with | cond b c v hr _ => exact hr hx

/-! ### extract -/
def aExtract (x : AV) (i : Nat) : RV :=
  match x with
  | .tup vs => match vs[i]? with
    | some v => some (True, v)
    | none => none
  | _ => none
theorem aExtract_ok {x c : AV} {i : Nat} {v : Value} {p : Prop} (h : aExtract x i = some (p, c)) (hx : R w S n x v) : ∃ r, (Instr.extract v i).run P w = .ok r w ∧ R w S n c r := by
  unfold aExtract at h
  split at h
  · split at h
    · rename_i vs _ v' hv
      simp only [Option.some.injEq, Prod.mk.injEq] at h
      obtain ⟨_, rfl⟩ := h
      cases hx with | tup _ us hl hr =>
      have hi : i < vs.length := (List.getElem?_eq_some_iff.1 hv).1
      have hi' : i < us.length := by omega
      refine ⟨us[i], ?_, hr i _ _ hv (by simp)⟩
      simp [Instr.extract, List.getElem?_eq_getElem hi']
    · cases h
  · cases h

/-! ### len -/
def aLen (ty : TypeId → Option TI) (H : Heap) (t : TypeId) (x : AV) : RV :=
  match ty t with
  | some ⟨.str, _, _, _⟩ => match x with
    | .d (.str s) => some (True, .d (.int .i64 s.length))
    | _ => none
  | some ⟨.slice _, _, _, _⟩ => match x with
    | .d (.sl xs) => some (True, .d (.int .i64 xs.length))
    | .d .nils => some (True, .d (.int .i64 0))
    | .sl id _ len => match H id with
      | some _ => some (True, .d (.int .i64 len))
      | none => none
    | _ => none
  | some ⟨.array m _, _, _, _⟩ => some (True, .d (.int .i64 m))
  | _ => none
theorem RD.slice_form {O : Nat → Prop} {xs : List (List D)} {v : Value} (h : RD w O (.sl xs) v) : ∃ a cap, v = .slice a xs.length cap ∧ xs.length ≤ cap := by
  cases h with
  | sl0 => exact ⟨_, _, rfl, Nat.zero_le _⟩
  | sl xs sz b o cap u hl => exact ⟨_, _, rfl, hl⟩
theorem RD.of_nils {O : Nat → Prop} {v : Value} (h : RD w O .nils v) : RD w O (.sl []) v := by cases h; exact .sl0 _ _

/-- What a live slice of a box is. -/
theorem R.sl_live {H : Heap} {W0 : World} {M0 : Nat → Prop} {id off len : Nat} {v : Value} {b : Box} (h : R w S n (.sl id off len) v) (hH : HeapOk W0 M0 H n w S) (hb : H id = some b) :
    ∃ l o, S id = some l ∧ BoxOk w S n b l ∧ v = .slice (l.blk.map fun b => ⟨b, o, none⟩) len (l.cap - off) ∧ off + len ≤ l.cap ∧ (off < l.cap → o = off * l.sz) ∧ (off = 0 → o = 0) := by
  obtain ⟨l, hl, hbox⟩ := hH.box id b hb
  cases h with
  | slDead id off len v hn hS => rw [hl] at hS; cases hS
  | sl id off len o l' hn hS hc ho h0 =>
    rw [hl] at hS; cases hS
    exact ⟨l, o, hl, hbox, rfl, hc, ho, h0⟩
theorem R.ptr_live {H : Heap} {W0 : World} {M0 : Nat → Prop} {id e f : Nat} {v : Value} {b : Box} (h : R w S n (.ptr id e f) v) (hH : HeapOk W0 M0 H n w S) (hb : H id = some b) :
    ∃ l k, S id = some l ∧ BoxOk w S n b l ∧ l.blk = some k ∧ v = .pointer (some ⟨k, e * l.sz + f, none⟩) := by
  obtain ⟨l, hl, hbox⟩ := hH.box id b hb
  cases h with
  | ptrDead id e f v hn hS => rw [hl] at hS; cases hS
  | ptr id e f k l' hn hS hk => rw [hl] at hS; cases hS; exact ⟨l, k, hl, hbox, hk, rfl⟩

def Rect (k : Nat) (xs : List (List D)) : Prop := ∀ x ∈ xs, x.length = k

/-- A row of data lies with the stride that its elements' length says. -/
theorem RD.rect {O : Nat → Prop} {k : Nat} {xs : List (List D)} {a : Option Addr} {len cap : Nat} (h : RD w O (.sl xs) (.slice a len cap)) (hk : Rect k xs) (hne : xs ≠ []) :
    ∃ (b o : Nat) (u : Nat → Nat → Value), a = some ⟨b, o, none⟩ ∧ len = xs.length ∧ xs.length ≤ cap ∧ b < w.heap.size ∧ ¬ O b ∧ (∀ e f c, at2 xs e f = some c → w.cell? ⟨b, o + e * k + f, none⟩ = some (u e f)) ∧ (∀ e f c, at2 xs e f = some c → RD w O c (u e f)) := by
  cases h with
  | sl0 => exact absurd rfl hne
  | sl _ sz b o _ u hl hb hO hz hc hr =>
    have : sz = k := by
      cases xs with
      | nil => exact absurd rfl hne
      | cons x xs => rw [← hz x (by simp), hk x (by simp)]
    subst this
    exact ⟨b, o, u, rfl, rfl, hl, hb, hO, hc, hr⟩

/-! ### slice expressions -/
def bnds (lo hi : Option AV) (len : Nat) (k : Nat → Nat → AV) : RV :=
  match lo, hi with
  | none, none => some (True, k 0 len)
  | some (.d (.int _ l)), none => some (0 ≤ l ∧ l ≤ len, k l.toNat len)
  | none, some (.d (.int _ h)) => some (0 ≤ h ∧ h ≤ len, k 0 h.toNat)
  | some (.d (.int _ l)), some (.d (.int _ h)) => some (0 ≤ l ∧ l ≤ h ∧ h ≤ len, k l.toNat h.toNat)
  | _, _ => none

def RO (w : World) (S : Lays) (n : Nat) : Option AV → Option Value → Prop
  | none, none => True
  | some c, some v => R w S n c v
  | _, _ => False

theorem bnds_ok {lo hi : Option AV} {vlo vhi : Option Value} {len cap : Nat} {k : Nat → Nat → AV} {p : Prop} {c : AV} (h : bnds lo hi len k = some (p, c)) (hp : p) (hc : len ≤ cap) (isS : Bool)
    (hlo : RO w S n lo vlo) (hhi : RO w S n hi vhi) :
    ∃ l h, l ≤ h ∧ h ≤ len ∧ c = k l h ∧ (Instr.sliceBounds isS len cap vlo vhi none).run P w = .ok (l, h, cap) w := by
  unfold bnds at h
  split at h <;> simp only [Option.some.injEq, Prod.mk.injEq, reduceCtorEq] at h <;> obtain ⟨rfl, rfl⟩ := h
  · cases vlo <;> cases vhi <;> simp [RO] at hlo hhi
    exact ⟨0, len, by omega, by omega, rfl, by simp [Instr.sliceBounds]⟩
  · cases vlo <;> cases vhi <;> simp [RO] at hlo hhi
    rw [R.int_iff] at hlo; subst hlo
    rename_i k0 l
    exact ⟨l.toNat, len, by omega, by omega, rfl, by simp [Instr.sliceBounds, Instr.sliceBound, asIntOf, hp.1, hp.2]⟩
  · cases vlo <;> cases vhi <;> simp [RO] at hlo hhi
    rw [R.int_iff] at hhi; subst hhi
    rename_i k0 l
    exact ⟨0, l.toNat, by omega, by omega, rfl, by simp [Instr.sliceBounds, Instr.sliceBound, asIntOf, hp.1, show l ≤ (cap : Int) by omega]⟩
  · cases vlo <;> cases vhi <;> simp [RO] at hlo hhi
    rw [R.int_iff] at hlo hhi; subst hlo hhi
    rename_i k0 l k1 h
    have e1 : ((h.toNat : Nat) : Int) = h := by omega
    exact ⟨l.toNat, h.toNat, by omega, by omega, rfl, by simp [Instr.sliceBounds, Instr.sliceBound, asIntOf, hp.1, show 0 ≤ h by omega, show h ≤ (cap : Int) by omega, e1, show ¬ h < l by omega, hp.2.1]⟩

def aSlice (ty : TypeId → Option TI) (H : Heap) (t : TypeId) (x : AV) (lo hi : Option AV) : RV :=
  match ty t with
  | some ⟨.str, _, _, _⟩ => match x with
    | .d (.str s) => bnds lo hi s.length fun l h => .d (.str ((s.drop l).take (h - l)))
    | _ => none
  | some ⟨.slice e, _, _, _⟩ => match ty e with
    | some ti => match x with
      | .d (.sl xs) => (bnds lo hi xs.length fun l h => .d (.sl ((xs.drop l).take (h - l)))).map fun r => (r.1 ∧ Rect ti.size xs, r.2)
      | .d .nils => bnds lo hi 0 fun _ _ => .d .nils
      | .sl id off len => match H id with
        | some (.vec _ sz _) => if ti.size = sz then bnds lo hi len fun l h => .sl id (off + l) (h - l) else none
        | _ => none
      | _ => none
    | none => none
  | _ => none

theorem at2_drop_take {α : Type} {xs : List (List α)} {l m e f : Nat} {c : α} (h : at2 ((xs.drop l).take m) e f = some c) : at2 xs (l + e) f = some c := by
  obtain ⟨x, hx, hf⟩ := at2_some h
  rw [List.getElem?_take] at hx
  split at hx
  · rw [List.getElem?_drop] at hx
    simp [at2, hx, hf]
  · cases hx

theorem RD.cut {O : Nat → Prop} {sz l h : Nat} {xs : List (List D)} {a : Option Addr} {cap : Nat} (hr : RD w O (.sl xs) (.slice a xs.length cap)) (hk : Rect sz xs) (hl : l ≤ h) (hh : h ≤ xs.length) (hc : h ≤ cap) :
    RD w O (.sl ((xs.drop l).take (h - l))) (.slice (if cap = l then a else a.map (·.add (l * sz))) (h - l) (cap - l)) := by
  by_cases h0 : h - l = 0
  · rw [h0, List.take_zero]; exact .sl0 _ _
  · have hne : xs ≠ [] := fun e => by subst e; simp at hh; omega
    obtain ⟨b, o, u, rfl, _, hl', hb, hO, hcl, hr⟩ := hr.rect hk hne
    rw [if_neg (by omega)]
    simp only [Option.map_some, add_none]
    have hlen : ((xs.drop l).take (h - l)).length = h - l := by rw [List.length_take, List.length_drop]; omega
    have := RD.sl (w := w) (O := O) ((xs.drop l).take (h - l)) sz b (o + l * sz) (cap - l) (fun e f => u (l + e) f) (by omega) hb hO (fun x hx => hk x (List.mem_of_mem_drop (List.mem_of_mem_take hx))) (fun e f c hc => by
      rw [show o + l * sz + e * sz + f = o + (l + e) * sz + f by rw [Nat.add_mul]; omega]
      exact hcl _ _ _ (at2_drop_take hc)) (fun e f c hc => hr _ _ _ (at2_drop_take hc))
    rw [hlen] at this
    exact this

theorem aSlice_ok {W0 : World} {M0 : Nat → Prop} {H : Heap} (hH : HeapOk W0 M0 H n w S) {t : TypeId} {x c : AV} {v : Value} {lo hi : Option AV} {vlo vhi : Option Value} {p : Prop} (h : aSlice X.ty H t x lo hi = some (p, c)) (hp : p)
    (hx : R w S n x v) (hlo : RO w S n lo vlo) (hhi : RO w S n hi vhi) :
    ∃ r, (Instr.sliceAt t v vlo vhi none).run P w = .ok r w ∧ R w S n c r := by
  unfold aSlice at h
  split at h
  · rename_i _ _ _ hty
    have hu := (X.facts hty).str
    split at h
    · rename_i s
      obtain ⟨l, m, hl, hm, rfl, hrun⟩ := bnds_ok h hp (Nat.le_refl _) false hlo hhi (P := P)
      rw [R.str_iff] at hx; subst hx
      refine ⟨.string ⟨((s.drop l).take (m - l)).toArray⟩, ?_, R.mkStr _⟩
      unfold Instr.sliceAt
      simp only [Sem.run_bind, run_underlying hu, Result.andThen_ok]
      have hsz : (⟨s.toArray⟩ : ByteArray).size = s.length := rfl
      simp [Instr.slice, run_underlying hu, hsz, hrun, ByteArray.extract_mk, -ByteArray.size_data]
    · cases h
  · rename_i e _ _ _ hty
    have hu := (X.facts hty).slice
    split at h
    · rename_i ti hti
      have hsz := (X.facts hti).sizeOf
      split at h
      · rename_i xs
        cases hb : bnds lo hi xs.length fun l h => .d (.sl ((xs.drop l).take (h - l))) with
        | none => rw [hb] at h; cases h
        | some r =>
          rw [hb] at h
          simp only [Option.map_some, Option.some.injEq, Prod.mk.injEq] at h
          obtain ⟨rfl, rfl⟩ := h
          cases hx with | d hx =>
          obtain ⟨a, cap, rfl, hxs⟩ := hx.slice_form
          obtain ⟨l, m, hl, hm, hr2, hrun⟩ := bnds_ok (p := r.1) (c := r.2) hb hp.1 hxs true hlo hhi (P := P)
          rw [hr2]
          refine ⟨_, ?_, .d (hx.cut hp.2 hl hm (by omega))⟩
          unfold Instr.sliceAt
          simp only [Sem.run_bind, run_underlying hu, Result.andThen_ok]
          simp [Instr.slice, run_underlying hu, hrun, hsz]
      · cases hx with | d hx =>
        cases hx
        obtain ⟨l, m, hl, hm, rfl, hrun⟩ := bnds_ok h hp (Nat.le_refl 0) true hlo hhi (P := P)
        have hl0 : l = 0 := by omega
        have hm0 : m = 0 := by omega
        subst hl0 hm0
        refine ⟨.slice none 0 0, ?_, .d .nils⟩
        unfold Instr.sliceAt
        simp only [Sem.run_bind, run_underlying hu, Result.andThen_ok]
        simp [Instr.slice, run_underlying hu, hrun, hsz]
      · rename_i id off len
        split at h
        · rename_i ty' sz xs hb
          split at h
          · rename_i hsz'
            obtain ⟨lay, o, hS, hbox, rfl, hc, ho, h0⟩ := hx.sl_live hH hb
            obtain ⟨l, m, hl, hm, rfl, hrun⟩ := bnds_ok h hp (show len ≤ lay.cap - off by omega) true hlo hhi (P := P)
            have hes : ti.size = lay.sz := by rw [hsz']; exact hbox.1.symm
            have hidn : id < n := by
              rcases Nat.lt_or_ge id n with h | h
              · exact h
              · rw [hH.bnd id h] at hS; cases hS
            refine ⟨.slice (lay.blk.map fun b => ⟨b, if lay.cap - off = l then o else o + l * lay.sz, none⟩) (m - l) (lay.cap - off - l), ?_, ?_⟩
            · unfold Instr.sliceAt
              simp only [Sem.run_bind, run_underlying hu, Result.andThen_ok]
              simp [Instr.slice, run_underlying hu, hrun, hsz, hes]
              cases lay.blk <;> simp [add_none] <;> split <;> simp
            · rw [show lay.cap - off - l = lay.cap - (off + l) by omega]
              refine .sl id (off + l) (m - l) _ lay hidn hS (by omega) (fun hlt => ?_) (fun he => ?_)
              · rw [if_neg (by omega), ho (by omega), Nat.add_mul]
              · have h1 : off = 0 := by omega
                have h2 : l = 0 := by omega
                subst h2
                simp [h0 h1]
          · cases h
        · cases h
      · cases h
    · cases h
  · cases h
end
end Go.Vc
