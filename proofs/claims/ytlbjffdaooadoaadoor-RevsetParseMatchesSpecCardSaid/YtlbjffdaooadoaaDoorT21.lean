/- Walks, printed by wip/gen/walk.py. -/
import Derived.Test.YtlbjffdaooadoaaDoorT20
import Derived.Test.YtlbjffdaooadoaaDoorSo
import Derived.Test.YtlbjffdaooadoaaDoorV5
import Derived.Lib.AtoiErrMem
set_option linter.all false
set_option maxRecDepth 100000
set_option maxHeartbeats 4000000
namespace Go.Proofs.YtlbjffdaooadoaaDoor
open Go Go.Vc Go.RowKit
abbrev Bs := List UInt8
structure PS where
  p : Nat
  e : Nat
  ns : List Nd
  c : Int
  deriving Inhabited, DecidableEq
def scnP (t : Bs) (e : Nat) : Nat := runN t 32 32 e
def scnE (t : Bs) (p : Nat) : Nat :=
  if max (runN t 97 122 p) (runN t 48 57 p) = p ∧ p < t.length then p + 1 else max (runN t 97 122 p) (runN t 48 57 p)
def scanS (t : Bs) (s : PS) : PS := ⟨scnP t s.e, scnE t (scnP t s.e), s.ns, s.c⟩
def tokN (t : Bs) (p e : Nat) : Bs := (t.drop p).take (e - p)
def tokS (t : Bs) (s : PS) : Bs := tokN t s.p s.e
def failC (c k : Int) : Int := if c = 0 then k else c
def failS (s : PS) (k : Int) : PS := ⟨s.p, s.e, s.ns, failC s.c k⟩
def takeB (t : Bs) (s : PS) (x : Bs) : Bool := decide (tokS t s = x ∧ x ≠ [])
def takeS (t : Bs) (s : PS) (x : Bs) : PS := if takeB t s x = true then scanS t s else failS s 1
def addN (s : PS) (n : Nd) : PS := ⟨s.p, s.e, s.ns ++ [n], s.c⟩
def wordsL : List Bs := [[], [97, 108, 108], [110, 111, 110, 101], [], [97, 117, 116, 104, 111, 114], [98, 101, 102, 111, 114, 101], [109, 101, 114, 103, 101, 115], [], [97, 110, 99], [100, 101, 115, 99], [112, 97, 114, 101, 110, 116, 115], [99, 104, 105, 108, 100, 114, 101, 110], [104, 101, 97, 100, 115], [114, 111, 111, 116, 115], [], [], []]
def signsL : List Bs := [[], [], [], [], [], [], [], [], [], [], [], [], [], [], [32, 124, 32], [32, 38, 32], [32, 45, 32]]
def kindN (s : Bs) : Nat := if s = [] then 0 else ((List.range 17).find? fun k => decide (wordsL.getD k [] = s)).getD 0
def numV (w : Bs) : Option Int := match Lib.atoiAll w with
  | .ok n => if w.length ≤ 7 ∧ (w.headD 0).toNat ≥ 48 ∧ (w.headD 0).toNat ≤ 57 ∧ Lib.itoa n = w then some n else none
  | _ => none
def numB (t : Bs) (s : PS) (k : Int) : Bool := match numV (tokS t s) with
  | some n => decide (n ≤ mostN k)
  | none => false
def numX (t : Bs) (s : PS) (k : Int) : Int := match numV (tokS t s) with
  | some n => if n ≤ mostN k then n else 0
  | none => 0
def numS (t : Bs) (s : PS) (k : Int) : PS := match numV (tokS t s) with
  | some n => if n ≤ mostN k then scanS t s else failS s 3
  | none => failS s 1
abbrev PR := Option (Bool × Int × PS)
def bindF (r : PR) (k : Int → PS → PR) : PR := match r with
  | none => none
  | some (false, _, s) => some (false, 0, s)
  | some (true, x, s) => k x s
def opK (w : Bs) (j : Nat) : Int := if w = [124] ∧ j = 0 then 14 else if w = [38] ∧ j = 1 then 15 else if w = [45] ∧ j = 1 then 16 else 0
def putN (s : PS) (n : Nd) : PR := some (true, (s.ns.length : Int), addN s n)
def lpF (t : Bs) (sub : PS → PR) (j : Nat) : Nat → Int → PS → PR
  | 0, _, _ => none
  | g + 1, x, s => if opK (tokS t s) j = 0 then some (true, x, s) else bindF (sub (scanS t s)) fun y s1 => lpF t sub j g (s1.ns.length : Int) (addN s1 ⟨opK (tokS t s) j, 0, x, y⟩)
def takeF (t : Bs) (s : PS) (x : Bs) (k : PS → PR) : PR := if takeB t s x = true then k (scanS t s) else some (false, 0, failS s 1)
def numF (t : Bs) (s : PS) (k : Int) (f : Int → PS → PR) : PR := if numB t s k = true then f (numX t s k) (numS t s k) else some (false, 0, numS t s k)
def prF (t : Bs) (qu : PS → PR) (s : PS) : PR :=
  if tokS t s = [35] then numF t (scanS t s) 3 fun n s1 => putN s1 ⟨3, n, 0, 0⟩
  else if tokS t s = [40] then match qu (scanS t s) with
    | none => none
    | some (false, x, s1) => some (false, x, s1)
    | some (true, x, s1) => some (takeB t s1 [41], x, takeS t s1 [41])
  else if kindN (tokS t s) = 0 then some (false, 0, failS s 1)
  else if kindN (tokS t s) = 1 ∨ kindN (tokS t s) = 2 ∨ kindN (tokS t s) = 6 then putN (scanS t s) ⟨kindN (tokS t s), 0, 0, 0⟩
  else takeF t (scanS t s) [40] fun s1 =>
    if ar (kindN (tokS t s)) = 0 then numF t s1 (kindN (tokS t s)) fun n s2 => takeF t s2 [41] fun s3 => putN s3 ⟨kindN (tokS t s), n, 0, 0⟩
    else bindF (qu s1) fun x s2 => takeF t s2 [41] fun s3 => putN s3 ⟨kindN (tokS t s), 0, x, 0⟩
def pF (t : Bs) : Nat → Nat → PS → PR
  | 0, _, _ => none
  | f + 1, j, s =>
    if j < 2 then bindF (pF t f (j + 1) s) fun x s1 => lpF t (pF t f (j + 1)) j (t.length + 1) x s1
    else if j = 2 then pF t f 3 s
    else if j = 3 then if tokS t s = [33] then bindF (pF t f 3 (scanS t s)) fun x s1 => putN s1 ⟨7, 0, x, 0⟩ else pF t f 4 s
    else prF t (pF t f 0) s
def fuelN (t : Bs) : Nat := 5 * t.length + 10
def parsQ (t : Bs) : Int × Int × List Nd :=
  if 300 < t.length then (2, -1, [])
  else match pF t (fuelN t) 0 (scanS t ⟨0, 0, [], 0⟩) with
    | none => (0, 0, [])
    | some (false, _, s) => (s.c, s.p, [])
    | some (true, _, s) => if s.p < t.length then (failC s.c 1, s.p, []) else if 40 < s.ns.length then (10, -1, []) else (0, 0, s.ns)

theorem HeapOk.below [Far] {W0 : World} {M0 : Nat → Prop} {H : Heap} {n : Nat} {w w' : World} {S : Lays} (hH : HeapOk W0 M0 H n w S) (h : Go.RowKit.Below w.heap.size w w') : HeapOk W0 M0 H n w' S ∧ Ext w S n w' S n := by
  have hs : ∀ b, b < w.heap.size → w'.heap[b]? = w.heap[b]? := fun b hb => h.block b hb
  have hE : Ext w S n w' S n := ⟨Nat.le_refl _, h.size, fun _ _ => .inl rfl, fun _ _ h => h, fun b hb _ => hs b hb⟩
  refine ⟨⟨hH.bnd, fun i l b h1 h2 => Nat.lt_of_lt_of_le (hH.lt2 i l b h1 h2) h.size, fun id b hb => ?_, hH.inj2, hH.nod, hH.plain, hH.mut2, h.os.trans hH.os, h.tape.trans hH.tape, h.output.trans hH.output, Nat.le_trans hH.size h.size, fun b hb hM => (hs b (Nat.lt_of_lt_of_le hb hH.size)).trans (hH.same b hb hM), fun b hb => ⟨(hH.far b hb).1, (hH.far b hb).2⟩, hH.pin, hH.glx hE⟩, hE⟩
  obtain ⟨l, hl, hb'⟩ := hH.box id b hb
  exact ⟨l, hl, hb'.ext hE (fun k hk => hs k (hH.lt2 id l k hl hk))⟩
theorem meets_below {P : Program} {f : FuncId} {g : List AV → Option (Prop × AV)} (h : ∀ args p r, g args = some (p, r) → p → ∀ [Far] (H : Heap) (n : Nat) (w : World) (S : Lays) (vs : List Value), HeapOk w (liveB H S) H n w S → vs.length = args.length → (∀ (i : Nat) (c : AV) (u : Value), args[i]? = some c → vs[i]? = some u → R w S n c u) →
    Calls P f vs.toArray w fun e w' => ∃ v, e = .returned v ∧ Go.RowKit.Below w.heap.size w w' ∧ R w' S n r v) : Meets P f (Spec.pure g) := by
  intro args H n p r o hrun hp F w S vs hH hl hr
  simp only [Spec.pure] at hrun
  split at hrun
  · rename_i p' r' hg
    simp only [Option.some.injEq, Prod.mk.injEq] at hrun
    obtain ⟨rfl, rfl, rfl⟩ := hrun
    refine (h args p' r' hg hp H n w S vs hH hl hr).mono ?_
    rintro e w' ⟨v, rfl, hb, hR⟩
    obtain ⟨h1, e1⟩ := HeapOk.below hH hb
    exact ⟨v, S, rfl, ⟨h1, e1, fun _ _ _ => rfl, fun i hi _ => hH.bnd i hi⟩, fun _ => ⟨rfl, fun b hb' => hb.block b hb'⟩, hR⟩
  · cases hrun

def atoiV (s : Bs) : Int := match Lib.atoiAll s with
  | .ok v => v
  | .range => Lib.atoiSat s
  | _ => 0
def atoiB (s : Bs) : Bool := match Lib.atoiAll s with
  | .ok _ => true
  | _ => false
def atoiG : List AV → Option (Prop × AV)
  | [.d (.str s)] => some (s.length ≤ 1000000, .tup [.d (.int .i64 (atoiV s)), .d (.ifc (atoiB s))])
  | _ => none
def itoaG : List AV → Option (Prop × AV)
  | [.d (.int .i64 n)] => some (inI64 n, .d (.str (Lib.itoa n)))
  | _ => none
theorem glob_one [Far] {W0 : World} {M0 : Nat → Prop} {H : Heap} {n : Nat} {w : World} {S : Lays} (hH : HeapOk W0 M0 H n w S) {g : Nat} (hg : (g, [D.ifc false]) ∈ globs) : ∃ t p, w.cell? ⟨g, 0, none⟩ = some (.iface t p) := by
  have h := (hH.gl _ hg).rd
  cases h with | ptr _ b o u hb hO hc hr =>
  have h1 := hc 0 _ rfl
  have h2 := hr 0 _ rfl
  generalize u 0 = z at h1 h2
  cases h2 with | ifc1 t p => exact ⟨t, p, h1⟩
theorem glob_ints {w : World} {O : Nat → Prop} {g : Nat} {k : IntKind} {zs : List Int} {ds : List D} (hd : ds = zs.map (D.int k)) (h : GlOk w O (g, ds)) : ∃ t z, w.heap[g]? = some (.cells (zs.map (Value.int k)).toArray t z) := by
  subst hd
  obtain ⟨cur, t, z, h1, h2⟩ := h.all
  refine ⟨t, z, ?_⟩
  have hcur : cur = (zs.map (Value.int k)).toArray := by
    have hr := h.rd
    have hl : cur.size = zs.length := by rw [h2]; exact List.length_map ..
    apply Array.ext_getElem?
    intro i
    cases hr with | ptr _ b o u hb hO hc hr =>
    have ez : (zs.map (Value.int k)).toArray[i]? = (zs[i]?).map (Value.int k) := by simp
    rw [ez]
    cases hi : zs[i]? with
    | none =>
      have : zs.length ≤ i := List.getElem?_eq_none_iff.1 hi
      rw [Array.getElem?_eq_none (by omega)]; rfl
    | some x =>
      have e1 : (zs.map (D.int k))[i]? = some (.int k x) := by rw [List.getElem?_map, hi]; rfl
      have c1 := hc i _ e1
      have c2 := hr i _ e1
      generalize u i = v at c1 c2
      cases c2
      rw [cell_of_row w _ _ cur t z h1, Nat.zero_add] at c1
      exact c1
  rw [← hcur]; exact h1
theorem str1 [Far] {w : World} {S : Lays} {n : Nat} {s : List UInt8} {vs : List Value} (hl : vs.length = 1) (hr : ∀ (i : Nat) (c : AV) (u : Value), [AV.d (.str s)][i]? = some c → vs[i]? = some u → R w S n c u) : vs = [.string ⟨s.toArray⟩] := by
  match vs, hl with
  | [u], _ => rw [R.str_iff.1 (hr 0 _ u rfl rfl)]
theorem atoi_meets : Meets Tryd.prog 92 (Spec.pure atoiG) := by
 refine meets_below fun args p r hg hp F H n w S vs hH hl hr => ?_
 unfold atoiG at hg
 split at hg
 ·rename_i s
  simp only [Option.some.injEq, Prod.mk.injEq] at hg
  obtain ⟨rfl, rfl⟩ := hg
  rw [str1 hl hr]
  have tup : ∀ {w' : World} (x : Int) (b : Bool) (v : Value), RD w' (own S) (.ifc b) v → R w' S n (.tup [.d (.int .i64 x), .d (.ifc b)]) (.tuple #[.int .i64 x, v]) := fun x b v h =>
   R.tup [_, _] [_, _] rfl (fun i c u hc hu => by
    match i with
    | 0 => simp at hc hu; subst hc hu; exact R.mkInt _ _
    | 1 => simp at hc hu; subst hc hu; exact .d h
    | i + 2 => simp at hc)
  unfold atoiV atoiB
  cases hA : Lib.atoiAll s with
  | ok v =>
   refine (Any.strconv_Atoi_ok Tryd.laysC172 ⟨s.toArray⟩ (by show s.length ≤ _; omega) v (by simpa using hA) w).mono ?_
   rintro e w' ⟨rfl, hw⟩
   refine ⟨_, rfl, ?_, tup _ _ _ .ifc0⟩
   rcases hw with rfl | ⟨t, rfl⟩
   ·exact Go.RowKit.Below.refl _ _
   ·exact Lib.bytesWorld_below _ _ _
  | range =>
   obtain ⟨te, pe, hv⟩ := glob_one hH (g := 5) (by unfold globs; simp)
   refine (Any.strconv_Atoi_range Tryd.laysC172 ⟨s.toArray⟩ (by show s.length ≤ _; omega) (by simpa using hA) _ w hv (.inr ⟨te, pe, rfl⟩)).mono ?_
   rintro e w' ⟨N, rfl, _, _, hb⟩
   refine ⟨_, rfl, hb, ?_⟩
   have := tup (w' := w') (Lib.atoiSat s) false _ (.ifc1 (Tryd.laysC172_ren.t 168) (.pointer (some ⟨N, 0, none⟩)))
   simpa using this
  | _ =>
   obtain ⟨te, pe, hv⟩ := glob_one hH (g := 4) (by unfold globs; simp)
   refine (Any.strconv_Atoi_syntax Tryd.laysC172 ⟨s.toArray⟩ (by show s.length ≤ _; omega) (by simpa using hA) _ w hv (.inr ⟨te, pe, rfl⟩)).mono ?_
   rintro e w' ⟨N, rfl, _, _, hb⟩
   exact ⟨_, rfl, hb, tup _ _ _ (.ifc1 _ _)⟩
 ·cases hg
theorem tab_is [Far] {W0 : World} {M0 : Nat → Prop} {H : Heap} {n : Nat} {w : World} {S : Lays} (hH : HeapOk W0 M0 H n w S) : Lib.TabIs Tryd.prog w "internal/strconv.uint64pow10" .u64 Lib.pow10Tab := by
  have hm : (3, Lib.pow10Tab.map (D.int .u64)) ∈ globs := by
    have : Lib.pow10Tab.map (D.int .u64) = [.int .u64 1, .int .u64 10, .int .u64 100, .int .u64 1000, .int .u64 10000, .int .u64 100000, .int .u64 1000000, .int .u64 10000000, .int .u64 100000000, .int .u64 1000000000, .int .u64 10000000000, .int .u64 100000000000, .int .u64 1000000000000, .int .u64 10000000000000, .int .u64 100000000000000, .int .u64 1000000000000000, .int .u64 10000000000000000, .int .u64 100000000000000000, .int .u64 1000000000000000000, .int .u64 10000000000000000000] := by rfl
    rw [this]; unfold globs; simp only [List.mem_cons, true_or, or_true]
  obtain ⟨t, z, h⟩ := glob_ints rfl (hH.gl _ hm)
  have hn : Tryd.prog.globalNamed "internal/strconv.uint64pow10" = some 3 := by kernel_rfl
  unfold Lib.TabIs World.var?
  rw [hn]
  simp only [Option.bind_some, h]
theorem bel_grow (w : World) (k : Nat) (os : Array Obj) : Go.RowKit.Below w.heap.size w (Go.Sort.grow (w.drewN k) os) := by
  refine ⟨rfl, rfl, rfl, ?_, fun i hi => ?_⟩
  · show w.heap.size ≤ (w.heap ++ os).size
    rw [Array.size_append]; omega
  · show (w.heap ++ os)[i]? = w.heap[i]?
    rw [Array.getElem?_append_left hi]
theorem itoa_meets : Meets Tryd.prog 81 (Spec.pure itoaG) := by
 refine meets_below fun args p r hg hp F H n w S vs hH hl hr => ?_
 unfold itoaG at hg
 split at hg
 ·rename_i x
  simp only [Option.some.injEq, Prod.mk.injEq] at hg
  obtain ⟨rfl, rfl⟩ := hg
  have hv : vs = [.int .i64 x] := by
   match vs, hl with
   | [u], _ => rw [R.int_iff.1 (hr 0 _ u rfl rfl)]
  rw [hv]
  refine (Any.strconv_Itoa Tryd.laysM171 x hp.1 hp.2 w (tab_is hH)).mono ?_
  rintro e w' ⟨rfl, k, os, rfl⟩
  exact ⟨_, rfl, bel_grow _ _ _, R.mkStr _⟩
 ·cases hg

def E_atoi : Env Tryd.prog := E_val.add 92 (Spec.pure atoiG) atoi_meets (by kernel_rfl)

def E_itoa : Env Tryd.prog := E_atoi.add 81 (Spec.pure itoaG) itoa_meets (by kernel_rfl)
end Go.Proofs.YtlbjffdaooadoaaDoor
