import Derived.Test.YtmbjnkgpcbpclaaGreatT110
import Derived.Tactics
import Derived.Tactics2
import Derived.Calls
import Derived.Test.YtmbjnkgpcbpclaaGreatT71
import Derived.Recover
import Derived.RegionCalls
import Derived.RegionTactic
import Derived.RangeFuncRecord
import Derived.Deep.MidRow
import Derived.Test.YtmbjnkgpcbpclaaGreatT119
import Derived.Test.YtmbjnkgpcbpclaaGreatChecked
import Derived.Stop.Joined
import Derived.Handed
import Derived.HandedShaped
import Derived.LaidLaws
import Derived.Lay
import Derived.Shelf.Vars
set_option linter.all false
set_option maxRecDepth 100000
set_option maxHeartbeats 4000000
namespace Go.Proofs.YtmbjnkgpcbpclaaGreat
open Go Go.Vc Go.RowKit
def hdB (r : Bs) : UInt8 := (r.dropWhile (· = 32)).headD 0
def flw (m : Nat) (r : Bs) : Prop := (m ≤ 1 → hdB r ≠ 38) ∧ (m = 0 → hdB r ≠ 124)
def stN (q : List Sn) (i : Nat) : Nat := i + 1 - Hs (Ef q) i
def RA (q : List Sn) (i m : Nat) (s : Bs) (K : Nat) : Prop := ∀ t f a r, K ≤ f → t.drop (FU t a) = s ++ r → flw m r → ∃ a', GW t f m a (q.take (stN q i)) = some (a', q.take (i + 1), i) ∧ FU t a' = FU t (FU t a + s.length)
def RB (q : List Sn) (i m : Nat) (s : Bs) (K : Nat) : Prop := ∀ t f g a r, K ≤ f → s.length < g → t.drop (FU t a) = s ++ r → flw (m + 1) r →
  ∃ a' g', KS (GW t f (m + 1) a (q.take (stN q i))) (fun a' ns' x => UU (GW t f (m + 1)) t m g a' ns' x) = UU (GW t f (m + 1)) t m g' a' (q.take (i + 1)) i ∧ g ≤ g' + s.length ∧ FU t a' = FU t (FU t a + s.length)
theorem RA.mono {q : List Sn} {i m : Nat} {s : Bs} {K K' : Nat} (h : RA q i m s K) (hk : K ≤ K') : RA q i m s K' := fun t f a r hf => h t f a r (by omega)
theorem RB.mono {q : List Sn} {i m : Nat} {s : Bs} {K K' : Nat} (h : RB q i m s K) (hk : K ≤ K') : RB q i m s K' := fun t f g a r hf => h t f g a r (by omega)
structure Ms where
  ns : List Sn
  rs : List Int
  ops : List Int
def nBin (ops : List Int) : Nat := (ops.filter fun k => decide (k = 2 ∨ k = 3)).length
def opOk (k : Int) : Prop := k = 0 ∨ k = 4 ∨ k = 2 ∨ k = 3
structure YE (i : Nat) (m : Ms) (b : Bool) : Prop where
  cnt : m.ns.length + m.ops.length ≤ i
  rts : m.rs.length = nBin m.ops + (if b = true then 0 else 1)
  ops : ∀ k ∈ m.ops, opOk k
theorem YE.le {i j : Nat} {m : Ms} {b : Bool} (h : YE i m b) (hij : i ≤ j) : YE j m b := ⟨Nat.le_trans h.cnt hij, h.rts, h.ops⟩
theorem own : ownKnob Tryz.checked.prog.godebug = none := by kernel_rfl
theorem WY : laidOutB Tryz.checked.prog = true := by kernel_rfl
theorem Pa : Om Tryz.prog 3 = true := by kernel_rfl
theorem Wd : Ri Tryz.prog 9 = true := by kernel_rfl
theorem YT : On Tryz.prog 22 9 = true := by kernel_rfl
theorem ZP : On Tryz.prog 23 55 = true := by kernel_rfl
theorem t_sn : Jd Tryz.prog 55 4 [(0, 1, 3), (1, 1, 9), (2, 1, 3), (3, 1, 3)] = true := by kernel_rfl
theorem t_sq : Jd Tryz.prog 25 1 [(0, 1, 23)] = true := by kernel_rfl
theorem XG {k : Nat} {xs : List (List D)} (h : ∀ x ∈ xs, WT Tryz.prog (k + 1) 9 x) : ∃ l, xs = rows eT l ∧ ∀ s ∈ l, s.length ≤ 9223372036854775807 := JD (f := eT) (q := fun s => s.length ≤ 9223372036854775807) fun x hx => QH (h x hx) Wd
theorem YZ {k : Nat} {xs : List (List D)} (h : ∀ x ∈ xs, WT Tryz.prog (k + 2) 55 x) : ∃ l, xs = rows Ec l ∧ KR l := by
  obtain ⟨l, h, hq⟩ := JD (f := Ec) (q := fun n => n.tx.length ≤ 9223372036854775807) fun x hx => by
    obtain ⟨hl, hf⟩ := QG (h x hx) t_sn
    obtain ⟨a, ha, _⟩ := Ng (hf 0 1 _ (by simp)) Pa
    obtain ⟨b, hb, hbl⟩ := QH (hf 1 1 _ (by simp)) Wd
    obtain ⟨c, hc, _⟩ := Ng (hf 2 1 _ (by simp)) Pa
    obtain ⟨d, hd, _⟩ := Ng (hf 3 1 _ (by simp)) Pa
    match x, hl with
    | [u1, u2, u3, u4], _ =>
      simp only [eI, eS, List.drop_zero, List.take_succ_cons, List.take_zero, List.drop_succ_cons, List.cons.injEq, and_true] at ha hb hc hd
      exact ⟨⟨a, b, c, d⟩, by rw [ha, hb, hc, hd]; rfl, hbl⟩
  exact ⟨l, h, hq⟩
theorem Sl {c : AV} (h : Fk Tryz.prog 8 22 c) : ∃ l : List Bs, c = .d (.sl (rows eT l)) ∧ l.length ≤ 9223372036854775807 ∧ ∀ s ∈ l, s.length ≤ 9223372036854775807 := by
  obtain ⟨xs, rfl, h1, h2⟩ := Yi h YT
  obtain ⟨l, rfl, h3⟩ := XG h2
  rw [Bd] at h1
  exact ⟨l, rfl, h1, h3⟩
theorem Yj {c : AV} (h : Fk Tryz.prog 8 25 c) : ∃ q, c = .agg [.d (.sl (rows Ec q))] ∧ q.length ≤ 9223372036854775807 ∧ KR q := by
  obtain ⟨ds, rfl, hl, hf⟩ := QX h t_sq
  obtain ⟨xs, ha, h1, h2⟩ := Ph (hf 0 1 23 (by simp)) ZP
  obtain ⟨l, rfl, h3⟩ := YZ h2
  match ds, hl with
  | [u1], _ =>
    simp only [List.drop_zero, List.take_succ_cons, List.take_zero, List.drop_succ_cons, List.cons.injEq, and_true] at ha
    rw [Bd] at h1
    exact ⟨l, by rw [ha]; rfl, h1, h3⟩
theorem Wc : On Tryz.prog 27 3 = true := by kernel_rfl
theorem X9 : On Tryz.prog 47 85 = true := by kernel_rfl
theorem YS : Jd Tryz.prog 85 2 [(0, 1, 9), (1, 1, 27)] = true := by kernel_rfl
theorem ZO : Jd Tryz.prog 49 2 [(0, 1, 27), (1, 1, 47)] = true := by kernel_rfl
theorem Wv {k : Nat} {xs : List (List D)} (h : ∀ x ∈ xs, WT Tryz.prog (k + 3) 85 x) : ∃ l, xs = rows eP l ∧ DN l := by
  obtain ⟨l, h, hq⟩ := JD (f := eP) (q := fun p => p.1.length ≤ 9223372036854775807 ∧ p.2.length ≤ 9223372036854775807) fun x hx => by
    obtain ⟨hl, hf⟩ := QG (h x hx) YS
    obtain ⟨s, ha, hsl⟩ := QH (hf 0 1 9 (by simp)) Wd
    obtain ⟨ps, hb, hpl, hps⟩ := Ph (hf 1 1 27 (by simp)) Wc
    obtain ⟨t, rfl, _⟩ := RK hps Pa
    match x, hl with
    | [u1, u2], _ =>
      simp only [eS, List.drop_zero, List.take_succ_cons, List.take_zero, List.drop_succ_cons, List.cons.injEq, and_true] at ha hb
      rw [Bd] at hpl
      exact ⟨(s, t), by rw [ha, hb]; rfl, hsl, hpl⟩
  exact ⟨l, h, hq⟩
theorem WE {c : AV} (h : Fk Tryz.prog 8 49 c) : ∃ l P, c = .agg [.d (.sl (rows eI l)), .d (.sl (rows eP P))] ∧ l.length ≤ 9223372036854775807 ∧ P.length ≤ 9223372036854775807 ∧ DN P := by
  obtain ⟨ds, rfl, hl, hf⟩ := QX h ZO
  obtain ⟨xs, ha, h1, h2⟩ := Ph (hf 0 1 27 (by simp)) Wc
  obtain ⟨l, rfl, _⟩ := RK h2 Pa
  obtain ⟨ys, hb, h3, h4⟩ := Ph (hf 1 1 47 (by simp)) X9
  obtain ⟨P, rfl, h5⟩ := Wv h4
  match ds, hl with
  | [u1, u2], _ =>
    simp only [List.drop_zero, List.take_succ_cons, List.take_zero, List.drop_succ_cons, List.cons.injEq, and_true] at ha hb
    rw [Bd] at h1 h3
    exact ⟨l, P, by rw [ha, hb]; rfl, h1, h3, h5⟩
theorem UO : QR Tryz.prog 8 [49, 22, 25] MF := by
  refine WZ fun a b c ha hb hc => ?_
  obtain ⟨l, P, rfl, h1, h2, h3⟩ := WE ha
  obtain ⟨ts, rfl, h4, h5⟩ := Sl hb
  obtain ⟨q, rfl, h6, h7⟩ := Yj hc
  refine ⟨_, rfl, ?_⟩
  rw [AE, BH, De, AL]; exact ⟨rfl, h1, rfl, h2, h3, rfl, h4, h5, rfl, h6, h7⟩
theorem Jt {H : Type} {enc : TypeId × Value → H} {C : Checked} {os : Os} {f : FuncId} {fn : Func} {s : ChangeSpec} {g : List AV → Option (Prop × AV)} {k : Nat} {tb : TypeId} {fresh handsOn : Bool} {conds : List PathCond} (own : ownKnob C.prog.godebug = none) (started : os.Started) (noInit : C.prog.inits.idxOf? f = none) (hfn : C.prog.funcs[f]? = some fn)
    (witness : ∃ (w : World) (tape : Tape) (i : Input), w.os = os ∧ (w.forCall tape i).Shaped C.prog ∧ i.vars = [] ∧ Input.okWide C.prog (w.forCall tape i) .any w.heap.size f i ∧
      ((s.pre enc C.prog fn conds false (w.forCall tape i).memory i.args ∧ True) ∧ sizedMet enc C.prog fn (OpenSpec.ofChange s) false (w.forCall tape i).memory i.args) ∧ ({} : Assume).holds C.prog (lone (Frame.enter C.prog f i.args .normal) [] (w.forCall tape i)))
    (hl : laidOutB C.prog = true) (hr : (fn.params.toList.all fun t => C.prog.readableRec t && decide (t < C.prog.types.size)) = true) (hres : fn.resultTypes = #[tb]) (htb : C.prog.underlying tb = some .bool) (hs : QS s fn.params.size)
    (hpl : (fn.params.toList.all fun t => FD C.prog k t) = true) (hm : A5 C.prog f (Spec.pure g)) (hlaw : QR C.prog k fn.params.toList g) (hgx : ∀ W : World, W.ShapedOpen C.prog → ∃ mx, Mg mx W) :
    ReturnsInHanded {} C os f .any (s.pre6 enc C.prog fn conds false) (s.post enc C.prog fn false fresh handsOn false) := by
  refine returnsInHanded_of_calls own started noInit (by obtain ⟨w, t, i, h1, h2, h3, h4, ⟨⟨h5, _⟩, h6⟩, h7⟩ := witness; exact ⟨w, t, i, h1, h2, h3, h4, ⟨h5, h6⟩, h7⟩) ?_
  intro w tape i _ hsh _ hok hpre hholds
  obtain ⟨_, _, _, fn', hfn', _, _, _, _, hval⟩ := hok
  have e : fn' = fn := Option.some.inj (hfn'.symm.trans hfn)
  subst e
  obtain ⟨⟨ds, gs, before, hw, hc⟩, hz⟩ := hpre
  have hw' := DataW.Whole.of_heap (w' := w.forCall tape i) (by rfl) hw
  obtain ⟨mx, hgl⟩ := hgx _ hsh
  have hwz := hz.weights hw
  have hr' : ∀ t ∈ fn'.params.toList, C.prog.readableRec t = true ∧ t < C.prog.types.size := fun t ht => by
    have := List.all_eq_true.1 hr t ht
    simpa using this
  obtain ⟨p, q, hA, hV, e, hz', hn⟩ := hw'
  have key := (SS hgl hm (fun t ht => List.all_eq_true.1 hpl t ht) hlaw (base := w.heap.size) (fun j t v h1 h2 => hval j t v (by rw [← Array.getElem?_toList]; exact h1) h2) hA (fun j t d h1 h2 n hn => by
    have h3 := List.all_eq_true.1 hwz n (DataW.weights_mem_each (j := j) (t := t) (d := d) (by rw [List.getElem?_append_left (List.getElem?_eq_some_iff.1 h1).1]; exact h1) (by rw [List.getElem?_append_left (List.getElem?_eq_some_iff.1 h2).1]; exact h2) n hn)
    simpa using h3))
  refine key.mono ?_
  rintro e' w' ⟨rfl, hB⟩
  exact ChangeSpec.post_blind (UP hl hr' hres htb hs ⟨p, q, hA, hV, e, hz', hn⟩ hB)
theorem Uy (W : World) (h : W.ShapedOpen Tryz.prog) : ∃ mx, Mg mx W := by
  have h0 : ((begin Tryz.prog (fun _ _ => 0) default).world.heap[0]?).bind Obj.row? = some (#[.int .i64 0], 3) := by kernel_rfl
  obtain ⟨m, hm⟩ := cell_of_shapedOpen_int (P := Tryz.prog) (g := 0) (t := 3) (zero := #[.int .i64 0]) h (of_decide_eq_true (by kernel_rfl)) h0 rfl (by kernel_rfl) (by kernel_rfl) Tryz.underlying3
  obtain ⟨cs, hcs, hsz, _⟩ := h.1 0 _ _ (of_decide_eq_true (by kernel_rfl)) h0
  refine ⟨m, fun p hp => ?_⟩
  unfold GA at hp
  simp only [List.mem_cons, List.not_mem_nil, or_false] at hp
  subst hp
  refine ⟨.ptr [.int .i64 m] _ 0 (fun _ => .int .i64 m) (Lv hm).2 (fun h => h) (fun f c hc => ?_) (fun f c hc => ?_), cs, _, _, hcs, hsz⟩
  · cases f with
    | zero => exact hm
    | succ f => simp at hc
  · cases f with
    | zero => simp at hc; subst hc; exact .int _ _
    | succ f => simp at hc
