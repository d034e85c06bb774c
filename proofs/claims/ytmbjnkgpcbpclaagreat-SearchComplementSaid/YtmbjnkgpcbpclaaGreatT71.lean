/- Walks, printed by wip/gen/walk.py. -/
import Derived.Test.YtmbjnkgpcbpclaaGreatT70
import Derived.Test.YtmbjnkgpcbpclaaGreatV5
import Derived.Recover
set_option linter.all false
set_option maxRecDepth 100000
set_option maxHeartbeats 4000000
namespace Go.Proofs.YtmbjnkgpcbpclaaGreat
open Go Go.Vc Go.RowKit
noncomputable def Ye : Code := match Tryz.f16.body with
  | some (.seq a (.seq b (.seq c _))) => .seq a (.seq b (.seq c Wr))
  | _ => .skip
theorem R5 (p q : Value) (w : World) : CallsD Tryz.prog 41 #[p, q] .returning w fun e u' w' => u' = .returning ∧ e = .returned (.tuple #[]) ∧ w' = w := by
  refine callsD_of_wpS Tryz.func41 rfl fun c0 cs hu => ?_
  simp only [Tryz.ntmps41, List.size_toArray, List.length_cons, List.length_nil, Nat.reduceAdd, Nat.reduceSub, Array.replicate_succ, Array.replicate_zero, List.push_toArray, List.append_toArray, List.nil_append, List.cons_append]
  have hrec : recoverD (c0 :: cs) = none := by simp [recoverD, hu]
  refine wpS_seq ?_
  refine wpS_region ?_
  have hr : ∀ (o : Oper), o.op = Op.call { callee := Callee.builtin Builtin.recover, args := #[], argTypes := #[] } → ∀ (ρ : Operand → Value), (execOp ρ o).run Tryz.prog w = .ok .recover w := by
    intro o ho ρ
    simp [execOp, ho, resolve, invoke, builtin]
  simp [wpOpsS, List.range, List.range.loop, Region.wanted, hr, hrec, execOp, Oper.upon, Exit.thenS, Act.put, Act.eval]
  refine wpS_seq (wpS_of_wp ?_)
  go_wp2
  show Code.wpS _ _ _ _ _ _
  refine wpS_cond (t := false) rfl ?_
  refine wpS_of_wp ?_
  show Code.wp _ Code.skip _ _ _
  go_wp2
  exact ⟨rfl, .returning, by rw [← hu], _, results_none rfl _ _ _, rfl, rfl, rfl⟩
theorem UU [G : AU] {P : Program} (E : Bo P) {W0 : World} {M0 : Nat → Prop} {fn : Func} {st : St} {w' : World} {S1 : Lays} {a' : Act} {r : AV} {e : Exit} (hH1 : Ag W0 M0 st.H st.n w' S1) (hF1 : ∀ i, R w' S1 st.n (st.fr i) (a'.tmps.getD i undef)) (h : Tk E fn.results.toList r e st) :
    (e = .normal ∨ e = .ret) ∧ ∃ v, (results fn a'.tmps).run P w' = .ok v w' ∧ R w' (CV [] [] S1) 0 r v := by
  obtain ⟨he, hst⟩ := h
  refine ⟨he, ?_⟩
  split at hst
  · rename_i q cs hres
    obtain ⟨hq, hmt⟩ := hst
    obtain ⟨us, e1, e2, e3, e4⟩ := Lu hH1 hF1 hres hq
    have hpk : R w' S1 st.n (Gw cs) (M9 us) := by
      match us, cs, e2, e4 with
      | [], [], _, _ => exact .tup [] [] rfl (fun i c u h => by simp at h)
      | [v], [c], _, e4 => exact e4 0 c v rfl rfl
      | v :: u :: us, c :: d :: cs, e2, e4 => exact .tup (c :: d :: cs) (v :: u :: us) e2.symm (fun i c' u' hc hu => e4 i c' u' hc hu)
    exact ⟨_, FQ e1 e3, OT hH1 hmt hpk⟩
  · exact hst.elim
@[reducible] def Fy (F : AU) (w : World) (S : Lays) (hlt : ∀ b, @own F S b → b < w.heap.size) (d : Deferred) : AU where
  F := @own F S
  nev := fun b => b < w.heap.size
  sub := hlt
  pin := fun _ => none
  np := 0
  marks := false
  mx := F.mx
  dt := [d]
theorem SX [G : AU] {w : World} (h0 : Ag w (fun _ => False) (As []) 0 w (fun _ => none)) : ∃ S2, Ag w (fun _ => False) (As [some (.one 25 [.d .nils]), some (.one 29 [.d (.int .i64 0), .d (.int .i64 0)])]) 2 ((w.alloc (.cells #[.slice none 0 0] 25)).alloc (.cells #[.int .i64 0, .int .i64 0] 29)) S2 ∧
    R ((w.alloc (.cells #[.slice none 0 0] 25)).alloc (.cells #[.int .i64 0, .int .i64 0] 29)) S2 2 (.ptr 0 0 0) (.pointer (some ⟨w.heap.size, 0, none⟩)) ∧ R ((w.alloc (.cells #[.slice none 0 0] 25)).alloc (.cells #[.int .i64 0, .int .i64 0] 29)) S2 2 (.ptr 1 0 0) (.pointer (some ⟨w.heap.size + 1, 0, none⟩)) := by
  obtain ⟨h1, _⟩ := h0.alloc (w1 := w) ⟨rfl, rfl, rfl, rfl⟩ #[.slice none 0 0] 25 (.one 25 [.d .nils]) 1 1 (fun S' n' hE hn => El hn rfl fun i c hc => by
    match i, hc with
    | 0, hc => cases hc; exact ⟨_, rfl, rfl, .d .nils⟩)
  obtain ⟨h2, _⟩ := h1.alloc (w1 := w.alloc (.cells #[.slice none 0 0] 25)) ⟨rfl, rfl, rfl, rfl⟩ #[.int .i64 0, .int .i64 0] 29 (.one 29 [.d (.int .i64 0), .d (.int .i64 0)]) 2 1 (fun S' n' hE hn => El hn rfl fun i c hc => by
    match i, hc with
    | 0, hc => cases hc; exact ⟨_, rfl, rfl, .d (.int _ _)⟩
    | 1, hc => cases hc; exact ⟨_, rfl, rfl, .d (.int _ _)⟩)
  refine ⟨Cf (Cf (fun _ => none) 0 (some ⟨some w.heap.size, 1, 1, []⟩)) (0 + 1) (some ⟨some (w.alloc (.cells #[.slice none 0 0] 25)).heap.size, 2, 1, []⟩), ?_, ?_, ?_⟩
  rotate_left
  · have := R.ptr (w := (w.alloc (.cells #[.slice none 0 0] 25)).alloc (.cells #[.int .i64 0, .int .i64 0] 29)) (S := Cf (Cf (fun _ => none) 0 (some ⟨some w.heap.size, 1, 1, []⟩)) (0 + 1) (some ⟨some (w.alloc (.cells #[.slice none 0 0] 25)).heap.size, 2, 1, []⟩)) (n := 2) 0 0 0 w.heap.size ⟨some w.heap.size, 1, 1, []⟩ (by omega) rfl rfl
    simpa using this
  · have := R.ptr (w := (w.alloc (.cells #[.slice none 0 0] 25)).alloc (.cells #[.int .i64 0, .int .i64 0] 29)) (S := Cf (Cf (fun _ => none) 0 (some ⟨some w.heap.size, 1, 1, []⟩)) (0 + 1) (some ⟨some (w.alloc (.cells #[.slice none 0 0] 25)).heap.size, 2, 1, []⟩)) (n := 2) 1 0 0 (w.alloc (.cells #[.slice none 0 0] 25)).heap.size ⟨some (w.alloc (.cells #[.slice none 0 0] 25)).heap.size, 2, 1, []⟩ (by omega) rfl rfl
    simpa using this
  · have he : (Cf (Cf (As []) 0 (some (.one 25 [.d .nils]))) (0 + 1) (some (.one 29 [.d (.int .i64 0), .d (.int .i64 0)])) : Ap) = As [some (.one 25 [.d .nils]), some (.one 29 [.d (.int .i64 0), .d (.int .i64 0)])] := by
      funext i
      match i with
      | 0 => rfl
      | 1 => rfl
      | i + 2 => simp [A2, As]
    rw [← he]; exact h2
def SV : List AV → Option (Prop × AV)
  | [.d (.str t)] => some (t.length ≤ 300 ∧ (Qx t).isSome = true, .tup [.agg [.d (.sl (rows DL ((Qx t).getD [])))], .agg [.d (.int .i64 0), .d (.int .i64 0)]])
  | _ => none
theorem Qy : A5 Tryz.prog 16 (Spec.pure SV) := by
 intro args H n p r o hrun hp F w S vs hH hl hr
 simp only [Spec.pure] at hrun
 split at hrun
 ·rename_i p' r' hg
  simp only [Option.some.injEq, Prod.mk.injEq] at hrun
  obtain ⟨rfl, rfl, rfl⟩ := hrun
  unfold SV at hg
  split at hg
  ·rename_i t
   simp only [Option.some.injEq, Prod.mk.injEq] at hg
   obtain ⟨rfl, rfl⟩ := hg
   obtain ⟨h3, hsm⟩ := hp
   obtain ⟨q, hq⟩ := Option.isSome_iff_exists.1 hsm
   rw [hq, Option.getD_some]
   match vs, hl with
   | [v0], _ =>
   have hv := R.str_iff.1 (hr 0 _ _ rfl rfl)
   subst hv
   have hlt : ∀ b, @own F S b → b < w.heap.size := Lo hH
   refine calls_of_wp_defers (P := Tryz.prog) Tryz.func16 (c := Ye) rfl ?_
   simp only [Tryz.ntmps16, List.size_toArray, List.length_cons, List.length_nil, Nat.reduceAdd, Nat.reduceSub, Array.replicate_succ, Array.replicate_zero, List.push_toArray, List.append_toArray, List.nil_append, List.cons_append]
   show Code.wp Tryz.prog (Code.seq _ (Code.seq _ (Code.seq _ Wr))) _ _ _
   have hl : (⟨t.toArray⟩ : ByteArray).size = t.length := by simp [ByteArray.size]
   have hn : ¬ (300 : Int) < (t.length : Int) := by omega
   go_wp2
   have hvc := @Ws t q h3 hq (Fy F w S hlt { target := .fn (.func 41) #[.pointer (some ⟨w.heap.size, 0, none⟩), .pointer (some ⟨w.heap.size + 1, 0, none⟩)], args := #[] }) w rfl
   have h0 : @Ag (Fy F w S hlt { target := .fn (.func 41) #[.pointer (some ⟨w.heap.size, 0, none⟩), .pointer (some ⟨w.heap.size + 1, 0, none⟩)], args := #[] }) w (fun _ => False) (As []) 0 w (fun _ => none) := @Ag.mk (Fy F w S hlt { target := .fn (.func 41) #[.pointer (some ⟨w.heap.size, 0, none⟩), .pointer (some ⟨w.heap.size + 1, 0, none⟩)], args := #[] }) _ _ _ _ _ _ (fun _ _ => rfl) (fun i l b h => by cases h) (fun id b h => by cases h) (fun i j l l' b h => by cases h) (fun i l h => by cases h) (fun i l b h => by cases h) (fun i l b h => by cases h) rfl rfl rfl (Nat.le_refl _) (fun _ _ _ => rfl) (fun b hb => ⟨hb, fun i l h => by cases h⟩) (fun i h => absurd h (Nat.not_lt_zero i))
    (fun p hp => (hH.gl p hp).ext (Nat.le_refl _) (fun _ _ _ => rfl) (fun b _ hb h => hb (h.elim id fun ⟨i, l, h, _⟩ => by cases h)))
   obtain ⟨S2, hH2, r2, r3⟩ := @SX (Fy F w S hlt { target := .fn (.func 41) #[.pointer (some ⟨w.heap.size, 0, none⟩), .pointer (some ⟨w.heap.size + 1, 0, none⟩)], args := #[] }) w h0
   refine wp_mono (wpIn_wide.1 (hvc _ _ ⟨S2, hH2, @Gk.mk (Fy F w S hlt { target := .fn (.func 41) #[.pointer (some ⟨w.heap.size, 0, none⟩), .pointer (some ⟨w.heap.size + 1, 0, none⟩)], args := #[] }) _ _ _ _ _ _ rfl ?_, @E4.mk (Fy F w S hlt { target := .fn (.func 41) #[.pointer (some ⟨w.heap.size, 0, none⟩), .pointer (some ⟨w.heap.size + 1, 0, none⟩)], args := #[] }) _ _ _ _ (fun _ => rfl) (fun h => by cases h) (fun h => by cases h)⟩)) ?_
   ·intro i
    match i with
    | 0 => exact @R.mkStr (Fy F w S hlt { target := .fn (.func 41) #[.pointer (some ⟨w.heap.size, 0, none⟩), .pointer (some ⟨w.heap.size + 1, 0, none⟩)], args := #[] }) _ _ _ _
    | 1 => exact @R.any (Fy F w S hlt { target := .fn (.func 41) #[.pointer (some ⟨w.heap.size, 0, none⟩), .pointer (some ⟨w.heap.size + 1, 0, none⟩)], args := #[] }) _ _ _ _
    | 2 => exact r2
    | 3 => exact r3
    | i + 4 => exact @R.any (Fy F w S hlt { target := .fn (.func 41) #[.pointer (some ⟨w.heap.size, 0, none⟩), .pointer (some ⟨w.heap.size + 1, 0, none⟩)], args := #[] }) _ _ _ _
   rintro e a' w' ⟨st, hret, S1, hH1, hF1, hM1⟩
   have hd : a'.defers = _ := @E4.let_ (Fy F w S hlt { target := .fn (.func 41) #[.pointer (some ⟨w.heap.size, 0, none⟩), .pointer (some ⟨w.heap.size + 1, 0, none⟩)], args := #[] }) _ _ _ _ hM1 rfl
   obtain ⟨he, v, hrun, hout⟩ := @UU (Fy F w S hlt { target := .fn (.func 41) #[.pointer (some ⟨w.heap.size, 0, none⟩), .pointer (some ⟨w.heap.size + 1, 0, none⟩)], args := #[] }) _ _ _ _ _ _ _ _ _ _ _ hH1 (@Gk.at_ (Fy F w S hlt { target := .fn (.func 41) #[.pointer (some ⟨w.heap.size, 0, none⟩), .pointer (some ⟨w.heap.size + 1, 0, none⟩)], args := #[] }) _ _ _ _ _ _ hF1) hret
   have hsame : ∀ b, b < w.heap.size → w'.heap[b]? = w.heap[b]? := fun b hb => @Ag.same (Fy F w S hlt { target := .fn (.func 41) #[.pointer (some ⟨w.heap.size, 0, none⟩), .pointer (some ⟨w.heap.size + 1, 0, none⟩)], args := #[] }) _ _ _ _ _ _ hH1 b hb (fun h => h)
   have hE : @BS F w S n w' S n := @BS.mk F _ _ _ _ _ _ (Nat.le_refl _) (@Ag.size (Fy F w S hlt { target := .fn (.func 41) #[.pointer (some ⟨w.heap.size, 0, none⟩), .pointer (some ⟨w.heap.size + 1, 0, none⟩)], args := #[] }) _ _ _ _ _ _ hH1) (fun _ _ => .inl rfl) (fun _ _ h => h) (fun b hb _ => hsame b hb)
   have hfin : Leaves Tryz.prog Tryz.f16 a'.tmps (fun e w' => ∃ v S', e = .returned v ∧ Go.Vc.Left H n w S H n w' S' ∧ (True → S' = S ∧ ∀ b, b < w.heap.size → w'.heap[b]? = w.heap[b]?) ∧ R w' S' n (.tup [.agg [.d (.sl (rows DL q))], .agg [.d (.int .i64 0), .d (.int .i64 0)]]) v) a'.defers .returning w' := by
    rw [hd]
    refine leaves_cons (f := 41) (args := #[.pointer (some ⟨w.heap.size, 0, none⟩), .pointer (some ⟨w.heap.size + 1, 0, none⟩)]) (by simp) (by simp [invoke, Ew (P := Tryz.prog) (f := 41) (by kernel_rfl)]) ?_
    refine (R5 _ _ _).mono ?_
    rintro e u' w'' ⟨rfl, rfl, rfl⟩
    refine ⟨v, hrun, v, S, rfl, ⟨?_, hE, fun _ _ _ => rfl, fun id hid _ => hH.bnd id hid⟩, fun _ => ⟨rfl, hsame⟩, ?_⟩
    ·refine @Ag.mk F _ _ _ _ _ _ hH.bnd (fun i l b h1 h2 => Nat.lt_of_lt_of_le (hH.lt2 i l b h1 h2) hE.size) (fun id b hb => ?_) hH.inj2 hH.nod hH.plain hH.mut2 (@Ag.os (Fy F w S hlt { target := .fn (.func 41) #[.pointer (some ⟨w.heap.size, 0, none⟩), .pointer (some ⟨w.heap.size + 1, 0, none⟩)], args := #[] }) _ _ _ _ _ _ hH1) (@Ag.tape (Fy F w S hlt { target := .fn (.func 41) #[.pointer (some ⟨w.heap.size, 0, none⟩), .pointer (some ⟨w.heap.size + 1, 0, none⟩)], args := #[] }) _ _ _ _ _ _ hH1) (@Ag.output (Fy F w S hlt { target := .fn (.func 41) #[.pointer (some ⟨w.heap.size, 0, none⟩), .pointer (some ⟨w.heap.size + 1, 0, none⟩)], args := #[] }) _ _ _ _ _ _ hH1) hE.size (fun b hb _ => hsame b hb) hH.far hH.pin (hH.glx hE)
     obtain ⟨l, hl, hbox⟩ := hH.box id b hb
     exact ⟨l, hl, hbox.ext hE (fun k hk => hsame k (hH.lt2 id l k hl hk))⟩
    ·exact Kx (F := (Fy F w S hlt { target := .fn (.func 41) #[.pointer (some ⟨w.heap.size, 0, none⟩), .pointer (some ⟨w.heap.size + 1, 0, none⟩)], args := #[] })) (fun b hb hno h => hno (Or.inl h)) rfl hout
   rcases he with rfl | rfl
   ·exact hfin
   ·exact hfin
  ·cases hg
 ·cases hrun
end Go.Proofs.YtmbjnkgpcbpclaaGreat
