import Derived.Test.YtmbjnkgpcbpclaaGreatT69
import Derived.Recover
set_option linter.all false
set_option maxRecDepth 100000
set_option maxHeartbeats 4000000
namespace Go.Proofs.YtmbjnkgpcbpclaaGreat
open Go Go.Vc Go.RowKit
theorem Lp : ∀ n, A5 Tryz.prog 42 (Spec.gen (GI n)) ∧ A5 Tryz.prog 63 (Spec.gen (J0 n))
  | 0 => by
    refine ⟨Ks fun a b p r bf h hp => ?_, Ks fun a b p r bf h hp => ?_⟩
    · unfold GI at h
      split at h
      · simp only [Option.some.injEq, Prod.mk.injEq] at h
        obtain ⟨rfl, _⟩ := h
        exact absurd hp.2.2.2 (by simp [GW])
      · cases h
    · unfold J0 at h
      split at h
      · simp only [Option.some.injEq, Prod.mk.injEq] at h
        obtain ⟨rfl, _⟩ := h
        exact absurd hp.2 (by simp [GW])
      · cases h
  | n + 1 => by
    obtain ⟨h1, h2⟩ := Lp n
    exact ⟨VA n h1 h2, Wm n h1 h2⟩
def Tj (t : Bs) : Option (List Sn) := match GW t 2000 0 0 [] with
  | some (a, ns, _) => if FU t a = t.length ∧ ns.length ≤ 40 then some ns else none
  | none => none
theorem Xs {t : Bs} {q : List Sn} (h : Tj t = some q) : ∃ a x, GW t 2000 0 0 [] = some (a, q, x) ∧ FU t a = t.length ∧ q.length ≤ 40 := by
  unfold Tj at h
  split at h
  · rename_i a ns x hr
    split at h
    · rename_i hc; cases h; exact ⟨a, x, hr, hc⟩
    · cases h
  · cases h
noncomputable def YF : Code := match Tryz.f16.body with
  | some (.seq _ (.seq _ (.seq _ b))) => b
  | _ => .skip
theorem QZ : C8 [] = [] := rfl
def JQ : Bq Tryz.prog := XJ.add 42 (Spec.gen (GI 2000)) (Lp 2000).1 (by kernel_rfl)
theorem YG (t : Bs) (q : List Sn) (h3 : t.length ≤ 300) (hq : Tj t = some q) : ∀ [F : Bl] (W0 : World), Bl.np = 0 → VC (JQ.at_ 32) W0 (fun _ => False) YF (Hd [(0, .d (.str t)), (2, .ptr 0 0 0), (3, .ptr 1 0 0)] [some (.one 25 [.d .nils]), some (.one 29 [.d (.int .i64 0), .d (.int .i64 0)])]) (VJ (JQ.at_ 32) Tryz.f16.results.toList (.tup [.agg [.d (.sl (rows Ec q))], .agg [.d (.int .i64 0), .d (.int .i64 0)]])) := by
  obtain ⟨a, x, hR, hk, hq4⟩ := Xs hq
  obtain ⟨⟨f1, f2, f3⟩, f4⟩ := FE t 2000 0 0 [] (Nat.zero_le _) a q x hR
  have f5 : q.length ≤ a := by simp at f3; omega
  have hps := EY (t := t) (m := a) (q := q) f5 f2 (by omega)
  have hT : (JQ).X = T := rfl
  have hx0 := And.intro @Ci (And.intro @Ch (And.intro @Int.toNat_natCast (And.intro @TN.eq_1 (And.intro @AL (And.intro @BL (And.intro @Xv (And.intro @Ry (And.intro @QZ (And.intro @Int.toNat_zero @Tryz.results16)))))))))
  have hx := hx0
  intro F W0 hnp
  refine Aa fun N1 h1 => Ac ?_
  refine Az ?_
  refine Ad ?_
  refine BD ?_
  refine Bj ?_
  refine A4 ?_
  refine Ab (h1 _ (Aa fun N2 h2 => ?_)); clear h1
  refine Iw 2 2 (.vec 55 4 []) 4 (JG 55 4) rfl rfl rfl ?_
  simp only [Cc, List.set, List.cons_append, List.nil_append]
  have hx := And.intro @hR hx0
  refine Ac ?_
  have hc := Ag (E := (JQ.at_ 32)) (f := 42) (sp := Spec.gen (GI 2000)) rfl
  have hs := @GI.eq_1
  refine BM (hq := by (first | (refine ⟨by decide, by decide, EY (m := 0) (q := []) (Nat.zero_le _) (by omega) (by omega), ?_⟩; first | rfl | (rw [hR]; rfl) | (simp only [QZ, Int.toNat_zero, Int.toNat_natCast, hR]; rfl)) | exact AQ)) ?_
  have hx := hx0
  refine Ab (h2 _ (Aa fun N3 h3 => ?_)); clear h2
  have hx := And.intro @hk hx0
  refine Aa fun N4 h4 => Ac ?_
  have hc := Ag (E := (JQ.at_ 32)) (f := 43) (sp := Spec.gen P0) rfl
  have hs := @P0.eq_1
  refine BM (hq := by (first | (exact hps) | exact AQ)) ?_
  have hx := hx0
  refine Ab (h4 _ (Aa fun N5 h5 => Ac ?_)); clear h4
  refine Ar ?_
  refine Aq ?_
  refine Ad ?_
  refine AU ?_
  refine Ao ?_
  refine Ab (h5 _ (Ak (fun hb6 => ?_) (fun hb6 => ?_))); clear h5
  exact CJ hb6
  refine An ?_
  try simp only [Ae]
  refine h3 _ (Aa fun N7 h7 => ?_); clear h3
  refine Aa fun N8 h8 => Ac ?_
  refine Ar ?_
  refine Aq ?_
  refine AU ?_
  refine Ao ?_
  refine Ab (h8 _ (Ak (fun hb9 => ?_) (fun hb9 => ?_))); clear h8
  exact CJ hb9
  refine An ?_
  try simp only [Ae]
  refine h7 _ (Aa fun N10 h10 => Ac ?_); clear h7
  refine Ar ?_
  refine Aq ?_
  iterate 2 refine BD ?_
  iterate 2 refine A4 ?_
  refine Ab (h10 _ (Am ?_)); clear h10
  try simp only [Ae]
  refine Aw ?_
  exact Au
noncomputable def parC : Code := match Tryz.f16.body with
  | some (.seq a (.seq b (.seq c _))) => .seq a (.seq b (.seq c YF))
  | _ => .skip
theorem Uo (p q : Value) (w : World) : CallsD Tryz.prog 41 #[p, q] .returning w fun e u' w' => u' = .returning ∧ e = .returned (.tuple #[]) ∧ w' = w := by
  refine callsD_of_wpS Tryz.func41 rfl fun c0 cs hu => ?_
  simp only [Tryz.ntmps41, List.size_toArray, List.length_cons, List.length_nil, Nat.reduceAdd, Nat.reduceSub, Array.replicate_succ, Array.replicate_zero, List.push_toArray, List.append_toArray, List.nil_append, List.cons_append]
  have hrec : recoverD (c0 :: cs) = none := by simp [recoverD, hu]
  refine wpS_seq ?_
  refine wpS_region ?_
  have hr : ∀ (o : Oper), o.op = Op.call { callee := Callee.builtin Builtin.recover, args := #[], argTypes := #[] } → ∀ (ρ : Operand → Value), (execOp ρ o).run Tryz.prog w = .ok .recover w := by
    intro o ho ρ
    simp [execOp, ho, resolve, invoke, builtin]
  simp [wpOpsS, List.range, List.range.loop, Region.wanted, hr, hrec, execOp, Oper.upon, Exit.thenS, Act.put, Act.eval]
  refine wpS_seq (wpS_of_wp ?_)
  go_wp2
  show Code.wpS _ _ _ _ _ _
  refine wpS_cond (t := false) rfl ?_
  refine wpS_of_wp ?_
  show Code.wp _ Code.skip _ _ _
  go_wp2
  exact ⟨rfl, .returning, by rw [← hu], _, results_none rfl _ _ _, rfl, rfl, rfl⟩
theorem X2 [G : Bl] {P : Program} (E : Bq P) {W0 : World} {M0 : Nat → Prop} {fn : Func} {st : St} {w' : World} {S1 : Lays} {a' : Act} {r : AV} {e : Exit} (hH1 : Ai W0 M0 st.H st.n w' S1) (hF1 : ∀ i, R w' S1 st.n (st.fr i) (a'.tmps.getD i undef)) (h : VJ E fn.results.toList r e st) :
    (e = .normal ∨ e = .ret) ∧ ∃ v, (results fn a'.tmps).run P w' = .ok v w' ∧ R w' (DH [] [] S1) 0 r v := by
  obtain ⟨he, hst⟩ := h
  refine ⟨he, ?_⟩
  split at hst
  · rename_i q cs hres
    obtain ⟨hq, hmt⟩ := hst
    obtain ⟨us, e1, e2, e3, e4⟩ := MV hH1 hF1 hres hq
    have hpk : R w' S1 st.n (Hm cs) (OD us) := by
      match us, cs, e2, e4 with
      | [], [], _, _ => exact .tup [] [] rfl (fun i c u h => by simp at h)
      | [v], [c], _, e4 => exact e4 0 c v rfl rfl
      | v :: u :: us, c :: d :: cs, e2, e4 => exact .tup (c :: d :: cs) (v :: u :: us) e2.symm (fun i c' u' hc hu => e4 i c' u' hc hu)
    exact ⟨_, GJ e1 e3, Rp hH1 hmt hpk⟩
  · exact hst.elim
@[reducible] def Gu (F : Bl) (w : World) (S : Lays) (hlt : ∀ b, @own F S b → b < w.heap.size) (d : Deferred) : Bl where
  F := @own F S
  nev := fun b => b < w.heap.size
  sub := hlt
  pin := fun _ => none
  np := 0
  marks := false
  mx := F.mx
  dt := [d]
theorem V4 [G : Bl] {w : World} (h0 : Ai w (fun _ => False) (Ax []) 0 w (fun _ => none)) : ∃ S2, Ai w (fun _ => False) (Ax [some (.one 25 [.d .nils]), some (.one 29 [.d (.int .i64 0), .d (.int .i64 0)])]) 2 ((w.alloc (.cells #[.slice none 0 0] 25)).alloc (.cells #[.int .i64 0, .int .i64 0] 29)) S2 ∧
    R ((w.alloc (.cells #[.slice none 0 0] 25)).alloc (.cells #[.int .i64 0, .int .i64 0] 29)) S2 2 (.ptr 0 0 0) (.pointer (some ⟨w.heap.size, 0, none⟩)) ∧ R ((w.alloc (.cells #[.slice none 0 0] 25)).alloc (.cells #[.int .i64 0, .int .i64 0] 29)) S2 2 (.ptr 1 0 0) (.pointer (some ⟨w.heap.size + 1, 0, none⟩)) := by
  obtain ⟨h1, _⟩ := h0.alloc (w1 := w) ⟨rfl, rfl, rfl, rfl⟩ #[.slice none 0 0] 25 (.one 25 [.d .nils]) 1 1 (fun S' n' hE hn => EX hn rfl fun i c hc => by
    match i, hc with
    | 0, hc => cases hc; exact ⟨_, rfl, rfl, .d .nils⟩)
  obtain ⟨h2, _⟩ := h1.alloc (w1 := w.alloc (.cells #[.slice none 0 0] 25)) ⟨rfl, rfl, rfl, rfl⟩ #[.int .i64 0, .int .i64 0] 29 (.one 29 [.d (.int .i64 0), .d (.int .i64 0)]) 2 1 (fun S' n' hE hn => EX hn rfl fun i c hc => by
    match i, hc with
    | 0, hc => cases hc; exact ⟨_, rfl, rfl, .d (.int _ _)⟩
    | 1, hc => cases hc; exact ⟨_, rfl, rfl, .d (.int _ _)⟩)
  refine ⟨CI (CI (fun _ => none) 0 (some ⟨some w.heap.size, 1, 1, []⟩)) (0 + 1) (some ⟨some (w.alloc (.cells #[.slice none 0 0] 25)).heap.size, 2, 1, []⟩), ?_, ?_, ?_⟩
  rotate_left
  · have := R.ptr (w := (w.alloc (.cells #[.slice none 0 0] 25)).alloc (.cells #[.int .i64 0, .int .i64 0] 29)) (S := CI (CI (fun _ => none) 0 (some ⟨some w.heap.size, 1, 1, []⟩)) (0 + 1) (some ⟨some (w.alloc (.cells #[.slice none 0 0] 25)).heap.size, 2, 1, []⟩)) (n := 2) 0 0 0 w.heap.size ⟨some w.heap.size, 1, 1, []⟩ (by omega) rfl rfl
    simpa using this
  · have := R.ptr (w := (w.alloc (.cells #[.slice none 0 0] 25)).alloc (.cells #[.int .i64 0, .int .i64 0] 29)) (S := CI (CI (fun _ => none) 0 (some ⟨some w.heap.size, 1, 1, []⟩)) (0 + 1) (some ⟨some (w.alloc (.cells #[.slice none 0 0] 25)).heap.size, 2, 1, []⟩)) (n := 2) 1 0 0 (w.alloc (.cells #[.slice none 0 0] 25)).heap.size ⟨some (w.alloc (.cells #[.slice none 0 0] 25)).heap.size, 2, 1, []⟩ (by omega) rfl rfl
    simpa using this
  · have he : (CI (CI (Ax []) 0 (some (.one 25 [.d .nils]))) (0 + 1) (some (.one 29 [.d (.int .i64 0), .d (.int .i64 0)])) : Av) = Ax [some (.one 25 [.d .nils]), some (.one 29 [.d (.int .i64 0), .d (.int .i64 0)])] := by
      funext i
      match i with
      | 0 => rfl
      | 1 => rfl
      | i + 2 => simp [AA, Ax]
    rw [← he]; exact h2
def V2 : List AV → Option (Prop × AV)
  | [.d (.str t)] => some (t.length ≤ 300 ∧ (Tj t).isSome = true, .tup [.agg [.d (.sl (rows Ec ((Tj t).getD [])))], .agg [.d (.int .i64 0), .d (.int .i64 0)]])
  | _ => none
theorem Tk : A5 Tryz.prog 16 (Spec.pure V2) := by
 intro args H n p r o hrun hp F w S vs hH hl hr
 simp only [Spec.pure] at hrun
 split at hrun
 ·rename_i p' r' hg
  simp only [Option.some.injEq, Prod.mk.injEq] at hrun
  obtain ⟨rfl, rfl, rfl⟩ := hrun
  unfold V2 at hg
  split at hg
  ·rename_i t
   simp only [Option.some.injEq, Prod.mk.injEq] at hg
   obtain ⟨rfl, rfl⟩ := hg
   obtain ⟨h3, hsm⟩ := hp
   obtain ⟨q, hq⟩ := Option.isSome_iff_exists.1 hsm
   rw [hq, Option.getD_some]
   match vs, hl with
   | [v0], _ =>
   have hv := R.str_iff.1 (hr 0 _ _ rfl rfl)
   subst hv
   have hlt : ∀ b, @own F S b → b < w.heap.size := MO hH
   refine calls_of_wp_defers (P := Tryz.prog) Tryz.func16 (c := parC) rfl ?_
   simp only [Tryz.ntmps16, List.size_toArray, List.length_cons, List.length_nil, Nat.reduceAdd, Nat.reduceSub, Array.replicate_succ, Array.replicate_zero, List.push_toArray, List.append_toArray, List.nil_append, List.cons_append]
   show Code.wp Tryz.prog (Code.seq _ (Code.seq _ (Code.seq _ YF))) _ _ _
   have hl : (⟨t.toArray⟩ : ByteArray).size = t.length := by simp [ByteArray.size]
   have hn : ¬ (300 : Int) < (t.length : Int) := by omega
   go_wp2
   have hvc := @YG t q h3 hq (Gu F w S hlt { target := .fn (.func 41) #[.pointer (some ⟨w.heap.size, 0, none⟩), .pointer (some ⟨w.heap.size + 1, 0, none⟩)], args := #[] }) w rfl
   have h0 : @Ai (Gu F w S hlt { target := .fn (.func 41) #[.pointer (some ⟨w.heap.size, 0, none⟩), .pointer (some ⟨w.heap.size + 1, 0, none⟩)], args := #[] }) w (fun _ => False) (Ax []) 0 w (fun _ => none) := @Ai.mk (Gu F w S hlt { target := .fn (.func 41) #[.pointer (some ⟨w.heap.size, 0, none⟩), .pointer (some ⟨w.heap.size + 1, 0, none⟩)], args := #[] }) _ _ _ _ _ _ (fun _ _ => rfl) (fun i l b h => by cases h) (fun id b h => by cases h) (fun i j l l' b h => by cases h) (fun i l h => by cases h) (fun i l b h => by cases h) (fun i l b h => by cases h) rfl rfl rfl (Nat.le_refl _) (fun _ _ _ => rfl) (fun b hb => ⟨hb, fun i l h => by cases h⟩) (fun i h => absurd h (Nat.not_lt_zero i))
    (fun p hp => (hH.gl p hp).ext (Nat.le_refl _) (fun _ _ _ => rfl) (fun b _ hb h => hb (h.elim id fun ⟨i, l, h, _⟩ => by cases h)))
   obtain ⟨S2, hH2, r2, r3⟩ := @V4 (Gu F w S hlt { target := .fn (.func 41) #[.pointer (some ⟨w.heap.size, 0, none⟩), .pointer (some ⟨w.heap.size + 1, 0, none⟩)], args := #[] }) w h0
   refine wp_mono (wpIn_wide.1 (hvc _ _ ⟨S2, hH2, @Hb.mk (Gu F w S hlt { target := .fn (.func 41) #[.pointer (some ⟨w.heap.size, 0, none⟩), .pointer (some ⟨w.heap.size + 1, 0, none⟩)], args := #[] }) _ _ _ _ _ _ rfl ?_, @F4.mk (Gu F w S hlt { target := .fn (.func 41) #[.pointer (some ⟨w.heap.size, 0, none⟩), .pointer (some ⟨w.heap.size + 1, 0, none⟩)], args := #[] }) _ _ _ _ (fun _ => rfl) (fun h => by cases h) (fun h => by cases h)⟩)) ?_
   ·intro i
    match i with
    | 0 => exact @R.mkStr (Gu F w S hlt { target := .fn (.func 41) #[.pointer (some ⟨w.heap.size, 0, none⟩), .pointer (some ⟨w.heap.size + 1, 0, none⟩)], args := #[] }) _ _ _ _
    | 1 => exact @R.any (Gu F w S hlt { target := .fn (.func 41) #[.pointer (some ⟨w.heap.size, 0, none⟩), .pointer (some ⟨w.heap.size + 1, 0, none⟩)], args := #[] }) _ _ _ _
    | 2 => exact r2
    | 3 => exact r3
    | i + 4 => exact @R.any (Gu F w S hlt { target := .fn (.func 41) #[.pointer (some ⟨w.heap.size, 0, none⟩), .pointer (some ⟨w.heap.size + 1, 0, none⟩)], args := #[] }) _ _ _ _
   rintro e a' w' ⟨st, hret, S1, hH1, hF1, hM1⟩
   have hd : a'.defers = _ := @F4.let_ (Gu F w S hlt { target := .fn (.func 41) #[.pointer (some ⟨w.heap.size, 0, none⟩), .pointer (some ⟨w.heap.size + 1, 0, none⟩)], args := #[] }) _ _ _ _ hM1 rfl
   obtain ⟨he, v, hrun, hout⟩ := @X2 (Gu F w S hlt { target := .fn (.func 41) #[.pointer (some ⟨w.heap.size, 0, none⟩), .pointer (some ⟨w.heap.size + 1, 0, none⟩)], args := #[] }) _ _ _ _ _ _ _ _ _ _ _ hH1 (@Hb.at_ (Gu F w S hlt { target := .fn (.func 41) #[.pointer (some ⟨w.heap.size, 0, none⟩), .pointer (some ⟨w.heap.size + 1, 0, none⟩)], args := #[] }) _ _ _ _ _ _ hF1) hret
   have hsame : ∀ b, b < w.heap.size → w'.heap[b]? = w.heap[b]? := fun b hb => @Ai.same (Gu F w S hlt { target := .fn (.func 41) #[.pointer (some ⟨w.heap.size, 0, none⟩), .pointer (some ⟨w.heap.size + 1, 0, none⟩)], args := #[] }) _ _ _ _ _ _ hH1 b hb (fun h => h)
   have hE : @Cu F w S n w' S n := @Cu.mk F _ _ _ _ _ _ (Nat.le_refl _) (@Ai.size (Gu F w S hlt { target := .fn (.func 41) #[.pointer (some ⟨w.heap.size, 0, none⟩), .pointer (some ⟨w.heap.size + 1, 0, none⟩)], args := #[] }) _ _ _ _ _ _ hH1) (fun _ _ => .inl rfl) (fun _ _ h => h) (fun b hb _ => hsame b hb)
   have hfin : Leaves Tryz.prog Tryz.f16 a'.tmps (fun e w' => ∃ v S', e = .returned v ∧ Go.Vc.Left H n w S H n w' S' ∧ (True → S' = S ∧ ∀ b, b < w.heap.size → w'.heap[b]? = w.heap[b]?) ∧ R w' S' n (.tup [.agg [.d (.sl (rows Ec q))], .agg [.d (.int .i64 0), .d (.int .i64 0)]]) v) a'.defers .returning w' := by
    rw [hd]
    refine leaves_cons (f := 41) (args := #[.pointer (some ⟨w.heap.size, 0, none⟩), .pointer (some ⟨w.heap.size + 1, 0, none⟩)]) (by simp) (by simp [invoke, Fr (P := Tryz.prog) (f := 41) (by kernel_rfl)]) ?_
    refine (Uo _ _ _).mono ?_
    rintro e u' w'' ⟨rfl, rfl, rfl⟩
    refine ⟨v, hrun, v, S, rfl, ⟨?_, hE, fun _ _ _ => rfl, fun id hid _ => hH.bnd id hid⟩, fun _ => ⟨rfl, hsame⟩, ?_⟩
    ·refine @Ai.mk F _ _ _ _ _ _ hH.bnd (fun i l b h1 h2 => Nat.lt_of_lt_of_le (hH.lt2 i l b h1 h2) hE.size) (fun id b hb => ?_) hH.inj2 hH.nod hH.plain hH.mut2 (@Ai.os (Gu F w S hlt { target := .fn (.func 41) #[.pointer (some ⟨w.heap.size, 0, none⟩), .pointer (some ⟨w.heap.size + 1, 0, none⟩)], args := #[] }) _ _ _ _ _ _ hH1) (@Ai.tape (Gu F w S hlt { target := .fn (.func 41) #[.pointer (some ⟨w.heap.size, 0, none⟩), .pointer (some ⟨w.heap.size + 1, 0, none⟩)], args := #[] }) _ _ _ _ _ _ hH1) (@Ai.output (Gu F w S hlt { target := .fn (.func 41) #[.pointer (some ⟨w.heap.size, 0, none⟩), .pointer (some ⟨w.heap.size + 1, 0, none⟩)], args := #[] }) _ _ _ _ _ _ hH1) hE.size (fun b hb _ => hsame b hb) hH.far hH.pin (hH.glx hE)
     obtain ⟨l, hl, hbox⟩ := hH.box id b hb
     exact ⟨l, hl, hbox.ext hE (fun k hk => hsame k (hH.lt2 id l k hl hk))⟩
    ·exact LH (F := (Gu F w S hlt { target := .fn (.func 41) #[.pointer (some ⟨w.heap.size, 0, none⟩), .pointer (some ⟨w.heap.size + 1, 0, none⟩)], args := #[] })) (fun b hb hno h => hno (Or.inl h)) rfl hout
   rcases he with rfl | rfl
   ·exact hfin
   ·exact hfin
  ·cases hg
 ·cases hrun
