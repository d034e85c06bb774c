/- Walks, printed by wip/gen/walk.py. -/
import Derived.Test.YtmbjnkgpcbpclaaGreatT69
import Derived.Test.YtmbjnkgpcbpclaaGreatV5
set_option linter.all false
set_option maxRecDepth 100000
set_option maxHeartbeats 4000000
namespace Go.Proofs.YtmbjnkgpcbpclaaGreat
open Go Go.Vc Go.RowKit
theorem JR : ∀ n, A5 Tryz.prog 42 (Spec.gen (FP n)) ∧ A5 Tryz.prog 63 (Spec.gen (Il n))
  | 0 => by
    refine ⟨Jb fun a b p r bf h hp => ?_, Jb fun a b p r bf h hp => ?_⟩
    · unfold FP at h
      split at h
      · simp only [Option.some.injEq, Prod.mk.injEq] at h
        obtain ⟨rfl, _⟩ := h
        exact absurd hp.2.2.2 (by simp [Gf])
      · cases h
    · unfold Il at h
      split at h
      · simp only [Option.some.injEq, Prod.mk.injEq] at h
        obtain ⟨rfl, _⟩ := h
        exact absurd hp.2 (by simp [Gf])
      · cases h
  | n + 1 => by
    obtain ⟨h1, h2⟩ := JR n
    exact ⟨Td n h1 h2, TE n h1 h2⟩
def Qx (t : Bs) : Option (List Sn) := match Gf t 2000 0 0 [] with
  | some (a, ns, _) => if EY t a = t.length ∧ ns.length ≤ 40 then some ns else none
  | none => none
theorem UL {t : Bs} {q : List Sn} (h : Qx t = some q) : ∃ a x, Gf t 2000 0 0 [] = some (a, q, x) ∧ EY t a = t.length ∧ q.length ≤ 40 := by
  unfold Qx at h
  split at h
  · rename_i a ns x hr
    split at h
    · rename_i hc; cases h; exact ⟨a, x, hr, hc⟩
    · cases h
  · cases h
noncomputable def Wr : Code := match Tryz.f16.body with
  | some (.seq _ (.seq _ (.seq _ b))) => b
  | _ => .skip
theorem OH : C3 [] = [] := rfl

def I6 : Bo Tryz.prog := Vp.add 42 (Spec.gen (FP 2000)) (JR 2000).1 (by kernel_rfl)

theorem Ws (t : Bs) (q : List Sn) (h3 : t.length ≤ 300) (hq : Qx t = some q) : ∀ [F : AU] (W0 : World), AU.np = 0 → VC (I6.at_ 32) W0 (fun _ => False) Wr (Gn [(0, .d (.str t)), (2, .ptr 0 0 0), (3, .ptr 1 0 0)] [some (.one 25 [.d .nils]), some (.one 29 [.d (.int .i64 0), .d (.int .i64 0)])]) (Tk (I6.at_ 32) Tryz.f16.results.toList (.tup [.agg [.d (.sl (rows DL q))], .agg [.d (.int .i64 0), .d (.int .i64 0)]])) := by
  obtain ⟨a, x, hR, hk, hq4⟩ := UL hq
  obtain ⟨⟨f1, f2, f3⟩, f4⟩ := EG t 2000 0 0 [] (Nat.zero_le _) a q x hR
  have f5 : q.length ≤ a := by simp at f3; omega
  have hps := Em (t := t) (m := a) (q := q) f5 f2 (by omega)
  have hT : (I6).X = T := rfl
  have hx0 := And.intro @Cu (And.intro @Ct (And.intro @Int.toNat_natCast (And.intro @Re.eq_1 (And.intro @AX (And.intro @A0 (And.intro @UO (And.intro @Pb (And.intro @OH (And.intro @Int.toNat_zero @Tryz.results16)))))))))
  have hx := hx0
  intro F W0 hnp
  refine Aa fun N1 h1 => ?_
  refine Ad ?_
  try refine Ac ?_
  refine Ae ?_
  refine BC ?_
  refine B8 ?_
  refine A8 ?_
  refine Ab ?_
  refine h1 _ ?_; clear h1
  refine Aa fun N2 h2 => ?_
  refine Iy 2 2 (.vec 55 4 []) 4 (L0 55 4) rfl rfl rfl ?_
  simp only [BI, List.set, List.cons_append, List.nil_append]
  have hx := And.intro @hR hx0
  refine Ad ?_
  try refine Ac ?_
  have hc := Ah (E := (I6.at_ 32)) (f := 42) (sp := Spec.gen (FP 2000)) rfl
  have hs := @FP.eq_1
  refine BD (hq := by (first | (refine ⟨by decide, by decide, Em (m := 0) (q := []) (Nat.zero_le _) (by omega) (by omega), ?_⟩; first | rfl | (rw [hR]; rfl) | (simp only [OH, Int.toNat_zero, Int.toNat_natCast, hR]; rfl)) | exact Ay)) ?_
  refine Ab ?_
  have hx := hx0
  refine h2 _ ?_; clear h2
  refine Aa fun N3 h3 => ?_
  refine Aa fun N4 h4 => ?_
  have hx := And.intro @hk hx0
  refine Ad ?_
  try refine Ac ?_
  have hc := Ah (E := (I6.at_ 32)) (f := 43) (sp := Spec.gen Nn) rfl
  have hs := @Nn.eq_1
  refine BD (hq := by (first | (exact hps) | exact Ay)) ?_
  refine Ab ?_
  have hx := hx0
  refine h4 _ ?_; clear h4
  refine Aa fun N5 h5 => ?_
  refine Ad ?_
  try refine Ac ?_
  refine Au ?_
  refine Ar ?_
  refine Ae ?_
  refine Bm ?_
  refine Am ?_
  refine Ab ?_
  refine h5 _ ?_; clear h5
  refine Al (fun hb6 => ?_) (fun hb6 => ?_)
  ·first | omega | exact absurd trivial hb6 | contradiction | (simp_all; done)
  refine An ?_
  try simp only [Af]
  refine h3 _ ?_; clear h3
  refine Aa fun N7 h7 => ?_
  refine Aa fun N8 h8 => ?_
  refine Ad ?_
  try refine Ac ?_
  refine Au ?_
  refine Ar ?_
  refine Bm ?_
  refine Am ?_
  refine Ab ?_
  refine h8 _ ?_; clear h8
  refine Al (fun hb9 => ?_) (fun hb9 => ?_)
  ·first | omega | exact absurd trivial hb9 | contradiction | (simp_all; done)
  refine An ?_
  try simp only [Af]
  refine h7 _ ?_; clear h7
  refine Aa fun N10 h10 => ?_
  refine Ad ?_
  try refine Ac ?_
  refine Au ?_
  refine Ar ?_
  iterate 2 refine BC ?_
  iterate 2 refine A8 ?_
  refine Ab ?_
  refine h10 _ ?_; clear h10
  refine Ao ?_
  try simp only [Af]
  refine A3 ?_
  exact At
end Go.Proofs.YtmbjnkgpcbpclaaGreat
