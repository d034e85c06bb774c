/- Walks, printed by wip/gen/walk.py. -/
import Derived.Test.YtmbjnkgpcbpclaaGreatT69
import Derived.Test.YtmbjnkgpcbpclaaGreatV5
set_option linter.all false
set_option maxRecDepth 100000
set_option maxHeartbeats 4000000
namespace Go.Proofs.YtmbjnkgpcbpclaaGreat
open Go Go.Vc Go.RowKit
theorem Kv : ∀ n, A1 Tryz.prog 42 (Spec.gen (Gg n)) ∧ A1 Tryz.prog 63 (Spec.gen (I9 n))
  | 0 => by
    refine ⟨J2 fun a b p r bf h hp => ?_, J2 fun a b p r bf h hp => ?_⟩
    · unfold Gg at h
      split at h
      · simp only [Option.some.injEq, Prod.mk.injEq] at h
        obtain ⟨rfl, _⟩ := h
        exact absurd hp.2.2.2 (by simp [Gx])
      · cases h
    · unfold I9 at h
      split at h
      · simp only [Option.some.injEq, Prod.mk.injEq] at h
        obtain ⟨rfl, _⟩ := h
        exact absurd hp.2 (by simp [Gx])
      · cases h
  | n + 1 => by
    obtain ⟨h1, h2⟩ := Kv n
    exact ⟨TY n h1 h2, U6 n h1 h2⟩
def Ro (t : Bs) : Option (List Sn) := match Gx t 2000 0 0 [] with
  | some (a, ns, _) => if Fm t a = t.length ∧ ns.length ≤ 40 then some ns else none
  | none => none
theorem VI {t : Bs} {q : List Sn} (h : Ro t = some q) : ∃ a x, Gx t 2000 0 0 [] = some (a, q, x) ∧ Fm t a = t.length ∧ q.length ≤ 40 := by
  unfold Ro at h
  split at h
  · rename_i a ns x hr
    split at h
    · rename_i hc; cases h; exact ⟨a, x, hr, hc⟩
    · cases h
  · cases h
noncomputable def Xh : Code := match Tryz.f16.body with
  | some (.seq _ (.seq _ (.seq _ b))) => b
  | _ => .skip
theorem P1 : Cz [] = [] := rfl

def IW : Bn Tryz.prog := Wj.add 42 (Spec.gen (Gg 2000)) (Kv 2000).1 (by kernel_rfl)

theorem Xi (t : Bs) (q : List Sn) (h3 : t.length ≤ 300) (hq : Ro t = some q) : ∀ [F : Bd] (W0 : World), Bd.np = 0 → VC (IW.at_ 32) W0 (fun _ => False) Xh (G5 [(0, .d (.str t)), (2, .ptr 0 0 0), (3, .ptr 1 0 0)] [some (.one 25 [.d .nils]), some (.one 29 [.d (.int .i64 0), .d (.int .i64 0)])]) (Ug (IW.at_ 32) Tryz.f16.results.toList (.tup [.agg [.d (.sl (rows DR q))], .agg [.d (.int .i64 0), .d (.int .i64 0)]])) := by
  obtain ⟨a, x, hR, hk, hq4⟩ := VI hq
  obtain ⟨⟨f1, f2, f3⟩, f4⟩ := EV t 2000 0 0 [] (Nat.zero_le _) a q x hR
  have f5 : q.length ≤ a := by simp at f3; omega
  have hps := E1 (t := t) (m := a) (q := q) f5 f2 (by omega)
  have hT : (IW).X = T := rfl
  have hx0 := And.intro @Ci (And.intro @Ch (And.intro @Int.toNat_natCast (And.intro @RZ.eq_1 (And.intro @AY (And.intro @BQ (And.intro @VK (And.intro @PK (And.intro @P1 (And.intro @Int.toNat_zero @Tryz.results16)))))))))
  have hx := hx0
  intro F W0 hnp
  refine Aa fun N1 h1 => ?_
  refine Ad ?_
  try refine Ac ?_
  refine Ae ?_
  refine BL ?_
  refine Bw ?_
  refine A4 ?_
  refine Ab ?_
  refine h1 _ ?_; clear h1
  refine Aa fun N2 h2 => ?_
  refine IK 2 2 (.vec 55 4 []) 4 (Ma 55 4) rfl rfl rfl ?_
  simp only [BS, List.set, List.cons_append, List.nil_append]
  have hx := And.intro @hR hx0
  refine Ad ?_
  try refine Ac ?_
  have hc := Ag (E := (IW.at_ 32)) (f := 42) (sp := Spec.gen (Gg 2000)) rfl
  have hs := @Gg.eq_1
  refine B8 (hq := by (first | (refine ⟨by decide, by decide, E1 (m := 0) (q := []) (Nat.zero_le _) (by omega) (by omega), ?_⟩; first | rfl | (rw [hR]; rfl) | (simp only [P1, Int.toNat_zero, Int.toNat_natCast, hR]; rfl)) | exact A3)) ?_
  refine Ab ?_
  have hx := hx0
  refine h2 _ ?_; clear h2
  refine Aa fun N3 h3 => ?_
  refine Aa fun N4 h4 => ?_
  have hx := And.intro @hk hx0
  refine Ad ?_
  try refine Ac ?_
  have hc := Ag (E := (IW.at_ 32)) (f := 43) (sp := Spec.gen Oc) rfl
  have hs := @Oc.eq_1
  refine B8 (hq := by (first | (exact hps) | exact A3)) ?_
  refine Ab ?_
  have hx := hx0
  refine h4 _ ?_; clear h4
  refine Aa fun N5 h5 => ?_
  refine Ad ?_
  try refine Ac ?_
  refine At ?_
  refine Ap ?_
  refine Ae ?_
  refine AZ ?_
  refine Al ?_
  refine Ab ?_
  refine h5 _ ?_; clear h5
  refine Ai (fun hb6 => ?_) (fun hb6 => ?_)
  ·first | omega | exact absurd trivial hb6 | contradiction | (simp_all; done)
  refine Am ?_
  try simp only [Af]
  refine h3 _ ?_; clear h3
  refine Aa fun N7 h7 => ?_
  refine Aa fun N8 h8 => ?_
  refine Ad ?_
  try refine Ac ?_
  refine At ?_
  refine Ap ?_
  refine AZ ?_
  refine Al ?_
  refine Ab ?_
  refine h8 _ ?_; clear h8
  refine Ai (fun hb9 => ?_) (fun hb9 => ?_)
  ·first | omega | exact absurd trivial hb9 | contradiction | (simp_all; done)
  refine Am ?_
  try simp only [Af]
  refine h7 _ ?_; clear h7
  refine Aa fun N10 h10 => ?_
  refine Ad ?_
  try refine Ac ?_
  refine At ?_
  refine Ap ?_
  iterate 2 refine BL ?_
  iterate 2 refine A4 ?_
  refine Ab ?_
  refine h10 _ ?_; clear h10
  refine An ?_
  try simp only [Af]
  refine Ax ?_
  exact As
end Go.Proofs.YtmbjnkgpcbpclaaGreat
