/- Walks, printed by wip/gen/walk.py. -/
import Derived.Test.YtmbjnkgpcbpclaaGreatT71
import Derived.Test.YtmbjnkgpcbpclaaGreatV5
set_option linter.all false
set_option maxRecDepth 100000
set_option maxHeartbeats 4000000
namespace Go.Proofs.YtmbjnkgpcbpclaaGreat
open Go Go.Vc Go.RowKit
def WF : List Sn := [⟨1, [98], 0, 0⟩, ⟨1, [97], 0, 0⟩, ⟨4, [], 1, 0⟩, ⟨2, [], 0, 2⟩]
theorem VV : Qx [34, 98, 34, 32, 38, 32, 33, 34, 97, 34] = some WF := by kernel_rfl
theorem Ur : Ra [[97, 98, 99], [98], [99]] WF = (0, 0, [1]) := by kernel_rfl
theorem VT : J8 WF = (0, 0, [34, 98, 34, 32, 38, 32, 33, 34, 97, 34]) := by kernel_rfl
theorem VU : WF.length = 4 := rfl
theorem WY : dT [[.str [97, 98, 99]], [.str [98]], [.str [99]]] = [[97, 98, 99], [98], [99]] := rfl
theorem Uv (a : List Sn) : (some a).getD [] = a := rfl
theorem RI : IG WF := by
  intro n hn
  have : WF.all (fun n => decide (n.tx.length ≤ 9223372036854775807)) = true := by kernel_rfl
  simpa using List.all_eq_true.1 this n hn
theorem Vw : ∀ s ∈ ([[97, 98, 99], [98], [99]] : List Bs), s.length ≤ 9223372036854775807 := by
  intro s hs
  have : ([[97, 98, 99], [98], [99]] : List Bs).all (fun s => decide (s.length ≤ 9223372036854775807)) = true := by kernel_rfl
  simpa using List.all_eq_true.1 this s hs
theorem RJ : ∀ s : Bs, s = [97, 98, 99] ∨ s = [98] ∨ s = [99] → s.length ≤ 9223372036854775807 := by
  rintro s (rfl | rfl | rfl) <;> decide
def WX : List AV → Option (Prop × AV)
  | [] => some (True, .d (.bool true))
  | _ => none

def G1 : Bo Tryz.prog := O5.add 16 (Spec.pure SV) Qy (by kernel_rfl)

theorem PO : A5 Tryz.prog 9 (Spec.pure WX) := by
 refine A7 (G1.at_ 50) Tryz.func9 rfl rfl rfl ?_
 intro args p r hg hp
 unfold WX at hg
 split at hg
 skip
 simp only [Option.some.injEq, Prod.mk.injEq] at hg
 obtain ⟨rfl, rfl⟩ := hg
 have hT : (G1).X = T := rfl
 have hx0 := And.intro @A0 (And.intro @EC (And.intro @AX (And.intro @AJ (And.intro @VV (And.intro @Uv (And.intro @WY (And.intro @Ur (And.intro @VT (And.intro @VU (And.intro @Cu (And.intro @Ct @Tryz.results9)))))))))))
 have hx := hx0
 refine ⟨by rfl, ?_⟩
 intro F W0 hnp hmk
 refine Aa fun N1 h1 => ?_
 refine Ad ?_
 try refine Ac ?_
 refine Ae ?_
 refine Ab ?_
 refine h1 _ ?_; clear h1
 refine Aa fun N2 h2 => ?_
 refine Ad ?_
 try refine Ac ?_
 have hc := Ah (E := (G1.at_ 50)) (f := 16) (sp := Spec.pure SV) rfl
 have hs := @SV.eq_1
 refine Jw (hq := by (first | (exact ⟨by decide, rfl⟩) | exact Ay)) ?_
 refine Ae ?_
 iterate 2 refine DH ?_
 iterate 2 refine B8 ?_
 iterate 2 refine A8 ?_
 refine Ab ?_
 refine h2 _ ?_; clear h2
 refine Aa fun N3 h3 => ?_
 refine Ad ?_
 try refine Ac ?_
 refine GE ?_
 refine Ar ?_
 have hc := Ah (E := (G1.at_ 50)) (f := 10) (sp := Spec.pure PQ) rfl
 have hs := @PQ.eq_1
 refine Jw (hq := by (first | ((repeat' apply And.intro) <;> first | rfl | exact Vw | exact RJ | exact RI | exact True.intro | decide | omega) | exact Ay)) ?_
 refine Ae ?_
 iterate 2 refine DH ?_
 refine B8 ?_
 refine Ae ?_
 refine A8 ?_
 refine Ab ?_
 refine h3 _ ?_; clear h3
 refine Aa fun N4 h4 => ?_
 refine Ad ?_
 try refine Ac ?_
 refine Ar ?_
 have hc := Ah (E := (G1.at_ 50)) (f := 19) (sp := Spec.pure RL) rfl
 have hs := @RL.eq_1
 refine BF (hq := by (first | ((repeat' apply And.intro) <;> first | rfl | exact Vw | exact RJ | exact RI | exact True.intro | decide | omega) | exact Ay)) ?_
 refine Ae ?_
 iterate 2 refine DH ?_
 refine B8 ?_
 refine Ae ?_
 refine A8 ?_
 refine Ab ?_
 refine h4 _ ?_; clear h4
 refine Aa fun N5 h5 => ?_
 refine Ad ?_
 try refine Ac ?_
 refine Au ?_
 refine Ar ?_
 refine Am ?_
 refine Ae ?_
 refine Cn ?_
 refine Cm ?_
 refine CU ?_
 refine AQ ?_
 refine Ae ?_
 refine Cn ?_
 refine Cm ?_
 refine CU ?_
 refine AQ ?_
 refine Ae ?_
 refine Cn ?_
 refine Cm ?_
 refine NG ?_
 refine CU ?_
 refine AQ ?_
 refine Ae ?_
 refine Dp ?_
 refine Yh ?_
 have hc := Ah (E := (G1.at_ 50)) (f := 14) (sp := Spec.pure Mq) rfl
 have hs := @Mq.eq_1
 refine H3 ?_
 refine AQ ?_
 refine Ae ?_
 refine Dp ?_
 refine CU ?_
 refine AQ ?_
 refine Ae ?_
 refine Ab ?_
 refine h5 _ ?_; clear h5
 refine Ao ?_
 try simp only [Af]
 refine A3 ?_
 exact At
 cases hg

def O4 : Bo Tryz.prog := G1.add 9 (Spec.pure WX) PO (by kernel_rfl)
end Go.Proofs.YtmbjnkgpcbpclaaGreat
