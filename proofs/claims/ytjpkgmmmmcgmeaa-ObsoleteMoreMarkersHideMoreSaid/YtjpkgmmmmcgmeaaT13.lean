/- Walks, printed by wip/gen/walk.py. -/
import Derived.Test.YtjpkgmmmmcgmeaaT12
import Derived.Test.YtjpkgmmmmcgmeaaV6
import Derived.Test.YtjpkgmmmmcgmeaaV5
set_option linter.all false
set_option maxRecDepth 100000
set_option maxHeartbeats 4000000
namespace Go.Proofs.Ytjpkgmmmmcgmeaa
open Go Go.Vc Go.RowKit
theorem fwk_le {F : Nat → Nat → Bool} {i j : Nat} : ∀ {k n : Nat}, k ≤ n → fwk F k i j = true → fwk F n i j = true := fun {k n} h hf => by
  induction n with
  | zero => rw [show k = 0 by omega] at hf; exact hf
  | succ n ih =>
    by_cases e : k = n + 1
    · rw [e] at hf; exact hf
    · show (fwk F n i j || (fwk F n i n && fwk F n n j)) = true
      rw [ih (by omega)]; rfl
theorem fwk_step {F : Nat → Nat → Bool} {i j k n : Nat} (h : k < n) (h1 : F i k = true) (h2 : F k j = true) : fwk F n i j = true := by
  refine fwk_le (k := k + 1) h ?_
  show (fwk F k i j || (fwk F k i k && fwk F k k j)) = true
  rw [fwk_ge k _ _ h1, fwk_ge k _ _ h2]; simp
theorem fwk_sub {F : Nat → Nat → Bool} {T : Nat → Nat → Prop} (h : ∀ i j, F i j = true → T i j) (tr : ∀ i k j, T i k → T k j → T i j) : ∀ n i j, fwk F n i j = true → T i j
  | 0, i, j, hf => h i j hf
  | n + 1, i, j, hf => by
    have hf : (fwk F n i j || (fwk F n i n && fwk F n n j)) = true := hf
    rw [Bool.or_eq_true, Bool.and_eq_true] at hf
    rcases hf with hf | ⟨h1, h2⟩
    · exact fwk_sub h tr n i j hf
    · exact tr i n j (fwk_sub h tr n i n h1) (fwk_sub h tr n n j h2)
def xL : List Mk := [⟨1, [2, 3]⟩, ⟨2, [4]⟩]
def xA : List Mk := [⟨1, [2]⟩]
def xB : List Mk := [⟨2, [1]⟩]
def xT (i j : Nat) : Prop := (i = 1 ∧ (j = 2 ∨ j = 3 ∨ j = 4)) ∨ (i = 2 ∧ j = 4)
theorem xL_sub (i j : Nat) (h : rcK xL i j = true) : xT i j := by
  refine fwk_sub (T := xT) (fun i j h => ?_) (fun i k j h1 h2 => ?_) 60 i j h
  · unfold m0 xL at h
    simp at h
    unfold xT; omega
  · unfold xT at *; omega
theorem xL_m0 : m0 xL 1 2 = true ∧ m0 xL 1 3 = true ∧ m0 xL 2 4 = true := by decide
theorem xL_val : ValM xL where
  len := by decide
  ok := by decide
  srt := by unfold srtK xL; simp [List.pairwise_cons, cmpK, cmpI]
  cyc := by
    unfold cycK
    rw [List.any_eq_false]
    intro i _ h
    have := xL_sub i i h
    unfold xT at this; omega
theorem xA_val : ValM xA where
  len := by decide
  ok := by decide
  srt := by unfold srtK xA; simp
  cyc := by
    unfold cycK
    rw [List.any_eq_false]
    intro i _ h
    have := fwk_sub (T := fun i j => i = 1 ∧ j = 2) (fun i j h => by unfold m0 xA at h; simp at h; omega) (fun i k j h1 h2 => by omega) 60 i i h
    omega
theorem xB_val : ValM xB where
  len := by decide
  ok := by decide
  srt := by unfold srtK xB; simp
  cyc := by
    unfold cycK
    rw [List.any_eq_false]
    intro i _ h
    have := fwk_sub (T := fun i j => i = 2 ∧ j = 1) (fun i j h => by unfold m0 xB at h; simp at h; omega) (fun i k j h1 h2 => by omega) 60 i i h
    omega
theorem x_sucF : sucF xL 1 = (0, 0) := by unfold sucF; rw [xL_val.zero, if_neg (by simp), if_neg (by decide)]
theorem x_suc : sucR xL 1 = [3, 4] := by
  unfold sucR; rw [x_sucF, if_neg (by simp)]
  have : sucK xL 1 = lst 60 fun k => decide (k = 3) || decide (k = 4) := by
    unfold sucK
    refine numK_ext fun k _ => ?_
    show ((decide ((k : Int) = 1) || rcK xL 1 k) && !goneK xL k) = _
    have hg : goneK xL k = (decide (k = 1) || decide (k = 2)) := by
      unfold goneK xL; rw [Bool.eq_iff_iff]; simp; omega
    rw [hg]
    have h3 : rcK xL 1 3 = true := fwk_ge 60 _ _ xL_m0.2.1
    have h4 : rcK xL 1 4 = true := fwk_step (k := 2) (by decide) xL_m0.1 xL_m0.2.2
    by_cases e3 : k = 3
    · subst e3; rw [h3]; rfl
    · by_cases e4 : k = 4
      · subst e4; rw [h4]; rfl
      · have : k ≠ 2 → rcK xL 1 k = false := fun h2 => by
          rw [Bool.eq_false_iff]; intro h; have := xL_sub 1 k h; unfold xT at this; omega
        by_cases e2 : k = 2
        · subst e2; simp
        · rw [this e2]
          by_cases e1 : k = 1
          · subst e1; simp
          · simp [e3, e4]; omega
  rw [this]; decide
theorem x_un : unK xA xB = [⟨1, [2]⟩, ⟨2, [1]⟩] := by
  rw [unK_is xA_val.srt xB_val.srt]
  have h1 := mrgK_lt (a := xA) (b := xB) (i := 0) (k := 0) (x := ⟨1, [2]⟩) (y := ⟨2, [1]⟩) rfl rfl (by decide)
  rw [show xA.drop 0 = xA from rfl, show xB.drop 0 = xB from rfl] at h1
  rw [h1, show xA.drop (0 + 1) = [] from rfl, mrgK_nill]; rfl
theorem x_mg : mgF xA xB = (20, -3) := by
  unfold mgF
  rw [xA_val.zero, xB_val.zero, if_neg (by simp), if_neg (by simp), x_un, if_neg (by decide), if_pos]
  exact cyc_at (i := 1) (by decide) (fwk_step (k := 2) (by decide) (by decide) (by decide))
theorem x_d1 : dM [[.int .i64 1, .sl [[.int .i64 2], [.int .i64 3]]], [.int .i64 2, .sl [[.int .i64 4]]]] = xL := rfl
theorem x_d2 : dM [[.int .i64 1, .sl [[.int .i64 2]]]] = xA := rfl
theorem x_d3 : dM [[.int .i64 2, .sl [[.int .i64 1]]]] = xB := rfl
theorem x_r1 : rows eM xL = [[.int .i64 1, .sl [[.int .i64 2], [.int .i64 3]]], [.int .i64 2, .sl [[.int .i64 4]]]] := rfl
theorem x_r2 : rows eM xA = [[.int .i64 1, .sl [[.int .i64 2]]]] := rfl
theorem x_r3 : rows eM xB = [[.int .i64 2, .sl [[.int .i64 1]]]] := rfl
theorem x_i34 : rows eI [3, 4] = [[.int .i64 3], [.int .i64 4]] := rfl
theorem x_d34 : dI [[.int .i64 3], [.int .i64 4]] = [3, 4] := rfl
theorem x_f1 : (sucF xL 1).1 = 0 := by rw [x_sucF]
theorem x_f2 : (sucF xL 1).2 = 0 := by rw [x_sucF]
theorem x_g1 : (mgF xA xB).1 = 20 := by rw [x_mg]
theorem x_g2 : (mgF xA xB).2 = -3 := by rw [x_mg]
theorem x_gR : mgR xA xB = [] := by unfold mgR; rw [x_mg]; rfl
theorem x_s : smallM xL ∧ smallM xA ∧ smallM xB := by
  refine ⟨fun m hm => ?_, fun m hm => ?_, fun m hm => ?_⟩
  · have : m = ⟨1, [2, 3]⟩ ∨ m = ⟨2, [4]⟩ := by simpa [xL] using hm
    rcases this with rfl | rfl <;> simp
  · obtain rfl : m = ⟨1, [2]⟩ := by simpa [xA] using hm
    simp
  · obtain rfl : m = ⟨2, [1]⟩ := by simpa [xB] using hm
    simp
theorem x_l : xL.length = 2 ∧ xA.length = 1 ∧ xB.length = 1 := ⟨rfl, rfl, rfl⟩
def exG : List AV → Option (Prop × AV)
  | [] => some (True, .d (.bool true))
  | _ => none

theorem exO_meets : Meets Try.prog 9 (Spec.pure exG) := by
 refine meets_fun (E_mg.at_ 39) Try.func9 rfl rfl rfl ?_
 intro args p r hg hp
 unfold exG at hg
 split at hg
 ·skip
  simp only [Option.some.injEq, Prod.mk.injEq] at hg
  obtain ⟨rfl, rfl⟩ := hg
  have hT : (E_mg).X = T := rfl
  have hx0 := And.intro @x_d1 (And.intro @x_d2 (And.intro @x_d3 (And.intro @x_r1 (And.intro @x_r2 (And.intro @x_r3 (And.intro @x_i34 (And.intro @x_d34 (And.intro @x_f1 (And.intro @x_f2 (And.intro @x_g1 (And.intro @x_g2 (And.intro @x_gR (And.intro @x_suc (And.intro @dI_rows (And.intro @dec_t (And.intro @dec_f @Try.results9))))))))))))))))
  have hx := hx0
  refine ⟨by rfl, ?_⟩
  intro F W0 hnp hmk
  refine vc_seq_k fun N1 h1 => ?_
  refine u_reg ?_
  try refine lg_mk ?_
  refine u_mv ?_
  refine lg_nil ?_
  refine h1 _ ?_; clear h1; try clear N1
  refine vc_seq_k fun N2 h2 => ?_
  refine u_reg ?_
  try refine lg_mk ?_
  refine u_bs ?_
  refine u_bd ?_
  refine u_bs ?_
  refine u_bd ?_
  refine u_bs ?_
  refine u_mv ?_
  refine lg_nil ?_
  refine h2 _ ?_; clear h2; try clear N2
  refine vc_seq_k fun N3 h3 => ?_
  refine u_reg ?_
  try refine lg_mk ?_
  refine u_mv ?_
  have hc := call_rule (E := (E_mg.at_ 39)) (f := 16) (sp := Spec.pure sucG) rfl
  have hs := @sucG.eq_1
  refine u_hp (hq := by (first | ((repeat' apply And.intro) <;> first | rfl | exact x_s.1 | exact x_s.2.1 | exact x_s.2.2 | (rw [x_l.1]; decide) | (rw [x_l.2.1]; decide) | (rw [x_l.2.2]; decide) | decide | omega | (simp; done)) | exact sd_)) ?_
  refine u_mv ?_
  refine u_ex ?_
  refine u_ex ?_
  refine u_al ?_
  refine u_mv ?_
  refine u_st ?_
  refine lg_nil ?_
  refine h3 _ ?_; clear h3; try clear N3
  refine vc_seq_k fun N4 h4 => ?_
  refine u_reg ?_
  try refine lg_mk ?_
  refine u_bs ?_
  refine u_bd ?_
  refine u_bs ?_
  refine u_bs ?_
  refine u_bd ?_
  refine u_bs ?_
  have hc := call_rule (E := (E_mg.at_ 39)) (f := 10) (sp := Spec.pure mgG) rfl
  have hs := @mgG.eq_1
  refine u_hp (hq := by (first | ((repeat' apply And.intro) <;> first | rfl | exact x_s.1 | exact x_s.2.1 | exact x_s.2.2 | (rw [x_l.1]; decide) | (rw [x_l.2.1]; decide) | (rw [x_l.2.2]; decide) | decide | omega | (simp; done)) | exact sd_)) ?_
  refine u_mv ?_
  refine u_ex ?_
  refine u_ex ?_
  refine u_al ?_
  refine u_mv ?_
  refine u_st ?_
  refine lg_nil ?_
  refine h4 _ ?_; clear h4; try clear N4
  refine vc_seq_k fun N5 h5 => ?_
  refine vc_regT [] (.seq [0, 1, 2, 3, 4, 5, 6, 7, 8] (.alt 9 (.seq [10, 11, 12, 13] .nil) (.alt 10 (.seq [9, 11, 12, 13] .nil) .nil))) hmix (by kernel_rfl) ?_
  refine at_seq ?_
  simp only [pick_rules, list_rules]
  try refine lg_mk ?_
  refine u_pt (hq := by (first | ((repeat' apply And.intro) <;> first | rfl | exact x_s.1 | exact x_s.2.1 | exact x_s.2.2 | (rw [x_l.1]; decide) | (rw [x_l.2.1]; decide) | (rw [x_l.2.2]; decide) | decide | omega | (simp; done)) | exact sd_)) ?_
  refine u_ld (hq := by (first | ((repeat' apply And.intro) <;> first | rfl | exact x_s.1 | exact x_s.2.1 | exact x_s.2.2 | (rw [x_l.1]; decide) | (rw [x_l.2.1]; decide) | (rw [x_l.2.2]; decide) | decide | omega | (simp; done)) | exact sd_)) ?_
  refine u_bn (hq := by (first | ((repeat' apply And.intro) <;> first | rfl | exact x_s.1 | exact x_s.2.1 | exact x_s.2.2 | (rw [x_l.1]; decide) | (rw [x_l.2.1]; decide) | (rw [x_l.2.2]; decide) | decide | omega | (simp; done)) | exact sd_)) ?_
  refine u_mv (hq := by (first | ((repeat' apply And.intro) <;> first | rfl | exact x_s.1 | exact x_s.2.1 | exact x_s.2.2 | (rw [x_l.1]; decide) | (rw [x_l.2.1]; decide) | (rw [x_l.2.2]; decide) | decide | omega | (simp; done)) | exact sd_)) ?_
  refine s_mv (hq := by (intro hg; (try simp only [b_rules, bif_and, bif_or] at hg); (first | ((repeat' apply And.intro) <;> first | rfl | exact x_s.1 | exact x_s.2.1 | exact x_s.2.2 | (rw [x_l.1]; decide) | (rw [x_l.2.1]; decide) | (rw [x_l.2.2]; decide) | decide | omega | (simp; done)) | exact sd_))) ?_
  refine t_bs (hq := by (first | ((repeat' apply And.intro) <;> first | rfl | exact x_s.1 | exact x_s.2.1 | exact x_s.2.2 | (rw [x_l.1]; decide) | (rw [x_l.2.1]; decide) | (rw [x_l.2.2]; decide) | decide | omega | (simp; done)) | exact sd_)) ?_
  have hc := call_rule (E := (E_mg.at_ 39)) (f := 19) (sp := Spec.pure intsG) rfl
  have hs := @intsG.eq_1
  refine s_cp (hq := by (intro hg; (try simp only [b_rules, bif_and, bif_or] at hg); (first | ((repeat' apply And.intro) <;> first | rfl | exact x_s.1 | exact x_s.2.1 | exact x_s.2.2 | (rw [x_l.1]; decide) | (rw [x_l.2.1]; decide) | (rw [x_l.2.2]; decide) | decide | omega | (simp; done)) | exact sd_))) ?_
  refine u_pk (hq := by (first | ((repeat' apply And.intro) <;> first | rfl | exact x_s.1 | exact x_s.2.1 | exact x_s.2.2 | (rw [x_l.1]; decide) | (rw [x_l.2.1]; decide) | (rw [x_l.2.2]; decide) | decide | omega | (simp; done)) | exact sd_)) ?_
  refine u_mv (hq := by (first | ((repeat' apply And.intro) <;> first | rfl | exact x_s.1 | exact x_s.2.1 | exact x_s.2.2 | (rw [x_l.1]; decide) | (rw [x_l.2.1]; decide) | (rw [x_l.2.2]; decide) | decide | omega | (simp; done)) | exact sd_)) ?_
  refine lg_nil ?_
  refine at_alt ?_ ?_
  ·simp only [pick_rules, list_rules]
   try refine lg_mk ?_
   refine s_ld (hq := by (intro hg; (try simp only [b_rules, bif_and, bif_or] at hg); (first | ((repeat' apply And.intro) <;> first | rfl | exact x_s.1 | exact x_s.2.1 | exact x_s.2.2 | (rw [x_l.1]; decide) | (rw [x_l.2.1]; decide) | (rw [x_l.2.2]; decide) | decide | omega | (simp; done)) | exact sd_))) ?_
   refine lg_nil ?_
   refine at_seq ?_
   simp only [pick_rules, list_rules]
   try refine lg_mk ?_
   have hc := call_rule (E := (E_mg.at_ 39)) (f := 12) (sp := Spec.pure faultG) rfl
   have hs := @faultG.eq_1
   refine s_cp (hq := by (intro hg; (try simp only [b_rules, bif_and, bif_or] at hg); (first | ((repeat' apply And.intro) <;> first | rfl | exact x_s.1 | exact x_s.2.1 | exact x_s.2.2 | (rw [x_l.1]; decide) | (rw [x_l.2.1]; decide) | (rw [x_l.2.2]; decide) | decide | omega | (simp; done)) | exact sd_))) ?_
   refine s_bn (hq := by (intro hg; (try simp only [b_rules, bif_and, bif_or] at hg); (first | ((repeat' apply And.intro) <;> first | rfl | exact x_s.1 | exact x_s.2.1 | exact x_s.2.2 | (rw [x_l.1]; decide) | (rw [x_l.2.1]; decide) | (rw [x_l.2.2]; decide) | decide | omega | (simp; done)) | exact sd_))) ?_
   refine u_pk (hq := by (first | ((repeat' apply And.intro) <;> first | rfl | exact x_s.1 | exact x_s.2.1 | exact x_s.2.2 | (rw [x_l.1]; decide) | (rw [x_l.2.1]; decide) | (rw [x_l.2.2]; decide) | decide | omega | (simp; done)) | exact sd_)) ?_
   refine u_mv (hq := by (first | ((repeat' apply And.intro) <;> first | rfl | exact x_s.1 | exact x_s.2.1 | exact x_s.2.2 | (rw [x_l.1]; decide) | (rw [x_l.2.1]; decide) | (rw [x_l.2.2]; decide) | decide | omega | (simp; done)) | exact sd_)) ?_
   refine lg_nil ?_
   refine at_nil ?_
   refine h5 _ ?_; clear h5; try clear N5
   refine vc_ret ?_
   try simp only [k_rules]
   refine fin2_ ?_
   (repeat' apply And.intro) <;> (first | (first | rfl | trivial | (simp; done) | (left; rfl)) | exact cl_)
  refine at_alt ?_ ?_
  ·simp only [pick_rules, list_rules]
   try refine lg_mk ?_
   have hc := call_rule (E := (E_mg.at_ 39)) (f := 12) (sp := Spec.pure faultG) rfl
   have hs := @faultG.eq_1
   refine s_cp (hq := by (intro hg; (try simp only [b_rules, bif_and, bif_or] at hg); (first | ((repeat' apply And.intro) <;> first | rfl | exact x_s.1 | exact x_s.2.1 | exact x_s.2.2 | (rw [x_l.1]; decide) | (rw [x_l.2.1]; decide) | (rw [x_l.2.2]; decide) | decide | omega | (simp; done)) | exact sd_))) ?_
   refine lg_nil ?_
   refine at_seq ?_
   simp only [pick_rules, list_rules]
   try refine lg_mk ?_
   refine s_ld (hq := by (intro hg; (try simp only [b_rules, bif_and, bif_or] at hg); (first | ((repeat' apply And.intro) <;> first | rfl | exact x_s.1 | exact x_s.2.1 | exact x_s.2.2 | (rw [x_l.1]; decide) | (rw [x_l.2.1]; decide) | (rw [x_l.2.2]; decide) | decide | omega | (simp; done)) | exact sd_))) ?_
   refine s_bn (hq := by (intro hg; (try simp only [b_rules, bif_and, bif_or] at hg); (first | ((repeat' apply And.intro) <;> first | rfl | exact x_s.1 | exact x_s.2.1 | exact x_s.2.2 | (rw [x_l.1]; decide) | (rw [x_l.2.1]; decide) | (rw [x_l.2.2]; decide) | decide | omega | (simp; done)) | exact sd_))) ?_
   refine u_pk (hq := by (first | ((repeat' apply And.intro) <;> first | rfl | exact x_s.1 | exact x_s.2.1 | exact x_s.2.2 | (rw [x_l.1]; decide) | (rw [x_l.2.1]; decide) | (rw [x_l.2.2]; decide) | decide | omega | (simp; done)) | exact sd_)) ?_
   refine u_mv (hq := by (first | ((repeat' apply And.intro) <;> first | rfl | exact x_s.1 | exact x_s.2.1 | exact x_s.2.2 | (rw [x_l.1]; decide) | (rw [x_l.2.1]; decide) | (rw [x_l.2.2]; decide) | decide | omega | (simp; done)) | exact sd_)) ?_
   refine lg_nil ?_
   refine at_nil ?_
   refine h5 _ ?_; clear h5; try clear N5
   refine vc_ret ?_
   try simp only [k_rules]
   refine fin2_ ?_
   (repeat' apply And.intro) <;> (first | (first | rfl | trivial | (simp; done) | (left; rfl)) | exact cl_)
  exact at_end
 ·cases hg

def E_exO : Env Try.prog := E_mg.add 9 (Spec.pure exG) exO_meets (by kernel_rfl)
end Go.Proofs.Ytjpkgmmmmcgmeaa
