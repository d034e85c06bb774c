/- Walks, printed by wip/gen/walk.py. -/
import Derived.Test.YtlbjffdaooadoaaDoorT58
import Derived.Test.YtlbjffdaooadoaaDoorV5
set_option linter.all false
set_option maxRecDepth 100000
set_option maxHeartbeats 4000000
namespace Go.Proofs.YtlbjffdaooadoaaDoor
open Go Go.Vc Go.RowKit
def lfQ (l : List Nd) (k : Int) : Bool := match l with | [n] => decide (n.kd = k) | _ => false
def lfG : List AV → Option (Prop × AV)
  | [.d (.sl xs), .d (.int .i64 k)] => some (xs = rows eN (dN xs) ∧ (dN xs).length ≤ 9223372036854775807, .d (.bool (lfQ (dN xs) k)))
  | _ => none
def sameG : List AV → Option (Prop × AV)
  | [.d (.sl xs), .d (.sl ys)] => some (xs = rows eN (dN xs) ∧ (dN xs).length ≤ 9223372036854775807 ∧ ys = rows eN (dN ys) ∧ (dN ys).length ≤ 9223372036854775807, .d (.bool (decide (dN xs = dN ys))))
  | _ => none
theorem lf_cases (l : List Nd) (k : Int) : (l.length ≠ 1 ∧ lfQ l k = false) ∨ ∃ n, l = [n] ∧ lfQ l k = decide (n.kd = k) := by
  match l with
  | [] => exact .inl ⟨by simp, rfl⟩
  | [n] => exact .inr ⟨n, rfl, rfl⟩
  | _ :: _ :: _ => exact .inl ⟨by simp, rfl⟩

theorem same4_meets : Meets Tryd.prog 69 (Spec.pure sameG) := by
 refine meets_fun (E_oex.at_ 10) Tryd.func69 rfl rfl rfl ?_
 intro args p r hg hp
 unfold sameG at hg
 split at hg
 ·rename_i xs ys
  simp only [Option.some.injEq, Prod.mk.injEq] at hg
  obtain ⟨rfl, rfl⟩ := hg
  obtain ⟨he, hl, he2, hl2⟩ := hp
  generalize dN xs = q at *
  generalize dN ys = p at *
  subst he he2
  have hT : (E_oex).X = T := rfl
  have hx0 := And.intro @rect_eN (And.intro @dN_rows (And.intro @dec_t (And.intro @dec_f @Tryd.results69)))
  have hx := hx0
  refine ⟨by rfl, ?_⟩
  intro F W0 hnp hmk
  refine vc_seq_k fun N1 h1 => ?_
  refine u_reg ?_
  try refine lg_mk ?_
  refine u_mv ?_
  refine lg_nil ?_
  refine h1 _ ?_; clear h1; try clear N1
  refine vc_seq_k fun N2 h2 => ?_
  refine u_reg ?_
  try refine lg_mk ?_
  refine u_mv ?_
  refine u_bd ?_
  refine u_mv ?_
  refine u_bd ?_
  have hc := call_rule (E := (E_oex.at_ 10)) (f := 19) (sp := Spec.pure qeqG) rfl
  have hs := @qeqG.eq_1
  refine u_cp (hq := by (first | ((repeat' apply And.intro) <;> first | rfl | omega) | exact sd_)) ?_
  refine u_mv ?_
  refine lg_nil ?_
  refine h2 _ ?_; clear h2; try clear N2
  refine vc_ret ?_
  try simp only [k_rules]
  refine fin2_ ?_
  exact cl_
 ·cases hg

def E_same4 : Env Tryd.prog := E_oex.add 69 (Spec.pure sameG) same4_meets (by kernel_rfl)

theorem isleaf_meets : Meets Tryd.prog 68 (Spec.pure lfG) := by
 refine meets_fun (E_same4.at_ 16) Tryd.func68 rfl rfl rfl ?_
 intro args p r hg hp
 unfold lfG at hg
 split at hg
 ·rename_i xs k
  simp only [Option.some.injEq, Prod.mk.injEq] at hg
  obtain ⟨rfl, rfl⟩ := hg
  obtain ⟨he, hl⟩ := hp
  generalize dN xs = q at *
  subst he
  have hT : (E_same4).X = T := rfl
  have hx0 := And.intro @rect_eN (And.intro @dN_rows (And.intro @dec_t (And.intro @dec_f @Tryd.results68)))
  have hx := hx0
  refine ⟨by rfl, ?_⟩
  intro F W0 hnp hmk
  refine vc_seq_k fun N1 h1 => ?_
  refine u_reg ?_
  try refine lg_mk ?_
  refine u_mv ?_
  refine lg_nil ?_
  refine h1 _ ?_; clear h1; try clear N1
  refine vc_seq_k fun N2 h2 => ?_
  rcases lf_cases q k with ⟨hq1, hq2⟩ | ⟨n, rfl, hq2⟩
  ·have hq3 : ((q.length : Int) = 1) = False := eq_false (by omega)
   have hqn : True := trivial
   have hx := And.intro @hq3 (And.intro @hqn (And.intro @eN.eq_1 hx0))
   refine u_reg ?_
   try refine lg_mk ?_
   refine u_mv ?_
   refine u_ln ?_
   refine u_bn ?_
   refine u_mv ?_
   refine g_mv ?_
   refine g_pt ?_
   refine g_pt ?_
   refine g_ld ?_
   refine g_mv ?_
   refine g_bn ?_
   refine u_pk ?_
   refine u_mv ?_
   refine lg_nil ?_
   have hx := hx0
   refine h2 _ ?_; clear h2; try clear N2
   refine vc_ret ?_
   try simp only [k_rules]
   rw [hq2]
   refine fin2_ ?_
   (repeat' apply And.intro) <;> (first | (first | rfl | trivial | (simp; done) | (simp [*]; done)) | exact cl_)
  ·have hq3 : True := trivial
   have hqn : ([n] : List Nd)[0]? = some n := rfl
   obtain ⟨a, b, c, d⟩ := n
   have hx := And.intro @hq3 (And.intro @hqn (And.intro @eN.eq_1 hx0))
   refine u_reg ?_
   try refine lg_mk ?_
   refine u_mv ?_
   refine u_ln ?_
   refine u_bn ?_
   refine u_mv ?_
   refine g_mv ?_
   refine g_pt ?_
   refine g_pt ?_
   refine g_ld ?_
   refine g_mv ?_
   refine g_bn ?_
   refine u_pk ?_
   refine u_mv ?_
   refine lg_nil ?_
   have hx := hx0
   refine h2 _ ?_; clear h2; try clear N2
   refine vc_ret ?_
   try simp only [k_rules]
   rw [hq2]
   refine fin2_ ?_
   (repeat' apply And.intro) <;> (first | (first | rfl | trivial | (simp; done) | (simp [*]; done)) | exact cl_)
 ·cases hg

def E_isleaf : Env Tryd.prog := E_same4.add 68 (Spec.pure lfG) isleaf_meets (by kernel_rfl)

section
variable [Far] {P : Program} {E : Env P} {W0 : World} {M0 : Nat → Prop} {dr : Bool} {calm : List FuncId} {ops : Array Oper} {K : St → Prop} {o : Op} {d : Option Tmp} {t : TypeId} {p : String} {af : Array Edge} {r : List Oper} {fr : Nat → AV} {H H' : Heap} {n n' : Nat} {q : Prop} {c : AV} {b : Bool} {gd : Nat × Bool}
theorem g_pk (hk : AG W0 M0 dr calm E ops K r ⟨putD d (.cond b c) fr, H, n⟩) (hg : guardA ops fr (some gd) = some (some b) := by exact gd_) (h : (b = false ∧ c = .any ∧ q = True) ∨ (aOp E fr H n o = .v q c ∧ (b = true → ndO fr o ∧ q)) := by first | (with_reducible exact Or.inl ⟨rfl, rfl, rfl⟩) | (refine Or.inr ⟨?_, ?_⟩; (focus exact e_pk); exact gq_)) : AG W0 M0 dr calm E ops K (⟨d, o, t, p, af, some gd⟩ :: r) ⟨fr, H, n⟩ := lg_gx hg h hk
theorem t_hp (hk : AG W0 M0 dr calm E ops K r ⟨putD d c fr, H', n'⟩) (h : aOp E fr H n o = .h q c H' n' := by exact e_hp) (hg : guardA ops fr (some gd) = some (some true) := by exact gt_) (hq : q := by exact sd_) (hn : ndO fr o := by exact nd_) (hl : (dr && growB calm d o) = true → HLe H H' := by exact hl_) : AG W0 M0 dr calm E ops K (⟨d, o, t, p, af, some gd⟩ :: r) ⟨fr, H, n⟩ := lg_gh hg h (fun _ => ⟨hn, hq⟩) hl (fun _ => hk) (fun h => Bool.noConfusion h)
end
end Go.Proofs.YtlbjffdaooadoaaDoor
