/- Walks, printed by wip/gen/walk.py. -/
import Derived.Test.YtlbjffdaooadoaaDoorT31
import Derived.Test.YtlbjffdaooadoaaDoorV5
set_option linter.all false
set_option maxRecDepth 100000
set_option maxHeartbeats 4000000
namespace Go.Proofs.YtlbjffdaooadoaaDoor
open Go Go.Vc Go.RowKit
def decG (fu : Nat) : List AV → Option (Prop × AV)
  | [.d (.int .i64 n)] => some (1 ≤ fu ∧ 0 ≤ n ∧ n ≤ 1000000 ∧ n.toNat < 10 ^ fu, .d (.str (Lib.decDigits n.toNat)))
  | _ => none
theorem dig_one {m : Nat} (h : m < 10) : List.take (m + 1 - m) (List.drop m [48, 49, 50, 51, 52, 53, 54, 55, 56, 57]) = Lib.decDigits m := by
  rw [Lib.decDigits, dif_pos h]
  have : ∀ m, m < 10 → List.take (m + 1 - m) (List.drop m [48, 49, 50, 51, 52, 53, 54, 55, 56, 57]) = [UInt8.ofNat (48 + m)] := by decide
  exact this m h
theorem dig_more {m : Nat} (h : ¬m < 10) : Lib.decDigits (m / 10) ++ Lib.decDigits (m % 10) = Lib.decDigits m := by
  conv => rhs; rw [Lib.decDigits, dif_neg h]
  congr 1
  rw [Lib.decDigits, dif_pos (by omega)]
theorem tdiv_n (m : Nat) : Int.tdiv (m : Int) 10 = ((m / 10 : Nat) : Int) := rfl
theorem tmod_n (m : Nat) : Int.tmod (m : Int) 10 = ((m % 10 : Nat) : Int) := rfl
def E_dc (n : Nat) (kd : Meets Tryd.prog 65 (Spec.pure (decG n))) : Env Tryd.prog := E_exq.add 65 (Spec.pure (decG n)) kd (by kernel_rfl)

theorem dcm_step (fu : Nat) (kd : Meets Tryd.prog 65 (Spec.pure (decG fu))) : Meets Tryd.prog 65 (Spec.pure (decG (fu + 1))) := by
 refine meets_fun ((E_dc fu kd).at_ 16) Tryd.func65 rfl rfl rfl ?_
 intro args p r hg hp
 unfold decG at hg
 split at hg
 ·rename_i n
  simp only [Option.some.injEq, Prod.mk.injEq] at hg
  obtain ⟨rfl, rfl⟩ := hg
  obtain ⟨hf1, h0, hbg, hn⟩ := hp
  obtain ⟨m, rfl⟩ := Int.eq_ofNat_of_zero_le h0
  simp only [Int.toNat_natCast] at hn ⊢
  rw [Nat.pow_succ] at hn
  have hT : ((E_dc fu kd)).X = T := rfl
  have hx0 := And.intro @dec_t (And.intro @dec_f (And.intro @Int.toNat_natCast (And.intro @tdiv_n (And.intro @tmod_n @Tryd.results65))))
  have hx := hx0
  refine ⟨by rfl, ?_⟩
  intro F W0 hnp hmk
  refine vc_seq_k fun N1 h1 => ?_
  refine u_reg ?_
  try refine lg_mk ?_
  refine u_mv ?_
  refine lg_nil ?_
  refine h1 _ ?_; clear h1; try clear N1
  refine vc_seq_k fun N2 h2 => ?_
  refine vc_seq_k fun N3 h3 => ?_
  refine u_reg ?_
  try refine lg_mk ?_
  refine u_mv ?_
  refine u_bn ?_
  refine lg_nil ?_
  refine h3 _ ?_; clear h3; try clear N3
  refine u_cond (fun hb4 => ?_) (fun hb4 => ?_)
  ·have hm10 : m < 10 := by have := hb4; (try simp at this); omega
   have hd := dig_one hm10
   have hm1 : ((m : Int) + 1).toNat = m + 1 := by omega
   refine vc_seq_k fun N5 h5 => ?_
   have hx := And.intro @hm1 (And.intro @hd hx0)
   refine u_reg ?_
   try refine lg_mk ?_
   refine u_mv ?_
   refine u_mv ?_
   refine u_bn ?_
   refine u_sl ?_
   refine u_mv ?_
   refine lg_nil ?_
   have hx := hx0
   refine h5 _ ?_; clear h5; try clear N5
   refine vc_ret ?_
   try simp only [k_rules]
   refine fin2_ ?_
   (repeat' apply And.intro) <;> (first | (first | rfl | trivial | (rw [← hd]; done) | (rw [← hd]; rfl)) | exact cl_)
  ·have hm10 : ¬m < 10 := by have := hb4; (try simp at this); omega
   have hd := dig_more hm10
   have hfu : 1 ≤ fu := by
    cases fu with
    | zero => simp at hn; omega
    | succ k => omega
   have hf10 : 10 ≤ 10 ^ fu := by
    cases fu with
    | zero => omega
    | succ k => rw [Nat.pow_succ]; have := Nat.one_le_pow k 10 (by decide); omega
   have hl1 := dec_len 6 (m / 10) (by omega)
   have hl2 := dec_len 6 (m % 10) (by omega)
   refine vc_skip ?_
   try simp only [k_rules]
   refine h2 _ ?_; clear h2; try clear N2
   refine vc_seq_k fun N6 h6 => ?_
   have hx := And.intro @hd hx0
   refine u_reg ?_
   try refine lg_mk ?_
   refine u_mv ?_
   refine u_bn ?_
   have hc := call_rule (E := ((E_dc fu kd).at_ 16)) (f := 65) (sp := Spec.pure (decG fu)) rfl
   have hs := @decG.eq_1
   refine u_cp ?_
   refine u_mv ?_
   refine u_bn ?_
   have hc := call_rule (E := ((E_dc fu kd).at_ 16)) (f := 65) (sp := Spec.pure (decG fu)) rfl
   have hs := @decG.eq_1
   refine u_cp ?_
   refine u_bn ?_
   refine u_mv ?_
   refine lg_nil ?_
   have hx := hx0
   refine h6 _ ?_; clear h6; try clear N6
   refine vc_ret ?_
   try simp only [k_rules]
   refine fin2_ ?_
   exact cl_
 ·cases hg

theorem dec_all : ∀ n, Meets Tryd.prog 65 (Spec.pure (decG n))
  | 0 => meets_voidP fun a p r h hp => by
    unfold decG at h
    split at h
    · simp only [Option.some.injEq, Prod.mk.injEq] at h
      obtain ⟨rfl, _⟩ := h
      exact absurd hp.1 (by decide)
    · cases h
  | n + 1 => dcm_step n (dec_all n)
def rwG : List AV → Option (Prop × AV)
  | [.d (.int .i64 k)] => some (0 ≤ k ∧ k ≤ 16, .d (.str (wordN k)))
  | _ => none
theorem wr_at {k : Int} (h0 : 0 ≤ k) (h : k < 17) : ([[.str []], [.str [97, 108, 108]], [.str [110, 111, 110, 101]], [.str []], [.str [97, 117, 116, 104, 111, 114]], [.str [98, 101, 102, 111, 114, 101]], [.str [109, 101, 114, 103, 101, 115]], [.str []], [.str [97, 110, 99]], [.str [100, 101, 115, 99]], [.str [112, 97, 114, 101, 110, 116, 115]], [.str [99, 104, 105, 108, 100, 114, 101, 110]], [.str [104, 101, 97, 100, 115]], [.str [114, 111, 111, 116, 115]], [.str []], [.str []], [.str []]] : List (List D))[k.toNat]? = some [.str (wordN k)] := by
  have : ∀ i, i < 17 → (wordsD.map fun d => [d])[i]? = some [.str (wordsL.getD i [])] := by
    intro i h
    iterate 17 (cases i with | zero => rfl | succ i => ?_)
    omega
  exact this _ (by omega)

def E_dcA : Env Tryd.prog := E_exq.add 65 (Spec.pure (decG 7)) (dec_all 7) (by kernel_rfl)

theorem rvw_meets : Meets Tryd.prog 60 (Spec.pure rwG) := by
 refine meets_fun (E_dcA.at_ 7) Tryd.func60 rfl rfl rfl ?_
 intro args p r hg hp
 unfold rwG at hg
 split at hg
 ·rename_i k
  simp only [Option.some.injEq, Prod.mk.injEq] at hg
  obtain ⟨rfl, rfl⟩ := hg
  obtain ⟨h0, h16⟩ := hp
  have hwr := wr_at h0 (by omega)
  have hT : (E_dcA).X = T := rfl
  have hx0 := And.intro @dec_t (And.intro @dec_f @Tryd.results60)
  have hx := hx0
  refine ⟨by rfl, ?_⟩
  intro F W0 hnp hmk
  refine vc_seq_k fun N1 h1 => ?_
  refine u_reg ?_
  try refine lg_mk ?_
  refine u_mv ?_
  refine lg_nil ?_
  refine h1 _ ?_; clear h1; try clear N1
  refine vc_seq_k fun N2 h2 => ?_
  have hx := And.intro @hwr hx0
  refine u_reg ?_
  try refine lg_mk ?_
  refine u_bs ?_
  refine u_mv ?_
  refine u_pt ?_
  refine u_ld ?_
  refine u_mv ?_
  refine lg_nil ?_
  have hx := hx0
  refine h2 _ ?_; clear h2; try clear N2
  refine vc_ret ?_
  try simp only [k_rules]
  refine fin2_ ?_
  exact cl_
 ·cases hg

def E_rvw : Env Tryd.prog := E_dcA.add 60 (Spec.pure rwG) rvw_meets (by kernel_rfl)
end Go.Proofs.YtlbjffdaooadoaaDoor
