/- Walks, printed by wip/gen/walk.py. -/
import Derived.Test.YtcjipciiljjfhaaDoorT32
import Derived.Test.YtcjipciiljjfhaaDoorV5
set_option linter.all false
set_option maxRecDepth 100000
set_option maxHeartbeats 4000000
namespace Go.Proofs.YtcjipciiljjfhaaDoor
open Go Go.Vc Go.RowKit
def splitG : GFun
  | [.d (.str s), .d (.str p), .d (.int .i64 n)], [] => some (True, .clo (.func 57) [.ptr 1 0 0, .ptr 0 0 0, .ptr 2 0 0], [some (.one 9 [.d (.str s)]), some (.one 9 [.d (.str p)]), some (.one 3 [.d (.int .i64 n)])])
  | _, _ => none
def splitSG : GFun
  | [.d (.str s), .d (.str p)], [] => some (True, .clo (.func 57) [.ptr 1 0 0, .ptr 0 0 0, .ptr 2 0 0], [some (.one 9 [.d (.str s)]), some (.one 9 [.d (.str p)]), some (.one 3 [.d (.int .i64 0)])])
  | _, _ => none
def nameG : List AV → Option (Prop × AV)
  | [.d (.str s)] => some (s.length ≤ 9223372036854775807, .d (.bool (nameB s)))
  | _ => none
theorem cps_snoc {s : List UInt8} {k : Nat} {x : List UInt8} (h : ((cps s).take k).all cpOk = true) (hx : (cps s)[k]? = some x) (hc : cpOk x = true) : ((cps s).take (k + 1)).all cpOk = true := by
  rw [List.take_add_one, hx, List.all_append, h]; simp [hc]
theorem name_no {s : List UInt8} {k : Nat} {x : List UInt8} (hx : (cps s)[k]? = some x) (hc : cpOk x = false) : nameB s = false := by
  unfold nameB
  have : (cps s).all cpOk = false := by
    rw [List.all_eq_false]; exact ⟨x, List.mem_of_getElem? hx, by simp [hc]⟩
  rw [this]; simp

theorem splitI_meets : Meets Tryd.prog 47 (Spec.fresh splitG) := by
 refine meets_fresh (E_comp.at_ 8) Tryd.func47 rfl rfl rfl ?_
 intro args bl p r bf hg hp
 unfold splitG at hg
 split at hg
 ·rename_i s p n
  simp only [Option.some.injEq, Prod.mk.injEq] at hg
  obtain ⟨rfl, rfl, rfl⟩ := hg
  have hT : (E_comp).X = T := rfl
  have hx0 := @Tryd.results47
  have hx := hx0
  refine ⟨Nat.le_of_ble_eq_true rfl, ?_⟩
  intro F W0 M0 hnp hmk
  have hnp : Far.np = 0 := hnp
  refine vc_seq_k fun N1 h1 => ?_
  refine u_reg ?_
  try refine lg_mk ?_
  refine u_bx ?_
  refine u_bx ?_
  refine u_bx ?_
  refine u_mv ?_
  refine lg_nil ?_
  refine h1 _ ?_; clear h1; try clear N1
  refine vc_seq_k fun N2 h2 => ?_
  refine u_reg ?_
  try refine lg_mk ?_
  refine u_mf ?_
  refine u_mv ?_
  refine lg_nil ?_
  refine h2 _ ?_; clear h2; try clear N2
  refine vc_ret ?_
  try simp only [k_rules]
  refine fin_ ?_
  refine ⟨[some 0, some 1, some 2], by rfl, ?_, ?_⟩
  ·refine fin_ ?_
   exact cl_
  ·refine fin_ ?_
   exact cl_
 ·cases hg

def E_splitI : Env Tryd.prog := E_comp.add 47 (Spec.fresh splitG) splitI_meets (by kernel_rfl)

theorem splitS_meets : Meets Tryd.prog 34 (Spec.fresh splitSG) := by
 refine meets_fresh (E_splitI.at_ 8) Tryd.func34 rfl rfl rfl ?_
 intro args bl p r bf hg hp
 unfold splitSG at hg
 split at hg
 ·rename_i s p
  simp only [Option.some.injEq, Prod.mk.injEq] at hg
  obtain ⟨rfl, rfl, rfl⟩ := hg
  have hT : (E_splitI).X = T := rfl
  have hx0 := @Tryd.results34
  have hx := hx0
  refine ⟨Nat.le_of_ble_eq_true rfl, ?_⟩
  intro F W0 M0 hnp hmk
  have hnp : Far.np = 0 := hnp
  refine vc_seq_k fun N1 h1 => ?_
  refine u_reg ?_
  try refine lg_mk ?_
  refine u_mv ?_
  refine lg_nil ?_
  refine h1 _ ?_; clear h1; try clear N1
  refine vc_seq_k fun N2 h2 => ?_
  refine u_reg ?_
  try refine lg_mk ?_
  refine u_mv ?_
  refine u_mv ?_
  have hc := call_rule (E := (E_splitI.at_ 8)) (f := 47) (sp := Spec.fresh splitG) rfl
  have hs := @splitG.eq_1
  refine u_hg ?_
  refine u_mv ?_
  refine lg_nil ?_
  refine h2 _ ?_; clear h2; try clear N2
  refine vc_ret ?_
  try simp only [k_rules]
  refine fin_ ?_
  refine ⟨[some 0, some 1, some 2], by rfl, ?_, ?_⟩
  ·refine fin_ ?_
   exact cl_
  ·refine fin_ ?_
   exact cl_
 ·cases hg

def E_splitS : Env Tryd.prog := E_splitI.add 34 (Spec.fresh splitSG) splitS_meets (by kernel_rfl)

theorem name_meets : Meets Tryd.prog 20 (Spec.pure nameG) := by
 refine meets_fun (E_splitS.at_ 13) Tryd.func20 rfl rfl rfl ?_
 intro args p r hg hp
 unfold nameG at hg
 split at hg
 ·rename_i s
  simp only [Option.some.injEq, Prod.mk.injEq] at hg
  obtain ⟨rfl, rfl⟩ := hg
  have hl := hp
  have hT : (E_splitS).X = T := rfl
  have hx0 := @Tryd.results20
  have hx := hx0
  refine ⟨by rfl, ?_⟩
  intro F W0 hnp hmk
  refine vc_seq_k fun N1 h1 => ?_
  refine u_reg ?_
  try refine lg_mk ?_
  refine u_al ?_
  refine lg_nil ?_
  refine h1 _ ?_; clear h1; try clear N1
  refine vc_seq_k fun N2 h2 => ?_
  refine vc_seq_k fun N3 h3 => ?_
  refine u_reg ?_
  try refine lg_mk ?_
  refine u_mv ?_
  refine u_ln ?_
  refine u_bn ?_
  refine lg_nil ?_
  refine h3 _ ?_; clear h3; try clear N3
  refine u_cond (fun hb4 => ?_) (fun hb4 => ?_)
  ·have h60 : ¬ s.length ≤ 60 := by have := hb4; omega
   refine vc_seq_k fun N5 h5 => ?_
   refine u_reg ?_
   try refine lg_mk ?_
   refine u_st ?_
   refine lg_nil ?_
   refine h5 _ ?_; clear h5; try clear N5
   refine vc_ret ?_
   try simp only [k_rules]
   have hr : nameB s = false := by unfold nameB; rw [decide_eq_false h60]; rfl
   rw [hr]
   refine fin2_ ?_
   exact cl_
  ·have h60 : s.length ≤ 60 := by have := hb4; omega
   have hz := restS_zero s
   refine vc_skip ?_
   try simp only [k_rules]
   refine h2 _ ?_; clear h2; try clear N2
   refine vc_seq_k fun N6 h6 => ?_
   refine vc_seq_k fun N7 h7 => ?_
   refine u_reg ?_
   try refine lg_mk ?_
   refine u_mv ?_
   have hc := call_rule (E := (E_splitS.at_ 13)) (f := 34) (sp := Spec.fresh splitSG) rfl
   have hs := @splitSG.eq_1
   refine u_hg ?_
   refine lg_nil ?_
   refine h7 _ ?_; clear h7; try clear N7
   refine vc_block ?_
   refine vc_cut hnp [(2, .ptr 0 0 0), (8, .clo (.func 57) [.ptr 2 0 0, .ptr 1 0 0, .ptr 3 0 0])] ((fun k : Nat => [some (.one 4 [.d (.bool false)]), some (.one 9 [.d (.str (restS s k))]), some (.one 9 [.d (.str [47])]), some (.one 3 [.d (.int .i64 0)])]) 0) [some 0, some 1, some 2, some 3] ?_ ?_
   ·dsimp only
    refine ⟨by rfl, ?_, ?_⟩
    ·refine fin_ ?_
     (repeat' apply And.intro) <;> (first | (first | rfl | (rw [hz]; done) | trivial | (left; rw [hz]; done) | (simp [hz]; done)) | exact cl_)
    ·refine fin_ ?_
     (repeat' apply And.intro) <;> (first | (first | rfl | (rw [hz]; done) | trivial | (left; rw [hz]; done) | (simp [hz]; done)) | exact cl_)
   refine vc_rangeW (E := (E_splitS.at_ 13)) (ps := [9]) (f := Operand.tmp 8) rfl (fl := [(2, .ptr 0 0 0), (8, .clo (.func 57) [.ptr 2 0 0, .ptr 1 0 0, .ptr 3 0 0])]) (bl := (fun k : Nat => [some (.one 4 [.d (.bool false)]), some (.one 9 [.d (.str (restS s k))]), some (.one 9 [.d (.str [47])]), some (.one 3 [.d (.int .i64 0)])]) 0) (id0 := 1) (ids := [2, 1, 3]) (q := 1) (xs := ((cps s).map fun x => [.d (.str x)])) (splitP s (by omega)) rfl rfl (by rfl) 4 (by rfl) (by decide) (Nat.le_of_ble_eq_true rfl) (by rw [hnp]; exact (Nat.le_of_ble_eq_true rfl)) hmk (fun k : Nat => [some (.one 4 [.d (.bool false)]), some (.one 9 [.d (.str (restS s k))]), some (.one 9 [.d (.str [47])]), some (.one 3 [.d (.int .i64 0)])]) (fun k : Nat => [some (.one 4 [.d (.bool false)]), some (.one 9 [.d (.str (restS s k))]), some (.one 9 [.d (.str [47])]), some (.one 3 [.d (.int .i64 0)])]) rfl (fun _ => (Nat.le_of_ble_eq_true rfl)) 9 (fun k => .str (restS s k)) (fun k w O u => ⟨fun h => (by cases h; rfl), fun h => (by subst h; first | exact .str _ | exact .int _ _)⟩) (fun k => ⟨rfl, rfl⟩) ((by intro k j id hj hid; match j, hj, hid with | 0, _, h => (cases h; exact ⟨_, _, _, rfl, rfl, rfl, fun w O u h => by cases h; rfl⟩) | 1, h, _ => exact absurd rfl h | 2, _, h => (cases h; exact ⟨_, _, _, rfl, rfl, rfl, fun w O u h => by cases h; rfl⟩) | (n + 3), _, h => simp at h)) rfl (fun k => ⟨(by funext i; match i with | 0 => rfl | 1 => rfl | 2 => rfl | 3 => rfl | n + 4 => rfl), rfl⟩) (fun k x => [(3, (x.getD 0 .any)), (2, .ptr 0 0 0), (8, .clo (.func 57) [.ptr 2 0 0, .ptr 1 0 0, .ptr 3 0 0])]) (fun k => [some (.one 4 [.d (.bool false)]), some (.one 9 [.d (.str (restS s k))]), some (.one 9 [.d (.str [47])]), some (.one 3 [.d (.int .i64 0)])]) ?_ (fun k => ((cps s).take k).all cpOk = true) (rfl) ?_ ?_
   ·intro k x lp hx F W0 M0 hnp
    obtain ⟨c, hce, rfl⟩ : ∃ c, (cps s)[k]? = some c ∧ x = [.d (.str c)] := by
     rw [List.getElem?_map] at hx
     cases h : (cps s)[k]? with
     | none => rw [h] at hx; cases hx
     | some c => rw [h] at hx; cases hx; exact ⟨c, rfl, rfl⟩
    have hxl : c.length ≤ 60 := Nat.le_trans (cps_le (List.mem_of_getElem? hce)) h60
    show VC _ W0 M0 _ (mkSt [(9, .d (.str c)), (2, .ptr 0 0 0), (8, .clo (.func 57) [.ptr 2 0 0, .ptr 1 0 0, .ptr 3 0 0])] [some (.one 4 [.d (.bool false)]), some (.one 9 [.d (.str (restS s k))]), some (.one 9 [.d (.str [47])]), some (.one 3 [.d (.int .i64 0)])]) _
    refine u_reg ?_
    try refine lg_mk ?_
    refine u_mv ?_
    refine lg_nil ?_
    refine ⟨rfl, [some 0, some 1, some 2, some 3], ?_⟩
    refine ⟨by rfl, ?_, ?_⟩
    ·refine fin_ ?_
     exact cl_
    ·refine fin_ ?_
     exact cl_
   ·intro k x lp hx hQ F W0 M0 hnp
    obtain ⟨c, hce, rfl⟩ : ∃ c, (cps s)[k]? = some c ∧ x = [.d (.str c)] := by
     rw [List.getElem?_map] at hx
     cases h : (cps s)[k]? with
     | none => rw [h] at hx; cases hx
     | some c => rw [h] at hx; cases hx; exact ⟨c, rfl, rfl⟩
    have hxl : c.length ≤ 60 := Nat.le_trans (cps_le (List.mem_of_getElem? hce)) h60
    show VC _ W0 M0 _ (mkSt [(3, .d (.str c)), (2, .ptr 0 0 0), (8, .clo (.func 57) [.ptr 2 0 0, .ptr 1 0 0, .ptr 3 0 0])] [some (.one 4 [.d (.bool false)]), some (.one 9 [.d (.str (restS s k))]), some (.one 9 [.d (.str [47])]), some (.one 3 [.d (.int .i64 0)])]) _
    refine vc_block ?_
    refine vc_seq_k fun N8 h8 => ?_
    refine u_reg ?_
    try refine lg_mk ?_
    refine u_mv ?_
    have hc := call_rule (E := (E_splitS.at_ 13).inR lp) (f := 35) (sp := Spec.pure compG) rfl
    have hs := @compG.eq_1
    refine u_cp (hq := by (first | (first | omega | exact hxl) | exact sd_)) ?_
    refine u_un ?_
    refine lg_nil ?_
    refine h8 _ ?_; clear h8; try clear N8
    refine u_cond (fun hb9 => ?_) (fun hb9 => ?_)
    ·have hco : cpOk c = false := by simpa using hb9
     refine vc_seq_k fun N10 h10 => ?_
     refine u_reg ?_
     try refine lg_mk ?_
     refine u_st ?_
     refine lg_nil ?_
     refine h10 _ ?_; clear h10; try clear N10
     refine vc_ret ?_
     try simp only [k_rules]
     have hr : nameB s = false := name_no hce hco
     rw [hr]
     refine And.intro (Exists.intro [some (.one 4 [.d (.bool false)]), some (.one 9 [.d (.str (restS s k))]), some (.one 9 [.d (.str [47])]), some (.one 3 [.d (.int .i64 0)])] (Exists.intro [some 0, some 1, some 2, some 3] (And.intro ?_ (And.intro (Nat.le_of_ble_eq_true rfl) ?_)))) (fun h => by cases h)
     ·skip
      refine ⟨by rfl, ?_, ?_⟩
      ·refine fin_ ?_
       exact cl_
      ·refine fin_ ?_
       exact cl_
     ·(try simp only [k_rules])
      refine fin2_ ?_
      exact cl_
    ·have hco : cpOk c = true := by simpa using hb9
     refine vc_skip ?_
     try simp only [k_rules]
     refine And.intro (Exists.intro [some 0, some 1, some 2, some 3] ?_) (fun _ => ?_)
     ·skip
      refine ⟨by rfl, ?_, ?_⟩
      ·refine fin_ ?_
       exact cl_
      ·refine fin_ ?_
       exact cl_
     ·try dsimp only
      exact cps_snoc hQ hce hco
   intro hQ
   try dsimp only at hQ
   try simp only [k_rules]
   refine h6 _ ?_; clear h6; try clear N6
   refine vc_seq_k fun N11 h11 => ?_
   refine u_reg ?_
   try refine lg_mk ?_
   refine u_st ?_
   refine lg_nil ?_
   refine h11 _ ?_; clear h11; try clear N11
   refine vc_ret ?_
   try simp only [k_rules]
   have hr : nameB s = true := by
    unfold nameB; rw [decide_eq_true h60]
    rw [List.length_map, List.take_length] at hQ
    rw [hQ]; rfl
   rw [hr]
   refine fin2_ ?_
   exact cl_
 ·cases hg

def E_name : Env Tryd.prog := E_splitS.add 20 (Spec.pure nameG) name_meets (by kernel_rfl)
end Go.Proofs.YtcjipciiljjfhaaDoor
