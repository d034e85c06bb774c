/- Walks, printed by wip/gen/walk.py. -/
import Derived.Test.YtlbjffdaooadoaaDoorT14
import Derived.Test.YtlbjffdaooadoaaDoorV5
set_option linter.all false
set_option maxRecDepth 100000
set_option maxHeartbeats 4000000
namespace Go.Proofs.YtlbjffdaooadoaaDoor
open Go Go.Vc Go.RowKit
def backG (f : Nat) : List AV → Option (Prop × AV)
  | [.d (.sl xs)] => some (True, .clo (.func f) [.d (.ptr [.sl xs])])
  | _ => none
theorem backU_meets : Meets Tryd.prog 84 (Spec.pure (backG 87)) := by
 refine meets_fun (E_histFault.at_ 4) Tryd.func84 rfl rfl rfl ?_
 intro args p r hg hp
 unfold backG at hg
 split at hg
 rename_i xs
 simp only [Option.some.injEq, Prod.mk.injEq] at hg
 obtain ⟨rfl, rfl⟩ := hg
 have hT : (E_histFault).X = T := rfl
 have hx0 := @Tryd.results84
 have hx := hx0
 refine ⟨by rfl, ?_⟩
 intro F W0 hnp hmk
 refine vc_seq_k fun N1 h1 => ?_
 refine u_reg ?_
 try refine lg_mk ?_
 refine u_bx ?_
 refine u_mv ?_
 refine lg_nil ?_
 refine h1 _ ?_; clear h1; try clear N1
 refine vc_seq_k fun N2 h2 => ?_
 refine u_reg ?_
 try refine lg_mk ?_
 refine u_mf ?_
 refine u_mv ?_
 refine lg_nil ?_
 refine h2 _ ?_; clear h2; try clear N2
 refine vc_ret ?_
 try simp only [k_rules]
 refine fin2_ ?_
 exact cl_
 cases hg

def E_backU : Env Tryd.prog := E_histFault.add 84 (Spec.pure (backG 87)) backU_meets (by kernel_rfl)

theorem of_meets : Meets Tryd.prog 71 (Spec.pure ofG) := by
 refine meets_fun (E_backU.at_ 51) Tryd.func71 rfl rfl rfl ?_
 intro args p r hg hp
 unfold ofG at hg
 split at hg
 rename_i xs ys
 simp only [Option.some.injEq, Prod.mk.injEq] at hg
 obtain ⟨rfl, rfl⟩ := hg
 obtain ⟨he, hf, hv, hin, hn⟩ := hp
 generalize dC xs = l at *
 generalize dI ys = ns at *
 subst he hf
 have hl60 := hv.len
 have hT : (E_backU).X = T := rfl
 have hx0 := And.intro @rect_eC (And.intro @vec_len (And.intro @vec_take @Tryd.results71))
 have hx := hx0
 refine ⟨by rfl, ?_⟩
 intro F W0 hnp hmk
 refine vc_seq_k fun N1 h1 => ?_
 refine u_reg ?_
 try refine lg_mk ?_
 refine u_mv ?_
 refine lg_nil ?_
 refine h1 _ ?_; clear h1; try clear N1
 refine vc_seq_k fun N2 h2 => ?_
 refine u_reg ?_
 try refine lg_mk ?_
 refine u_mv ?_
 refine u_ln ?_
 refine u_ms ?_
 refine u_al ?_
 refine u_st ?_
 refine lg_nil ?_
 refine h2 _ ?_; clear h2; try clear N2
 refine vc_seq_k fun N3 h3 => ?_
 refine vc_seq_k fun N4 h4 => ?_
 refine u_reg ?_
 try refine lg_mk ?_
 refine u_mv ?_
 refine u_ln ?_
 refine u_mv ?_
 refine lg_nil ?_
 refine h4 _ ?_; clear h4; try clear N4
 refine vc_block ?_
 refine vc_loop_mk (σ := Nat) (fun s => (fun j => j ≤ ns.length) s)
  (fun s => (fun j => [(0, .d (.sl (rows eC l))), (5, .ptr 1 0 0), (15, .d (.sl (rows eI ns))), (16, .d (.int .i64 (ns.length : Nat))), (17, .d (.int .i64 (j : Nat)))]) s)
  (fun s => (fun j => [some (.vec 4 1 (rows eB (vec l.length (mark (ns.take j))))), some (.one 41 [.sl 0 0 l.length])]) s) (fun s => (fun j => ns.length - j) s) hnp 0 ?_ [some 0, some 1] ?_ ?_
 dsimp only
 omega
 dsimp only
 refine ⟨by rfl, ?_, ?_⟩
 refine fin_ ?_
 ·(repeat' apply And.intro) <;> (first | (first | rfl | trivial | exact vec_rep _) | exact cl_)
 refine fin_ ?_
 ·(repeat' apply And.intro) <;> (first | (first | rfl | trivial | exact vec_rep _) | exact cl_)
 rintro j hinv N5 h5
 dsimp only at hinv ⊢
 have hj1 := hinv
 refine vc_seq_k fun N6 h6 => ?_
 refine u_reg ?_
 try refine lg_mk ?_
 refine u_bn ?_
 refine lg_nil ?_
 refine h6 _ ?_; clear h6; try clear N6
 refine vc_seq_k fun N7 h7 => ?_
 refine u_cond (fun hb8 => ?_) (fun hb8 => ?_)
 obtain ⟨x, hxe⟩ := getE (l := ns) (i := j) (by omega)
 have hxr := hin.at hxe
 have hgm := vec_get (n := l.length) (f := mark (ns.take j)) (k := x.toNat) (by omega)
 refine vc_skip ?_
 try simp only [k_rules]
 refine h7 _ ?_; clear h7; try clear N7
 refine vc_seq_k fun N9 h9 => ?_
 refine vc_block ?_
 refine vc_seq_k fun N10 h10 => ?_
 have hx := And.intro @hxe (And.intro @eI.eq_1 hx0)
 refine u_reg ?_
 try refine lg_mk ?_
 refine u_pt ?_
 refine u_ld ?_
 refine u_mv ?_
 refine lg_nil ?_
 have hx := hx0
 refine h10 _ ?_; clear h10; try clear N10
 have hx := And.intro @hgm (And.intro @eB.eq_1 hx0)
 refine u_reg ?_
 try refine lg_mk ?_
 refine u_ld ?_
 refine u_mv ?_
 refine u_pt ?_
 refine u_st ?_
 refine lg_nil ?_
 have hx := hx0
 refine h9 _ ?_; clear h9; try clear N9
 refine u_reg ?_
 try refine lg_mk ?_
 refine u_bn ?_
 refine u_mv ?_
 refine lg_nil ?_
 refine h5 _ ⟨j + 1, ?_, ?_, [some 0, some 1], ?_⟩
 dsimp only
 omega
 dsimp only
 omega
 dsimp only
 refine ⟨by rfl, ?_, ?_⟩
 refine fin_ ?_
 ·(repeat' apply And.intro) <;> (first | (first | rfl | trivial | (rw [← mark_set hxe hxr.1]; simp [rows, eB]; done)) | exact cl_)
 refine fin_ ?_
 ·(repeat' apply And.intro) <;> (first | (first | rfl | trivial | (rw [← mark_set hxe hxr.1]; simp [rows, eB]; done)) | exact cl_)
 have hj : j = ns.length := by omega
 subst hj
 rw [List.take_length]
 refine vc_exit ?_
 simp only [k_rules, Nat.reduceEqDiff, reduceIte, eq_self]
 refine h3 _ ?_; clear h3; try clear N3
 refine vc_seq_k fun N11 h11 => ?_
 refine vc_seq_k fun N12 h12 => ?_
 refine u_reg ?_
 try refine lg_mk ?_
 refine u_mv ?_
 have hc := call_rule (E := (E_backU.at_ 51)) (f := 84) (sp := Spec.pure (backG 87)) rfl
 have hs := @backG.eq_1
 refine u_hp ?_
 refine lg_nil ?_
 refine h12 _ ?_; clear h12; try clear N12
 refine vc_block ?_
 refine vc_cut hnp [(0, .d (.sl (rows eC l))), (5, .ptr 1 0 0), (26, .clo (.func 87) [.d (.ptr [.sl (rows eC l)])])] ((fun k : Nat => [some (.vec 4 1 (rows eB (vec l.length (ofS l ns (l.length - k))))), some (.one 41 [.sl 0 0 l.length])]) 0) [some 0, some 1] ?_ ?_
 dsimp only
 refine ⟨by rfl, ?_, ?_⟩
 refine fin_ ?_
 ·(repeat' apply And.intro) <;> (first | (first | rfl | trivial | (rw [Nat.sub_zero, vec_ext fun x _ => ofS_top]; done)) | exact cl_)
 refine fin_ ?_
 ·(repeat' apply And.intro) <;> (first | (first | rfl | trivial | (rw [Nat.sub_zero, vec_ext fun x _ => ofS_top]; done)) | exact cl_)
 refine vc_range (E := (E_backU.at_ 51)) (ps := [27, 28]) (f := Operand.tmp 26) rfl (fl := [(0, .d (.sl (rows eC l))), (5, .ptr 1 0 0), (26, .clo (.func 87) [.d (.ptr [.sl (rows eC l)])])]) (bl := (fun k : Nat => [some (.vec 4 1 (rows eB (vec l.length (ofS l ns (l.length - k))))), some (.one 41 [.sl 0 0 l.length])]) 0) (caps := [.d (.ptr [.sl (rows eC l)])]) (xs := backs l) (back_it l (by omega)) rfl (by rfl) 2 (by rfl) (Nat.le_of_ble_eq_true rfl) (by rw [hnp]; exact (Nat.le_of_ble_eq_true rfl)) hmk (fun k : Nat => [some (.vec 4 1 (rows eB (vec l.length (ofS l ns (l.length - k))))), some (.one 41 [.sl 0 0 l.length])]) rfl (fun _ => (Nat.le_of_ble_eq_true rfl)) (fun k x => [(8, (x.getD 0 .any)), (9, .ptr 2 0 0), (0, .d (.sl (rows eC l))), (5, .ptr 1 0 0), (26, .clo (.func 87) [.d (.ptr [.sl (rows eC l)])])]) (fun k => [some (.vec 4 1 (rows eB (vec l.length (ofS l ns (l.length - k))))), some (.one 41 [.sl 0 0 l.length]), some (.one 74 [.d (.sl (rows eI (l.getD (l.length - 1 - k) default).par)), .d (.int .i64 (l.getD (l.length - 1 - k) default).au), .d (.int .i64 (l.getD (l.length - 1 - k) default).ti), .d (.int .i64 (l.getD (l.length - 1 - k) default).tr), .d (.str (l.getD (l.length - 1 - k) default).ms)])]) ?_ ?_ ?_
 intro k x lp hx F W0 M0 hnp
 obtain ⟨i, c, hi, e1, e2, e3, hce, rfl⟩ := backs_get hx
 have hc3 := hv.few hce
 have hcd : l.getD (l.length - 1 - k) default = c := by rw [e3, getD_of hce]
 show VC _ W0 M0 _ (mkSt [(27, .d (.int .i64 (i : Nat))), (28, .agg [.d (.sl (rows eI c.par)), .d (.int .i64 c.au), .d (.int .i64 c.ti), .d (.int .i64 c.tr), .d (.str c.ms)]), (0, .d (.sl (rows eC l))), (5, .ptr 1 0 0), (26, .clo (.func 87) [.d (.ptr [.sl (rows eC l)])])] [some (.vec 4 1 (rows eB (vec l.length (ofS l ns (l.length - k))))), some (.one 41 [.sl 0 0 l.length])]) _
 rw [e1]
 try rw [hcd]
 refine vc_seq_k fun N13 h13 => ?_
 refine u_reg ?_
 try refine lg_mk ?_
 refine u_mv ?_
 refine lg_nil ?_
 refine h13 _ ?_; clear h13; try clear N13
 refine u_reg ?_
 try refine lg_mk ?_
 refine u_al ?_
 refine u_st ?_
 refine lg_nil ?_
 refine ⟨rfl, [some 0, some 1, some 2], ?_⟩
 refine ⟨by rfl, ?_, ?_⟩
 refine fin_ ?_
 ·(repeat' apply And.intro) <;> (first | (first | rfl | trivial | (rw [hcd]; done)) | exact cl_)
 refine fin_ ?_
 ·(repeat' apply And.intro) <;> (first | (first | rfl | trivial | (rw [hcd]; done)) | exact cl_)
 intro k x lp hx F W0 M0 hnp
 obtain ⟨i, c, hi, e1, e2, e3, hce, rfl⟩ := backs_get hx
 have hc3 := hv.few hce
 have hcd : l.getD (l.length - 1 - k) default = c := by rw [e3, getD_of hce]
 show VC _ W0 M0 _ (mkSt [(8, .d (.int .i64 (i : Nat))), (9, .ptr 2 0 0), (0, .d (.sl (rows eC l))), (5, .ptr 1 0 0), (26, .clo (.func 87) [.d (.ptr [.sl (rows eC l)])])] [some (.vec 4 1 (rows eB (vec l.length (ofS l ns (l.length - k))))), some (.one 41 [.sl 0 0 l.length]), some (.one 74 [.d (.sl (rows eI (l.getD (l.length - 1 - k) default).par)), .d (.int .i64 (l.getD (l.length - 1 - k) default).au), .d (.int .i64 (l.getD (l.length - 1 - k) default).ti), .d (.int .i64 (l.getD (l.length - 1 - k) default).tr), .d (.str (l.getD (l.length - 1 - k) default).ms)])]) _
 rw [e1]
 try rw [hcd]
 refine vc_block ?_
 refine vc_seq_k fun N14 h14 => ?_
 refine u_reg ?_
 try refine lg_mk ?_
 refine u_pt ?_
 refine u_ld ?_
 refine u_ln ?_
 refine u_mv ?_
 refine lg_nil ?_
 refine h14 _ ?_; clear h14; try clear N14
 refine vc_block ?_
 refine vc_loop_mk (σ := Nat) (fun s => (fun j => j ≤ c.par.length) s)
  (fun s => (fun j => [(0, .d (.sl (rows eC l))), (5, .ptr 1 0 0), (8, .d (.int .i64 (i : Nat))), (9, .ptr 2 0 0), (30, .d (.sl (rows eI c.par))), (31, .d (.int .i64 (c.par.length : Nat))), (32, .d (.int .i64 (j : Nat)))]) s)
  (fun s => (fun j => [some (.vec 4 1 (rows eB (vec l.length (part2 (ofS l ns (i + 1)) (ofB l ns i) (c.par.take j))))), some (.one 41 [.sl 0 0 l.length]), some (.one 74 [.d (.sl (rows eI c.par)), .d (.int .i64 c.au), .d (.int .i64 c.ti), .d (.int .i64 c.tr), .d (.str c.ms)])]) s) (fun s => (fun j => c.par.length - j) s) hnp 0 ?_ [some 0, some 1, some 2] ?_ ?_
 dsimp only
 omega
 dsimp only
 refine ⟨by rfl, ?_, ?_⟩
 refine fin_ ?_
 ·(repeat' apply And.intro) <;> (first | (first | rfl | trivial | (rw [part2_zero]; done)) | exact cl_)
 refine fin_ ?_
 ·(repeat' apply And.intro) <;> (first | (first | rfl | trivial | (rw [part2_zero]; done)) | exact cl_)
 rintro j hinv N15 h15
 dsimp only at hinv ⊢
 have hj1 := hinv
 refine vc_seq_k fun N16 h16 => ?_
 refine u_reg ?_
 try refine lg_mk ?_
 refine u_bn ?_
 refine lg_nil ?_
 refine h16 _ ?_; clear h16; try clear N16
 refine vc_seq_k fun N17 h17 => ?_
 refine u_cond (fun hb18 => ?_) (fun hb18 => ?_)
 obtain ⟨p, hpe⟩ := getE (l := c.par) (i := j) (by omega)
 have hpr := hv.par hce hpe
 have hg := vec_get (n := l.length) (f := part2 (ofS l ns (i + 1)) (ofB l ns i) (c.par.take j)) (k := p.toNat) (by omega)
 have hpi : part2 (ofS l ns (i + 1)) (ofB l ns i) (c.par.take j) i = ofB l ns i := by
  rw [part2_at fun q hq => by obtain ⟨z, hz⟩ := List.getElem?_of_mem (List.mem_of_mem_take hq); exact (hv.par hce hz).2, ← of_self hv hin]
 have hgi := vec_get (n := l.length) (f := part2 (ofS l ns (i + 1)) (ofB l ns i) (c.par.take j)) (k := i) hi
 rw [hpi] at hgi
 refine vc_skip ?_
 try simp only [k_rules]
 refine h17 _ ?_; clear h17; try clear N17
 refine vc_seq_k fun N19 h19 => ?_
 refine vc_block ?_
 refine vc_seq_k fun N20 h20 => ?_
 have hx := And.intro @hpe (And.intro @eI.eq_1 hx0)
 refine u_reg ?_
 try refine lg_mk ?_
 refine u_pt ?_
 refine u_ld ?_
 refine u_mv ?_
 refine lg_nil ?_
 have hx := hx0
 refine h20 _ ?_; clear h20; try clear N20
 have hx := And.intro @hg (And.intro @hgi (And.intro @eB.eq_1 hx0))
 refine u_reg ?_
 try refine lg_mk ?_
 refine u_ld ?_
 refine u_mv ?_
 refine u_ld ?_
 refine u_mv ?_
 refine u_pt ?_
 refine u_ld ?_
 refine u_mv ?_
 refine g_ld ?_
 refine g_mv ?_
 refine g_pt ?_
 refine g_ld ?_
 refine u_pk ?_
 refine u_pt ?_
 refine u_st ?_
 refine lg_nil ?_
 have hx := hx0
 refine h19 _ ?_; clear h19; try clear N19
 refine u_reg ?_
 try refine lg_mk ?_
 refine u_bn ?_
 refine u_mv ?_
 refine lg_nil ?_
 refine h15 _ ⟨j + 1, ?_, ?_, [some 0, some 1, some 2], ?_⟩
 dsimp only
 omega
 dsimp only
 omega
 dsimp only
 refine ⟨by rfl, ?_, ?_⟩
 refine fin_ ?_
 ·(repeat' apply And.intro) <;> (first | (first | rfl | trivial | (rw [← part2_set hpe hpr.1]; simp [rows, eB]; done)) | exact cl_)
 refine fin_ ?_
 ·(repeat' apply And.intro) <;> (first | (first | rfl | trivial | (rw [← part2_set hpe hpr.1]; simp [rows, eB]; done)) | exact cl_)
 have hj : j = c.par.length := by omega
 subst hj
 refine vc_exit ?_
 simp only [k_rules, Nat.reduceEqDiff, reduceIte, eq_self]
 refine Exists.intro [some 0, some 1] ?_
 refine ⟨by rfl, ?_, ?_⟩
 refine fin_ ?_
 ·(repeat' apply And.intro) <;> (first | (first | rfl | trivial | (rw [e2, ofS_succ hce, List.take_length]; done)) | exact cl_)
 refine fin_ ?_
 ·(repeat' apply And.intro) <;> (first | (first | rfl | trivial | (rw [e2, ofS_succ hce, List.take_length]; done)) | exact cl_)
 try simp only [k_rules]
 rw [backs_len, Nat.sub_self, vec_ext fun x _ => ofS_zero hv hin]
 refine h11 _ ?_; clear h11; try clear N11
 refine vc_seq_k fun N21 h21 => ?_
 refine u_reg ?_
 try refine lg_mk ?_
 refine u_ld ?_
 refine u_mv ?_
 refine lg_nil ?_
 refine h21 _ ?_; clear h21; try clear N21
 refine vc_ret ?_
 try simp only [k_rules]
 refine fin2_ ?_
 exact cl_
 cases hg

def E_of : Env Tryd.prog := E_backU.add 71 (Spec.pure ofG) of_meets (by kernel_rfl)
end Go.Proofs.YtlbjffdaooadoaaDoor
