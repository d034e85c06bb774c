/- Walks, printed by wip/gen/walk.py. -/
import Derived.Test.YtlbjffdaooadoaaDoorT82
import Derived.Test.YtlbjffdaooadoaaDoorV5
set_option linter.all false
set_option maxRecDepth 100000
set_option maxHeartbeats 4000000
namespace Go.Proofs.YtlbjffdaooadoaaDoor
open Go Go.Vc Go.RowKit
def rdOk (m : Mc) : Prop := m.ops ≠ [] ∧ 1 ≤ ar (kO (lastO m.ops)) ∧ ar (kO (lastO m.ops)) ≤ m.rs.length ∧ -100 ≤ lastO m.ops ∧ lastO m.ops ≤ 100 ∧ m.ns.length ≤ 1000000 ∧ m.rs.length ≤ 1000000 ∧ m.ops.length ≤ 1000000
def mcB (v1 v2 v3 : List (List D)) : Mc := ⟨dN v1, dI v2, dI v3⟩
def preR (ty t1 s1 x t2 s2 y t3 s3 z : Nat) (v1 v2 v3 : List (List D)) : Prop := ty = 92 ∧ (t1 = 39 ∧ s1 = 4 ∧ v1 = rows eN (dN v1) ∧ x = (dN v1).length) ∧ (t2 = 3 ∧ s2 = 1 ∧ v2 = rows eI (dI v2) ∧ y = (dI v2).length) ∧ (t3 = 3 ∧ s3 = 1 ∧ v3 = rows eI (dI v3) ∧ z = (dI v3).length)
def nsB (m : Mc) : Option Box := some (.vec 39 4 (rows eN m.ns))
def ilB (l : List Int) : Option Box := some (.vec 3 1 (rows eI l))
def redG : GFun
  | [.ptr 0 0 0], [some (.one ty [.d (.sl ls), .sl 1 0 x, .sl 2 0 y, .sl 3 0 z, .d (.int .i64 c), .d (.int .i64 i)]), some (.vec t1 s1 v1), some (.vec t2 s2 v2), some (.vec t3 s3 v3)] =>
    some (preR ty t1 s1 x t2 s2 y t3 s3 z v1 v2 v3 ∧ rdOk (mcB v1 v2 v3), .tup [], [rgB ls (.sl 4 0 (redM (mcB v1 v2 v3)).ns.length) (.sl 5 0 (redM (mcB v1 v2 v3)).rs.length) (.sl 3 0 (redM (mcB v1 v2 v3)).ops.length) c i, none, none, ilB (redM (mcB v1 v2 v3)).ops, nsB (redM (mcB v1 v2 v3)), ilB (redM (mcB v1 v2 v3)).rs])
  | _, _ => none
theorem red_gen {ns : List Nd} {rs l : List Int} {k K : Int} (hK : kO k = K) : redM ⟨ns, rs, l ++ [k]⟩ = ⟨ns ++ [⟨K, 0, rs.getD (rs.length - ar K) 0, if ar K = 2 then rs.getD (rs.length - ar K + 1) 0 else 0⟩], rs.take (rs.length - ar K) ++ [(ns.length : Int)], l⟩ := by
  unfold redM
  dsimp only
  rw [lastO_snoc, hK, List.dropLast_concat]
theorem snoc_of {l : List Int} (h : l ≠ []) : ∃ l' k, l = l' ++ [k] := ⟨l.dropLast, l.getLast h, (List.dropLast_concat_getLast h).symm⟩
theorem kO_r {k : Int} (h1 : -100 ≤ k) (h2 : k ≤ 100) : -100 ≤ kO k ∧ kO k ≤ 100 := by unfold kO; split <;> omega
theorem snI_rows (l : List Int) (k : Int) : rows eI l ++ [[.int .i64 k]] = rows eI (l ++ [k]) := by simp [rows, eI]

theorem redr_meets : Meets Tryd.prog 63 (Spec.gen redG) := by
 refine meets_handed (E_numr.at_ 92) Tryd.func63 rfl rfl rfl ?_
 intro args bl p r bf hg hp
 unfold redG at hg
 split at hg
 rename_i ty ls x y z c i t1 s1 v1 t2 s2 v2 t3 s3 v3
 simp only [Option.some.injEq, Prod.mk.injEq] at hg
 obtain ⟨rfl, rfl, rfl⟩ := hg
 unfold preR at hp
 obtain ⟨⟨rfl, ⟨rfl, rfl, h1, rfl⟩, ⟨rfl, rfl, h2, rfl⟩, ⟨rfl, rfl, h3, rfl⟩⟩, hok⟩ := hp
 unfold mcB at hok ⊢
 generalize dN v1 = ns at *
 generalize dI v2 = rs at *
 generalize dI v3 = ops at *
 subst h1 h2 h3
 obtain ⟨o1, o2, o3, o4, o5, o6, o7, o8⟩ := hok
 dsimp only at o1 o2 o3 o4 o5 o6 o7 o8
 obtain ⟨l, k, rfl⟩ := snoc_of o1
 rw [lastO_snoc] at o2 o3 o4 o5
 have hll : (l ++ [k]).length = l.length + 1 := by simp
 rw [hll] at o8 ⊢
 have hi1 : (((l.length + 1 : Nat) : Int) - 1).toNat = l.length := by omega
 have hk0 : (l ++ [k])[l.length]? = some k := by simp
 have hdl : List.take l.length (l ++ [k]) = l := List.take_left
 have hkr := kO_r o4 o5
 have hT : (E_numr).X = T := rfl
 have hx0 := And.intro @dec_t (And.intro @dec_f (And.intro @dN_rows (And.intro @dI_rows (And.intro @rect_eN (And.intro @rgB.eq_1 (And.intro @ilB.eq_1 (And.intro @nsB.eq_1 (And.intro @Int.toNat_natCast @Tryd.results63))))))))
 have hx := hx0
 refine ⟨Nat.le_of_ble_eq_true rfl, ?_⟩
 intro F W0 M0 hnp hmk
 have hnp : Far.np = 4 := hnp
 refine vc_seq_k fun N1 h1 => ?_
 have hx := And.intro @hi1 (And.intro @hk0 (And.intro @eI.eq_1 (And.intro @hll hx0)))
 refine u_reg ?_
 try refine lg_mk ?_
 refine u_mv (hq := by exact so_) ?_
 refine u_nl (hq := by exact so_) ?_
 refine u_pt (hq := by exact so_) ?_
 refine u_ld (hq := by exact so_) ?_
 refine u_mv (hq := by exact so_) ?_
 refine u_nl (hq := by exact so_) ?_
 refine u_pt (hq := by exact so_) ?_
 refine u_ld (hq := by exact so_) ?_
 refine u_ln (hq := by exact so_) ?_
 refine u_bn (hq := by exact so_) ?_
 refine u_pt (hq := by exact so_) ?_
 refine u_ld (hq := by exact so_) ?_
 refine u_mv (hq := by exact so_) ?_
 refine lg_nil ?_
 have hx := hx0
 refine h1 _ ?_; clear h1; try clear N1
 refine vc_seq_k fun N2 h2 => ?_
 have hx := And.intro @hi1 (And.intro @hll hx0)
 refine u_reg ?_
 try refine lg_mk ?_
 iterate 2 refine u_mv (hq := by exact so_) ?_
 refine u_nl (hq := by exact so_) ?_
 refine u_pt (hq := by exact so_) ?_
 refine u_ld (hq := by exact so_) ?_
 refine u_mv (hq := by exact so_) ?_
 refine u_nl (hq := by exact so_) ?_
 refine u_pt (hq := by exact so_) ?_
 refine u_ld (hq := by exact so_) ?_
 refine u_ln (hq := by exact so_) ?_
 refine u_bn (hq := by exact so_) ?_
 refine u_sl (hq := by exact so_) ?_
 refine u_nl (hq := by exact so_) ?_
 refine u_pt (hq := by exact so_) ?_
 refine u_st (hq := by exact so_) ?_
 refine lg_nil ?_
 have hx := hx0
 refine h2 _ ?_; clear h2; try clear N2
 refine vc_seq_m (σ := Unit) (fun s => (fun u => True) s)
  (fun s => (fun u => [(0, .ptr 0 0 0), (2, .d (.int .i64 (kO k)))]) s)
  (fun s => (fun u => [rgB ls (.sl 1 0 ns.length) (.sl 2 0 rs.length) (.sl 3 0 l.length) c i, some (.vec 39 4 (rows eN ns)), ilB rs, ilB (l ++ [k])]) s) hnp ?_ ?_
 rintro u hinv
 dsimp only at hinv ⊢
 generalize hK : kO k = K at *
 refine vc_shortL 3 l.length rfl ?_
 simp only [updL, List.set, rows_take, hdl]
 refine vc_seq_k fun N4 h4 => ?_
 refine u_reg ?_
 try refine lg_mk ?_
 refine u_mv (hq := by exact so_) ?_
 refine u_bd (hq := by exact so_) ?_
 refine u_al (hq := by exact so_) ?_
 refine u_st (hq := by exact so_) ?_
 refine lg_nil ?_
 refine h4 _ ?_; clear h4; try clear N4
 refine vc_seq_k fun N5 h5 => ?_
 refine vc_regG [40] hmix (by kernel_rfl) ?_
 try refine lg_mk ?_
 refine u_mv (hq := by exact so_) ?_
 refine u_nl (hq := by exact so_) ?_
 refine u_pt (hq := by exact so_) ?_
 refine u_ld (hq := by exact so_) ?_
 refine u_ln (hq := by exact so_) ?_
 refine u_mv (hq := by exact so_) ?_
 have hc := call_rule (E := (E_numr.at_ 92)) (f := 40) (sp := Spec.pure arG) rfl
 have hs := @arG.eq_1
 refine u_cp (hq := by exact so_) ?_
 refine u_bn (hq := by exact so_) ?_
 refine u_mv (hq := by exact so_) ?_
 refine lg_nil ?_
 refine h5 _ ?_; clear h5; try clear N5
 refine vc_seq_k fun N6 h6 => ?_
 have hra : ((rs.length : Int) - ((ar K : Nat) : Int)).toNat = rs.length - ar K := by omega
 obtain ⟨a, hae⟩ := getE (l := rs) (i := rs.length - ar K) (by omega)
 have hg1 : rs.getD (rs.length - ar K) 0 = a := by rw [List.getD_eq_getElem?_getD, hae]; rfl
 have hx := And.intro @hra (And.intro @hae (And.intro @eI.eq_1 hx0))
 refine u_reg ?_
 try refine lg_mk ?_
 refine u_mv (hq := by exact so_) ?_
 refine u_nl (hq := by exact so_) ?_
 refine u_pt (hq := by exact so_) ?_
 refine u_ld (hq := by exact so_) ?_
 refine u_mv (hq := by exact so_) ?_
 refine u_pt (hq := by exact so_) ?_
 refine u_ld (hq := by exact so_) ?_
 refine u_pt (hq := by exact so_) ?_
 refine u_st (hq := by exact so_) ?_
 refine lg_nil ?_
 have hx := hx0
 refine h6 _ ?_; clear h6; try clear N6
 refine vc_seq_k fun N7 h7 => ?_
 refine vc_seq_k fun N8 h8 => ?_
 refine u_reg ?_
 try refine lg_mk ?_
 refine u_mv (hq := by exact so_) ?_
 have hc := call_rule (E := (E_numr.at_ 92)) (f := 40) (sp := Spec.pure arG) rfl
 have hs := @arG.eq_1
 refine u_cp (hq := by exact so_) ?_
 refine u_bn (hq := by exact so_) ?_
 refine lg_nil ?_
 refine h8 _ ?_; clear h8; try clear N8
 refine u_cond (fun hb9 => ?_) (fun hb9 => ?_)
 have ha2 : ar K = 2 := by have := hb9; (try simp at this); omega
 have hra2 : ((rs.length : Int) - ((ar K : Nat) : Int) + 1).toNat = rs.length - ar K + 1 := by omega
 obtain ⟨b, hbe⟩ := getE (l := rs) (i := rs.length - ar K + 1) (by omega)
 have hg2 : rs.getD (rs.length - ar K + 1) 0 = b := by rw [List.getD_eq_getElem?_getD, hbe]; rfl
 have hx := And.intro @hra2 (And.intro @hbe (And.intro @eI.eq_1 hx0))
 refine u_reg ?_
 try refine lg_mk ?_
 refine u_mv (hq := by exact so_) ?_
 refine u_nl (hq := by exact so_) ?_
 refine u_pt (hq := by exact so_) ?_
 refine u_ld (hq := by exact so_) ?_
 refine u_mv (hq := by exact so_) ?_
 refine u_bn (hq := by exact so_) ?_
 refine u_pt (hq := by exact so_) ?_
 refine u_ld (hq := by exact so_) ?_
 refine u_pt (hq := by exact so_) ?_
 refine u_st (hq := by exact so_) ?_
 refine lg_nil ?_
 have hx := hx0
 refine h7 _ ?_; clear h7; try clear N7
 refine vc_seq_k fun N10 h10 => ?_
 refine u_reg ?_
 try refine lg_mk ?_
 iterate 2 refine u_mv (hq := by exact so_) ?_
 refine u_nl (hq := by exact so_) ?_
 refine u_pt (hq := by exact so_) ?_
 iterate 2 refine u_ld (hq := by exact so_) ?_
 refine u_bs (hq := by exact so_) ?_
 refine u_ap (hq := by exact so_) ?_
 refine u_nl (hq := by exact so_) ?_
 refine u_pt (hq := by exact so_) ?_
 refine u_st (hq := by exact so_) ?_
 refine lg_nil ?_
 refine h10 _ ?_; clear h10; try clear N10
 have hx := And.intro @hra hx0
 refine u_reg ?_
 try refine lg_mk ?_
 iterate 2 refine u_mv (hq := by exact so_) ?_
 refine u_nl (hq := by exact so_) ?_
 refine u_pt (hq := by exact so_) ?_
 refine u_ld (hq := by exact so_) ?_
 refine u_mv (hq := by exact so_) ?_
 refine u_sl (hq := by exact so_) ?_
 refine u_mv (hq := by exact so_) ?_
 refine u_nl (hq := by exact so_) ?_
 refine u_pt (hq := by exact so_) ?_
 refine u_ld (hq := by exact so_) ?_
 refine u_ln (hq := by exact so_) ?_
 refine u_bn (hq := by exact so_) ?_
 refine u_bs (hq := by exact so_) ?_
 refine u_ap (hq := by exact so_) ?_
 refine u_nl (hq := by exact so_) ?_
 refine u_pt (hq := by exact so_) ?_
 refine u_st (hq := by exact so_) ?_
 refine lg_nil ?_
 have hx := hx0
 have hr := red_gen (ns := ns) (rs := rs) (l := l) hK
 have h2 := hb9
 (try simp at h2)
 rw [if_pos (by omega)] at hr
 rw [hr]
 rw [hg1, hg2]
 dsimp only [ilB, nsB]
 have hs1 := addN_rows ns K 0 a b
 have hs2 := snI_rows (rs.take (rs.length - ar K)) (ns.length : Int)
 have hl1 : (ns ++ [(⟨K, 0, a, b⟩ : Nd)]).length = ns.length + 1 := by simp
 have hl2 : (rs.take (rs.length - ar K) ++ [(ns.length : Int)]).length = rs.length - ar K + 1 := by simp
 refine fin_ ?_
 refine ⟨[some 0, some 1, some 2, some 3, some 6, some 8], by rfl, ?_, ?_⟩
 refine fin_ ?_
 ·(repeat' apply And.intro) <;> (first | (first | rfl | trivial | omega | (rw [hs1]; done) | (rw [hs2]; done) | (rw [hl1]; done) | (rw [hl2]; done) | exact Or.inl rfl) | exact cl_)
 refine fin_ ?_
 ·(repeat' apply And.intro) <;> (first | (first | rfl | trivial | omega | (rw [hs1]; done) | (rw [hs2]; done) | (rw [hl1]; done) | (rw [hl2]; done) | exact Or.inl rfl) | exact cl_)
 refine vc_skip ?_
 try simp only [k_rules]
 refine h7 _ ?_; clear h7; try clear N7
 refine vc_seq_k fun N11 h11 => ?_
 refine u_reg ?_
 try refine lg_mk ?_
 iterate 2 refine u_mv (hq := by exact so_) ?_
 refine u_nl (hq := by exact so_) ?_
 refine u_pt (hq := by exact so_) ?_
 iterate 2 refine u_ld (hq := by exact so_) ?_
 refine u_bs (hq := by exact so_) ?_
 refine u_ap (hq := by exact so_) ?_
 refine u_nl (hq := by exact so_) ?_
 refine u_pt (hq := by exact so_) ?_
 refine u_st (hq := by exact so_) ?_
 refine lg_nil ?_
 refine h11 _ ?_; clear h11; try clear N11
 have hx := And.intro @hra hx0
 refine u_reg ?_
 try refine lg_mk ?_
 iterate 2 refine u_mv (hq := by exact so_) ?_
 refine u_nl (hq := by exact so_) ?_
 refine u_pt (hq := by exact so_) ?_
 refine u_ld (hq := by exact so_) ?_
 refine u_mv (hq := by exact so_) ?_
 refine u_sl (hq := by exact so_) ?_
 refine u_mv (hq := by exact so_) ?_
 refine u_nl (hq := by exact so_) ?_
 refine u_pt (hq := by exact so_) ?_
 refine u_ld (hq := by exact so_) ?_
 refine u_ln (hq := by exact so_) ?_
 refine u_bn (hq := by exact so_) ?_
 refine u_bs (hq := by exact so_) ?_
 refine u_ap (hq := by exact so_) ?_
 refine u_nl (hq := by exact so_) ?_
 refine u_pt (hq := by exact so_) ?_
 refine u_st (hq := by exact so_) ?_
 refine lg_nil ?_
 have hx := hx0
 have hr := red_gen (ns := ns) (rs := rs) (l := l) hK
 have h2 := hb9
 (try simp at h2)
 rw [if_neg (by omega)] at hr
 rw [hr]
 rw [hg1]
 dsimp only [ilB, nsB]
 have hs1 := addN_rows ns K 0 a 0
 have hs2 := snI_rows (rs.take (rs.length - ar K)) (ns.length : Int)
 have hl1 : (ns ++ [(⟨K, 0, a, 0⟩ : Nd)]).length = ns.length + 1 := by simp
 have hl2 : (rs.take (rs.length - ar K) ++ [(ns.length : Int)]).length = rs.length - ar K + 1 := by simp
 refine fin_ ?_
 refine ⟨[some 0, some 1, some 2, some 3, some 6, some 8], by rfl, ?_, ?_⟩
 refine fin_ ?_
 ·(repeat' apply And.intro) <;> (first | (first | rfl | trivial | omega | (rw [hs1]; done) | (rw [hs2]; done) | (rw [hl1]; done) | (rw [hl2]; done) | exact Or.inl rfl) | exact cl_)
 refine fin_ ?_
 ·(repeat' apply And.intro) <;> (first | (first | rfl | trivial | omega | (rw [hs1]; done) | (rw [hs2]; done) | (rw [hl1]; done) | (rw [hl2]; done) | exact Or.inl rfl) | exact cl_)
 intro N3 h3
 refine vc_seq_k fun N12 h12 => ?_
 refine u_reg ?_
 try refine lg_mk ?_
 refine u_mv (hq := by exact so_) ?_
 refine u_bn (hq := by exact so_) ?_
 refine lg_nil ?_
 refine h12 _ ?_; clear h12; try clear N12
 refine u_cond (fun hb13 => ?_) (fun hb13 => ?_)
 refine u_reg ?_
 try refine lg_mk ?_
 refine u_mv (hq := by exact so_) ?_
 refine u_un (hq := by exact so_) ?_
 refine u_mv (hq := by exact so_) ?_
 refine lg_nil ?_
 refine h3 _ ⟨(), trivial, [some 0, some 1, some 2, some 3], ?_⟩
 dsimp only
 refine ⟨by rfl, ?_, ?_⟩
 refine fin_ ?_
 ·(repeat' apply And.intro) <;> (first | (have hkk : kO k = 0 - k := (by unfold kO; rw [if_pos (by have := hb13; (try simp at this); omega)]; try omega); first | rfl | trivial | (rw [hkk]; done) | exact Or.inl rfl | exact Or.inl (by rw [hkk])) | exact cl_)
 refine fin_ ?_
 ·(repeat' apply And.intro) <;> (first | (have hkk : kO k = 0 - k := (by unfold kO; rw [if_pos (by have := hb13; (try simp at this); omega)]; try omega); first | rfl | trivial | (rw [hkk]; done) | exact Or.inl rfl | exact Or.inl (by rw [hkk])) | exact cl_)
 refine vc_skip ?_
 try simp only [k_rules]
 refine h3 _ ⟨(), trivial, [some 0, some 1, some 2, some 3], ?_⟩
 dsimp only
 refine ⟨by rfl, ?_, ?_⟩
 refine fin_ ?_
 ·(repeat' apply And.intro) <;> (first | (have hkk : kO k = k := (by unfold kO; rw [if_neg (by have := hb13; (try simp at this); omega)]); first | rfl | trivial | (rw [hkk]; done) | exact Or.inl rfl | exact Or.inl (by rw [hkk])) | exact cl_)
 refine fin_ ?_
 ·(repeat' apply And.intro) <;> (first | (have hkk : kO k = k := (by unfold kO; rw [if_neg (by have := hb13; (try simp at this); omega)]); first | rfl | trivial | (rw [hkk]; done) | exact Or.inl rfl | exact Or.inl (by rw [hkk])) | exact cl_)
 cases hg

def E_redr : Env Tryd.prog := E_numr.add 63 (Spec.gen redG) redr_meets (by kernel_rfl)
end Go.Proofs.YtlbjffdaooadoaaDoor
