/- Walks, printed by wip/gen/walk.py. -/
import Derived.Test.YtlbjffdaooadoaaDoorT29
import Derived.Test.YtlbjffdaooadoaaDoorV5
set_option linter.all false
set_option maxRecDepth 100000
set_option maxHeartbeats 4000000
namespace Go.Proofs.YtlbjffdaooadoaaDoor
open Go Go.Vc Go.RowKit
def leafF (l : List Cm) (n : Nd) (m : Nat) : Bool := leafV n (l.getD m default) m
def leafK (l : List Cm) (n : Nd) (j : Nat) : List Bool := vec l.length fun m => decide (m < j) && leafF l n m
def opV (kd : Int) (a b : Bool) : Bool := if kd = 14 then a || b else if kd = 15 then a && b else a && !b
def twoK (n : Nat) (kd : Int) (x y : List Bool) (j : Nat) : List Bool := vec n fun m => if m < j then opV kd (x.getD m false) (y.getD m false) else x.getD m false && !y.getD m false
def nodeV (l : List Cm) (S : List (List Bool)) (n : Nd) : List Bool :=
  if ar n.kd = 0 then leafK l n l.length else if ar n.kd = 1 then oneV l n.kd (S.getD n.lf.toNat []) else twoK l.length n.kd (S.getD n.lf.toNat []) (S.getD n.rt.toNat []) l.length
def setsQ (l : List Cm) (q : List Nd) : Nat → List (List Bool)
  | 0 => []
  | k + 1 => setsQ l q k ++ [nodeV l (setsQ l q k) (q.getD k default)]
theorem setsQ_len (l : List Cm) (q : List Nd) : ∀ k, (setsQ l q k).length = k
  | 0 => rfl
  | k + 1 => by simp [setsQ, setsQ_len l q k]
theorem leafK_len (l : List Cm) (n : Nd) (j : Nat) : (leafK l n j).length = l.length := vec_len ..
theorem twoK_len (n : Nat) (kd : Int) (x y : List Bool) (j : Nat) : (twoK n kd x y j).length = n := vec_len ..
theorem leafK_set (l : List Cm) (n : Nd) {j : Nat} : (leafK l n j).set j (leafF l n j) = leafK l n (j + 1) := by
  unfold leafK
  rw [vec_set]
  refine vec_ext fun k _ => ?_
  unfold setB
  split
  · rename_i e; subst e; simp
  · have : decide (k < j) = decide (k < j + 1) := by rw [decide_eq_decide]; omega
    dsimp only
    rw [this]
theorem leafK_zero (l : List Cm) (n : Nd) : leafK l n 0 = List.replicate l.length false := by
  unfold leafK; rw [← vec_no]; exact vec_ext fun k _ => by simp
theorem twoK_set {n : Nat} {kd : Int} {x y : List Bool} {j : Nat} {v : Bool} (hv : opV kd (x.getD j false) (y.getD j false) = v) : (twoK n kd x y j).set j v = twoK n kd x y (j + 1) := by
  unfold twoK
  rw [vec_set]
  refine vec_ext fun k _ => ?_
  unfold setB
  by_cases e : k = j
  · subst e; rw [if_pos rfl, if_pos (by omega), hv]
  · rw [if_neg e]
    dsimp only
    by_cases h : k < j
    · rw [if_pos h, if_pos (by omega)]
    · rw [if_neg h, if_neg (by omega)]
theorem twoK_zero {n : Nat} {kd : Int} {x y : List Bool} (hx : x.length = n) : minK x y x.length = twoK n kd x y 0 := by
  subst hx
  unfold minK twoK
  exact vec_ext (f := fun j => decide (j < x.length) && (x.getD j false && !y.getD j false)) fun k hk => by rw [decide_eq_true hk, if_neg (by omega)]; rfl
theorem setsQ_all {l : List Cm} {q : List Nd} (h : okQ q) : ∀ {k : Nat}, k ≤ q.length → ∀ s ∈ setsQ l q k, s.length = l.length
  | 0, _, s, hs => by cases hs
  | k + 1, hk, s, hs => by
    have ih := setsQ_all (l := l) h (k := k) (by omega)
    rcases List.mem_append.1 hs with hs | hs
    · exact ih s hs
    · rw [List.mem_singleton.1 hs]
      obtain ⟨_, _, _, _, _, h6, h7⟩ := ok_node h (i := k) (by omega) rfl
      unfold nodeV
      split
      · exact leafK_len ..
      · split
        · rename_i ha
          obtain ⟨g1, g2, _, _⟩ := h6 ha
          refine oneV_len _ _ ?_
          rw [g2, Int.toNat_natCast]
          refine ih _ (mem_at (i := k - 1) ?_)
          rw [List.getD_eq_getElem?_getD, List.getElem?_eq_getElem (by rw [setsQ_len]; omega)]; rfl
        · exact twoK_len ..
def tabR (S : List (List Bool)) (n : Nat) : List (List D) := S.map (fun s => [D.sl (rows eB s)]) ++ List.replicate (n - S.length) [D.sl []]
theorem tab_len {S : List (List Bool)} {n : Nat} (h : S.length ≤ n) : (tabR S n).length = n := by unfold tabR; simp; omega
theorem tab_get {S : List (List Bool)} {n j : Nat} {s : List Bool} (h : S[j]? = some s) : (tabR S n)[j]? = some [.sl (rows eB s)] := by
  have hj := (List.getElem?_eq_some_iff.1 h).1
  unfold tabR
  rw [List.getElem?_append_left (by rw [List.length_map]; exact hj), List.getElem?_map, h]; rfl
theorem tab_put {S : List (List Bool)} {n : Nat} (x : List Bool) (h : S.length < n) : (tabR S n).set S.length [.sl (rows eB x)] = tabR (S ++ [x]) n := by
  unfold tabR
  obtain ⟨d, hd⟩ : ∃ d, n - S.length = d + 1 := ⟨n - S.length - 1, by omega⟩
  have e : n - (S ++ [x]).length = d := by simp; omega
  rw [hd, e, List.replicate_succ, List.set_append_right _ _ (by rw [List.length_map]; exact Nat.le_refl _), List.length_map, Nat.sub_self]
  simp
theorem tab_nil {S : List (List Bool)} {n : Nat} (h : S.length < n) : (tabR S n)[S.length]? = some [.sl []] := by
  unfold tabR
  rw [List.getElem?_append_right (by rw [List.length_map]; exact Nat.le_refl _), List.length_map, Nat.sub_self, List.getElem?_replicate, if_pos (by omega)]
theorem tab_zero (n : Nat) : tabR [] n = List.replicate n [.sl []] := rfl
theorem rect_tab (S : List (List Bool)) (n : Nat) : Rect 1 (tabR S n) := by
  intro x hx
  unfold tabR at hx
  rcases List.mem_append.1 hx with hx | hx
  · obtain ⟨s, _, rfl⟩ := List.mem_map.1 hx; rfl
  · rw [(List.mem_replicate.1 hx).2]; rfl
theorem rect_set {xs : List (List D)} {i : Nat} {d : D} (h : Rect 1 xs) : Rect 1 (xs.set i [d]) := by
  intro x hx
  rcases List.mem_or_eq_of_mem_set hx with hx | rfl
  · exact h x hx
  · rfl
theorem set_get {xs : List (List D)} {i n : Nat} {d : List D} (h : xs.length = n) (hi : i < n) : (xs.set i d)[i]? = some d := by
  rw [List.getElem?_set, if_pos rfl, if_pos (by omega)]
def evV (l : List Cm) (q : List Nd) : Int × Int × List Bool :=
  if histF l ≠ (0, 0) then ((histF l).1, (histF l).2, []) else if valQ q ≠ (0, 0) then ((valQ q).1, -2, []) else (0, 0, (setsQ l q q.length).getD (q.length - 1) [])
def evG : List AV → Option (Prop × AV)
  | [.d (.sl xs), .agg [.d (.sl ys)]] => some (xs = rows eC (dC xs) ∧ (dC xs).length ≤ 9223372036854775807 ∧ smallC (dC xs) ∧ ys = rows eN (dN ys) ∧ (dN ys).length ≤ 9223372036854775807, .tup [.d (.sl (rows eB (evV (dC xs) (dN ys)).2.2)), .agg [.d (.int .i64 (evV (dC xs) (dN ys)).1), .d (.int .i64 (evV (dC xs) (dN ys)).2.1)]])
  | _ => none

theorem twoK_same {n : Nat} {kd : Int} {x y : List Bool} {j : Nat} (h1 : kd ≠ 14) (h2 : kd ≠ 15) : twoK n kd x y (j + 1) = twoK n kd x y j := by
  have e : ∀ a b, opV kd a b = (a && !b) := fun a b => by unfold opV; rw [if_neg h1, if_neg h2]
  unfold twoK
  simp only [e, ite_self]
theorem nodeV_0 (l : List Cm) (S : List (List Bool)) {n : Nd} (h : ar n.kd = 0) : nodeV l S n = leafK l n l.length := by unfold nodeV; rw [if_pos h]
theorem nodeV_1 (l : List Cm) (S : List (List Bool)) {n : Nd} {s : List Bool} (h : ar n.kd = 1) (hs : S[n.lf.toNat]? = some s) : nodeV l S n = oneV l n.kd s := by
  unfold nodeV; rw [if_neg (by omega), if_pos h, List.getD_eq_getElem?_getD, hs]; rfl
theorem nodeV_2 (l : List Cm) (S : List (List Bool)) {n : Nd} {s s' : List Bool} (h : ar n.kd = 2) (hs : S[n.lf.toNat]? = some s) (hs' : S[n.rt.toNat]? = some s') : nodeV l S n = twoK l.length n.kd s s' l.length := by
  unfold nodeV; rw [if_neg (by omega), if_neg (by omega), List.getD_eq_getElem?_getD, hs, List.getD_eq_getElem?_getD, hs']; rfl

def minFG : GFun
  | [.d (.sl xs), .d (.sl ys)], [] => some (xs = rows eB (dB xs) ∧ (dB xs).length ≤ 1000 ∧ ys = rows eB (dB ys) ∧ (dB ys).length = (dB xs).length, .sl 0 0 (dB xs).length, [some (.vec 4 1 (rows eB (minK (dB xs) (dB ys) (dB xs).length)))])
  | _, _ => none

theorem minf_meets : Meets Tryd.prog 50 (Spec.fresh minFG) := by
 refine meets_fresh (E_one.at_ 31) Tryd.func50 rfl rfl rfl ?_
 intro args bl p r bf hg hp
 unfold minFG at hg
 split at hg
 rename_i xs ys
 simp only [Option.some.injEq, Prod.mk.injEq] at hg
 obtain ⟨rfl, rfl, rfl⟩ := hg
 obtain ⟨he, hl, he2, hl2⟩ := hp
 generalize dB xs = a at *
 generalize dB ys = b at *
 subst he he2
 have hm0 := minK_zero a b
 have hT : (E_one).X = T := rfl
 have hx0 := And.intro @dB_rows (And.intro @minK_len @Tryd.results50)
 have hx := hx0
 refine ⟨Nat.le_of_ble_eq_true rfl, ?_⟩
 intro F W0 M0 hnp hmk
 have hnp : Far.np = 0 := hnp
 refine vc_seq_k fun N1 h1 => ?_
 refine u_reg ?_
 try refine lg_mk ?_
 refine u_mv ?_
 refine lg_nil ?_
 refine h1 _ ?_; clear h1; try clear N1
 refine vc_seq_k fun N2 h2 => ?_
 refine u_reg ?_
 try refine lg_mk ?_
 refine u_mv ?_
 refine u_ln ?_
 refine u_ms ?_
 refine u_mv ?_
 refine lg_nil ?_
 refine h2 _ ?_; clear h2; try clear N2
 refine vc_seq_k fun N3 h3 => ?_
 refine vc_seq_k fun N4 h4 => ?_
 refine u_reg ?_
 try refine lg_mk ?_
 refine u_mv ?_
 refine u_ln ?_
 refine u_mv ?_
 refine lg_nil ?_
 refine h4 _ ?_; clear h4; try clear N4
 refine vc_block ?_
 refine vc_loop_mk (σ := Nat) (fun s => (fun i => i ≤ a.length) s)
  (fun s => (fun i => [(0, .d (.sl (rows eB a))), (1, .d (.sl (rows eB b))), (5, .sl 0 0 a.length), (11, .d (.int .i64 (a.length : Nat))), (12, .d (.int .i64 (i : Nat)))]) s)
  (fun s => (fun i => [some (.vec 4 1 (rows eB (minK a b i)))]) s) (fun s => (fun i => a.length - i) s) hnp 0 ?_ [some 0] ?_ ?_
 dsimp only
 omega
 dsimp only
 refine ⟨by rfl, ?_, ?_⟩
 refine fin_ ?_
 ·(repeat' apply And.intro) <;> (first | (first | rfl | trivial | omega | (rw [hm0]; done) | (rw [hm0]; simp [rows, eB]; done)) | exact cl_)
 refine fin_ ?_
 ·(repeat' apply And.intro) <;> (first | (first | rfl | trivial | omega | (rw [hm0]; done) | (rw [hm0]; simp [rows, eB]; done)) | exact cl_)
 rintro i hinv N5 h5
 dsimp only at hinv ⊢
 have i1 := hinv
 refine vc_seq_k fun N6 h6 => ?_
 refine u_reg ?_
 try refine lg_mk ?_
 refine u_bn ?_
 refine lg_nil ?_
 refine h6 _ ?_; clear h6; try clear N6
 refine vc_seq_k fun N7 h7 => ?_
 refine u_cond (fun hb8 => ?_) (fun hb8 => ?_)
 obtain ⟨x, hxe⟩ := getE (l := a) (i := i) (by have := hb8; omega)
 obtain ⟨y, hye⟩ := getE (l := b) (i := i) (by have := hb8; omega)
 have hms := minK_set hxe hye
 have hml := minK_len a b i
 obtain ⟨w, hwe⟩ := getE (l := minK a b i) (i := i) (by rw [hml]; have := hb8; omega)
 refine vc_skip ?_
 try simp only [k_rules]
 refine h7 _ ?_; clear h7; try clear N7
 refine vc_seq_k fun N9 h9 => ?_
 refine vc_block ?_
 refine vc_seq_k fun N10 h10 => ?_
 refine u_reg ?_
 try refine lg_mk ?_
 iterate 2 refine u_mv ?_
 refine lg_nil ?_
 refine h10 _ ?_; clear h10; try clear N10
 rcases (show x = true ∨ x = false by cases x <;> simp) with rfl | rfl
 have hms2 : (minK a b i).set i (!y) = minK a b (i + 1) := hms
 have hx := And.intro @hxe (And.intro @hye (And.intro @hwe (And.intro @eB.eq_1 hx0)))
 refine u_reg ?_
 try refine lg_mk ?_
 iterate 4 refine u_mv ?_
 refine u_pt ?_
 refine u_ld ?_
 refine u_mv ?_
 iterate 2 refine g_mv ?_
 refine g_pt ?_
 refine g_ld ?_
 refine g_un ?_
 refine u_pk ?_
 refine u_pt ?_
 refine u_st ?_
 refine lg_nil ?_
 have hx := hx0
 refine h9 _ ?_; clear h9; try clear N9
 refine u_reg ?_
 try refine lg_mk ?_
 refine u_bn ?_
 refine u_mv ?_
 refine lg_nil ?_
 refine h5 _ ⟨i + 1, ?_, ?_, [some 0], ?_⟩
 dsimp only
 omega
 dsimp only
 omega
 dsimp only
 refine ⟨by rfl, ?_, ?_⟩
 refine fin_ ?_
 ·(repeat' apply And.intro) <;> (first | (first | rfl | trivial | omega | (rw [← hms2]; simp [rows, eB]; done) | (rw [← hms2, rows_set]; done)) | exact cl_)
 refine fin_ ?_
 ·(repeat' apply And.intro) <;> (first | (first | rfl | trivial | omega | (rw [← hms2]; simp [rows, eB]; done) | (rw [← hms2, rows_set]; done)) | exact cl_)
 have hms2 : (minK a b i).set i false = minK a b (i + 1) := hms
 have hx := And.intro @hxe (And.intro @hye (And.intro @hwe (And.intro @eB.eq_1 hx0)))
 refine u_reg ?_
 try refine lg_mk ?_
 iterate 4 refine u_mv ?_
 refine u_pt ?_
 refine u_ld ?_
 refine u_mv ?_
 iterate 2 refine g_mv ?_
 refine g_pt ?_
 refine g_ld ?_
 refine g_un ?_
 refine u_pk ?_
 refine u_pt ?_
 refine u_st ?_
 refine lg_nil ?_
 have hx := hx0
 refine h9 _ ?_; clear h9; try clear N9
 refine u_reg ?_
 try refine lg_mk ?_
 refine u_bn ?_
 refine u_mv ?_
 refine lg_nil ?_
 refine h5 _ ⟨i + 1, ?_, ?_, [some 0], ?_⟩
 dsimp only
 omega
 dsimp only
 omega
 dsimp only
 refine ⟨by rfl, ?_, ?_⟩
 refine fin_ ?_
 ·(repeat' apply And.intro) <;> (first | (first | rfl | trivial | omega | (rw [← hms2]; simp [rows, eB]; done) | (rw [← hms2, rows_set]; done)) | exact cl_)
 refine fin_ ?_
 ·(repeat' apply And.intro) <;> (first | (first | rfl | trivial | omega | (rw [← hms2]; simp [rows, eB]; done) | (rw [← hms2, rows_set]; done)) | exact cl_)
 obtain rfl : i = a.length := by have := hb8; omega
 have hml := minK_len a b a.length
 have hmt : (minK a b a.length).take a.length = minK a b a.length := List.take_of_length_le (by omega)
 refine vc_exit ?_
 simp only [k_rules, Nat.reduceEqDiff, reduceIte, eq_self]
 refine h3 _ ?_; clear h3; try clear N3
 refine vc_seq_k fun N11 h11 => ?_
 refine u_reg ?_
 try refine lg_mk ?_
 iterate 2 refine u_mv ?_
 refine lg_nil ?_
 refine h11 _ ?_; clear h11; try clear N11
 refine vc_ret ?_
 try simp only [k_rules]
 refine fin_ ?_
 refine ⟨[some 0], by rfl, ?_, ?_⟩
 refine fin_ ?_
 ·(repeat' apply And.intro) <;> (first | (first | rfl | trivial | omega | (rw [hmt]; done) | (left; rw [hmt]; done)) | exact cl_)
 refine fin_ ?_
 ·(repeat' apply And.intro) <;> (first | (first | rfl | trivial | omega | (rw [hmt]; done) | (left; rw [hmt]; done)) | exact cl_)
 cases hg

def E_minf : Env Tryd.prog := E_one.add 50 (Spec.fresh minFG) minf_meets (by kernel_rfl)

theorem ev_meets : Meets Tryd.prog 23 (Spec.pure evG) := by
 refine meets_fun (E_minf.at_ 153) Tryd.func23 rfl rfl rfl ?_
 intro args p r hg hp
 unfold evG at hg
 split at hg
 rename_i xs ys
 simp only [Option.some.injEq, Prod.mk.injEq] at hg
 obtain ⟨rfl, rfl⟩ := hg
 obtain ⟨he, hl, hsm, he2, hl2⟩ := hp
 generalize dC xs = l at *
 generalize dN ys = q at *
 subst he he2
 have hT : (E_minf).X = T := rfl
 have hx0 := And.intro @rect_eC (And.intro @rect_eN (And.intro @dC_rows (And.intro @dN_rows (And.intro @dI_rows (And.intro @dB_rows (And.intro @minK_len (And.intro @rect_tab (And.intro @dec_t (And.intro @dec_f @Tryd.results23)))))))))
 have hx := hx0
 refine ⟨by rfl, ?_⟩
 intro F W0 hnp hmk
 refine vc_seq_k fun N1 h1 => ?_
 refine u_reg ?_
 try refine lg_mk ?_
 refine u_bx ?_
 refine u_mv ?_
 refine u_al ?_
 refine lg_nil ?_
 refine h1 _ ?_; clear h1; try clear N1
 refine vc_seq_k fun N2 h2 => ?_
 refine vc_seq_k fun N3 h3 => ?_
 refine u_reg ?_
 try refine lg_mk ?_
 refine u_mv ?_
 have hc := call_rule (E := (E_minf.at_ 153)) (f := 46) (sp := Spec.pure histG) rfl
 have hs := @histG.eq_1
 refine u_cp ?_
 refine u_al ?_
 refine u_st ?_
 refine lg_nil ?_
 refine h3 _ ?_; clear h3; try clear N3
 refine vc_seq_k fun N4 h4 => ?_
 by_cases hh : histF l = (0, 0)
 have hh1 : (histF l).1 = 0 := by rw [hh]
 have hv := valid_of hh1
 have hl60 := hv.len
 have hhb : (decide ((histF l).1 = 0) && decide ((histF l).2 = 0)) = true := by rw [hh]; rfl
 have hx := And.intro @hhb hx0
 refine u_reg ?_
 try refine lg_mk ?_
 refine u_ld ?_
 refine u_bd ?_
 refine u_bn ?_
 refine lg_nil ?_
 have hx := hx0
 refine h4 _ ?_; clear h4; try clear N4
 refine u_cond (fun hb5 => ?_) (fun hb5 => ?_)
 ·first | omega | exact absurd trivial hb5 | contradiction | (simp_all; done)
 refine vc_skip ?_
 try simp only [k_rules]
 refine h2 _ ?_; clear h2; try clear N2
 refine vc_seq_k fun N6 h6 => ?_
 refine vc_seq_k fun N7 h7 => ?_
 refine u_reg ?_
 try refine lg_mk ?_
 refine u_ld ?_
 have hc := call_rule (E := (E_minf.at_ 153)) (f := 24) (sp := Spec.pure valG) rfl
 have hs := @valG.eq_1
 refine u_cp ?_
 refine u_al ?_
 refine u_st ?_
 refine lg_nil ?_
 refine h7 _ ?_; clear h7; try clear N7
 refine vc_seq_k fun N8 h8 => ?_
 by_cases hvq : valQ q = (0, 0)
 obtain ⟨hok, hrt⟩ := ok_of_val hvq
 have h1q := hok.1
 have h40 := hok.2.1
 have hvb : (decide ((valQ q).1 = 0) && decide ((valQ q).2 = 0)) = true := by rw [hvq]; rfl
 have hx := And.intro @hvb hx0
 refine u_reg ?_
 try refine lg_mk ?_
 refine u_ld ?_
 refine u_bd ?_
 refine u_bn ?_
 refine lg_nil ?_
 have hx := hx0
 refine h8 _ ?_; clear h8; try clear N8
 refine u_cond (fun hb9 => ?_) (fun hb9 => ?_)
 ·first | omega | exact absurd trivial hb9 | contradiction | (simp_all; done)
 refine vc_skip ?_
 try simp only [k_rules]
 refine h6 _ ?_; clear h6; try clear N6
 refine vc_seq_k fun N10 h10 => ?_
 refine u_reg ?_
 try refine lg_mk ?_
 refine u_pt (hq := by exact so_) ?_
 refine u_ld (hq := by exact so_) ?_
 refine u_ln (hq := by exact so_) ?_
 refine u_ms (hq := by exact so_) ?_
 refine u_mv (hq := by exact so_) ?_
 refine lg_nil ?_
 refine h10 _ ?_; clear h10; try clear N10
 refine vc_seq_k fun N11 h11 => ?_
 refine vc_seq_k fun N12 h12 => ?_
 refine u_reg ?_
 try refine lg_mk ?_
 refine u_pt ?_
 refine u_ld ?_
 refine u_ln ?_
 refine u_mv ?_
 refine lg_nil ?_
 refine h12 _ ?_; clear h12; try clear N12
 refine vc_block ?_
 refine vc_loop_mk (σ := Nat) (fun s => (fun i => i ≤ q.length) s)
  (fun s => (fun i => [(0, .d (.sl (rows eC l))), (3, .ptr 0 0 0), (5, .ptr 1 0 0), (8, .sl 2 0 q.length), (35, .d (.sl (rows eN q))), (36, .d (.int .i64 (q.length : Nat))), (37, .d (.int .i64 (i : Nat)))]) s)
  (fun s => (fun i => [some (.one 24 [.d (.sl (rows eN q))]), some (.one 27 [.d (.int .i64 0), .d (.int .i64 0)]), some (.vec 41 1 (tabR (setsQ l q i) q.length))]) s) (fun s => (fun i => q.length - i) s) hnp 0 ?_ [some 0, some 1, some 4] ?_ ?_
 dsimp only
 omega
 dsimp only
 refine ⟨by rfl, ?_, ?_⟩
 refine fin_ ?_
 ·(repeat' apply And.intro) <;> (first | (first | rfl | trivial | omega | (show _ = tabR [] q.length; rw [tab_zero]; done)) | exact cl_)
 refine fin_ ?_
 ·(repeat' apply And.intro) <;> (first | (first | rfl | trivial | omega | (show _ = tabR [] q.length; rw [tab_zero]; done)) | exact cl_)
 rintro i hinv N13 h13
 dsimp only at hinv ⊢
 have i1 := hinv
 refine vc_seq_k fun N14 h14 => ?_
 refine u_reg ?_
 try refine lg_mk ?_
 refine u_bn ?_
 refine lg_nil ?_
 refine h14 _ ?_; clear h14; try clear N14
 refine vc_seq_k fun N15 h15 => ?_
 refine u_cond (fun hb16 => ?_) (fun hb16 => ?_)
 have hiq : i < q.length := by have := hb16; (try simp at this); omega
 obtain ⟨x, hxe⟩ := getE (l := q) (i := i) hiq
 have hxd := getD_nd hxe
 obtain ⟨o1, o2, o3, o4, o5, o6, o7⟩ := ok_node hok hiq hxd
 have hSl := setsQ_len l q i
 have hSa := setsQ_all (l := l) hok (k := i) (by omega)
 have hnext : setsQ l q (i + 1) = setsQ l q i ++ [nodeV l (setsQ l q i) x] := by rw [← hxd]; rfl
 have hN0 := nodeV_0 l (setsQ l q i) (n := x)
 have hN1 := fun s => nodeV_1 l (setsQ l q i) (n := x) (s := s)
 have hN2 := fun s s' => nodeV_2 l (setsQ l q i) (n := x) (s := s) (s' := s')
 have htl : (tabR (setsQ l q i) q.length).length = q.length := tab_len (by omega)
 have hgt : ∀ v, ((tabR (setsQ l q i) q.length).set i [.raw v])[i]? = some [.raw v] := fun v => set_get htl hiq
 have hti : (tabR (setsQ l q i) q.length)[i]? = some [.sl []] := by
  have := tab_nil (S := setsQ l q i) (n := q.length) (by omega)
  rwa [hSl] at this
 have hput0 : ∀ y, (tabR (setsQ l q i) q.length).set i [.sl (rows eB y)] = tabR (setsQ l q i ++ [y]) q.length := fun y => by
  rw [← tab_put y (by omega), hSl]
 have hput : ∀ v y, ((tabR (setsQ l q i) q.length).set i [.raw v]).set i [.sl (rows eB y)] = tabR (setsQ l q i ++ [y]) q.length := fun v y => by
  rw [List.set_set, ← tab_put y (by omega), hSl]
 have hrs : ∀ v, Rect 1 ((tabR (setsQ l q i) q.length).set i [.raw v]) = True := fun v => eq_true (rect_set (rect_tab _ _))
 obtain ⟨a, b, c, d⟩ := x
 dsimp only at o1 o2 o3 o4 o5 o6 o7 hN0 hN1 hN2
 refine vc_skip ?_
 try simp only [k_rules]
 refine h15 _ ?_; clear h15; try clear N15
 refine vc_seq_k fun N17 h17 => ?_
 refine vc_block ?_
 refine vc_seq_k fun N18 h18 => ?_
 have hx := And.intro @hxe (And.intro @eN.eq_1 hx0)
 refine u_reg ?_
 try refine lg_mk ?_
 refine u_mv ?_
 refine u_pt ?_
 refine u_ld ?_
 refine u_al ?_
 refine u_mv ?_
 refine u_st ?_
 refine lg_nil ?_
 have hx := hx0
 refine h18 _ ?_; clear h18; try clear N18
 refine vc_seq_k fun N19 h19 => ?_
 refine u_reg ?_
 try refine lg_mk ?_
 refine u_pt ?_
 refine u_ld ?_
 have hc := call_rule (E := (E_minf.at_ 153)) (f := 47) (sp := Spec.pure arG) rfl
 have hs := @arG.eq_1
 refine u_cp ?_
 refine lg_nil ?_
 refine h19 _ ?_; clear h19; try clear N19
 refine vc_block ?_
 refine vc_seq_k fun N20 h20 => ?_
 refine u_reg ?_
 try refine lg_mk ?_
 refine u_bn ?_
 refine u_mv ?_
 refine lg_nil ?_
 refine h20 _ ?_; clear h20; try clear N20
 refine u_cond (fun hb21 => ?_) (fun hb21 => ?_)
 have ha0 : ar a = 0 := by have := hb21; (try simp at this); omega
 have hN := hN0 ha0
 refine vc_seq_k fun N22 h22 => ?_
 refine vc_newbag 4 1 rfl ?_
 simp only [List.cons_append, List.nil_append]
 have hx := And.intro @hti hx0
 refine u_reg ?_
 try refine lg_mk ?_
 iterate 3 refine u_mv (hq := by exact so_) ?_
 refine u_ln (hq := by exact so_) ?_
 refine lg_sem (by rfl) (sem_makePut 4 (by first | (simp only [wB, eq_self, Nat.reduceEqDiff, reduceIte]; done) | (simp only [wB, eq_self, Nat.reduceEqDiff, reduceIte]; rfl)) (by first | trivial | simp only [wB, eq_self, Nat.reduceEqDiff, reduceIte]) (by first | (simp only [wB, eq_self, Nat.reduceEqDiff, reduceIte]; done) | (simp only [wB, eq_self, Nat.reduceEqDiff, reduceIte]; rfl)) (by first | trivial | simp only [wB, eq_self, Nat.reduceEqDiff, reduceIte]) (by first | (simp only [wB, eq_self, Nat.reduceEqDiff, reduceIte, env_rules, tys, hT, tiAgg]; done) | (simp only [wB, eq_self, Nat.reduceEqDiff, reduceIte, env_rules, tys, hT, tiAgg]; rfl)) (by first | (simp only [wB, eq_self, Nat.reduceEqDiff, reduceIte, env_rules, tys, hT, tiAgg]; done) | (simp only [wB, eq_self, Nat.reduceEqDiff, reduceIte, env_rules, tys, hT, tiAgg]; rfl)) (by rfl) (by simp only [wB, eq_self, Nat.reduceEqDiff, reduceIte]; rfl) (by exact so_) fun v1 => ?_)
 try simp only [wB, eq_self, Nat.reduceEqDiff, reduceIte, wL, Int.toNat_natCast, Int.reduceToNat, Nat.reduceAdd, Nat.reduceMul, Nat.reduceSub, Nat.reduceLeDiff, hx]
 try simp only [kilL, List.cons_append, List.nil_append, List.mem_cons, List.not_mem_nil, or_false, Nat.reduceEqDiff, Nat.reduceAdd, reduceIte]
 refine u_pt (hq := by exact so_) ?_
 refine u_st (hq := by exact so_) ?_
 refine lg_nil ?_
 have hx := hx0
 refine h22 _ ?_; clear h22; try clear N22
 refine vc_seq_k fun N23 h23 => ?_
 refine u_reg ?_
 try refine lg_mk ?_
 refine u_mv ?_
 refine u_ln ?_
 refine u_mv ?_
 refine lg_nil ?_
 refine h23 _ ?_; clear h23; try clear N23
 refine vc_block ?_
 refine vc_loop_mk (σ := Nat) (fun s => (fun j => j ≤ l.length) s)
  (fun s => (fun j => [(0, .d (.sl (rows eC l))), (3, .ptr 0 0 0), (5, .ptr 1 0 0), (8, .sl 2 0 q.length), (9, .d (.int .i64 (i : Nat))), (10, .ptr 3 0 0), (35, .d (.sl (rows eN q))), (36, .d (.int .i64 (q.length : Nat))), (37, .d (.int .i64 (i : Nat))), (113, .d (.sl (rows eC l))), (114, .d (.int .i64 (l.length : Nat))), (115, .d (.int .i64 (j : Nat)))]) s)
  (fun s => (fun j => [some (.one 24 [.d (.sl (rows eN q))]), some (.one 27 [.d (.int .i64 0), .d (.int .i64 0)]), some (.vec 41 1 ((tabR (setsQ l q i) q.length).set i [.raw v1])), some (.one 39 [.d (.int .i64 a), .d (.int .i64 b), .d (.int .i64 c), .d (.int .i64 d)]), some (.ob (.bag 4 1 [(v1, rows eB (leafK l ⟨a, b, c, d⟩ j))]))]) s) (fun s => (fun j => l.length - j) s) hnp 0 ?_ [some 0, some 1, some 2, some 3, some 6] ?_ ?_
 dsimp only
 omega
 dsimp only
 refine ⟨by rfl, ?_, ?_⟩
 refine fin_ ?_
 ·(repeat' apply And.intro) <;> (first | (first | (with_reducible rfl) | exact True.intro | rfl | trivial | omega | exact congrArg (OB.bag _ _) (by rw [leafK_zero]; simp [rows, eB]) | (rw [leafK_zero]; simp [rows, eB])) | exact cl_)
 refine fin_ ?_
 ·(repeat' apply And.intro) <;> (first | (first | (with_reducible rfl) | exact True.intro | rfl | trivial | omega | exact congrArg (OB.bag _ _) (by rw [leafK_zero]; simp [rows, eB]) | (rw [leafK_zero]; simp [rows, eB])) | exact cl_)
 rintro j hinv N24 h24
 dsimp only at hinv ⊢
 have j1 := hinv
 refine vc_seq_k fun N25 h25 => ?_
 refine u_reg ?_
 try refine lg_mk ?_
 refine u_bn ?_
 refine lg_nil ?_
 refine h25 _ ?_; clear h25; try clear N25
 refine vc_seq_k fun N26 h26 => ?_
 refine u_cond (fun hb27 => ?_) (fun hb27 => ?_)
 have hjl : j < l.length := by have := hb27; (try simp at this); omega
 obtain ⟨cm, hce⟩ := getE (l := l) (i := j) hjl
 have hlf : leafF l ⟨a, b, c, d⟩ j = leafV ⟨a, b, c, d⟩ cm j := by unfold leafF; rw [getD_of hce]
 have hst : (rows eB (leafK l ⟨a, b, c, d⟩ j)).set j [.bool (leafV ⟨a, b, c, d⟩ cm j)] = rows eB (leafK l ⟨a, b, c, d⟩ (j + 1)) := by rw [← leafK_set, hlf]; simp [rows, eB]
 have hc3 := hsm cm (mem_at hce)
 obtain ⟨cp, ca, ct, cr, cs⟩ := cm
 dsimp only at hc3
 refine vc_skip ?_
 try simp only [k_rules]
 refine h26 _ ?_; clear h26; try clear N26
 refine vc_seq_k fun N28 h28 => ?_
 refine vc_block ?_
 refine vc_seq_k fun N29 h29 => ?_
 have hx := And.intro @hce (And.intro @eC.eq_1 hx0)
 refine u_reg ?_
 try refine lg_mk ?_
 refine u_mv ?_
 refine u_pt ?_
 refine u_ld ?_
 refine u_al ?_
 refine u_mv ?_
 refine u_st ?_
 refine lg_nil ?_
 have hx := hx0
 refine h29 _ ?_; clear h29; try clear N29
 have hx := And.intro @hgt hx0
 refine vc_regG [48] hmix (by kernel_rfl) ?_
 try refine lg_mk ?_
 iterate 2 refine u_mv ?_
 refine u_pt ?_
 refine u_ld ?_
 refine u_mv ?_
 iterate 2 refine u_ld ?_
 refine u_mv ?_
 have hc := call_rule (E := (E_minf.at_ 153)) (f := 48) (sp := Spec.pure leafG) rfl
 have hs := @leafG.eq_1
 refine u_cp ?_
 refine lg_semV (by rfl) (semv_rawIx 4 0 (by first | (simp only [wB, eq_self, Nat.reduceEqDiff, reduceIte]; done) | (simp only [wB, eq_self, Nat.reduceEqDiff, reduceIte]; rfl)) (by first | trivial | simp only [wB, eq_self, Nat.reduceEqDiff, reduceIte]) (by first | (simp only [wB, eq_self, Nat.reduceEqDiff, reduceIte]; done) | (simp only [wB, eq_self, Nat.reduceEqDiff, reduceIte]; rfl)) (by first | trivial | simp only [wB, eq_self, Nat.reduceEqDiff, reduceIte]) (by simp only [wB, eq_self, Nat.reduceEqDiff, reduceIte]; rfl) rfl ⟨by omega, by rw [rows_len, leafK_len]; omega⟩ (by first | (simp only [wB, eq_self, Nat.reduceEqDiff, reduceIte, env_rules, tys, hT, tiAgg]; done) | (simp only [wB, eq_self, Nat.reduceEqDiff, reduceIte, env_rules, tys, hT, tiAgg]; rfl)) (by first | (simp only [wB, eq_self, Nat.reduceEqDiff, reduceIte, env_rules, tys, hT, tiAgg]; done) | (simp only [wB, eq_self, Nat.reduceEqDiff, reduceIte, env_rules, tys, hT, tiAgg]; rfl))) ?_
 try simp only [wB, eq_self, Nat.reduceEqDiff, reduceIte, wL, Int.toNat_natCast, Int.reduceToNat, Nat.reduceAdd, Nat.reduceMul, Nat.reduceSub, Nat.reduceLeDiff, hx]
 refine lg_sem (by rfl) (sem_rawStore 4 0 j (by first | (simp only [wB, eq_self, Nat.reduceEqDiff, reduceIte]; done) | (simp only [wB, eq_self, Nat.reduceEqDiff, reduceIte]; rfl)) (by first | trivial | simp only [wB, eq_self, Nat.reduceEqDiff, reduceIte]) (by first | (simp only [wB, eq_self, Nat.reduceEqDiff, reduceIte]; done) | (simp only [wB, eq_self, Nat.reduceEqDiff, reduceIte]; rfl)) (by first | trivial | simp only [wB, eq_self, Nat.reduceEqDiff, reduceIte]) (by simp only [wB, eq_self, Nat.reduceEqDiff, reduceIte]; rfl) rfl (by rw [rows_len, leafK_len]; omega) (by first | (simp only [wB, eq_self, Nat.reduceEqDiff, reduceIte, env_rules, tys, hT, tiAgg]; done) | (simp only [wB, eq_self, Nat.reduceEqDiff, reduceIte, env_rules, tys, hT, tiAgg]; rfl)) ?_)
 try simp only [wB, eq_self, Nat.reduceEqDiff, reduceIte, wL, Int.toNat_natCast, Int.reduceToNat, Nat.reduceAdd, Nat.reduceMul, Nat.reduceSub, Nat.reduceLeDiff, hx]
 refine lg_nil ?_
 have hx := hx0
 refine h28 _ ?_; clear h28; try clear N28
 refine u_reg ?_
 try refine lg_mk ?_
 refine u_bn ?_
 refine u_mv ?_
 refine lg_nil ?_
 refine h24 _ ⟨j + 1, ?_, ?_, [some 0, some 1, some 2, some 3, some 4], ?_⟩
 dsimp only
 omega
 dsimp only
 omega
 dsimp only
 refine ⟨by rfl, ?_, ?_⟩
 refine fin_ ?_
 ·(repeat' apply And.intro) <;> (first | (first | (with_reducible rfl) | exact True.intro | rfl | trivial | omega | exact congrArg (OB.bag _ _) (by rw [← hst]; rfl) | (rw [← hst]; rfl)) | exact cl_)
 refine fin_ ?_
 ·(repeat' apply And.intro) <;> (first | (first | (with_reducible rfl) | exact True.intro | rfl | trivial | omega | exact congrArg (OB.bag _ _) (by rw [← hst]; rfl) | (rw [← hst]; rfl)) | exact cl_)
 obtain rfl : j = l.length := by have := hb27; (try simp at this); omega
 refine vc_exit ?_
 simp only [k_rules, Nat.reduceEqDiff, reduceIte, eq_self]
 refine h17 _ ?_; clear h17; try clear N17
 refine vc_freeze1 2 4 i rfl (v := v1) rfl (hgt v1) rfl (by decide) ?_
 simp only [kilL, updL, List.set, List.cons_append, List.nil_append, List.mem_cons, List.not_mem_nil, or_false, Nat.reduceEqDiff, reduceIte]
 refine u_reg ?_
 try refine lg_mk ?_
 refine u_bn ?_
 refine u_mv ?_
 refine lg_nil ?_
 refine h13 _ ⟨i + 1, ?_, ?_, [some 0, some 1, some 2], ?_⟩
 dsimp only
 omega
 dsimp only
 omega
 dsimp only
 refine ⟨by rfl, ?_, ?_⟩
 refine fin_ ?_
 ·(repeat' apply And.intro) <;> (first | (first | (with_reducible rfl) | exact True.intro | trivial | omega | (rw [hput, hnext, hN]; done) | (rw [hput0, hnext, hN]; done)) | exact cl_)
 refine fin_ ?_
 ·(repeat' apply And.intro) <;> (first | (first | (with_reducible rfl) | exact True.intro | trivial | omega | (rw [hput, hnext, hN]; done) | (rw [hput0, hnext, hN]; done)) | exact cl_)
 refine vc_seq_k fun N30 h30 => ?_
 refine u_reg ?_
 try refine lg_mk ?_
 refine u_bn ?_
 refine u_mv ?_
 refine lg_nil ?_
 refine h30 _ ?_; clear h30; try clear N30
 refine u_cond (fun hb31 => ?_) (fun hb31 => ?_)
 have ha1 : ar a = 1 := by have := hb31; (try simp at this); omega
 obtain ⟨g1, g2, g3, g4⟩ := o6 ha1
 subst g2
 obtain ⟨sx, hsx⟩ := getE (l := setsQ l q i) (i := i - 1) (by omega)
 have hsl := hSa sx (mem_at hsx)
 have htg := tab_get (n := q.length) hsx
 have hN := hN1 sx ha1 (by rw [Int.toNat_natCast]; exact hsx)
 have hx := And.intro @htg (And.intro @hti (And.intro @Int.toNat_natCast hx0))
 refine u_reg ?_
 try refine lg_mk ?_
 refine u_mv (hq := by (first | ((repeat' apply And.intro) <;> first | rfl | omega | exact hv | exact hsl) | exact sd_)) ?_
 refine u_mv (hq := by (first | ((repeat' apply And.intro) <;> first | rfl | omega | exact hv | exact hsl) | exact sd_)) ?_
 refine u_mv (hq := by (first | ((repeat' apply And.intro) <;> first | rfl | omega | exact hv | exact hsl) | exact sd_)) ?_
 refine u_pt (hq := by (first | ((repeat' apply And.intro) <;> first | rfl | omega | exact hv | exact hsl) | exact sd_)) ?_
 refine u_ld (hq := by (first | ((repeat' apply And.intro) <;> first | rfl | omega | exact hv | exact hsl) | exact sd_)) ?_
 refine u_mv (hq := by (first | ((repeat' apply And.intro) <;> first | rfl | omega | exact hv | exact hsl) | exact sd_)) ?_
 refine u_pt (hq := by (first | ((repeat' apply And.intro) <;> first | rfl | omega | exact hv | exact hsl) | exact sd_)) ?_
 refine u_ld (hq := by (first | ((repeat' apply And.intro) <;> first | rfl | omega | exact hv | exact hsl) | exact sd_)) ?_
 refine u_pt (hq := by (first | ((repeat' apply And.intro) <;> first | rfl | omega | exact hv | exact hsl) | exact sd_)) ?_
 refine u_ld (hq := by (first | ((repeat' apply And.intro) <;> first | rfl | omega | exact hv | exact hsl) | exact sd_)) ?_
 have hc := call_rule (E := (E_minf.at_ 153)) (f := 49) (sp := Spec.pure oneG) rfl
 have hs := @oneG.eq_1
 refine u_hp (hq := by (first | ((repeat' apply And.intro) <;> first | rfl | omega | exact hv | exact hsl) | exact sd_)) ?_
 refine u_pt (hq := by (first | ((repeat' apply And.intro) <;> first | rfl | omega | exact hv | exact hsl) | exact sd_)) ?_
 refine u_st (hq := by (first | ((repeat' apply And.intro) <;> first | rfl | omega | exact hv | exact hsl) | exact sd_)) ?_
 refine lg_nil ?_
 have hx := hx0
 refine h17 _ ?_; clear h17; try clear N17
 refine u_reg ?_
 try refine lg_mk ?_
 refine u_bn ?_
 refine u_mv ?_
 refine lg_nil ?_
 refine h13 _ ⟨i + 1, ?_, ?_, [some 0, some 1, some 2], ?_⟩
 dsimp only
 omega
 dsimp only
 omega
 dsimp only
 refine ⟨by rfl, ?_, ?_⟩
 refine fin_ ?_
 ·(repeat' apply And.intro) <;> (first | (first | (with_reducible rfl) | exact True.intro | trivial | omega | (rw [hput, hnext, hN]; done) | (rw [hput0, hnext, hN]; done)) | exact cl_)
 refine fin_ ?_
 ·(repeat' apply And.intro) <;> (first | (first | (with_reducible rfl) | exact True.intro | trivial | omega | (rw [hput, hnext, hN]; done) | (rw [hput0, hnext, hN]; done)) | exact cl_)
 have ha2 : ar a = 2 := by have h131 := hb31; (try simp at h131); rcases ar_or a with ⟨_, h⟩ | ⟨_, _, h⟩ | ⟨_, h⟩ <;> omega
 obtain ⟨g1, g2, g3, g4⟩ := o7 ha2
 have hct : c.toNat = i - 1 - szI q (i - 1) := by rw [g2, Int.toNat_natCast]
 have hdt : d.toNat = i - 1 := by rw [g3, Int.toNat_natCast]
 obtain ⟨sx, hsx⟩ := getE (l := setsQ l q i) (i := i - 1 - szI q (i - 1)) (by omega)
 obtain ⟨sy, hsy⟩ := getE (l := setsQ l q i) (i := i - 1) (by omega)
 have hsl := hSa sx (mem_at hsx)
 have hsl2 := hSa sy (mem_at hsy)
 have htg := tab_get (n := q.length) hsx
 have htg2 := tab_get (n := q.length) hsy
 have hN := hN2 sx sy ha2 (by rw [hct]; exact hsx) (by rw [hdt]; exact hsy)
 have htz := twoK_zero (kd := a) (y := sy) hsl
 refine vc_seq_k fun N32 h32 => ?_
 have hx := And.intro @hct (And.intro @hdt (And.intro @htg (And.intro @htg2 hx0)))
 refine u_reg ?_
 try refine lg_mk ?_
 refine u_mv ?_
 refine u_pt ?_
 refine u_ld ?_
 refine u_pt ?_
 refine u_ld ?_
 refine u_mv ?_
 refine u_pt ?_
 refine u_ld ?_
 refine u_pt ?_
 refine u_ld ?_
 iterate 2 refine u_mv ?_
 refine lg_nil ?_
 have hx := hx0
 refine h32 _ ?_; clear h32; try clear N32
 refine vc_seq_k fun N33 h33 => ?_
 refine vc_newbag 4 1 rfl ?_
 simp only [List.cons_append, List.nil_append]
 have hx := And.intro @hti hx0
 refine u_reg ?_
 try refine lg_mk ?_
 refine u_mv (hq := by (first | ((repeat' apply And.intro) <;> first | rfl | omega | (rw [rows_len, minK_len]; exact Nat.le_refl _) | (rw [rows_len, minK_len]; omega)) | exact sd_)) ?_
 refine u_mv (hq := by (first | ((repeat' apply And.intro) <;> first | rfl | omega | (rw [rows_len, minK_len]; exact Nat.le_refl _) | (rw [rows_len, minK_len]; omega)) | exact sd_)) ?_
 refine u_mv (hq := by (first | ((repeat' apply And.intro) <;> first | rfl | omega | (rw [rows_len, minK_len]; exact Nat.le_refl _) | (rw [rows_len, minK_len]; omega)) | exact sd_)) ?_
 refine u_mv (hq := by (first | ((repeat' apply And.intro) <;> first | rfl | omega | (rw [rows_len, minK_len]; exact Nat.le_refl _) | (rw [rows_len, minK_len]; omega)) | exact sd_)) ?_
 have hs := @minFG.eq_1
 refine lg_sem (by rfl) (sem_call_put 4 (f := 50) (sp := Spec.fresh minFG) rfl (by simp only [map_rules, wB, eq_self, Nat.reduceEqDiff, reduceIte]; rfl)  (by simp only [wB, eq_self, Nat.reduceEqDiff, reduceIte, and_true]) (m1 := []) (m2 := []) (by simp only [wB, eq_self, Nat.reduceEqDiff, reduceIte, callS, rd_rules, pureL, cleanD, pure_rules, hs, sc_rules, heap_rules, wL, Int.toNat_natCast, Int.reduceToNat, Nat.reduceAdd, Nat.reduceMul, Nat.reduceSub, Nat.reduceLeDiff, List.mem_cons, List.not_mem_nil, dI_rows, dB_rows, dU_rows, hx, wG, Nat.reduceAdd, Nat.reduceSub, Nat.reduceLT, Nat.reduceLeDiff, if_true, if_false, ite_self, List.mem_append, true_implies, Option.bind_some, List.set_cons_zero, List.set_cons_succ, or_false, false_or]; rfl) (by first | trivial | ((try dsimp only); (first | ((repeat' apply And.intro) <;> first | rfl | omega | (rw [rows_len, minK_len]; exact Nat.le_refl _) | (rw [rows_len, minK_len]; omega)) | exact sd_))) (by simp only [wB, eq_self, Nat.reduceEqDiff, reduceIte, wG, heap_rules, Nat.reduceAdd, Nat.reduceSub, Nat.reduceLT, Nat.reduceLeDiff, kilL, List.cons_append, List.nil_append, List.mem_cons, List.not_mem_nil, or_false, false_or, wL, Int.toNat_natCast, Int.reduceToNat, Nat.reduceAdd, Nat.reduceMul, Nat.reduceSub, Nat.reduceLeDiff, hx]; rfl) (by rfl) (by rfl) (by rfl) rfl (by first | decide | simp) (by first | exact Nat.le_refl _ | (simp [rows]; done) | (first | ((repeat' apply And.intro) <;> first | rfl | omega | (rw [rows_len, minK_len]; exact Nat.le_refl _) | (rw [rows_len, minK_len]; omega)) | exact sd_)) fun v3 => ?_)
 simp only [wB, eq_self, Nat.reduceEqDiff, reduceIte, wG, heap_rules, Nat.reduceAdd, Nat.reduceSub, Nat.reduceLT, Nat.reduceLeDiff, kilL, List.cons_append, List.nil_append, List.mem_cons, List.not_mem_nil, or_false, false_or, wL, Int.toNat_natCast, Int.reduceToNat, Nat.reduceAdd, Nat.reduceMul, Nat.reduceSub, Nat.reduceLeDiff, hx]
 refine u_pt (hq := by (first | ((repeat' apply And.intro) <;> first | rfl | omega | (rw [rows_len, minK_len]; exact Nat.le_refl _) | (rw [rows_len, minK_len]; omega)) | exact sd_)) ?_
 refine u_st (hq := by (first | ((repeat' apply And.intro) <;> first | rfl | omega | (rw [rows_len, minK_len]; exact Nat.le_refl _) | (rw [rows_len, minK_len]; omega)) | exact sd_)) ?_
 refine lg_nil ?_
 have hx := hx0
 refine h33 _ ?_; clear h33; try clear N33
 refine vc_seq_k fun N34 h34 => ?_
 refine u_reg ?_
 try refine lg_mk ?_
 refine u_mv ?_
 refine u_ln ?_
 refine u_mv ?_
 refine lg_nil ?_
 refine h34 _ ?_; clear h34; try clear N34
 refine vc_block ?_
 refine vc_loop_mk (σ := Nat) (fun s => (fun j => j ≤ l.length) s)
  (fun s => (fun j => [(0, .d (.sl (rows eC l))), (3, .ptr 0 0 0), (5, .ptr 1 0 0), (8, .sl 2 0 q.length), (9, .d (.int .i64 (i : Nat))), (10, .ptr 3 0 0), (13, .d (.sl (rows eB sx))), (14, .d (.sl (rows eB sy))), (35, .d (.sl (rows eN q))), (36, .d (.int .i64 (q.length : Nat))), (37, .d (.int .i64 (i : Nat))), (62, .d (.int .i64 (l.length : Nat))), (63, .d (.int .i64 (j : Nat)))]) s)
  (fun s => (fun j => [some (.one 24 [.d (.sl (rows eN q))]), some (.one 27 [.d (.int .i64 0), .d (.int .i64 0)]), some (.vec 41 1 ((tabR (setsQ l q i) q.length).set i [.raw v3])), some (.one 39 [.d (.int .i64 a), .d (.int .i64 b), .d (.int .i64 c), .d (.int .i64 d)]), some (.ob (.bag 4 1 [(v3, rows eB (twoK l.length a sx sy j))]))]) s) (fun s => (fun j => l.length - j) s) hnp 0 ?_ [some 0, some 1, some 2, some 3, some 6] ?_ ?_
 dsimp only
 omega
 dsimp only
 refine ⟨by rfl, ?_, ?_⟩
 refine fin_ ?_
 ·(repeat' apply And.intro) <;> (first | (first | (with_reducible rfl) | exact True.intro | rfl | trivial | omega | exact congrArg (OB.bag _ _) (by rw [← htz, List.take_of_length_le (by rw [minK_len]; exact Nat.le_refl _)]) | (rw [← htz, List.take_of_length_le (by rw [minK_len]; exact Nat.le_refl _)])) | exact cl_)
 refine fin_ ?_
 ·(repeat' apply And.intro) <;> (first | (first | (with_reducible rfl) | exact True.intro | rfl | trivial | omega | exact congrArg (OB.bag _ _) (by rw [← htz, List.take_of_length_le (by rw [minK_len]; exact Nat.le_refl _)]) | (rw [← htz, List.take_of_length_le (by rw [minK_len]; exact Nat.le_refl _)])) | exact cl_)
 rintro j hinv N35 h35
 dsimp only at hinv ⊢
 have j1 := hinv
 refine vc_seq_k fun N36 h36 => ?_
 refine u_reg ?_
 try refine lg_mk ?_
 refine u_bn ?_
 refine lg_nil ?_
 refine h36 _ ?_; clear h36; try clear N36
 refine vc_seq_k fun N37 h37 => ?_
 refine u_cond (fun hb38 => ?_) (fun hb38 => ?_)
 have hjl : j < l.length := by have := hb38; (try simp at this); omega
 obtain ⟨u, hue⟩ := getE (l := sx) (i := j) (by omega)
 obtain ⟨z, hze⟩ := getE (l := sy) (i := j) (by omega)
 have hud : sx.getD j false = u := by rw [List.getD_eq_getElem?_getD, hue]; rfl
 have hzd : sy.getD j false = z := by rw [List.getD_eq_getElem?_getD, hze]; rfl
 have hst : ∀ r, opV a u z = r → (rows eB (twoK l.length a sx sy j)).set j [.bool r] = rows eB (twoK l.length a sx sy (j + 1)) := fun r h => by rw [← twoK_set (v := r) (by rw [hud, hzd]; exact h)]; simp [rows, eB]
 refine vc_skip ?_
 try simp only [k_rules]
 refine h37 _ ?_; clear h37; try clear N37
 refine vc_seq_k fun N39 h39 => ?_
 refine vc_block ?_
 refine vc_seq_k fun N40 h40 => ?_
 refine u_reg ?_
 try refine lg_mk ?_
 iterate 2 refine u_mv ?_
 refine lg_nil ?_
 refine h40 _ ?_; clear h40; try clear N40
 refine vc_seq_k fun N41 h41 => ?_
 refine u_reg ?_
 try refine lg_mk ?_
 refine u_pt ?_
 refine u_ld ?_
 refine lg_nil ?_
 refine h41 _ ?_; clear h41; try clear N41
 refine vc_block ?_
 refine vc_seq_k fun N42 h42 => ?_
 refine u_reg ?_
 try refine lg_mk ?_
 refine u_bn ?_
 refine u_mv ?_
 refine lg_nil ?_
 refine h42 _ ?_; clear h42; try clear N42
 refine u_cond (fun hb43 => ?_) (fun hb43 => ?_)
 have hk14 : a = 14 := by have := hb43; (try simp at this); omega
 have hop : opV a u z = (u || z) := by unfold opV; rw [if_pos hk14]
 rcases u with _ | _
 have hst := hst z (by rw [hop]; rfl)
 have hx := And.intro @hgt (And.intro @hue (And.intro @hze (And.intro @eB.eq_1 hx0)))
 refine u_reg ?_
 try refine lg_mk ?_
 iterate 2 refine u_mv ?_
 refine u_pt ?_
 refine u_ld ?_
 iterate 3 refine u_mv ?_
 refine u_pt ?_
 refine u_ld ?_
 refine u_mv ?_
 iterate 2 refine g_mv ?_
 refine g_pt ?_
 refine g_ld ?_
 refine u_pk ?_
 refine lg_semV (by rfl) (semv_rawIx 4 0 (by first | (simp only [wB, eq_self, Nat.reduceEqDiff, reduceIte]; done) | (simp only [wB, eq_self, Nat.reduceEqDiff, reduceIte]; rfl)) (by first | trivial | simp only [wB, eq_self, Nat.reduceEqDiff, reduceIte]) (by first | (simp only [wB, eq_self, Nat.reduceEqDiff, reduceIte]; done) | (simp only [wB, eq_self, Nat.reduceEqDiff, reduceIte]; rfl)) (by first | trivial | simp only [wB, eq_self, Nat.reduceEqDiff, reduceIte]) (by simp only [wB, eq_self, Nat.reduceEqDiff, reduceIte]; rfl) rfl ⟨by omega, by rw [rows_len, twoK_len]; omega⟩ (by first | (simp only [wB, eq_self, Nat.reduceEqDiff, reduceIte, env_rules, tys, hT, tiAgg]; done) | (simp only [wB, eq_self, Nat.reduceEqDiff, reduceIte, env_rules, tys, hT, tiAgg]; rfl)) (by first | (simp only [wB, eq_self, Nat.reduceEqDiff, reduceIte, env_rules, tys, hT, tiAgg]; done) | (simp only [wB, eq_self, Nat.reduceEqDiff, reduceIte, env_rules, tys, hT, tiAgg]; rfl))) ?_
 try simp only [wB, eq_self, Nat.reduceEqDiff, reduceIte, wL, Int.toNat_natCast, Int.reduceToNat, Nat.reduceAdd, Nat.reduceMul, Nat.reduceSub, Nat.reduceLeDiff, hx]
 refine lg_sem (by rfl) (sem_rawStore 4 0 j (by first | (simp only [wB, eq_self, Nat.reduceEqDiff, reduceIte]; done) | (simp only [wB, eq_self, Nat.reduceEqDiff, reduceIte]; rfl)) (by first | trivial | simp only [wB, eq_self, Nat.reduceEqDiff, reduceIte]) (by first | (simp only [wB, eq_self, Nat.reduceEqDiff, reduceIte]; done) | (simp only [wB, eq_self, Nat.reduceEqDiff, reduceIte]; rfl)) (by first | trivial | simp only [wB, eq_self, Nat.reduceEqDiff, reduceIte]) (by simp only [wB, eq_self, Nat.reduceEqDiff, reduceIte]; rfl) rfl (by rw [rows_len, twoK_len]; omega) (by first | (simp only [wB, eq_self, Nat.reduceEqDiff, reduceIte, env_rules, tys, hT, tiAgg]; done) | (simp only [wB, eq_self, Nat.reduceEqDiff, reduceIte, env_rules, tys, hT, tiAgg]; rfl)) ?_)
 try simp only [wB, eq_self, Nat.reduceEqDiff, reduceIte, wL, Int.toNat_natCast, Int.reduceToNat, Nat.reduceAdd, Nat.reduceMul, Nat.reduceSub, Nat.reduceLeDiff, hx]
 refine lg_nil ?_
 have hx := hx0
 refine h39 _ ?_; clear h39; try clear N39
 refine u_reg ?_
 try refine lg_mk ?_
 refine u_bn ?_
 refine u_mv ?_
 refine lg_nil ?_
 refine h35 _ ⟨j + 1, ?_, ?_, [some 0, some 1, some 2, some 3, some 4], ?_⟩
 dsimp only
 omega
 dsimp only
 omega
 dsimp only
 refine ⟨by rfl, ?_, ?_⟩
 refine fin_ ?_
 ·(repeat' apply And.intro) <;> (first | (first | (with_reducible rfl) | exact True.intro | rfl | trivial | omega | exact congrArg (OB.bag _ _) (by rw [← hst]; rfl) | (rw [← hst]; rfl)) | exact cl_)
 refine fin_ ?_
 ·(repeat' apply And.intro) <;> (first | (first | (with_reducible rfl) | exact True.intro | rfl | trivial | omega | exact congrArg (OB.bag _ _) (by rw [← hst]; rfl) | (rw [← hst]; rfl)) | exact cl_)
 have hst := hst true (by rw [hop]; rfl)
 have hx := And.intro @hgt (And.intro @hue (And.intro @hze (And.intro @eB.eq_1 hx0)))
 refine u_reg ?_
 try refine lg_mk ?_
 iterate 2 refine u_mv ?_
 refine u_pt ?_
 refine u_ld ?_
 iterate 3 refine u_mv ?_
 refine u_pt ?_
 refine u_ld ?_
 refine u_mv ?_
 iterate 2 refine g_mv ?_
 refine g_pt ?_
 refine g_ld ?_
 refine u_pk ?_
 refine lg_semV (by rfl) (semv_rawIx 4 0 (by first | (simp only [wB, eq_self, Nat.reduceEqDiff, reduceIte]; done) | (simp only [wB, eq_self, Nat.reduceEqDiff, reduceIte]; rfl)) (by first | trivial | simp only [wB, eq_self, Nat.reduceEqDiff, reduceIte]) (by first | (simp only [wB, eq_self, Nat.reduceEqDiff, reduceIte]; done) | (simp only [wB, eq_self, Nat.reduceEqDiff, reduceIte]; rfl)) (by first | trivial | simp only [wB, eq_self, Nat.reduceEqDiff, reduceIte]) (by simp only [wB, eq_self, Nat.reduceEqDiff, reduceIte]; rfl) rfl ⟨by omega, by rw [rows_len, twoK_len]; omega⟩ (by first | (simp only [wB, eq_self, Nat.reduceEqDiff, reduceIte, env_rules, tys, hT, tiAgg]; done) | (simp only [wB, eq_self, Nat.reduceEqDiff, reduceIte, env_rules, tys, hT, tiAgg]; rfl)) (by first | (simp only [wB, eq_self, Nat.reduceEqDiff, reduceIte, env_rules, tys, hT, tiAgg]; done) | (simp only [wB, eq_self, Nat.reduceEqDiff, reduceIte, env_rules, tys, hT, tiAgg]; rfl))) ?_
 try simp only [wB, eq_self, Nat.reduceEqDiff, reduceIte, wL, Int.toNat_natCast, Int.reduceToNat, Nat.reduceAdd, Nat.reduceMul, Nat.reduceSub, Nat.reduceLeDiff, hx]
 refine lg_sem (by rfl) (sem_rawStore 4 0 j (by first | (simp only [wB, eq_self, Nat.reduceEqDiff, reduceIte]; done) | (simp only [wB, eq_self, Nat.reduceEqDiff, reduceIte]; rfl)) (by first | trivial | simp only [wB, eq_self, Nat.reduceEqDiff, reduceIte]) (by first | (simp only [wB, eq_self, Nat.reduceEqDiff, reduceIte]; done) | (simp only [wB, eq_self, Nat.reduceEqDiff, reduceIte]; rfl)) (by first | trivial | simp only [wB, eq_self, Nat.reduceEqDiff, reduceIte]) (by simp only [wB, eq_self, Nat.reduceEqDiff, reduceIte]; rfl) rfl (by rw [rows_len, twoK_len]; omega) (by first | (simp only [wB, eq_self, Nat.reduceEqDiff, reduceIte, env_rules, tys, hT, tiAgg]; done) | (simp only [wB, eq_self, Nat.reduceEqDiff, reduceIte, env_rules, tys, hT, tiAgg]; rfl)) ?_)
 try simp only [wB, eq_self, Nat.reduceEqDiff, reduceIte, wL, Int.toNat_natCast, Int.reduceToNat, Nat.reduceAdd, Nat.reduceMul, Nat.reduceSub, Nat.reduceLeDiff, hx]
 refine lg_nil ?_
 have hx := hx0
 refine h39 _ ?_; clear h39; try clear N39
 refine u_reg ?_
 try refine lg_mk ?_
 refine u_bn ?_
 refine u_mv ?_
 refine lg_nil ?_
 refine h35 _ ⟨j + 1, ?_, ?_, [some 0, some 1, some 2, some 3, some 4], ?_⟩
 dsimp only
 omega
 dsimp only
 omega
 dsimp only
 refine ⟨by rfl, ?_, ?_⟩
 refine fin_ ?_
 ·(repeat' apply And.intro) <;> (first | (first | (with_reducible rfl) | exact True.intro | rfl | trivial | omega | exact congrArg (OB.bag _ _) (by rw [← hst]; rfl) | (rw [← hst]; rfl)) | exact cl_)
 refine fin_ ?_
 ·(repeat' apply And.intro) <;> (first | (first | (with_reducible rfl) | exact True.intro | rfl | trivial | omega | exact congrArg (OB.bag _ _) (by rw [← hst]; rfl) | (rw [← hst]; rfl)) | exact cl_)
 have hk14 : a ≠ 14 := by have := hb43; (try simp at this); omega
 refine vc_seq_k fun N44 h44 => ?_
 refine u_reg ?_
 try refine lg_mk ?_
 refine u_bn ?_
 refine u_mv ?_
 refine lg_nil ?_
 refine h44 _ ?_; clear h44; try clear N44
 refine u_cond (fun hb45 => ?_) (fun hb45 => ?_)
 have hk15 : a = 15 := by have := hb45; (try simp at this); omega
 have hop : opV a u z = (u && z) := by unfold opV; rw [if_neg hk14, if_pos hk15]
 rcases u with _ | _
 have hst := hst false (by rw [hop]; rfl)
 have hx := And.intro @hgt (And.intro @hue (And.intro @hze (And.intro @eB.eq_1 hx0)))
 refine u_reg ?_
 try refine lg_mk ?_
 iterate 2 refine u_mv ?_
 refine u_pt ?_
 refine u_ld ?_
 iterate 3 refine u_mv ?_
 refine u_pt ?_
 refine u_ld ?_
 refine u_mv ?_
 iterate 2 refine g_mv ?_
 refine g_pt ?_
 refine g_ld ?_
 refine u_pk ?_
 refine lg_semV (by rfl) (semv_rawIx 4 0 (by first | (simp only [wB, eq_self, Nat.reduceEqDiff, reduceIte]; done) | (simp only [wB, eq_self, Nat.reduceEqDiff, reduceIte]; rfl)) (by first | trivial | simp only [wB, eq_self, Nat.reduceEqDiff, reduceIte]) (by first | (simp only [wB, eq_self, Nat.reduceEqDiff, reduceIte]; done) | (simp only [wB, eq_self, Nat.reduceEqDiff, reduceIte]; rfl)) (by first | trivial | simp only [wB, eq_self, Nat.reduceEqDiff, reduceIte]) (by simp only [wB, eq_self, Nat.reduceEqDiff, reduceIte]; rfl) rfl ⟨by omega, by rw [rows_len, twoK_len]; omega⟩ (by first | (simp only [wB, eq_self, Nat.reduceEqDiff, reduceIte, env_rules, tys, hT, tiAgg]; done) | (simp only [wB, eq_self, Nat.reduceEqDiff, reduceIte, env_rules, tys, hT, tiAgg]; rfl)) (by first | (simp only [wB, eq_self, Nat.reduceEqDiff, reduceIte, env_rules, tys, hT, tiAgg]; done) | (simp only [wB, eq_self, Nat.reduceEqDiff, reduceIte, env_rules, tys, hT, tiAgg]; rfl))) ?_
 try simp only [wB, eq_self, Nat.reduceEqDiff, reduceIte, wL, Int.toNat_natCast, Int.reduceToNat, Nat.reduceAdd, Nat.reduceMul, Nat.reduceSub, Nat.reduceLeDiff, hx]
 refine lg_sem (by rfl) (sem_rawStore 4 0 j (by first | (simp only [wB, eq_self, Nat.reduceEqDiff, reduceIte]; done) | (simp only [wB, eq_self, Nat.reduceEqDiff, reduceIte]; rfl)) (by first | trivial | simp only [wB, eq_self, Nat.reduceEqDiff, reduceIte]) (by first | (simp only [wB, eq_self, Nat.reduceEqDiff, reduceIte]; done) | (simp only [wB, eq_self, Nat.reduceEqDiff, reduceIte]; rfl)) (by first | trivial | simp only [wB, eq_self, Nat.reduceEqDiff, reduceIte]) (by simp only [wB, eq_self, Nat.reduceEqDiff, reduceIte]; rfl) rfl (by rw [rows_len, twoK_len]; omega) (by first | (simp only [wB, eq_self, Nat.reduceEqDiff, reduceIte, env_rules, tys, hT, tiAgg]; done) | (simp only [wB, eq_self, Nat.reduceEqDiff, reduceIte, env_rules, tys, hT, tiAgg]; rfl)) ?_)
 try simp only [wB, eq_self, Nat.reduceEqDiff, reduceIte, wL, Int.toNat_natCast, Int.reduceToNat, Nat.reduceAdd, Nat.reduceMul, Nat.reduceSub, Nat.reduceLeDiff, hx]
 refine lg_nil ?_
 have hx := hx0
 refine h39 _ ?_; clear h39; try clear N39
 refine u_reg ?_
 try refine lg_mk ?_
 refine u_bn ?_
 refine u_mv ?_
 refine lg_nil ?_
 refine h35 _ ⟨j + 1, ?_, ?_, [some 0, some 1, some 2, some 3, some 4], ?_⟩
 dsimp only
 omega
 dsimp only
 omega
 dsimp only
 refine ⟨by rfl, ?_, ?_⟩
 refine fin_ ?_
 ·(repeat' apply And.intro) <;> (first | (first | (with_reducible rfl) | exact True.intro | rfl | trivial | omega | exact congrArg (OB.bag _ _) (by rw [← hst]; rfl) | (rw [← hst]; rfl)) | exact cl_)
 refine fin_ ?_
 ·(repeat' apply And.intro) <;> (first | (first | (with_reducible rfl) | exact True.intro | rfl | trivial | omega | exact congrArg (OB.bag _ _) (by rw [← hst]; rfl) | (rw [← hst]; rfl)) | exact cl_)
 have hst := hst z (by rw [hop]; rfl)
 have hx := And.intro @hgt (And.intro @hue (And.intro @hze (And.intro @eB.eq_1 hx0)))
 refine u_reg ?_
 try refine lg_mk ?_
 iterate 2 refine u_mv ?_
 refine u_pt ?_
 refine u_ld ?_
 iterate 3 refine u_mv ?_
 refine u_pt ?_
 refine u_ld ?_
 refine u_mv ?_
 iterate 2 refine g_mv ?_
 refine g_pt ?_
 refine g_ld ?_
 refine u_pk ?_
 refine lg_semV (by rfl) (semv_rawIx 4 0 (by first | (simp only [wB, eq_self, Nat.reduceEqDiff, reduceIte]; done) | (simp only [wB, eq_self, Nat.reduceEqDiff, reduceIte]; rfl)) (by first | trivial | simp only [wB, eq_self, Nat.reduceEqDiff, reduceIte]) (by first | (simp only [wB, eq_self, Nat.reduceEqDiff, reduceIte]; done) | (simp only [wB, eq_self, Nat.reduceEqDiff, reduceIte]; rfl)) (by first | trivial | simp only [wB, eq_self, Nat.reduceEqDiff, reduceIte]) (by simp only [wB, eq_self, Nat.reduceEqDiff, reduceIte]; rfl) rfl ⟨by omega, by rw [rows_len, twoK_len]; omega⟩ (by first | (simp only [wB, eq_self, Nat.reduceEqDiff, reduceIte, env_rules, tys, hT, tiAgg]; done) | (simp only [wB, eq_self, Nat.reduceEqDiff, reduceIte, env_rules, tys, hT, tiAgg]; rfl)) (by first | (simp only [wB, eq_self, Nat.reduceEqDiff, reduceIte, env_rules, tys, hT, tiAgg]; done) | (simp only [wB, eq_self, Nat.reduceEqDiff, reduceIte, env_rules, tys, hT, tiAgg]; rfl))) ?_
 try simp only [wB, eq_self, Nat.reduceEqDiff, reduceIte, wL, Int.toNat_natCast, Int.reduceToNat, Nat.reduceAdd, Nat.reduceMul, Nat.reduceSub, Nat.reduceLeDiff, hx]
 refine lg_sem (by rfl) (sem_rawStore 4 0 j (by first | (simp only [wB, eq_self, Nat.reduceEqDiff, reduceIte]; done) | (simp only [wB, eq_self, Nat.reduceEqDiff, reduceIte]; rfl)) (by first | trivial | simp only [wB, eq_self, Nat.reduceEqDiff, reduceIte]) (by first | (simp only [wB, eq_self, Nat.reduceEqDiff, reduceIte]; done) | (simp only [wB, eq_self, Nat.reduceEqDiff, reduceIte]; rfl)) (by first | trivial | simp only [wB, eq_self, Nat.reduceEqDiff, reduceIte]) (by simp only [wB, eq_self, Nat.reduceEqDiff, reduceIte]; rfl) rfl (by rw [rows_len, twoK_len]; omega) (by first | (simp only [wB, eq_self, Nat.reduceEqDiff, reduceIte, env_rules, tys, hT, tiAgg]; done) | (simp only [wB, eq_self, Nat.reduceEqDiff, reduceIte, env_rules, tys, hT, tiAgg]; rfl)) ?_)
 try simp only [wB, eq_self, Nat.reduceEqDiff, reduceIte, wL, Int.toNat_natCast, Int.reduceToNat, Nat.reduceAdd, Nat.reduceMul, Nat.reduceSub, Nat.reduceLeDiff, hx]
 refine lg_nil ?_
 have hx := hx0
 refine h39 _ ?_; clear h39; try clear N39
 refine u_reg ?_
 try refine lg_mk ?_
 refine u_bn ?_
 refine u_mv ?_
 refine lg_nil ?_
 refine h35 _ ⟨j + 1, ?_, ?_, [some 0, some 1, some 2, some 3, some 4], ?_⟩
 dsimp only
 omega
 dsimp only
 omega
 dsimp only
 refine ⟨by rfl, ?_, ?_⟩
 refine fin_ ?_
 ·(repeat' apply And.intro) <;> (first | (first | (with_reducible rfl) | exact True.intro | rfl | trivial | omega | exact congrArg (OB.bag _ _) (by rw [← hst]; rfl) | (rw [← hst]; rfl)) | exact cl_)
 refine fin_ ?_
 ·(repeat' apply And.intro) <;> (first | (first | (with_reducible rfl) | exact True.intro | rfl | trivial | omega | exact congrArg (OB.bag _ _) (by rw [← hst]; rfl) | (rw [← hst]; rfl)) | exact cl_)
 have hk15 : a ≠ 15 := by have := hb45; (try simp at this); omega
 have hsame := twoK_same (n := l.length) (x := sx) (y := sy) (j := j) hk14 hk15
 refine vc_skip ?_
 try simp only [k_rules]
 refine h39 _ ?_; clear h39; try clear N39
 refine u_reg ?_
 try refine lg_mk ?_
 refine u_bn ?_
 refine u_mv ?_
 refine lg_nil ?_
 refine h35 _ ⟨j + 1, ?_, ?_, [some 0, some 1, some 2, some 3, some 4], ?_⟩
 dsimp only
 omega
 dsimp only
 omega
 dsimp only
 refine ⟨by rfl, ?_, ?_⟩
 refine fin_ ?_
 ·(repeat' apply And.intro) <;> (first | (first | (with_reducible rfl) | exact True.intro | rfl | trivial | omega | exact congrArg (OB.bag _ _) (by rw [hsame]) | (rw [hsame])) | exact cl_)
 refine fin_ ?_
 ·(repeat' apply And.intro) <;> (first | (first | (with_reducible rfl) | exact True.intro | rfl | trivial | omega | exact congrArg (OB.bag _ _) (by rw [hsame]) | (rw [hsame])) | exact cl_)
 obtain rfl : j = l.length := by have := hb38; (try simp at this); omega
 refine vc_exit ?_
 simp only [k_rules, Nat.reduceEqDiff, reduceIte, eq_self]
 refine h17 _ ?_; clear h17; try clear N17
 refine vc_freeze1 2 4 i rfl (v := v3) rfl (hgt v3) rfl (by decide) ?_
 simp only [kilL, updL, List.set, List.cons_append, List.nil_append, List.mem_cons, List.not_mem_nil, or_false, Nat.reduceEqDiff, reduceIte]
 refine u_reg ?_
 try refine lg_mk ?_
 refine u_bn ?_
 refine u_mv ?_
 refine lg_nil ?_
 refine h13 _ ⟨i + 1, ?_, ?_, [some 0, some 1, some 2], ?_⟩
 dsimp only
 omega
 dsimp only
 omega
 dsimp only
 refine ⟨by rfl, ?_, ?_⟩
 refine fin_ ?_
 ·(repeat' apply And.intro) <;> (first | (first | (with_reducible rfl) | exact True.intro | trivial | omega | (rw [hput, hnext, hN]; done) | (rw [hput0, hnext, hN]; done)) | exact cl_)
 refine fin_ ?_
 ·(repeat' apply And.intro) <;> (first | (first | (with_reducible rfl) | exact True.intro | trivial | omega | (rw [hput, hnext, hN]; done) | (rw [hput0, hnext, hN]; done)) | exact cl_)
 obtain rfl : i = q.length := by have := hb16; (try simp at this); omega
 have hSl := setsQ_len l q q.length
 obtain ⟨sx, hsx⟩ := getE (l := setsQ l q q.length) (i := q.length - 1) (by omega)
 have htg := tab_get (n := q.length) hsx
 have hqm : ((q.length : Int) - 1).toNat = q.length - 1 := by omega
 have hsd : (setsQ l q q.length).getD (q.length - 1) [] = sx := by rw [List.getD_eq_getElem?_getD, hsx]; rfl
 refine vc_exit ?_
 simp only [k_rules, Nat.reduceEqDiff, reduceIte, eq_self]
 refine h11 _ ?_; clear h11; try clear N11
 refine vc_seq_k fun N46 h46 => ?_
 have hx := And.intro @hqm (And.intro @htg hx0)
 refine u_reg ?_
 try refine lg_mk ?_
 iterate 2 refine u_mv ?_
 refine u_ln ?_
 refine u_bn ?_
 refine u_pt ?_
 refine u_ld ?_
 refine u_bd ?_
 refine u_mv ?_
 refine u_st ?_
 refine lg_nil ?_
 have hx := hx0
 refine h46 _ ?_; clear h46; try clear N46
 refine vc_ret ?_
 try simp only [k_rules]
 have hr : evV l q = (0, 0, sx) := by unfold evV; rw [if_neg (by rw [hh]; simp), if_neg (by rw [hvq]; simp), hsd]
 rw [hr]
 refine fin2_ ?_
 exact cl_
 have hvb : (decide ((valQ q).1 = 0) && decide ((valQ q).2 = 0)) = false := pair_ne hvq
 have hx := And.intro @hvb hx0
 refine u_reg ?_
 try refine lg_mk ?_
 refine u_ld ?_
 refine u_bd ?_
 refine u_bn ?_
 refine lg_nil ?_
 have hx := hx0
 refine h8 _ ?_; clear h8; try clear N8
 refine u_cond (fun hb47 => ?_) (fun hb47 => ?_)
 refine vc_seq_k fun N48 h48 => ?_
 refine u_reg ?_
 try refine lg_mk ?_
 refine u_pt ?_
 refine u_ld ?_
 refine u_bd ?_
 refine u_mv ?_
 refine u_st ?_
 refine lg_nil ?_
 refine h48 _ ?_; clear h48; try clear N48
 refine vc_ret ?_
 try simp only [k_rules]
 have hr : evV l q = ((valQ q).1, -2, []) := by unfold evV; rw [if_neg (by rw [hh]; simp), if_pos hvq]
 rw [hr]
 refine fin2_ ?_
 exact cl_
 ·first | omega | exact absurd trivial hb47 | contradiction | (simp_all; done)
 have hhb : (decide ((histF l).1 = 0) && decide ((histF l).2 = 0)) = false := pair_ne hh
 have hx := And.intro @hhb hx0
 refine u_reg ?_
 try refine lg_mk ?_
 refine u_ld ?_
 refine u_bd ?_
 refine u_bn ?_
 refine lg_nil ?_
 have hx := hx0
 refine h4 _ ?_; clear h4; try clear N4
 refine u_cond (fun hb49 => ?_) (fun hb49 => ?_)
 refine vc_seq_k fun N50 h50 => ?_
 refine u_reg ?_
 try refine lg_mk ?_
 refine u_ld ?_
 refine u_mv ?_
 refine u_st ?_
 refine lg_nil ?_
 refine h50 _ ?_; clear h50; try clear N50
 refine vc_ret ?_
 try simp only [k_rules]
 have hr : evV l q = ((histF l).1, (histF l).2, []) := by unfold evV; rw [if_pos hh]
 rw [hr]
 refine fin2_ ?_
 exact cl_
 ·first | omega | exact absurd trivial hb49 | contradiction | (simp_all; done)
 cases hg

def E_ev : Env Tryd.prog := E_minf.add 23 (Spec.pure evG) ev_meets (by kernel_rfl)
end Go.Proofs.YtlbjffdaooadoaaDoor
