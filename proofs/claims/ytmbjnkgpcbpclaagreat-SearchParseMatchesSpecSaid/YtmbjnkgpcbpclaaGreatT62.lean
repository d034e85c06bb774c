/- Walks, printed by wip/gen/walk.py. -/
import Derived.Test.YtmbjnkgpcbpclaaGreatT61
import Derived.Test.YtmbjnkgpcbpclaaGreatRep6
import Derived.Test.YtmbjnkgpcbpclaaGreatV5
set_option linter.all false
set_option maxRecDepth 100000
set_option maxHeartbeats 4000000
namespace Go.Proofs.YtmbjnkgpcbpclaaGreat
open Go Go.Vc Go.RowKit
def isE (c : UInt8) : Bool := decide (c = 34) || decide (c = 92)
def esc1 (c : UInt8) : Bs := if isE c then [92, c] else [c]
def esc (s : Bs) : Bs := s.flatMap esc1
def nE (s : Bs) : Nat := s.countP isE
theorem esc_len (s : Bs) : (esc s).length = s.length + nE s := by
  induction s with
  | nil => rfl
  | cons c s ih =>
    unfold esc nE at *
    rw [List.flatMap_cons, List.length_append, ih, List.countP_cons, List.length_cons]
    unfold esc1
    by_cases h : isE c = true
    · rw [if_pos h, if_pos h]; simp; omega
    · rw [if_neg h, if_neg h]; simp; omega
theorem esc_snoc (s : Bs) (c : UInt8) : esc (s ++ [c]) = esc s ++ esc1 c := by simp [esc]
theorem nE_snoc (s : Bs) (c : UInt8) : nE (s ++ [c]) = nE s + (if isE c then 1 else 0) := by
  unfold nE; rw [List.countP_append]; simp [List.countP_cons]
theorem nE_two (s : Bs) : nE s = s.count 34 + s.count 92 := by
  unfold nE
  induction s with
  | nil => rfl
  | cons c s ih =>
    rw [List.countP_cons, List.count_cons, List.count_cons, ih]
    unfold isE
    by_cases h1 : c = 34
    · subst h1; simp; omega
    · by_cases h2 : c = 92
      · subst h2; simp; omega
      · simp [h1, h2]
theorem nE_none {s : Bs} (h : nE s = 0) : esc s = s := by
  unfold nE at h
  rw [List.countP_eq_zero] at h
  unfold esc
  induction s with
  | nil => rfl
  | cons c s ih =>
    rw [List.flatMap_cons, ih fun a ha => h a (List.mem_cons_of_mem _ ha)]
    unfold esc1
    rw [if_neg (h c List.mem_cons_self)]; rfl
theorem take_snoc {s : Bs} {i : Nat} {c : UInt8} (h : s[i]? = some c) : s.take (i + 1) = s.take i ++ [c] := by rw [List.take_add_one, h]; rfl
theorem nE_take {s : Bs} {i : Nat} (h : i ≤ s.length) : nE (s.take i) ≤ i := by
  unfold nE
  have := List.countP_le_length (p := isE) (l := s.take i)
  rw [List.length_take] at this; omega
theorem nE_le (s : Bs) (i : Nat) : nE (s.take i) ≤ nE s := by
  unfold nE
  conv => rhs; rw [← List.take_append_drop i s]
  rw [List.countP_append]; omega
def tabD (f : Nat) : D := if f = 34 then .sl (rows eU [92, 34]) else if f = 92 then .sl (rows eU [92, 92]) else .nils
def rcells : List D := (List.range 256).map tabD ++ [.sl (rows eT [[34], [92]])]
theorem rc_len : rcells.length = 257 := by simp [rcells]
theorem rc_at (c : UInt8) : rcells[c.toNat]? = some (if isE c then .sl (rows eU [92, c]) else .nils) := by
  have hc : c.toNat < 256 := c.toNat_lt
  unfold rcells
  rw [List.getElem?_append_left (by simpa using hc), List.getElem?_map, List.getElem?_range hc]
  show some (tabD c.toNat) = _
  unfold tabD isE
  by_cases h1 : c = 34
  · subst h1; rfl
  · by_cases h2 : c = 92
    · subst h2; rfl
    · rw [if_neg (fun h => h1 (by rw [← UInt8.toNat_inj]; exact h)), if_neg (fun h => h2 (by rw [← UInt8.toNat_inj]; exact h))]
      simp [h1, h2]
theorem rc_last : rcells[256]? = some (.sl (rows eT [[34], [92]])) := by
  unfold rcells
  rw [List.getElem?_append_right (by simp)]; simp
def cT (s : Bs) : Nat → Nat
  | 0 => 0
  | 1 => s.count 34
  | _ => nE s
def cntG : List AV → Option (Prop × AV)
  | [.d (.str s), .d (.str [c])] => some (True, .d (.int .i64 ((s.count c : Nat) : Int)))
  | _ => none
theorem str2' {P : Program} {f : FuncId} [Far] {w : World} {S : Lays} {n : Nat} {vs : List Value} {s q : Bs} (hl : vs.length = [AV.d (.str s), AV.d (.str q)].length) (hr : ∀ (i : Nat) (c : AV) (u : Value), [AV.d (.str s), AV.d (.str q)][i]? = some c → vs[i]? = some u → R w S n c u) : vs = [.string ⟨s.toArray⟩, .string ⟨q.toArray⟩] := by
  match vs, hl with
  | [a, b], _ =>
    have h1 := R.str_iff.1 (hr 0 _ _ rfl rfl)
    have h2 := R.str_iff.1 (hr 1 _ _ rfl rfl)
    rw [h1, h2]
theorem cnt_meets : Meets Tryz.prog 180 (Spec.pure cntG) := by
 refine meets_below fun args p r hg hp F H n w S vs hH hl hr => ?_
 unfold cntG at hg
 split at hg
 ·rename_i s c
  simp only [Option.some.injEq, Prod.mk.injEq] at hg
  obtain ⟨rfl, rfl⟩ := hg
  rw [str2' (P := Tryz.prog) (f := 0) hl hr]
  refine (Tryz.Rep.countOne ⟨s.toArray⟩ c w).mono ?_
  rintro e w' ⟨rfl, rfl⟩
  exact ⟨_, rfl, Go.RowKit.Below.refl _ _, R.mkInt _ _⟩
 ·cases hg
def bsrG : List AV → Option (Prop × AV)
  | [.d (.ptr cs), .d (.str s)] => some (cs = rcells ∧ s.length ≤ 1000000, .d (.str (esc s)))
  | _ => none
def zeU (n : Nat) : Bs := List.replicate n 0
def bufE (s : Bs) (i : Nat) : Bs := esc (s.take i) ++ zeU ((esc s).length - (esc (s.take i)).length)
theorem esc_take_le (s : Bs) (i : Nat) : (esc (s.take i)).length ≤ (esc s).length := by
  rw [esc_len, esc_len, List.length_take]; have := nE_le s i; omega
theorem bufE_len (s : Bs) (i : Nat) : (bufE s i).length = (esc s).length := by
  unfold bufE zeU; rw [List.length_append, List.length_replicate]; have := esc_take_le s i; omega
theorem bufE_zero (s : Bs) : bufE s 0 = zeU (esc s).length := by simp [bufE, esc]
theorem bufE_end (s : Bs) : bufE s s.length = esc s := by simp [bufE, zeU]
theorem splice_map {α β : Type} (f : α → β) (xs : List α) (o : Nat) (ys : List α) : splice (xs.map f) o (ys.map f) = (splice xs o ys).map f := by simp [splice]
theorem bufE_put {s : Bs} {i : Nat} {c : UInt8} (h : s[i]? = some c) : splice (bufE s i) (esc (s.take i)).length (esc1 c) = bufE s (i + 1) := by
  have h1 := esc_take_le s (i + 1)
  unfold bufE
  rw [take_snoc h, esc_snoc] at *
  generalize esc (s.take i) = A at *
  generalize (esc s).length = n at *
  generalize esc1 c = b at *
  rw [List.length_append] at h1
  unfold splice zeU
  rw [List.take_left, List.drop_append, List.drop_of_length_le (by omega), List.nil_append, List.drop_replicate, List.length_append]
  congr 1
  congr 1
  omega
theorem bufE_two {s : Bs} {i : Nat} {c : UInt8} (h : s[i]? = some c) (he : isE c = true) : splice (rows eU (bufE s i)) (esc (s.take i)).length (rows eU [92, c]) = rows eU (bufE s (i + 1)) := by
  unfold rows; rw [splice_map, ← bufE_put h]; unfold esc1; rw [if_pos he]
theorem bufE_one {s : Bs} {i : Nat} {c : UInt8} (h : s[i]? = some c) (he : ¬isE c = true) : (rows eU (bufE s i)).set (esc (s.take i)).length (eU c) = rows eU (bufE s (i + 1)) := by
  have hl : (esc (s.take i)).length < (bufE s i).length := by
    rw [bufE_len]
    have h1 := esc_take_le s (i + 1)
    rw [take_snoc h, esc_snoc, List.length_append] at h1
    unfold esc1 at h1; rw [if_neg he] at h1; simp at h1; omega
  rw [← bufE_put h]
  unfold rows
  rw [← List.map_set]
  congr 1
  unfold esc1 splice
  rw [if_neg he, List.set_eq_take_append_cons_drop, if_pos hl]; simp
theorem escl_snoc {s : Bs} {i : Nat} {c : UInt8} (h : s[i]? = some c) : (esc (s.take (i + 1))).length = (esc (s.take i)).length + (if isE c then 2 else 1) := by
  rw [take_snoc h, esc_snoc, List.length_append]; unfold esc1; split <;> rfl
theorem rc_two (c : UInt8) : (isE c = true ∧ rcells[c.toNat * 1]? = some (.sl (rows eU [92, c]))) ∨ (isE c = false ∧ rcells[c.toNat * 1]? = some .nils) := by
  rw [Nat.mul_one]
  rw [rc_at c]
  cases isE c
  · exact .inr ⟨rfl, rfl⟩
  · exact .inl ⟨rfl, rfl⟩
theorem rc_34 : rcells[34]? = some (.sl (rows eU [92, 34])) := rc_at 34
theorem rc_92 : rcells[92]? = some (.sl (rows eU [92, 92])) := rc_at 92
theorem nE_next {s : Bs} {i : Nat} {c : UInt8} (h : s[i]? = some c) : nE (s.take (i + 1)) = nE (s.take i) + (if isE c then 1 else 0) := by rw [take_snoc h, nE_snoc]
theorem cT_2 (s : Bs) : cT s 2 = s.count 34 + s.count 92 := nE_two s
theorem zeU_rows (n : Nat) : List.replicate n [D.int .u8 0] = rows eU (zeU n) := by simp [rows, zeU, eU]

def E_cnt : Env Tryz.prog := E_sqe.add 180 (Spec.pure cntG) cnt_meets (by kernel_rfl)

theorem bsr_meets : Meets Tryz.prog 178 (Spec.pure bsrG) := by
 refine meets_fun (E_cnt.at_ 122) Tryz.func178 rfl rfl rfl ?_
 intro args p r hg hp
 unfold bsrG at hg
 split at hg
 rename_i cs z
 simp only [Option.some.injEq, Prod.mk.injEq] at hg
 obtain ⟨rfl, rfl⟩ := hg
 obtain ⟨rfl, hs⟩ := hp
 have hne := nE_take (Nat.le_refl z.length)
 rw [List.take_length] at hne
 have hel := esc_len z
 have hT : (E_cnt).X = T := rfl
 have hx0 := And.intro @rc_last (And.intro @rc_len (And.intro @rect_eU (And.intro @rect_eT (And.intro @dec_t (And.intro @dec_f @Tryz.results178)))))
 have hx := hx0
 refine ⟨by rfl, ?_⟩
 intro F W0 hnp hmk
 refine vc_seq_k fun N1 h1 => ?_
 refine u_reg ?_
 try refine lg_mk ?_
 refine u_mv ?_
 refine lg_nil ?_
 refine h1 _ ?_; clear h1; try clear N1
 refine vc_seq_k fun N2 h2 => ?_
 refine u_reg ?_
 try refine lg_mk ?_
 refine u_mv ?_
 refine u_ln ?_
 refine u_mv ?_
 refine lg_nil ?_
 refine h2 _ ?_; clear h2; try clear N2
 refine vc_seq_k fun N3 h3 => ?_
 refine u_reg ?_
 try refine lg_mk ?_
 refine u_mv ?_
 refine lg_nil ?_
 refine h3 _ ?_; clear h3; try clear N3
 refine vc_seq_m (σ := Unit) (fun s => (fun u => True) s)
  (fun s => (fun u => [(0, .d (.ptr rcells)), (1, .d (.str z)), (5, .d (.int .i64 ((z.length + nE z : Nat) : Int))), (6, .d (.bool (decide (nE z ≠ 0))))]) s)
  (fun s => (fun u => []) s) hnp ?_ ?_
 rintro u hinv
 dsimp only at hinv ⊢
 refine vc_seq_k fun N5 h5 => ?_
 refine vc_seq_k fun N6 h6 => ?_
 refine u_reg ?_
 try refine lg_mk ?_
 refine u_mv ?_
 refine u_un ?_
 refine lg_nil ?_
 refine h6 _ ?_; clear h6; try clear N6
 refine u_cond (fun hb7 => ?_) (fun hb7 => ?_)
 refine vc_seq_k fun N8 h8 => ?_
 refine u_reg ?_
 try refine lg_mk ?_
 iterate 2 refine u_mv ?_
 refine lg_nil ?_
 refine h8 _ ?_; clear h8; try clear N8
 refine vc_ret ?_
 try simp only [k_rules]
 have h0 : nE z = 0 := by have := hb7; simpa using this
 rw [nE_none h0]
 refine fin2_ ?_
 exact cl_
 have hbz := bufE_zero z
 have hzr := zeU_rows (esc z).length
 refine vc_skip ?_
 try simp only [k_rules]
 refine h5 _ ?_; clear h5; try clear N5
 refine vc_seq_k fun N9 h9 => ?_
 refine u_reg ?_
 try refine lg_mk ?_
 refine u_mv ?_
 refine u_ms ?_
 refine u_mv ?_
 refine lg_nil ?_
 refine h9 _ ?_; clear h9; try clear N9
 refine vc_seq_k fun N10 h10 => ?_
 refine u_reg ?_
 try refine lg_mk ?_
 refine u_mv ?_
 refine lg_nil ?_
 refine h10 _ ?_; clear h10; try clear N10
 refine vc_seq_k fun N11 h11 => ?_
 refine vc_seq_k fun N12 h12 => ?_
 refine u_reg ?_
 try refine lg_mk ?_
 refine u_mv ?_
 refine lg_nil ?_
 refine h12 _ ?_; clear h12; try clear N12
 refine vc_block ?_
 refine vc_loop_mk (σ := Nat) (fun s => (fun i => i ≤ z.length) s)
  (fun s => (fun i => [(0, .d (.ptr rcells)), (1, .d (.str z)), (12, .sl 0 0 (esc z).length), (13, .d (.int .i64 ((esc (z.take i)).length : Nat))), (14, .d (.int .i64 (i : Nat)))]) s)
  (fun s => (fun i => [some (.vec 5 1 (rows eU (bufE z i)))]) s) (fun s => (fun i => z.length - i) s) hnp 0 ?_ [some 0] ?_ ?_
 dsimp only
 omega
 dsimp only
 refine ⟨by rfl, ?_, ?_⟩
 refine fin_ ?_
 ·(repeat' apply And.intro) <;> (first | (first | rfl | trivial | omega | (rw [hbz, ← hzr, hel]; done) | exact Or.inl rfl) | exact cl_)
 refine fin_ ?_
 ·(repeat' apply And.intro) <;> (first | (first | rfl | trivial | omega | (rw [hbz, ← hzr, hel]; done) | exact Or.inl rfl) | exact cl_)
 rintro i hinv N13 h13
 dsimp only at hinv ⊢
 have i1 := hinv
 refine vc_seq_k fun N14 h14 => ?_
 refine vc_seq_k fun N15 h15 => ?_
 refine u_reg ?_
 try refine lg_mk ?_
 iterate 2 refine u_mv ?_
 refine u_ln ?_
 refine u_bn ?_
 refine lg_nil ?_
 refine h15 _ ?_; clear h15; try clear N15
 refine u_cond (fun hb16 => ?_) (fun hb16 => ?_)
 have hiz : i < z.length := by have := hb16; (try simp at this); omega
 obtain ⟨c, hce⟩ := getE (l := z) (i := i) hiz
 have hnn := nE_next hce
 have hc256 := c.toNat_lt
 have hel2 := escl_snoc hce
 have hll := nE_le z (i + 1)
 have hb3 := esc_take_le z (i + 1)
 have hbl := bufE_len z i
 have hbu : (rows eU (bufE z i)).length = (esc z).length := by rw [rows_len, hbl]
 refine vc_skip ?_
 try simp only [k_rules]
 refine h14 _ ?_; clear h14; try clear N14
 refine vc_seq_k fun N17 h17 => ?_
 refine vc_block ?_
 refine vc_seq_k fun N18 h18 => ?_
 have hx := And.intro @hce hx0
 refine u_reg ?_
 try refine lg_mk ?_
 iterate 2 refine u_mv ?_
 refine u_pt ?_
 refine u_mv ?_
 refine lg_nil ?_
 have hx := hx0
 refine h18 _ ?_; clear h18; try clear N18
 refine vc_seq_k fun N19 h19 => ?_
 rcases rc_two c with ⟨he, hrc⟩ | ⟨he, hrc⟩
 rw [if_pos he] at hnn hel2
 have hl2 : (rows eU [92, c]).length = 2 := rfl
 have hx := And.intro @hrc hx0
 refine u_reg ?_
 try refine lg_mk ?_
 iterate 2 refine u_mv ?_
 refine u_nl ?_
 iterate 2 refine u_pt ?_
 refine u_ld ?_
 refine lg_sem (by rfl) (sem_nenil (by first | (simp only [wB, eq_self, Nat.reduceEqDiff, reduceIte]; done) | (simp only [wB, eq_self, Nat.reduceEqDiff, reduceIte]; rfl)) (by first | trivial | simp only [wB, eq_self, Nat.reduceEqDiff, reduceIte]) (by first | (simp only [wB, eq_self, Nat.reduceEqDiff, reduceIte, env_rules, tys, hT, tiAgg]; done) | (simp only [wB, eq_self, Nat.reduceEqDiff, reduceIte, env_rules, tys, hT, tiAgg]; rfl)) (by first | (simp only [slA, wB, eq_self, Nat.reduceEqDiff, reduceIte]; done) | (simp only [slA, wB, eq_self, Nat.reduceEqDiff, reduceIte]; rfl)) fun z_r27_6 hz_r27_6 hz_r27_6' => ?_)
 refine lg_nil ?_
 have hx := hx0
 refine h19 _ ?_; clear h19; try clear N19
 refine u_cond (fun hb20 => ?_) (fun hb20 => ?_)
 have hx := And.intro @hrc hx0
 refine u_reg ?_
 try refine lg_mk ?_
 iterate 3 refine u_mv ?_
 refine u_sl ?_
 iterate 2 refine u_mv ?_
 refine u_nl ?_
 iterate 2 refine u_pt ?_
 refine u_ld ?_
 refine lg_sem (by rfl) (sem_copy (by first | (simp only [wB, eq_self, Nat.reduceEqDiff, reduceIte]; done) | (simp only [wB, eq_self, Nat.reduceEqDiff, reduceIte]; rfl)) (by first | trivial | simp only [wB, eq_self, Nat.reduceEqDiff, reduceIte]) (by simp only [wB, eq_self, Nat.reduceEqDiff, reduceIte]; rfl) (by first | (simp only [wB, eq_self, Nat.reduceEqDiff, reduceIte, env_rules, tys, hT, tiAgg]; done) | (simp only [wB, eq_self, Nat.reduceEqDiff, reduceIte, env_rules, tys, hT, tiAgg]; rfl)) (by first | (simp only [wB, eq_self, Nat.reduceEqDiff, reduceIte, env_rules, tys, hT, tiAgg]; done) | (simp only [wB, eq_self, Nat.reduceEqDiff, reduceIte, env_rules, tys, hT, tiAgg]; rfl)) rfl (by first | (simp only [wB, eq_self, Nat.reduceEqDiff, reduceIte]; done) | (simp only [wB, eq_self, Nat.reduceEqDiff, reduceIte]; rfl)) (by first | trivial | simp only [wB, eq_self, Nat.reduceEqDiff, reduceIte]) (by simp only [rowsSrc, wB, eq_self, Nat.reduceEqDiff, reduceIte, wL, Int.toNat_natCast, Int.reduceToNat, Nat.reduceAdd, Nat.reduceMul, Nat.reduceSub, Nat.reduceLeDiff, hx]; rfl) (by (first | (first | exact rect_eU _ | exact True.intro | (rw [hbu]; omega) | omega) | exact sd_)) (by (first | (first | exact rect_eU _ | exact True.intro | (rw [hbu]; omega) | omega) | exact sd_)) (by (first | (first | exact rect_eU _ | exact True.intro | (rw [hbu]; omega) | omega) | exact sd_)) ?_)
 try simp only [wB, eq_self, Nat.reduceEqDiff, reduceIte, wL, Int.toNat_natCast, Int.reduceToNat, Nat.reduceAdd, Nat.reduceMul, Nat.reduceSub, Nat.reduceLeDiff, hx]
 refine u_bn ?_
 refine u_mv ?_
 refine lg_nil ?_
 have hx := hx0
 refine h17 _ ?_; clear h17; try clear N17
 refine u_reg ?_
 try refine lg_mk ?_
 refine u_mv ?_
 refine u_bn ?_
 refine u_mv ?_
 refine lg_nil ?_
 have hst := bufE_two hce he
 have htk : List.take ((esc z).length - (esc (z.take i)).length) [92, c] = [92, c] := List.take_of_length_le (by show 2 ≤ _; omega)
 have hmin : min 2 ((esc z).length - (esc (z.take i)).length) = 2 := by omega
 refine h13 _ ⟨i + 1, ?_, ?_, [some 0], ?_⟩
 dsimp only
 omega
 dsimp only
 omega
 dsimp only
 refine ⟨by rfl, ?_, ?_⟩
 refine fin_ ?_
 ·(repeat' apply And.intro) <;> (first | (first | (rw [htk, hst]; done) | (left; rw [hmin, hel2]; rfl) | rfl | trivial | omega | (rw [hst]; done) | exact Or.inl rfl) | exact cl_)
 refine fin_ ?_
 ·(repeat' apply And.intro) <;> (first | (first | (rw [htk, hst]; done) | (left; rw [hmin, hel2]; rfl) | rfl | trivial | omega | (rw [hst]; done) | exact Or.inl rfl) | exact cl_)
 exact absurd (hz_r27_6 hb20) (by simp [emptyA, rows])
 rw [if_neg (by rw [he]; simp)] at hnn hel2
 obtain ⟨y1, hy1⟩ := getE (l := bufE z i) (i := (esc (z.take i)).length) (by rw [hbl]; omega)
 have hx := And.intro @hrc hx0
 refine u_reg ?_
 try refine lg_mk ?_
 iterate 2 refine u_mv ?_
 refine u_nl ?_
 iterate 2 refine u_pt ?_
 refine u_ld ?_
 refine lg_sem (by rfl) (sem_nenil (by first | (simp only [wB, eq_self, Nat.reduceEqDiff, reduceIte]; done) | (simp only [wB, eq_self, Nat.reduceEqDiff, reduceIte]; rfl)) (by first | trivial | simp only [wB, eq_self, Nat.reduceEqDiff, reduceIte]) (by first | (simp only [wB, eq_self, Nat.reduceEqDiff, reduceIte, env_rules, tys, hT, tiAgg]; done) | (simp only [wB, eq_self, Nat.reduceEqDiff, reduceIte, env_rules, tys, hT, tiAgg]; rfl)) (by first | (simp only [slA, wB, eq_self, Nat.reduceEqDiff, reduceIte]; done) | (simp only [slA, wB, eq_self, Nat.reduceEqDiff, reduceIte]; rfl)) fun z_r27_6 hz_r27_6 hz_r27_6' => ?_)
 refine lg_nil ?_
 have hx := hx0
 refine h19 _ ?_; clear h19; try clear N19
 refine u_cond (fun hb21 => ?_) (fun hb21 => ?_)
 exact absurd ((hz_r27_6' rfl).symm.trans hb21) (by simp)
 refine vc_seq_k fun N22 h22 => ?_
 have hx := And.intro @hy1 (And.intro @eU.eq_1 hx0)
 refine u_reg ?_
 try refine lg_mk ?_
 iterate 3 refine u_mv ?_
 refine u_pt ?_
 refine u_st ?_
 refine lg_nil ?_
 have hx := hx0
 refine h22 _ ?_; clear h22; try clear N22
 refine u_reg ?_
 try refine lg_mk ?_
 refine u_mv ?_
 refine u_bn ?_
 refine u_mv ?_
 refine lg_nil ?_
 refine h17 _ ?_; clear h17; try clear N17
 refine u_reg ?_
 try refine lg_mk ?_
 refine u_mv ?_
 refine u_bn ?_
 refine u_mv ?_
 refine lg_nil ?_
 have hst := bufE_one hce (by rw [he]; simp)
 refine h13 _ ⟨i + 1, ?_, ?_, [some 0], ?_⟩
 dsimp only
 omega
 dsimp only
 omega
 dsimp only
 refine ⟨by rfl, ?_, ?_⟩
 refine fin_ ?_
 ·(repeat' apply And.intro) <;> (first | (first | rfl | trivial | omega | (rw [hst]; done) | exact Or.inl rfl) | exact cl_)
 refine fin_ ?_
 ·(repeat' apply And.intro) <;> (first | (first | rfl | trivial | omega | (rw [hst]; done) | exact Or.inl rfl) | exact cl_)
 obtain rfl : i = z.length := by have := hb16; (try simp at this); omega
 simp only [List.take_length, bufE_end]
 refine vc_exit ?_
 simp only [k_rules, Nat.reduceEqDiff, reduceIte, eq_self]
 refine h11 _ ?_; clear h11; try clear N11
 refine vc_seq_k fun N23 h23 => ?_
 refine u_reg ?_
 try refine lg_mk ?_
 refine u_mv ?_
 refine u_cv ?_
 refine u_mv ?_
 refine lg_nil ?_
 refine h23 _ ?_; clear h23; try clear N23
 refine vc_ret ?_
 try simp only [k_rules]
 refine fin2_ ?_
 exact cl_
 intro N4 h4
 refine vc_seq_k fun N24 h24 => ?_
 refine u_reg ?_
 try refine lg_mk ?_
 refine u_mv ?_
 refine u_nl ?_
 refine u_pt ?_
 refine u_ld ?_
 refine u_ln ?_
 refine u_bn ?_
 refine u_mv ?_
 refine u_ln ?_
 refine u_bn ?_
 refine lg_nil ?_
 refine h24 _ ?_; clear h24; try clear N24
 refine u_cond (fun hb25 => ?_) (fun hb25 => ?_)
 refine vc_seq_k fun N26 h26 => ?_
 refine u_reg ?_
 try refine lg_mk ?_
 refine u_mv ?_
 refine u_nl ?_
 refine u_pt ?_
 refine u_ld ?_
 refine u_ln ?_
 refine u_mv ?_
 refine lg_nil ?_
 refine h26 _ ?_; clear h26; try clear N26
 refine vc_block ?_
 refine vc_loop_mk (σ := Nat) (fun s => (fun j => j ≤ 2) s)
  (fun s => (fun j => [(0, .d (.ptr rcells)), (1, .d (.str z)), (5, .d (.int .i64 ((z.length + cT z j : Nat) : Int))), (6, .d (.bool (decide (cT z j ≠ 0)))), (30, .d (.sl (rows eT [[34], [92]]))), (31, .d (.int .i64 ([[34], [92]].length : Nat))), (32, .d (.int .i64 (j : Nat)))]) s)
  (fun s => (fun j => []) s) (fun s => (fun j => 2 - j) s) hnp 0 ?_ [] ?_ ?_
 dsimp only
 omega
 dsimp only
 refine ⟨by rfl, ?_, ?_⟩
 refine fin_ ?_
 ·(repeat' apply And.intro) <;> (first | (first | exact hdq | exact hdq.symm | rfl | trivial | omega | (simp [hnn]; done) | (simp; omega) | (simp [hnn, hj1, hj2]; done)) | exact cl_)
 refine fin_ ?_
 ·(repeat' apply And.intro) <;> (first | (first | exact hdq | exact hdq.symm | rfl | trivial | omega | (simp [hnn]; done) | (simp; omega) | (simp [hnn, hj1, hj2]; done)) | exact cl_)
 rintro j hinv N27 h27
 dsimp only at hinv ⊢
 have j1 := hinv
 refine vc_seq_k fun N28 h28 => ?_
 refine u_reg ?_
 try refine lg_mk ?_
 refine u_bn ?_
 refine lg_nil ?_
 refine h28 _ ?_; clear h28; try clear N28
 refine vc_seq_k fun N29 h29 => ?_
 refine u_cond (fun hb30 => ?_) (fun hb30 => ?_)
 have hj : j < 2 := by have := hb30; (try simp at this); omega
 have hj0 : cT z 0 = 0 := rfl
 have hj1 : cT z 1 = z.count 34 := rfl
 have hj2 := cT_2 z
 have hc3 := List.count_le_length (a := (34 : UInt8)) (l := z)
 have hc9 := List.count_le_length (a := (92 : UInt8)) (l := z)
 have hn2 := nE_two z
 refine vc_skip ?_
 try simp only [k_rules]
 refine h29 _ ?_; clear h29; try clear N29
 refine vc_seq_k fun N31 h31 => ?_
 refine vc_block ?_
 refine vc_seq_k fun N32 h32 => ?_
 rcases (show j = 0 ∨ j = 1 by omega) with rfl | rfl
 have hrj : ([[34], [92]] : List Bs)[0]? = some [34] := rfl
 have hrc := rc_34
 have hl2 : (rows eU [92, 34]).length = 2 := rfl
 have hml : ((z.count 34 : Nat) : Int) * (((rows eU [92, 34]).length : Nat) - 1) = (z.count 34 : Nat) := by rw [hl2]; omega
 have hx := And.intro @hrj (And.intro @eT.eq_1 hx0)
 refine u_reg ?_
 try refine lg_mk ?_
 refine u_pt ?_
 refine u_ld ?_
 refine u_mv ?_
 refine lg_nil ?_
 have hx := hx0
 refine h32 _ ?_; clear h32; try clear N32
 refine vc_seq_k fun N33 h33 => ?_
 refine u_reg ?_
 try refine lg_mk ?_
 iterate 2 refine u_mv ?_
 have hc := call_rule (E := (E_cnt.at_ 122)) (f := 180) (sp := Spec.pure cntG) rfl
 have hs := @cntG.eq_1
 refine u_cp ?_
 refine u_mv ?_
 refine lg_nil ?_
 refine h33 _ ?_; clear h33; try clear N33
 refine vc_seq_k fun N34 h34 => ?_
 refine u_reg ?_
 try refine lg_mk ?_
 refine u_mv ?_
 refine u_bn ?_
 refine lg_nil ?_
 refine h34 _ ?_; clear h34; try clear N34
 refine u_cond (fun hb35 => ?_) (fun hb35 => ?_)
 refine vc_seq_k fun N36 h36 => ?_
 have hx := And.intro @hrc (And.intro @hml hx0)
 refine u_reg ?_
 try refine lg_mk ?_
 iterate 4 refine u_mv ?_
 refine u_pt ?_
 refine u_nl ?_
 iterate 2 refine u_pt ?_
 refine u_ld ?_
 refine u_ln ?_
 iterate 3 refine u_bn ?_
 refine u_mv ?_
 refine lg_nil ?_
 have hx := hx0
 refine h36 _ ?_; clear h36; try clear N36
 refine u_reg ?_
 try refine lg_mk ?_
 refine u_mv ?_
 refine lg_nil ?_
 refine h31 _ ?_; clear h31; try clear N31
 refine u_reg ?_
 try refine lg_mk ?_
 refine u_bn ?_
 refine u_mv ?_
 refine lg_nil ?_
 have hdq : decide (cT z 1 ≠ 0) = true := decide_eq_true (by have := hb35; (try simp at this); omega)
 refine h27 _ ⟨1, ?_, ?_, [], ?_⟩
 dsimp only
 omega
 dsimp only
 omega
 dsimp only
 refine ⟨by rfl, ?_, ?_⟩
 refine fin_ ?_
 ·(repeat' apply And.intro) <;> (first | (first | exact hdq | exact hdq.symm | rfl | trivial | omega | (simp [hnn]; done) | (simp; omega) | (simp [hnn, hj1, hj2]; done)) | exact cl_)
 refine fin_ ?_
 ·(repeat' apply And.intro) <;> (first | (first | exact hdq | exact hdq.symm | rfl | trivial | omega | (simp [hnn]; done) | (simp; omega) | (simp [hnn, hj1, hj2]; done)) | exact cl_)
 refine vc_skip ?_
 try simp only [k_rules]
 refine h31 _ ?_; clear h31; try clear N31
 refine u_reg ?_
 try refine lg_mk ?_
 refine u_bn ?_
 refine u_mv ?_
 refine lg_nil ?_
 have hdq : decide (cT z 0 ≠ 0) = decide (cT z 1 ≠ 0) := by rw [show cT z 1 = cT z 0 by have := hb35; (try simp at this); omega]
 refine h27 _ ⟨1, ?_, ?_, [], ?_⟩
 dsimp only
 omega
 dsimp only
 omega
 dsimp only
 refine ⟨by rfl, ?_, ?_⟩
 refine fin_ ?_
 ·(repeat' apply And.intro) <;> (first | (first | exact hdq | exact hdq.symm | rfl | trivial | omega | (simp [hnn]; done) | (simp; omega) | (simp [hnn, hj1, hj2]; done)) | exact cl_)
 refine fin_ ?_
 ·(repeat' apply And.intro) <;> (first | (first | exact hdq | exact hdq.symm | rfl | trivial | omega | (simp [hnn]; done) | (simp; omega) | (simp [hnn, hj1, hj2]; done)) | exact cl_)
 have hrj : ([[34], [92]] : List Bs)[1]? = some [92] := rfl
 have hrc := rc_92
 have hl2 : (rows eU [92, 92]).length = 2 := rfl
 have hml : ((z.count 92 : Nat) : Int) * (((rows eU [92, 92]).length : Nat) - 1) = (z.count 92 : Nat) := by rw [hl2]; omega
 have hx := And.intro @hrj (And.intro @eT.eq_1 hx0)
 refine u_reg ?_
 try refine lg_mk ?_
 refine u_pt ?_
 refine u_ld ?_
 refine u_mv ?_
 refine lg_nil ?_
 have hx := hx0
 refine h32 _ ?_; clear h32; try clear N32
 refine vc_seq_k fun N37 h37 => ?_
 refine u_reg ?_
 try refine lg_mk ?_
 iterate 2 refine u_mv ?_
 have hc := call_rule (E := (E_cnt.at_ 122)) (f := 180) (sp := Spec.pure cntG) rfl
 have hs := @cntG.eq_1
 refine u_cp ?_
 refine u_mv ?_
 refine lg_nil ?_
 refine h37 _ ?_; clear h37; try clear N37
 refine vc_seq_k fun N38 h38 => ?_
 refine u_reg ?_
 try refine lg_mk ?_
 refine u_mv ?_
 refine u_bn ?_
 refine lg_nil ?_
 refine h38 _ ?_; clear h38; try clear N38
 refine u_cond (fun hb39 => ?_) (fun hb39 => ?_)
 refine vc_seq_k fun N40 h40 => ?_
 have hx := And.intro @hrc (And.intro @hml hx0)
 refine u_reg ?_
 try refine lg_mk ?_
 iterate 4 refine u_mv ?_
 refine u_pt ?_
 refine u_nl ?_
 iterate 2 refine u_pt ?_
 refine u_ld ?_
 refine u_ln ?_
 iterate 3 refine u_bn ?_
 refine u_mv ?_
 refine lg_nil ?_
 have hx := hx0
 refine h40 _ ?_; clear h40; try clear N40
 refine u_reg ?_
 try refine lg_mk ?_
 refine u_mv ?_
 refine lg_nil ?_
 refine h31 _ ?_; clear h31; try clear N31
 refine u_reg ?_
 try refine lg_mk ?_
 refine u_bn ?_
 refine u_mv ?_
 refine lg_nil ?_
 have hdq : decide (cT z 2 ≠ 0) = true := decide_eq_true (by have := hb39; (try simp at this); omega)
 refine h27 _ ⟨2, ?_, ?_, [], ?_⟩
 dsimp only
 omega
 dsimp only
 omega
 dsimp only
 refine ⟨by rfl, ?_, ?_⟩
 refine fin_ ?_
 ·(repeat' apply And.intro) <;> (first | (first | exact hdq | exact hdq.symm | rfl | trivial | omega | (simp [hnn]; done) | (simp; omega) | (simp [hnn, hj1, hj2]; done)) | exact cl_)
 refine fin_ ?_
 ·(repeat' apply And.intro) <;> (first | (first | exact hdq | exact hdq.symm | rfl | trivial | omega | (simp [hnn]; done) | (simp; omega) | (simp [hnn, hj1, hj2]; done)) | exact cl_)
 refine vc_skip ?_
 try simp only [k_rules]
 refine h31 _ ?_; clear h31; try clear N31
 refine u_reg ?_
 try refine lg_mk ?_
 refine u_bn ?_
 refine u_mv ?_
 refine lg_nil ?_
 have hdq : decide (cT z 1 ≠ 0) = decide (cT z 2 ≠ 0) := by rw [show cT z 2 = cT z 1 by have := hb39; (try simp at this); omega]
 refine h27 _ ⟨2, ?_, ?_, [], ?_⟩
 dsimp only
 omega
 dsimp only
 omega
 dsimp only
 refine ⟨by rfl, ?_, ?_⟩
 refine fin_ ?_
 ·(repeat' apply And.intro) <;> (first | (first | exact hdq | exact hdq.symm | rfl | trivial | omega | (simp [hnn]; done) | (simp; omega) | (simp [hnn, hj1, hj2]; done)) | exact cl_)
 refine fin_ ?_
 ·(repeat' apply And.intro) <;> (first | (first | exact hdq | exact hdq.symm | rfl | trivial | omega | (simp [hnn]; done) | (simp; omega) | (simp [hnn, hj1, hj2]; done)) | exact cl_)
 obtain rfl : j = 2 := by have := hb30; (try simp at this); omega
 have hj2 : cT z 2 = nE z := rfl
 rw [hj2]
 refine vc_exit ?_
 simp only [k_rules, Nat.reduceEqDiff, reduceIte, eq_self]
 refine h4 _ ⟨(), trivial, [], ?_⟩
 dsimp only
 refine ⟨by rfl, ?_, ?_⟩
 refine fin_ ?_
 exact cl_
 refine fin_ ?_
 exact cl_
 refine vc_seq_k fun N41 h41 => ?_
 refine u_reg ?_
 try refine lg_mk ?_
 refine u_mv ?_
 refine lg_nil ?_
 refine h41 _ ?_; clear h41; try clear N41
 refine vc_block ?_
 refine vc_loop_mk (σ := Nat) (fun s => (fun i => i ≤ z.length) s)
  (fun s => (fun i => [(0, .d (.ptr rcells)), (1, .d (.str z)), (5, .d (.int .i64 ((z.length + nE (z.take i) : Nat) : Int))), (6, .d (.bool (decide (nE (z.take i) ≠ 0)))), (10, .d (.int .i64 (i : Nat)))]) s)
  (fun s => (fun i => []) s) (fun s => (fun i => z.length - i) s) hnp 0 ?_ [] ?_ ?_
 dsimp only
 omega
 dsimp only
 refine ⟨by rfl, ?_, ?_⟩
 refine fin_ ?_
 ·(repeat' apply And.intro) <;> (first | (first | exact hdq | exact hdq.symm | rfl | trivial | omega | (simp [hnn]; done) | (simp; omega) | (simp [hnn, hj1, hj2]; done)) | exact cl_)
 refine fin_ ?_
 ·(repeat' apply And.intro) <;> (first | (first | exact hdq | exact hdq.symm | rfl | trivial | omega | (simp [hnn]; done) | (simp; omega) | (simp [hnn, hj1, hj2]; done)) | exact cl_)
 rintro i hinv N42 h42
 dsimp only at hinv ⊢
 have i1 := hinv
 have hnt := nE_take i1
 refine vc_seq_k fun N43 h43 => ?_
 refine vc_seq_k fun N44 h44 => ?_
 refine u_reg ?_
 try refine lg_mk ?_
 iterate 2 refine u_mv ?_
 refine u_ln ?_
 refine u_bn ?_
 refine lg_nil ?_
 refine h44 _ ?_; clear h44; try clear N44
 refine u_cond (fun hb45 => ?_) (fun hb45 => ?_)
 have hiz : i < z.length := by have := hb45; (try simp at this); omega
 obtain ⟨c, hce⟩ := getE (l := z) (i := i) hiz
 have hnn := nE_next hce
 have hc256 := c.toNat_lt
 have hel2 := escl_snoc hce
 have hll := nE_le z (i + 1)
 have hb3 := esc_take_le z (i + 1)
 refine vc_skip ?_
 try simp only [k_rules]
 refine h43 _ ?_; clear h43; try clear N43
 refine vc_seq_k fun N46 h46 => ?_
 refine vc_block ?_
 refine vc_seq_k fun N47 h47 => ?_
 have hx := And.intro @hce hx0
 refine u_reg ?_
 try refine lg_mk ?_
 iterate 2 refine u_mv ?_
 refine u_pt ?_
 refine u_mv ?_
 refine lg_nil ?_
 have hx := hx0
 refine h47 _ ?_; clear h47; try clear N47
 refine vc_seq_k fun N48 h48 => ?_
 rcases rc_two c with ⟨he, hrc⟩ | ⟨he, hrc⟩
 rw [if_pos he] at hnn hel2
 have hl2 : (rows eU [92, c]).length = 2 := rfl
 have hx := And.intro @hrc hx0
 refine u_reg ?_
 try refine lg_mk ?_
 iterate 2 refine u_mv ?_
 refine u_nl ?_
 iterate 2 refine u_pt ?_
 refine u_ld ?_
 refine lg_sem (by rfl) (sem_nenil (by first | (simp only [wB, eq_self, Nat.reduceEqDiff, reduceIte]; done) | (simp only [wB, eq_self, Nat.reduceEqDiff, reduceIte]; rfl)) (by first | trivial | simp only [wB, eq_self, Nat.reduceEqDiff, reduceIte]) (by first | (simp only [wB, eq_self, Nat.reduceEqDiff, reduceIte, env_rules, tys, hT, tiAgg]; done) | (simp only [wB, eq_self, Nat.reduceEqDiff, reduceIte, env_rules, tys, hT, tiAgg]; rfl)) (by first | (simp only [slA, wB, eq_self, Nat.reduceEqDiff, reduceIte]; done) | (simp only [slA, wB, eq_self, Nat.reduceEqDiff, reduceIte]; rfl)) fun z_r16_6 hz_r16_6 hz_r16_6' => ?_)
 refine lg_nil ?_
 have hx := hx0
 refine h48 _ ?_; clear h48; try clear N48
 refine u_cond (fun hb49 => ?_) (fun hb49 => ?_)
 refine vc_seq_k fun N50 h50 => ?_
 have hx := And.intro @hrc hx0
 refine u_reg ?_
 try refine lg_mk ?_
 iterate 3 refine u_mv ?_
 refine u_nl ?_
 iterate 2 refine u_pt ?_
 refine u_ld ?_
 refine u_ln ?_
 iterate 2 refine u_bn ?_
 refine u_mv ?_
 refine lg_nil ?_
 have hx := hx0
 refine h50 _ ?_; clear h50; try clear N50
 refine u_reg ?_
 try refine lg_mk ?_
 refine u_mv ?_
 refine lg_nil ?_
 refine h46 _ ?_; clear h46; try clear N46
 refine u_reg ?_
 try refine lg_mk ?_
 refine u_mv ?_
 refine u_bn ?_
 refine u_mv ?_
 refine lg_nil ?_
 have hdq : decide (nE (z.take (i + 1)) ≠ 0) = true := decide_eq_true (by omega)
 refine h42 _ ⟨i + 1, ?_, ?_, [], ?_⟩
 dsimp only
 omega
 dsimp only
 omega
 dsimp only
 refine ⟨by rfl, ?_, ?_⟩
 refine fin_ ?_
 ·(repeat' apply And.intro) <;> (first | (first | exact hdq | exact hdq.symm | rfl | trivial | omega | (simp [hnn]; done) | (simp; omega) | (simp [hnn, hj1, hj2]; done)) | exact cl_)
 refine fin_ ?_
 ·(repeat' apply And.intro) <;> (first | (first | exact hdq | exact hdq.symm | rfl | trivial | omega | (simp [hnn]; done) | (simp; omega) | (simp [hnn, hj1, hj2]; done)) | exact cl_)
 exact absurd (hz_r16_6 hb49) (by simp [emptyA, rows])
 rw [if_neg (by rw [he]; simp)] at hnn hel2
 have hx := And.intro @hrc hx0
 refine u_reg ?_
 try refine lg_mk ?_
 iterate 2 refine u_mv ?_
 refine u_nl ?_
 iterate 2 refine u_pt ?_
 refine u_ld ?_
 refine lg_sem (by rfl) (sem_nenil (by first | (simp only [wB, eq_self, Nat.reduceEqDiff, reduceIte]; done) | (simp only [wB, eq_self, Nat.reduceEqDiff, reduceIte]; rfl)) (by first | trivial | simp only [wB, eq_self, Nat.reduceEqDiff, reduceIte]) (by first | (simp only [wB, eq_self, Nat.reduceEqDiff, reduceIte, env_rules, tys, hT, tiAgg]; done) | (simp only [wB, eq_self, Nat.reduceEqDiff, reduceIte, env_rules, tys, hT, tiAgg]; rfl)) (by first | (simp only [slA, wB, eq_self, Nat.reduceEqDiff, reduceIte]; done) | (simp only [slA, wB, eq_self, Nat.reduceEqDiff, reduceIte]; rfl)) fun z_r16_6 hz_r16_6 hz_r16_6' => ?_)
 refine lg_nil ?_
 have hx := hx0
 refine h48 _ ?_; clear h48; try clear N48
 refine u_cond (fun hb51 => ?_) (fun hb51 => ?_)
 exact absurd ((hz_r16_6' rfl).symm.trans hb51) (by simp)
 refine vc_skip ?_
 try simp only [k_rules]
 refine h46 _ ?_; clear h46; try clear N46
 refine u_reg ?_
 try refine lg_mk ?_
 refine u_mv ?_
 refine u_bn ?_
 refine u_mv ?_
 refine lg_nil ?_
 have hdq : decide (nE (z.take i) ≠ 0) = decide (nE (z.take (i + 1)) ≠ 0) := by rw [hnn]; rfl
 refine h42 _ ⟨i + 1, ?_, ?_, [], ?_⟩
 dsimp only
 omega
 dsimp only
 omega
 dsimp only
 refine ⟨by rfl, ?_, ?_⟩
 refine fin_ ?_
 ·(repeat' apply And.intro) <;> (first | (first | exact hdq | exact hdq.symm | rfl | trivial | omega | (simp [hnn]; done) | (simp; omega) | (simp [hnn, hj1, hj2]; done)) | exact cl_)
 refine fin_ ?_
 ·(repeat' apply And.intro) <;> (first | (first | exact hdq | exact hdq.symm | rfl | trivial | omega | (simp [hnn]; done) | (simp; omega) | (simp [hnn, hj1, hj2]; done)) | exact cl_)
 obtain rfl : i = z.length := by have := hb45; (try simp at this); omega
 simp only [List.take_length]
 refine vc_exit ?_
 simp only [k_rules, Nat.reduceEqDiff, reduceIte, eq_self]
 refine h4 _ ⟨(), trivial, [], ?_⟩
 dsimp only
 refine ⟨by rfl, ?_, ?_⟩
 refine fin_ ?_
 exact cl_
 refine fin_ ?_
 exact cl_
 cases hg

def E_bsr : Env Tryz.prog := E_cnt.add 178 (Spec.pure bsrG) bsr_meets (by kernel_rfl)
end Go.Proofs.YtmbjnkgpcbpclaaGreat
