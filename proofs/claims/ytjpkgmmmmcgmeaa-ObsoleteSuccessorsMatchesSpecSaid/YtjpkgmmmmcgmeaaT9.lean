/- Walks, printed by wip/gen/walk.py. -/
import Derived.Test.YtjpkgmmmmcgmeaaT8
import Derived.Test.YtjpkgmmmmcgmeaaV6
import Derived.Test.YtjpkgmmmmcgmeaaV5
set_option linter.all false
set_option maxRecDepth 100000
set_option maxHeartbeats 4000000
namespace Go.Proofs.Ytjpkgmmmmcgmeaa
open Go Go.Vc Go.RowKit
def eR (v : Value) : List D := [.raw v]
def psL (rs : List (List Bool)) : List (List D × List (List D)) := rs.map fun r => ([.nils], rows eB r)
theorem psL_len (rs : List (List Bool)) : (psL rs).length = rs.length := by simp [psL]
theorem rawR_psL {rs : List (List Bool)} {vs : List Value} (h : vs.length = rs.length) : rawR 0 (psL rs) vs = rows eR vs := by
  induction rs generalizing vs with
  | nil => rw [List.eq_nil_of_length_eq_zero h]; rfl
  | cons r rs ih =>
    cases vs with
    | nil => cases h
    | cons v vs =>
      have := ih (vs := vs) (by simpa using h)
      unfold rawR psL rows at *
      rw [List.map_cons, List.zipWith_cons_cons, List.map_cons, this]; rfl
theorem rawB_get {rs : List (List Bool)} {vs : List Value} {i : Nat} {r : List Bool} {v : Value} (h1 : rs[i]? = some r) (h2 : vs[i]? = some v) : (rawB (psL rs) vs)[i]? = some (v, rows eB r) := by
  unfold rawB psL
  rw [List.getElem?_zipWith, List.getElem?_map, h1, h2]; rfl
theorem rawB_set {rs : List (List Bool)} {vs : List Value} {i : Nat} {r : List Bool} {v : Value} (h2 : vs[i]? = some v) : (rawB (psL rs) vs).set i (v, rows eB r) = rawB (psL (rs.set i r)) vs := by
  induction rs generalizing vs i with
  | nil => rfl
  | cons a rs ih =>
    cases vs with
    | nil => simp at h2
    | cons w vs =>
      cases i with
      | zero => simp at h2; subst h2; rfl
      | succ i =>
        have := ih (vs := vs) (i := i) (by simpa using h2)
        show (w, rows eB a) :: (rawB (psL rs) vs).set i (v, rows eB r) = (w, rows eB a) :: rawB (psL (rs.set i r)) vs
        rw [this]
theorem rawB_snoc {rs : List (List Bool)} {vs : List Value} {r : List Bool} {v : Value} (h : vs.length = rs.length) : rawB (psL (rs ++ [r])) (vs ++ [v]) = rawB (psL rs) vs ++ [(v, rows eB r)] := by
  unfold rawB psL
  rw [List.map_append, List.zipWith_append (by simp [h])]; rfl
theorem dataR_psL (rs : List (List Bool)) : dataR 0 (psL rs) = rows (eL eB) rs := by
  unfold dataR psL rows; rw [List.map_map]; rfl
theorem eR_snoc (vs : List Value) (v : Value) : rows eR vs ++ [[.raw v]] = rows eR (vs ++ [v]) := by simp [rows, eR]
theorem rect_eR (vs : List Value) : Rect 1 (rows eR vs) := rows_rect (f := eR) (fun _ => rfl) vs
def fls60 : List Bool := vec 60 fun _ => false
theorem fls60_rows : List.replicate 60 [D.bool false] = rows eB fls60 := by unfold fls60; rw [vec_false]; simp [rows, eB]
theorem mat_zero : matB (fun _ _ => false) 60 = List.replicate 60 fls60 := by
  apply List.ext_getElem?
  intro i
  by_cases hi : i < 60
  · rw [matB_get hi, List.getElem?_replicate, if_pos hi]; rfl
  · rw [List.getElem?_eq_none (by rw [matB_len]; omega), List.getElem?_eq_none (by simp; omega)]
theorem bagM_get {F : Nat → Nat → Bool} {vs : List Value} {i : Nat} {v : Value} (hi : i < 60) (h2 : vs[i]? = some v) : (rawB (psL (matB F 60)) vs)[i]? = some (v, rows eB (vec 60 (F i))) := rawB_get (matB_get hi) h2
theorem bagM_set {F : Nat → Nat → Bool} {vs : List Value} {a b : Nat} {v : Value} {x : Bool} (ha : a < 60) (h2 : vs[a]? = some v) : (rawB (psL (matB F 60)) vs).set a (v, (rows eB (vec 60 (F a))).set b [.bool x]) = rawB (psL (matB (setM F a b x) 60)) vs := by
  rw [← matB_set ha, ← rawB_set h2]; simp [rows, eB]
theorem rvec_get {f : Nat → Bool} {k : Nat} (h : k < 60) : (rows eB (vec 60 f))[k]? = some [.bool (f k)] := by unfold rows; rw [List.getElem?_map, vec_get h]; rfl
theorem rvec_len (f : Nat → Bool) : (rows eB (vec 60 f)).length = 60 := by rw [rows_len, vec_len]
def repG : List AV → Option (Prop × AV)
  | [.d (.sl xs)] => some (xs = rows eM (dM xs) ∧ (dM xs).length ≤ 9223372036854775807 ∧ smallM (dM xs) ∧ okM (dM xs), .d (.sl (rows (eL eB) (matB (rcK (dM xs)) 60))))
  | _ => none

theorem rep_meets : Meets Try.prog 39 (Spec.pure repG) := by
 refine meets_fun (E_orp.at_ 95) Try.func39 rfl rfl rfl ?_
 intro args p r hg hp
 unfold repG at hg
 split at hg
 ·rename_i xs
  simp only [Option.some.injEq, Prod.mk.injEq] at hg
  obtain ⟨rfl, rfl⟩ := hg
  obtain ⟨he, hl, hsm, hok⟩ := hp
  generalize dM xs = l at *
  subst he
  have hT : (E_orp).X = T := rfl
  have hx0 := And.intro @rect_eM (And.intro @rect_eR (And.intro @cleanD_raw (And.intro @dec_t (And.intro @dec_f @Try.results39))))
  have hx := hx0
  refine ⟨by rfl, ?_⟩
  intro F W0 hnp hmk
  refine vc_seq_k fun N1 h1 => ?_
  refine u_reg ?_
  try refine lg_mk ?_
  refine u_mv ?_
  refine lg_nil ?_
  refine h1 _ ?_; clear h1; try clear N1
  refine vc_seq_k fun N2 h2 => ?_
  refine u_reg ?_
  try refine lg_mk ?_
  refine u_mv ?_
  refine lg_nil ?_
  refine h2 _ ?_; clear h2; try clear N2
  refine vc_seq_k fun N3 h3 => ?_
  refine vc_seq_k fun N4 h4 => ?_
  refine vc_newbag 4 1 rfl ?_
  simp only [List.cons_append, List.nil_append]
  refine u_reg ?_
  try refine lg_mk ?_
  refine u_mv ?_
  refine lg_nil ?_
  refine h4 _ ?_; clear h4; try clear N4
  refine vc_block ?_
  refine vc_loop_mk (σ := Nat × List Value) (fun s => (fun i vs => i ≤ 60 ∧ vs.length = i) (s.1) (s.2))
   (fun s => (fun i vs => [(0, .d (.sl (rows eM l))), (3, .sl 0 0 i), (4, .d (.int .i64 (i : Nat)))]) (s.1) (s.2))
   (fun s => (fun i vs => [some (.vec 63 1 (rows eR vs)), some (.ob (.bag 4 1 (rawB (psL (List.replicate i fls60)) vs)))]) (s.1) (s.2)) (fun s => (fun i vs => 60 - i) (s.1) (s.2)) hnp (0, []) ?_ [none, some 0] ?_ ?_
  ·dsimp only
   exact ⟨by omega, rfl⟩
  ·dsimp only
   refine ⟨by rfl, ?_, ?_⟩
   ·refine fin_ ?_
    (repeat' apply And.intro) <;> (first | (first | (with_reducible rfl) | exact True.intro | rfl) | exact cl_)
   ·refine fin_ ?_
    (repeat' apply And.intro) <;> (first | (first | (with_reducible rfl) | exact True.intro | rfl) | exact cl_)
  ·rintro ⟨i, vs⟩ hinv N5 h5
   dsimp only at hinv ⊢
   obtain ⟨i1, hvs⟩ := hinv
   refine vc_seq_k fun N6 h6 => ?_
   refine vc_seq_k fun N7 h7 => ?_
   refine u_reg ?_
   try refine lg_mk ?_
   refine u_mv ?_
   refine u_bn ?_
   refine lg_nil ?_
   refine h7 _ ?_; clear h7; try clear N7
   refine u_cond (fun hb8 => ?_) (fun hb8 => ?_)
   ·refine vc_skip ?_
    try simp only [k_rules]
    refine h6 _ ?_; clear h6; try clear N6
    refine vc_seq_k fun N9 h9 => ?_
    refine vc_block ?_
    refine u_reg ?_
    try refine lg_mk ?_
    refine u_mv ?_
    refine lg_sem (by rfl) (sem_makePut 1 (by first | (simp only [wB, eq_self, Nat.reduceEqDiff, reduceIte]; done) | (simp only [wB, eq_self, Nat.reduceEqDiff, reduceIte]; rfl)) (by first | trivial | simp only [wB, eq_self, Nat.reduceEqDiff, reduceIte]) (by first | (simp only [wB, eq_self, Nat.reduceEqDiff, reduceIte]; done) | (simp only [wB, eq_self, Nat.reduceEqDiff, reduceIte]; rfl)) (by first | trivial | simp only [wB, eq_self, Nat.reduceEqDiff, reduceIte]) (by first | (simp only [wB, eq_self, Nat.reduceEqDiff, reduceIte, env_rules, tys, hT, tiAgg]; done) | (simp only [wB, eq_self, Nat.reduceEqDiff, reduceIte, env_rules, tys, hT, tiAgg]; rfl)) (by first | (simp only [wB, eq_self, Nat.reduceEqDiff, reduceIte, env_rules, tys, hT, tiAgg]; done) | (simp only [wB, eq_self, Nat.reduceEqDiff, reduceIte, env_rules, tys, hT, tiAgg]; rfl)) (by rfl) (by simp only [wB, eq_self, Nat.reduceEqDiff, reduceIte]; rfl) (by exact sd_) fun v1 => ?_)
    try simp only [wB, eq_self, Nat.reduceEqDiff, reduceIte, wL, Int.toNat_natCast, Int.reduceToNat, Nat.reduceAdd, Nat.reduceMul, Nat.reduceSub, Nat.reduceLeDiff, hx]
    refine u_bs ?_
    refine u_ap (hq := by (first | (rw [rows_len]; omega) | exact sd_)) ?_
    refine u_mv ?_
    refine lg_nil ?_
    refine h9 _ ?_; clear h9; try clear N9
    refine u_reg ?_
    try refine lg_mk ?_
    refine u_mv ?_
    refine u_bn ?_
    refine u_mv ?_
    refine lg_nil ?_
    have e1 := rawB_snoc (rs := List.replicate i fls60) (r := fls60) (v := v1) (vs := vs) (by rw [hvs]; simp)
    rw [← List.replicate_succ'] at e1
    refine h5 _ ⟨(i + 1, vs ++ [v1]), ?_, ?_, [some 5, some 3], ?_⟩
    ·dsimp only
     exact ⟨by omega, by simp [hvs]⟩
    ·dsimp only
     omega
    ·dsimp only
     refine ⟨by rfl, ?_, ?_⟩
     ·refine fin_ ?_
      (repeat' apply And.intro) <;> (first | (first | (with_reducible rfl) | exact True.intro | (rw [← eR_snoc]; simp [hvs, rows_len]; done) | (rw [← eR_snoc, List.take_of_length_le (by simp [rows_len, hvs])]; done) | (rw [e1, ← fls60_rows]; done) | exact congrArg (OB.bag _ _) (by rw [e1, ← fls60_rows]) | (simp [hvs]; omega)) | exact cl_)
     ·refine fin_ ?_
      (repeat' apply And.intro) <;> (first | (first | (with_reducible rfl) | exact True.intro | (rw [← eR_snoc]; simp [hvs, rows_len]; done) | (rw [← eR_snoc, List.take_of_length_le (by simp [rows_len, hvs])]; done) | (rw [e1, ← fls60_rows]; done) | exact congrArg (OB.bag _ _) (by rw [e1, ← fls60_rows]) | (simp [hvs]; omega)) | exact cl_)
   ·obtain rfl : i = 60 := by omega
    refine vc_exit ?_
    simp only [k_rules, Nat.reduceEqDiff, reduceIte, eq_self]
    refine h3 _ ?_; clear h3; try clear N3
    refine vc_seq_k fun N10 h10 => ?_
    refine vc_seq_k fun N11 h11 => ?_
    refine u_reg ?_
    try refine lg_mk ?_
    refine u_mv ?_
    refine lg_nil ?_
    refine h11 _ ?_; clear h11; try clear N11
    refine vc_block ?_
    refine vc_loop_mk (σ := Nat) (fun s => (fun i => i ≤ l.length) s)
     (fun s => (fun i => [(0, .d (.sl (rows eM l))), (3, .sl 0 0 60), (5, .d (.int .i64 (i : Nat)))]) s)
     (fun s => (fun i => [some (.vec 63 1 (rows eR vs)), some (.ob (.bag 4 1 (rawB (psL (matB (m0P l i 0) 60)) vs)))]) s) (fun s => (fun i => l.length - i) s) hnp 0 ?_ [some 0, some 1] ?_ ?_
    ·dsimp only
     omega
    ·dsimp only
     refine ⟨by rfl, ?_, ?_⟩
     ·refine fin_ ?_
      (repeat' apply And.intro) <;> (first | (first | (with_reducible rfl) | exact True.intro | exact congrArg (OB.bag _ _) (by rw [m0P_start, mat_zero])) | exact cl_)
     ·refine fin_ ?_
      (repeat' apply And.intro) <;> (first | (first | (with_reducible rfl) | exact True.intro | exact congrArg (OB.bag _ _) (by rw [m0P_start, mat_zero])) | exact cl_)
    ·rintro i hinv N12 h12
     dsimp only at hinv ⊢
     have i1 := hinv
     refine vc_seq_k fun N13 h13 => ?_
     refine vc_seq_k fun N14 h14 => ?_
     refine u_reg ?_
     try refine lg_mk ?_
     refine u_mv ?_
     refine u_mv ?_
     refine u_ln ?_
     refine u_bn ?_
     refine lg_nil ?_
     refine h14 _ ?_; clear h14; try clear N14
     refine u_cond (fun hb15 => ?_) (fun hb15 => ?_)
     ·obtain ⟨m, hme⟩ := getE (l := l) (i := i) (by omega)
      obtain ⟨ho1, ho2⟩ := hok.old (mem_at hme)
      have hml := hsm m (mem_at hme)
      refine vc_skip ?_
      try simp only [k_rules]
      refine h13 _ ?_; clear h13; try clear N13
      refine vc_seq_k fun N16 h16 => ?_
      refine vc_block ?_
      refine vc_seq_k fun N17 h17 => ?_
      refine u_reg ?_
      try refine lg_mk ?_
      refine u_mv ?_
      refine lg_nil ?_
      refine h17 _ ?_; clear h17; try clear N17
      refine vc_block ?_
      refine vc_loop_mk (σ := Nat) (fun s => (fun j => j ≤ m.nw.length) s)
       (fun s => (fun j => [(0, .d (.sl (rows eM l))), (3, .sl 0 0 60), (5, .d (.int .i64 (i : Nat))), (6, .d (.int .i64 (j : Nat)))]) s)
       (fun s => (fun j => [some (.vec 63 1 (rows eR vs)), some (.ob (.bag 4 1 (rawB (psL (matB (m0P l i j) 60)) vs)))]) s) (fun s => (fun j => m.nw.length - j) s) hnp 0 ?_ [some 0, some 1] ?_ ?_
      ·dsimp only
       omega
      ·dsimp only
       refine ⟨by rfl, ?_, ?_⟩
       ·refine fin_ ?_
        (repeat' apply And.intro) <;> (first | (first | (with_reducible rfl) | exact True.intro | exact congrArg (OB.bag _ _) (rfl)) | exact cl_)
       ·refine fin_ ?_
        (repeat' apply And.intro) <;> (first | (first | (with_reducible rfl) | exact True.intro | exact congrArg (OB.bag _ _) (rfl)) | exact cl_)
      ·rintro j hinv N18 h18
       dsimp only at hinv ⊢
       have j1 := hinv
       refine vc_seq_k fun N19 h19 => ?_
       refine vc_seq_k fun N20 h20 => ?_
       have hx := And.intro @hme (And.intro @eM.eq_1 hx0)
       refine u_reg ?_
       try refine lg_mk ?_
       refine u_mv ?_
       refine u_mv ?_
       refine u_mv ?_
       refine u_pt ?_
       refine u_pt ?_
       refine u_ld ?_
       refine u_ln ?_
       refine u_bn ?_
       refine lg_nil ?_
       have hx := hx0
       refine h20 _ ?_; clear h20; try clear N20
       refine u_cond (fun hb21 => ?_) (fun hb21 => ?_)
       ·obtain ⟨x, hxe⟩ := getE (l := m.nw) (i := j) (by omega)
        obtain ⟨hx1, hx2⟩ := hok.nw (mem_at hme) (mem_at hxe)
        obtain ⟨v, hve⟩ := getE (l := vs) (i := m.old.toNat) (by omega)
        have hbg := bagM_get (F := m0P l i j) (i := m.old.toNat) (by omega) hve
        refine vc_skip ?_
        try simp only [k_rules]
        refine h19 _ ?_; clear h19; try clear N19
        refine vc_seq_k fun N22 h22 => ?_
        refine vc_block ?_
        have hx := And.intro @hme (And.intro @hxe (And.intro @hve (And.intro @eM.eq_1 (And.intro @eI.eq_1 (And.intro @eR.eq_1 hx0)))))
        refine u_reg ?_
        try refine lg_mk ?_
        refine u_mv ?_
        refine u_mv ?_
        refine u_mv ?_
        refine u_pt ?_
        refine u_pt ?_
        refine u_ld ?_
        refine u_pt ?_
        refine u_ld ?_
        refine u_mv ?_
        refine u_mv ?_
        refine u_pt ?_
        refine u_pt ?_
        refine u_ld ?_
        refine u_mv ?_
        refine u_pt ?_
        refine u_ld ?_
        refine lg_semV (by rfl) (semv_rawIx 1 m.old.toNat (by first | (simp only [wB, eq_self, Nat.reduceEqDiff, reduceIte]; done) | (simp only [wB, eq_self, Nat.reduceEqDiff, reduceIte]; rfl)) (by first | trivial | simp only [wB, eq_self, Nat.reduceEqDiff, reduceIte]) (by first | (simp only [wB, eq_self, Nat.reduceEqDiff, reduceIte]; done) | (simp only [wB, eq_self, Nat.reduceEqDiff, reduceIte]; rfl)) (by first | trivial | simp only [wB, eq_self, Nat.reduceEqDiff, reduceIte]) (by simp only [wB, eq_self, Nat.reduceEqDiff, reduceIte]; rfl) hbg ⟨hx1, by rw [rvec_len]; omega⟩ (by first | (simp only [wB, eq_self, Nat.reduceEqDiff, reduceIte, env_rules, tys, hT, tiAgg]; done) | (simp only [wB, eq_self, Nat.reduceEqDiff, reduceIte, env_rules, tys, hT, tiAgg]; rfl)) (by first | (simp only [wB, eq_self, Nat.reduceEqDiff, reduceIte, env_rules, tys, hT, tiAgg]; done) | (simp only [wB, eq_self, Nat.reduceEqDiff, reduceIte, env_rules, tys, hT, tiAgg]; rfl))) ?_
        try simp only [wB, eq_self, Nat.reduceEqDiff, reduceIte, wL, Int.toNat_natCast, Int.reduceToNat, Nat.reduceAdd, Nat.reduceMul, Nat.reduceSub, Nat.reduceLeDiff, hx]
        refine lg_sem (by rfl) (sem_rawStore 1 m.old.toNat x.toNat (by first | (simp only [wB, eq_self, Nat.reduceEqDiff, reduceIte]; done) | (simp only [wB, eq_self, Nat.reduceEqDiff, reduceIte]; rfl)) (by first | trivial | simp only [wB, eq_self, Nat.reduceEqDiff, reduceIte]) (by first | (simp only [wB, eq_self, Nat.reduceEqDiff, reduceIte]; done) | (simp only [wB, eq_self, Nat.reduceEqDiff, reduceIte]; rfl)) (by first | trivial | simp only [wB, eq_self, Nat.reduceEqDiff, reduceIte]) (by simp only [wB, eq_self, Nat.reduceEqDiff, reduceIte]; rfl) hbg (by rw [rvec_len]; omega) (by first | (simp only [wB, eq_self, Nat.reduceEqDiff, reduceIte, env_rules, tys, hT, tiAgg]; done) | (simp only [wB, eq_self, Nat.reduceEqDiff, reduceIte, env_rules, tys, hT, tiAgg]; rfl)) ?_)
        try simp only [wB, eq_self, Nat.reduceEqDiff, reduceIte, wL, Int.toNat_natCast, Int.reduceToNat, Nat.reduceAdd, Nat.reduceMul, Nat.reduceSub, Nat.reduceLeDiff, hx]
        refine lg_nil ?_
        have hx := hx0
        refine h22 _ ?_; clear h22; try clear N22
        refine u_reg ?_
        try refine lg_mk ?_
        refine u_mv ?_
        refine u_bn ?_
        refine u_mv ?_
        refine lg_nil ?_
        refine h18 _ ⟨j + 1, ?_, ?_, [some 0, some 1], ?_⟩
        ·dsimp only
         omega
        ·dsimp only
         omega
        ·dsimp only
         refine ⟨by rfl, ?_, ?_⟩
         ·refine fin_ ?_
          (repeat' apply And.intro) <;> (first | (first | (with_reducible rfl) | exact True.intro | exact congrArg (OB.bag _ _) (by rw [bagM_set (by omega) hve, m0P_set hme hxe ho1 hx1])) | exact cl_)
         ·refine fin_ ?_
          (repeat' apply And.intro) <;> (first | (first | (with_reducible rfl) | exact True.intro | exact congrArg (OB.bag _ _) (by rw [bagM_set (by omega) hve, m0P_set hme hxe ho1 hx1])) | exact cl_)
       ·refine vc_exit ?_
        simp only [k_rules, Nat.reduceEqDiff, reduceIte, eq_self]
        refine h16 _ ?_; clear h16; try clear N16
        refine u_reg ?_
        try refine lg_mk ?_
        refine u_mv ?_
        refine u_bn ?_
        refine u_mv ?_
        refine lg_nil ?_
        obtain rfl : j = m.nw.length := by omega
        refine h12 _ ⟨i + 1, ?_, ?_, [some 0, some 1], ?_⟩
        ·dsimp only
         omega
        ·dsimp only
         omega
        ·dsimp only
         refine ⟨by rfl, ?_, ?_⟩
         ·refine fin_ ?_
          (repeat' apply And.intro) <;> (first | (first | (with_reducible rfl) | exact True.intro | exact congrArg (OB.bag _ _) (by rw [m0P_next hme])) | exact cl_)
         ·refine fin_ ?_
          (repeat' apply And.intro) <;> (first | (first | (with_reducible rfl) | exact True.intro | exact congrArg (OB.bag _ _) (by rw [m0P_next hme])) | exact cl_)
     ·refine vc_exit ?_
      simp only [k_rules, Nat.reduceEqDiff, reduceIte, eq_self]
      refine h10 _ ?_; clear h10; try clear N10
      refine vc_seq_k fun N23 h23 => ?_
      refine vc_seq_k fun N24 h24 => ?_
      refine u_reg ?_
      try refine lg_mk ?_
      refine u_mv ?_
      refine lg_nil ?_
      refine h24 _ ?_; clear h24; try clear N24
      refine vc_block ?_
      obtain rfl : i = l.length := by omega
      refine vc_loop_mk (σ := Nat) (fun s => (fun k => k ≤ 60) s)
       (fun s => (fun k => [(0, .d (.sl (rows eM l))), (3, .sl 0 0 60), (7, .d (.int .i64 (k : Nat)))]) s)
       (fun s => (fun k => [some (.vec 63 1 (rows eR vs)), some (.ob (.bag 4 1 (rawB (psL (matB (fwk (m0 l) k) 60)) vs)))]) s) (fun s => (fun k => 60 - k) s) hnp 0 ?_ [some 0, some 1] ?_ ?_
      ·dsimp only
       omega
      ·dsimp only
       refine ⟨by rfl, ?_, ?_⟩
       ·refine fin_ ?_
        (repeat' apply And.intro) <;> (first | (first | (with_reducible rfl) | exact True.intro | exact congrArg (OB.bag _ _) (by rw [m0P_all]; rfl)) | exact cl_)
       ·refine fin_ ?_
        (repeat' apply And.intro) <;> (first | (first | (with_reducible rfl) | exact True.intro | exact congrArg (OB.bag _ _) (by rw [m0P_all]; rfl)) | exact cl_)
      ·rintro k hinv N25 h25
       dsimp only at hinv ⊢
       have k1 := hinv
       refine vc_seq_k fun N26 h26 => ?_
       refine vc_seq_k fun N27 h27 => ?_
       refine u_reg ?_
       try refine lg_mk ?_
       refine u_mv ?_
       refine u_bn ?_
       refine lg_nil ?_
       refine h27 _ ?_; clear h27; try clear N27
       refine u_cond (fun hb28 => ?_) (fun hb28 => ?_)
       ·refine vc_skip ?_
        try simp only [k_rules]
        refine h26 _ ?_; clear h26; try clear N26
        refine vc_seq_k fun N29 h29 => ?_
        refine vc_block ?_
        refine vc_seq_k fun N30 h30 => ?_
        refine u_reg ?_
        try refine lg_mk ?_
        refine u_mv ?_
        refine lg_nil ?_
        refine h30 _ ?_; clear h30; try clear N30
        refine vc_block ?_
        refine vc_loop_mk (σ := Nat) (fun s => (fun i => i ≤ 60) s)
         (fun s => (fun i => [(0, .d (.sl (rows eM l))), (3, .sl 0 0 60), (7, .d (.int .i64 (k : Nat))), (8, .d (.int .i64 (i : Nat)))]) s)
         (fun s => (fun i => [some (.vec 63 1 (rows eR vs)), some (.ob (.bag 4 1 (rawB (psL (matB (fwP (fwk (m0 l) k) k i 0) 60)) vs)))]) s) (fun s => (fun i => 60 - i) s) hnp 0 ?_ [some 0, some 1] ?_ ?_
        ·dsimp only
         omega
        ·dsimp only
         refine ⟨by rfl, ?_, ?_⟩
         ·refine fin_ ?_
          (repeat' apply And.intro) <;> (first | (first | (with_reducible rfl) | exact True.intro | exact congrArg (OB.bag _ _) (by rw [fwP_zero])) | exact cl_)
         ·refine fin_ ?_
          (repeat' apply And.intro) <;> (first | (first | (with_reducible rfl) | exact True.intro | exact congrArg (OB.bag _ _) (by rw [fwP_zero])) | exact cl_)
        ·rintro i hinv N31 h31
         dsimp only at hinv ⊢
         have i1 := hinv
         refine vc_seq_k fun N32 h32 => ?_
         refine vc_seq_k fun N33 h33 => ?_
         refine u_reg ?_
         try refine lg_mk ?_
         refine u_mv ?_
         refine u_bn ?_
         refine lg_nil ?_
         refine h33 _ ?_; clear h33; try clear N33
         refine u_cond (fun hb34 => ?_) (fun hb34 => ?_)
         ·refine vc_skip ?_
          try simp only [k_rules]
          refine h32 _ ?_; clear h32; try clear N32
          refine vc_seq_k fun N35 h35 => ?_
          refine vc_block ?_
          refine vc_seq_k fun N36 h36 => ?_
          refine u_reg ?_
          try refine lg_mk ?_
          refine u_mv ?_
          refine lg_nil ?_
          refine h36 _ ?_; clear h36; try clear N36
          refine vc_block ?_
          refine vc_loop_mk (σ := Nat) (fun s => (fun j => j ≤ 60 ∧ (0 < j → fwk (m0 l) k i k = true)) s)
           (fun s => (fun j => [(0, .d (.sl (rows eM l))), (3, .sl 0 0 60), (7, .d (.int .i64 (k : Nat))), (8, .d (.int .i64 (i : Nat))), (9, .d (.int .i64 (j : Nat)))]) s)
           (fun s => (fun j => [some (.vec 63 1 (rows eR vs)), some (.ob (.bag 4 1 (rawB (psL (matB (fwP (fwk (m0 l) k) k i j) 60)) vs)))]) s) (fun s => (fun j => 60 - j) s) hnp 0 ?_ [some 0, some 1] ?_ ?_
          ·dsimp only
           exact ⟨by omega, fun h => absurd h (by omega)⟩
          ·dsimp only
           refine ⟨by rfl, ?_, ?_⟩
           ·refine fin_ ?_
            (repeat' apply And.intro) <;> (first | (first | (with_reducible rfl) | exact True.intro | exact congrArg (OB.bag _ _) (rfl)) | exact cl_)
           ·refine fin_ ?_
            (repeat' apply And.intro) <;> (first | (first | (with_reducible rfl) | exact True.intro | exact congrArg (OB.bag _ _) (rfl)) | exact cl_)
          ·rintro j hinv N37 h37
           dsimp only at hinv ⊢
           obtain ⟨j1, j2⟩ := hinv
           refine vc_seq_k fun N38 h38 => ?_
           refine vc_seq_k fun N39 h39 => ?_
           rcases Nat.lt_or_ge j 60 with hj6 | hj6
           ·have hgt : decide ((j : Int) ≤ 59) = true := decide_eq_true (by omega)
            obtain ⟨vi, hvi⟩ := getE (l := vs) (i := i) (by omega)
            have hbi := bagM_get (F := fwP (fwk (m0 l) k) k i j) (i := i) (by omega) hvi
            have hgk := rvec_get (f := fwP (fwk (m0 l) k) k i j i) (k := k) (by omega)
            rw [fwP_col] at hgk
            have hx := And.intro @hgt (And.intro @hvi (And.intro @eR.eq_1 hx0))
            refine u_reg ?_
            try refine lg_mk ?_
            refine u_mv ?_
            refine u_bn ?_
            refine u_mv ?_
            refine g_mv ?_
            refine g_mv ?_
            refine g_pt ?_
            refine g_ld ?_
            refine g_mv ?_
            first | (refine lg_g0 ?_ ?_; focus (exact gt_)) | refine lg_semV1 (by exact gt_) (by rfl) (semv_rawIx 1 i (by first | (simp only [wB, eq_self, Nat.reduceEqDiff, reduceIte]; done) | (simp only [wB, eq_self, Nat.reduceEqDiff, reduceIte]; rfl)) (by first | trivial | simp only [wB, eq_self, Nat.reduceEqDiff, reduceIte]) (by first | (simp only [wB, eq_self, Nat.reduceEqDiff, reduceIte]; done) | (simp only [wB, eq_self, Nat.reduceEqDiff, reduceIte]; rfl)) (by first | trivial | simp only [wB, eq_self, Nat.reduceEqDiff, reduceIte]) (by simp only [wB, eq_self, Nat.reduceEqDiff, reduceIte]; rfl) hbi ⟨by omega, by rw [rvec_len]; omega⟩ (by first | (simp only [wB, eq_self, Nat.reduceEqDiff, reduceIte, env_rules, tys, hT, tiAgg]; done) | (simp only [wB, eq_self, Nat.reduceEqDiff, reduceIte, env_rules, tys, hT, tiAgg]; rfl)) (by first | (simp only [wB, eq_self, Nat.reduceEqDiff, reduceIte, env_rules, tys, hT, tiAgg]; done) | (simp only [wB, eq_self, Nat.reduceEqDiff, reduceIte, env_rules, tys, hT, tiAgg]; rfl))) ?_
            try simp only [wB, eq_self, Nat.reduceEqDiff, reduceIte, wL, Int.toNat_natCast, Int.reduceToNat, Nat.reduceAdd, Nat.reduceMul, Nat.reduceSub, Nat.reduceLeDiff, hx]
            first | (refine lg_g0 ?_ ?_; focus (exact gt_)) | refine lg_semV1 (by exact gt_) (by rfl) (semv_rawLoad 1 i k (by first | (simp only [wB, eq_self, Nat.reduceEqDiff, reduceIte]; done) | (simp only [wB, eq_self, Nat.reduceEqDiff, reduceIte]; rfl)) (by first | trivial | simp only [wB, eq_self, Nat.reduceEqDiff, reduceIte]) (by simp only [wB, eq_self, Nat.reduceEqDiff, reduceIte]; rfl) hbi hgk (by first | (simp only [wB, eq_self, Nat.reduceEqDiff, reduceIte, env_rules, tys, hT, tiAgg]; done) | (simp only [wB, eq_self, Nat.reduceEqDiff, reduceIte, env_rules, tys, hT, tiAgg]; rfl)) (by rfl)) ?_
            try simp only [wB, eq_self, Nat.reduceEqDiff, reduceIte, wL, Int.toNat_natCast, Int.reduceToNat, Nat.reduceAdd, Nat.reduceMul, Nat.reduceSub, Nat.reduceLeDiff, hx]
            refine u_pk ?_
            refine lg_nil ?_
            have hx := hx0
            refine h39 _ ?_; clear h39; try clear N39
            refine u_cond (fun hb40 => ?_) (fun hb40 => ?_)
            ·refine vc_skip ?_
             try simp only [k_rules]
             refine h38 _ ?_; clear h38; try clear N38
             refine vc_seq_k fun N41 h41 => ?_
             refine vc_block ?_
             obtain ⟨vk, hvk⟩ := getE (l := vs) (i := k) (by omega)
             have hbk := bagM_get (F := fwP (fwk (m0 l) k) k i j) (i := k) (by omega) hvk
             have hgj := rvec_get (f := fwP (fwk (m0 l) k) k i j i) (k := j) (by omega)
             rw [fwP_at] at hgj
             have hgr := rvec_get (f := fwP (fwk (m0 l) k) k i j k) (k := j) (by omega)
             rw [fwP_row] at hgr
             have hik : fwk (m0 l) k i k = true := by have := hb40; simpa using this
             rcases hb1 : fwk (m0 l) k i j with _ | _
             ·have hv : (fwk (m0 l) k i j || (fwk (m0 l) k i k && fwk (m0 l) k k j)) = fwk (m0 l) k k j := by rw [hb1, hik]; simp
              rw [hb1] at hgj
              have hx := And.intro @hvi (And.intro @hvk (And.intro @eR.eq_1 hx0))
              refine u_reg ?_
              try refine lg_mk ?_
              refine u_mv ?_
              refine u_mv ?_
              refine u_pt ?_
              refine u_ld ?_
              refine u_mv ?_
              refine u_mv ?_
              refine u_mv ?_
              refine u_pt ?_
              refine u_ld ?_
              refine u_mv ?_
              refine lg_semV (by rfl) (semv_rawIx 1 i (by first | (simp only [wB, eq_self, Nat.reduceEqDiff, reduceIte]; done) | (simp only [wB, eq_self, Nat.reduceEqDiff, reduceIte]; rfl)) (by first | trivial | simp only [wB, eq_self, Nat.reduceEqDiff, reduceIte]) (by first | (simp only [wB, eq_self, Nat.reduceEqDiff, reduceIte]; done) | (simp only [wB, eq_self, Nat.reduceEqDiff, reduceIte]; rfl)) (by first | trivial | simp only [wB, eq_self, Nat.reduceEqDiff, reduceIte]) (by simp only [wB, eq_self, Nat.reduceEqDiff, reduceIte]; rfl) hbi ⟨by omega, by rw [rvec_len]; omega⟩ (by first | (simp only [wB, eq_self, Nat.reduceEqDiff, reduceIte, env_rules, tys, hT, tiAgg]; done) | (simp only [wB, eq_self, Nat.reduceEqDiff, reduceIte, env_rules, tys, hT, tiAgg]; rfl)) (by first | (simp only [wB, eq_self, Nat.reduceEqDiff, reduceIte, env_rules, tys, hT, tiAgg]; done) | (simp only [wB, eq_self, Nat.reduceEqDiff, reduceIte, env_rules, tys, hT, tiAgg]; rfl))) ?_
              try simp only [wB, eq_self, Nat.reduceEqDiff, reduceIte, wL, Int.toNat_natCast, Int.reduceToNat, Nat.reduceAdd, Nat.reduceMul, Nat.reduceSub, Nat.reduceLeDiff, hx]
              refine lg_semV (by rfl) (semv_rawLoad 1 i j (by first | (simp only [wB, eq_self, Nat.reduceEqDiff, reduceIte]; done) | (simp only [wB, eq_self, Nat.reduceEqDiff, reduceIte]; rfl)) (by first | trivial | simp only [wB, eq_self, Nat.reduceEqDiff, reduceIte]) (by simp only [wB, eq_self, Nat.reduceEqDiff, reduceIte]; rfl) hbi hgj (by first | (simp only [wB, eq_self, Nat.reduceEqDiff, reduceIte, env_rules, tys, hT, tiAgg]; done) | (simp only [wB, eq_self, Nat.reduceEqDiff, reduceIte, env_rules, tys, hT, tiAgg]; rfl)) (by rfl)) ?_
              try simp only [wB, eq_self, Nat.reduceEqDiff, reduceIte, wL, Int.toNat_natCast, Int.reduceToNat, Nat.reduceAdd, Nat.reduceMul, Nat.reduceSub, Nat.reduceLeDiff, hx]
              refine u_mv ?_
              refine g_mv ?_
              refine g_mv ?_
              refine g_pt ?_
              refine g_ld ?_
              refine g_mv ?_
              first | (refine lg_g0 ?_ ?_; focus (exact gt_)) | refine lg_semV1 (by exact gt_) (by rfl) (semv_rawIx 1 k (by first | (simp only [wB, eq_self, Nat.reduceEqDiff, reduceIte]; done) | (simp only [wB, eq_self, Nat.reduceEqDiff, reduceIte]; rfl)) (by first | trivial | simp only [wB, eq_self, Nat.reduceEqDiff, reduceIte]) (by first | (simp only [wB, eq_self, Nat.reduceEqDiff, reduceIte]; done) | (simp only [wB, eq_self, Nat.reduceEqDiff, reduceIte]; rfl)) (by first | trivial | simp only [wB, eq_self, Nat.reduceEqDiff, reduceIte]) (by simp only [wB, eq_self, Nat.reduceEqDiff, reduceIte]; rfl) hbk ⟨by omega, by rw [rvec_len]; omega⟩ (by first | (simp only [wB, eq_self, Nat.reduceEqDiff, reduceIte, env_rules, tys, hT, tiAgg]; done) | (simp only [wB, eq_self, Nat.reduceEqDiff, reduceIte, env_rules, tys, hT, tiAgg]; rfl)) (by first | (simp only [wB, eq_self, Nat.reduceEqDiff, reduceIte, env_rules, tys, hT, tiAgg]; done) | (simp only [wB, eq_self, Nat.reduceEqDiff, reduceIte, env_rules, tys, hT, tiAgg]; rfl))) ?_
              try simp only [wB, eq_self, Nat.reduceEqDiff, reduceIte, wL, Int.toNat_natCast, Int.reduceToNat, Nat.reduceAdd, Nat.reduceMul, Nat.reduceSub, Nat.reduceLeDiff, hx]
              first | (refine lg_g0 ?_ ?_; focus (exact gt_)) | refine lg_semV1 (by exact gt_) (by rfl) (semv_rawLoad 1 k j (by first | (simp only [wB, eq_self, Nat.reduceEqDiff, reduceIte]; done) | (simp only [wB, eq_self, Nat.reduceEqDiff, reduceIte]; rfl)) (by first | trivial | simp only [wB, eq_self, Nat.reduceEqDiff, reduceIte]) (by simp only [wB, eq_self, Nat.reduceEqDiff, reduceIte]; rfl) hbk hgr (by first | (simp only [wB, eq_self, Nat.reduceEqDiff, reduceIte, env_rules, tys, hT, tiAgg]; done) | (simp only [wB, eq_self, Nat.reduceEqDiff, reduceIte, env_rules, tys, hT, tiAgg]; rfl)) (by rfl)) ?_
              try simp only [wB, eq_self, Nat.reduceEqDiff, reduceIte, wL, Int.toNat_natCast, Int.reduceToNat, Nat.reduceAdd, Nat.reduceMul, Nat.reduceSub, Nat.reduceLeDiff, hx]
              refine u_pk ?_
              refine lg_semV (by rfl) (semv_rawIx 1 i (by first | (simp only [wB, eq_self, Nat.reduceEqDiff, reduceIte]; done) | (simp only [wB, eq_self, Nat.reduceEqDiff, reduceIte]; rfl)) (by first | trivial | simp only [wB, eq_self, Nat.reduceEqDiff, reduceIte]) (by first | (simp only [wB, eq_self, Nat.reduceEqDiff, reduceIte]; done) | (simp only [wB, eq_self, Nat.reduceEqDiff, reduceIte]; rfl)) (by first | trivial | simp only [wB, eq_self, Nat.reduceEqDiff, reduceIte]) (by simp only [wB, eq_self, Nat.reduceEqDiff, reduceIte]; rfl) hbi ⟨by omega, by rw [rvec_len]; omega⟩ (by first | (simp only [wB, eq_self, Nat.reduceEqDiff, reduceIte, env_rules, tys, hT, tiAgg]; done) | (simp only [wB, eq_self, Nat.reduceEqDiff, reduceIte, env_rules, tys, hT, tiAgg]; rfl)) (by first | (simp only [wB, eq_self, Nat.reduceEqDiff, reduceIte, env_rules, tys, hT, tiAgg]; done) | (simp only [wB, eq_self, Nat.reduceEqDiff, reduceIte, env_rules, tys, hT, tiAgg]; rfl))) ?_
              try simp only [wB, eq_self, Nat.reduceEqDiff, reduceIte, wL, Int.toNat_natCast, Int.reduceToNat, Nat.reduceAdd, Nat.reduceMul, Nat.reduceSub, Nat.reduceLeDiff, hx]
              refine lg_sem (by rfl) (sem_rawStore 1 i j (by first | (simp only [wB, eq_self, Nat.reduceEqDiff, reduceIte]; done) | (simp only [wB, eq_self, Nat.reduceEqDiff, reduceIte]; rfl)) (by first | trivial | simp only [wB, eq_self, Nat.reduceEqDiff, reduceIte]) (by first | (simp only [wB, eq_self, Nat.reduceEqDiff, reduceIte]; done) | (simp only [wB, eq_self, Nat.reduceEqDiff, reduceIte]; rfl)) (by first | trivial | simp only [wB, eq_self, Nat.reduceEqDiff, reduceIte]) (by simp only [wB, eq_self, Nat.reduceEqDiff, reduceIte]; rfl) hbi (by rw [rvec_len]; omega) (by first | (simp only [wB, eq_self, Nat.reduceEqDiff, reduceIte, env_rules, tys, hT, tiAgg]; done) | (simp only [wB, eq_self, Nat.reduceEqDiff, reduceIte, env_rules, tys, hT, tiAgg]; rfl)) ?_)
              try simp only [wB, eq_self, Nat.reduceEqDiff, reduceIte, wL, Int.toNat_natCast, Int.reduceToNat, Nat.reduceAdd, Nat.reduceMul, Nat.reduceSub, Nat.reduceLeDiff, hx]
              refine lg_nil ?_
              have hx := hx0
              refine h41 _ ?_; clear h41; try clear N41
              refine u_reg ?_
              try refine lg_mk ?_
              refine u_mv ?_
              refine u_bn ?_
              refine u_mv ?_
              refine lg_nil ?_
              refine h37 _ ⟨j + 1, ?_, ?_, [some 0, some 1], ?_⟩
              ·dsimp only
               exact ⟨by omega, fun _ => hik⟩
              ·dsimp only
               omega
              ·dsimp only
               refine ⟨by rfl, ?_, ?_⟩
               ·refine fin_ ?_
                (repeat' apply And.intro) <;> (first | (first | (with_reducible rfl) | exact True.intro | exact congrArg (OB.bag _ _) (by rw [bagM_set (by omega) hvi, ← fwP_set, hv])) | exact cl_)
               ·refine fin_ ?_
                (repeat' apply And.intro) <;> (first | (first | (with_reducible rfl) | exact True.intro | exact congrArg (OB.bag _ _) (by rw [bagM_set (by omega) hvi, ← fwP_set, hv])) | exact cl_)
             ·have hv : (fwk (m0 l) k i j || (fwk (m0 l) k i k && fwk (m0 l) k k j)) = true := by rw [hb1]; rfl
              rw [hb1] at hgj
              have hx := And.intro @hvi (And.intro @hvk (And.intro @eR.eq_1 hx0))
              refine u_reg ?_
              try refine lg_mk ?_
              refine u_mv ?_
              refine u_mv ?_
              refine u_pt ?_
              refine u_ld ?_
              refine u_mv ?_
              refine u_mv ?_
              refine u_mv ?_
              refine u_pt ?_
              refine u_ld ?_
              refine u_mv ?_
              refine lg_semV (by rfl) (semv_rawIx 1 i (by first | (simp only [wB, eq_self, Nat.reduceEqDiff, reduceIte]; done) | (simp only [wB, eq_self, Nat.reduceEqDiff, reduceIte]; rfl)) (by first | trivial | simp only [wB, eq_self, Nat.reduceEqDiff, reduceIte]) (by first | (simp only [wB, eq_self, Nat.reduceEqDiff, reduceIte]; done) | (simp only [wB, eq_self, Nat.reduceEqDiff, reduceIte]; rfl)) (by first | trivial | simp only [wB, eq_self, Nat.reduceEqDiff, reduceIte]) (by simp only [wB, eq_self, Nat.reduceEqDiff, reduceIte]; rfl) hbi ⟨by omega, by rw [rvec_len]; omega⟩ (by first | (simp only [wB, eq_self, Nat.reduceEqDiff, reduceIte, env_rules, tys, hT, tiAgg]; done) | (simp only [wB, eq_self, Nat.reduceEqDiff, reduceIte, env_rules, tys, hT, tiAgg]; rfl)) (by first | (simp only [wB, eq_self, Nat.reduceEqDiff, reduceIte, env_rules, tys, hT, tiAgg]; done) | (simp only [wB, eq_self, Nat.reduceEqDiff, reduceIte, env_rules, tys, hT, tiAgg]; rfl))) ?_
              try simp only [wB, eq_self, Nat.reduceEqDiff, reduceIte, wL, Int.toNat_natCast, Int.reduceToNat, Nat.reduceAdd, Nat.reduceMul, Nat.reduceSub, Nat.reduceLeDiff, hx]
              refine lg_semV (by rfl) (semv_rawLoad 1 i j (by first | (simp only [wB, eq_self, Nat.reduceEqDiff, reduceIte]; done) | (simp only [wB, eq_self, Nat.reduceEqDiff, reduceIte]; rfl)) (by first | trivial | simp only [wB, eq_self, Nat.reduceEqDiff, reduceIte]) (by simp only [wB, eq_self, Nat.reduceEqDiff, reduceIte]; rfl) hbi hgj (by first | (simp only [wB, eq_self, Nat.reduceEqDiff, reduceIte, env_rules, tys, hT, tiAgg]; done) | (simp only [wB, eq_self, Nat.reduceEqDiff, reduceIte, env_rules, tys, hT, tiAgg]; rfl)) (by rfl)) ?_
              try simp only [wB, eq_self, Nat.reduceEqDiff, reduceIte, wL, Int.toNat_natCast, Int.reduceToNat, Nat.reduceAdd, Nat.reduceMul, Nat.reduceSub, Nat.reduceLeDiff, hx]
              refine u_mv ?_
              refine g_mv ?_
              refine g_mv ?_
              refine g_pt ?_
              refine g_ld ?_
              refine g_mv ?_
              first | (refine lg_g0 ?_ ?_; focus (exact gt_)) | refine lg_semV1 (by exact gt_) (by rfl) (semv_rawIx 1 k (by first | (simp only [wB, eq_self, Nat.reduceEqDiff, reduceIte]; done) | (simp only [wB, eq_self, Nat.reduceEqDiff, reduceIte]; rfl)) (by first | trivial | simp only [wB, eq_self, Nat.reduceEqDiff, reduceIte]) (by first | (simp only [wB, eq_self, Nat.reduceEqDiff, reduceIte]; done) | (simp only [wB, eq_self, Nat.reduceEqDiff, reduceIte]; rfl)) (by first | trivial | simp only [wB, eq_self, Nat.reduceEqDiff, reduceIte]) (by simp only [wB, eq_self, Nat.reduceEqDiff, reduceIte]; rfl) hbk ⟨by omega, by rw [rvec_len]; omega⟩ (by first | (simp only [wB, eq_self, Nat.reduceEqDiff, reduceIte, env_rules, tys, hT, tiAgg]; done) | (simp only [wB, eq_self, Nat.reduceEqDiff, reduceIte, env_rules, tys, hT, tiAgg]; rfl)) (by first | (simp only [wB, eq_self, Nat.reduceEqDiff, reduceIte, env_rules, tys, hT, tiAgg]; done) | (simp only [wB, eq_self, Nat.reduceEqDiff, reduceIte, env_rules, tys, hT, tiAgg]; rfl))) ?_
              try simp only [wB, eq_self, Nat.reduceEqDiff, reduceIte, wL, Int.toNat_natCast, Int.reduceToNat, Nat.reduceAdd, Nat.reduceMul, Nat.reduceSub, Nat.reduceLeDiff, hx]
              first | (refine lg_g0 ?_ ?_; focus (exact gt_)) | refine lg_semV1 (by exact gt_) (by rfl) (semv_rawLoad 1 k j (by first | (simp only [wB, eq_self, Nat.reduceEqDiff, reduceIte]; done) | (simp only [wB, eq_self, Nat.reduceEqDiff, reduceIte]; rfl)) (by first | trivial | simp only [wB, eq_self, Nat.reduceEqDiff, reduceIte]) (by simp only [wB, eq_self, Nat.reduceEqDiff, reduceIte]; rfl) hbk hgr (by first | (simp only [wB, eq_self, Nat.reduceEqDiff, reduceIte, env_rules, tys, hT, tiAgg]; done) | (simp only [wB, eq_self, Nat.reduceEqDiff, reduceIte, env_rules, tys, hT, tiAgg]; rfl)) (by rfl)) ?_
              try simp only [wB, eq_self, Nat.reduceEqDiff, reduceIte, wL, Int.toNat_natCast, Int.reduceToNat, Nat.reduceAdd, Nat.reduceMul, Nat.reduceSub, Nat.reduceLeDiff, hx]
              refine u_pk ?_
              refine lg_semV (by rfl) (semv_rawIx 1 i (by first | (simp only [wB, eq_self, Nat.reduceEqDiff, reduceIte]; done) | (simp only [wB, eq_self, Nat.reduceEqDiff, reduceIte]; rfl)) (by first | trivial | simp only [wB, eq_self, Nat.reduceEqDiff, reduceIte]) (by first | (simp only [wB, eq_self, Nat.reduceEqDiff, reduceIte]; done) | (simp only [wB, eq_self, Nat.reduceEqDiff, reduceIte]; rfl)) (by first | trivial | simp only [wB, eq_self, Nat.reduceEqDiff, reduceIte]) (by simp only [wB, eq_self, Nat.reduceEqDiff, reduceIte]; rfl) hbi ⟨by omega, by rw [rvec_len]; omega⟩ (by first | (simp only [wB, eq_self, Nat.reduceEqDiff, reduceIte, env_rules, tys, hT, tiAgg]; done) | (simp only [wB, eq_self, Nat.reduceEqDiff, reduceIte, env_rules, tys, hT, tiAgg]; rfl)) (by first | (simp only [wB, eq_self, Nat.reduceEqDiff, reduceIte, env_rules, tys, hT, tiAgg]; done) | (simp only [wB, eq_self, Nat.reduceEqDiff, reduceIte, env_rules, tys, hT, tiAgg]; rfl))) ?_
              try simp only [wB, eq_self, Nat.reduceEqDiff, reduceIte, wL, Int.toNat_natCast, Int.reduceToNat, Nat.reduceAdd, Nat.reduceMul, Nat.reduceSub, Nat.reduceLeDiff, hx]
              refine lg_sem (by rfl) (sem_rawStore 1 i j (by first | (simp only [wB, eq_self, Nat.reduceEqDiff, reduceIte]; done) | (simp only [wB, eq_self, Nat.reduceEqDiff, reduceIte]; rfl)) (by first | trivial | simp only [wB, eq_self, Nat.reduceEqDiff, reduceIte]) (by first | (simp only [wB, eq_self, Nat.reduceEqDiff, reduceIte]; done) | (simp only [wB, eq_self, Nat.reduceEqDiff, reduceIte]; rfl)) (by first | trivial | simp only [wB, eq_self, Nat.reduceEqDiff, reduceIte]) (by simp only [wB, eq_self, Nat.reduceEqDiff, reduceIte]; rfl) hbi (by rw [rvec_len]; omega) (by first | (simp only [wB, eq_self, Nat.reduceEqDiff, reduceIte, env_rules, tys, hT, tiAgg]; done) | (simp only [wB, eq_self, Nat.reduceEqDiff, reduceIte, env_rules, tys, hT, tiAgg]; rfl)) ?_)
              try simp only [wB, eq_self, Nat.reduceEqDiff, reduceIte, wL, Int.toNat_natCast, Int.reduceToNat, Nat.reduceAdd, Nat.reduceMul, Nat.reduceSub, Nat.reduceLeDiff, hx]
              refine lg_nil ?_
              have hx := hx0
              refine h41 _ ?_; clear h41; try clear N41
              refine u_reg ?_
              try refine lg_mk ?_
              refine u_mv ?_
              refine u_bn ?_
              refine u_mv ?_
              refine lg_nil ?_
              refine h37 _ ⟨j + 1, ?_, ?_, [some 0, some 1], ?_⟩
              ·dsimp only
               exact ⟨by omega, fun _ => hik⟩
              ·dsimp only
               omega
              ·dsimp only
               refine ⟨by rfl, ?_, ?_⟩
               ·refine fin_ ?_
                (repeat' apply And.intro) <;> (first | (first | (with_reducible rfl) | exact True.intro | exact congrArg (OB.bag _ _) (by rw [bagM_set (by omega) hvi, ← fwP_set, hv])) | exact cl_)
               ·refine fin_ ?_
                (repeat' apply And.intro) <;> (first | (first | (with_reducible rfl) | exact True.intro | exact congrArg (OB.bag _ _) (by rw [bagM_set (by omega) hvi, ← fwP_set, hv])) | exact cl_)
            ·refine vc_exit ?_
             simp only [k_rules, Nat.reduceEqDiff, reduceIte, eq_self]
             refine h35 _ ?_; clear h35; try clear N35
             refine u_reg ?_
             try refine lg_mk ?_
             refine u_mv ?_
             refine u_bn ?_
             refine u_mv ?_
             refine lg_nil ?_
             have hik : fwk (m0 l) k i k = false := by have := hb40; simpa using this
             obtain rfl : j = 0 := Decidable.byContradiction fun h => by have := j2 (by omega); rw [hik] at this; cases this
             refine h31 _ ⟨i + 1, ?_, ?_, [some 0, some 1], ?_⟩
             ·dsimp only
              omega
             ·dsimp only
              omega
             ·dsimp only
              refine ⟨by rfl, ?_, ?_⟩
              ·refine fin_ ?_
               (repeat' apply And.intro) <;> (first | (first | (with_reducible rfl) | exact True.intro | exact congrArg (OB.bag _ _) (by rw [fwP_skip hik])) | exact cl_)
              ·refine fin_ ?_
               (repeat' apply And.intro) <;> (first | (first | (with_reducible rfl) | exact True.intro | exact congrArg (OB.bag _ _) (by rw [fwP_skip hik])) | exact cl_)
           ·have hgt : decide ((j : Int) ≤ 59) = false := decide_eq_false (by omega)
            have hvi := hgt
            have hbi := hgt
            have hgk := hgt
            have hx := And.intro @hgt (And.intro @hvi (And.intro @eR.eq_1 hx0))
            refine u_reg ?_
            try refine lg_mk ?_
            refine u_mv ?_
            refine u_bn ?_
            refine u_mv ?_
            refine g_mv ?_
            refine g_mv ?_
            refine g_pt ?_
            refine g_ld ?_
            refine g_mv ?_
            first | (refine lg_g0 ?_ ?_; focus (exact gt_)) | refine lg_semV1 (by exact gt_) (by rfl) (semv_rawIx 1 i (by first | (simp only [wB, eq_self, Nat.reduceEqDiff, reduceIte]; done) | (simp only [wB, eq_self, Nat.reduceEqDiff, reduceIte]; rfl)) (by first | trivial | simp only [wB, eq_self, Nat.reduceEqDiff, reduceIte]) (by first | (simp only [wB, eq_self, Nat.reduceEqDiff, reduceIte]; done) | (simp only [wB, eq_self, Nat.reduceEqDiff, reduceIte]; rfl)) (by first | trivial | simp only [wB, eq_self, Nat.reduceEqDiff, reduceIte]) (by simp only [wB, eq_self, Nat.reduceEqDiff, reduceIte]; rfl) hbi ⟨by omega, by rw [rvec_len]; omega⟩ (by first | (simp only [wB, eq_self, Nat.reduceEqDiff, reduceIte, env_rules, tys, hT, tiAgg]; done) | (simp only [wB, eq_self, Nat.reduceEqDiff, reduceIte, env_rules, tys, hT, tiAgg]; rfl)) (by first | (simp only [wB, eq_self, Nat.reduceEqDiff, reduceIte, env_rules, tys, hT, tiAgg]; done) | (simp only [wB, eq_self, Nat.reduceEqDiff, reduceIte, env_rules, tys, hT, tiAgg]; rfl))) ?_
            try simp only [wB, eq_self, Nat.reduceEqDiff, reduceIte, wL, Int.toNat_natCast, Int.reduceToNat, Nat.reduceAdd, Nat.reduceMul, Nat.reduceSub, Nat.reduceLeDiff, hx]
            first | (refine lg_g0 ?_ ?_; focus (exact gt_)) | refine lg_semV1 (by exact gt_) (by rfl) (semv_rawLoad 1 i k (by first | (simp only [wB, eq_self, Nat.reduceEqDiff, reduceIte]; done) | (simp only [wB, eq_self, Nat.reduceEqDiff, reduceIte]; rfl)) (by first | trivial | simp only [wB, eq_self, Nat.reduceEqDiff, reduceIte]) (by simp only [wB, eq_self, Nat.reduceEqDiff, reduceIte]; rfl) hbi hgk (by first | (simp only [wB, eq_self, Nat.reduceEqDiff, reduceIte, env_rules, tys, hT, tiAgg]; done) | (simp only [wB, eq_self, Nat.reduceEqDiff, reduceIte, env_rules, tys, hT, tiAgg]; rfl)) (by rfl)) ?_
            try simp only [wB, eq_self, Nat.reduceEqDiff, reduceIte, wL, Int.toNat_natCast, Int.reduceToNat, Nat.reduceAdd, Nat.reduceMul, Nat.reduceSub, Nat.reduceLeDiff, hx]
            refine u_pk ?_
            refine lg_nil ?_
            have hx := hx0
            refine h39 _ ?_; clear h39; try clear N39
            refine u_cond (fun hb42 => ?_) (fun hb42 => ?_)
            ·first | omega | exact absurd trivial hb42 | contradiction | (simp_all; done)
            ·refine vc_exit ?_
             simp only [k_rules, Nat.reduceEqDiff, reduceIte, eq_self]
             refine h35 _ ?_; clear h35; try clear N35
             refine u_reg ?_
             try refine lg_mk ?_
             refine u_mv ?_
             refine u_bn ?_
             refine u_mv ?_
             refine lg_nil ?_
             obtain rfl : j = 60 := by omega
             refine h31 _ ⟨i + 1, ?_, ?_, [some 0, some 1], ?_⟩
             ·dsimp only
              omega
             ·dsimp only
              omega
             ·dsimp only
              refine ⟨by rfl, ?_, ?_⟩
              ·refine fin_ ?_
               (repeat' apply And.intro) <;> (first | (first | (with_reducible rfl) | exact True.intro | exact congrArg (OB.bag _ _) (by rw [fwP_next])) | exact cl_)
              ·refine fin_ ?_
               (repeat' apply And.intro) <;> (first | (first | (with_reducible rfl) | exact True.intro | exact congrArg (OB.bag _ _) (by rw [fwP_next])) | exact cl_)
         ·refine vc_exit ?_
          simp only [k_rules, Nat.reduceEqDiff, reduceIte, eq_self]
          refine h29 _ ?_; clear h29; try clear N29
          refine u_reg ?_
          try refine lg_mk ?_
          refine u_mv ?_
          refine u_bn ?_
          refine u_mv ?_
          refine lg_nil ?_
          obtain rfl : i = 60 := by omega
          refine h25 _ ⟨k + 1, ?_, ?_, [some 0, some 1], ?_⟩
          ·dsimp only
           omega
          ·dsimp only
           omega
          ·dsimp only
           refine ⟨by rfl, ?_, ?_⟩
           ·refine fin_ ?_
            (repeat' apply And.intro) <;> (first | (first | (with_reducible rfl) | exact True.intro | exact congrArg (OB.bag _ _) (by rw [fwP_all]; rfl)) | exact cl_)
           ·refine fin_ ?_
            (repeat' apply And.intro) <;> (first | (first | (with_reducible rfl) | exact True.intro | exact congrArg (OB.bag _ _) (by rw [fwP_all]; rfl)) | exact cl_)
       ·refine vc_exit ?_
        simp only [k_rules, Nat.reduceEqDiff, reduceIte, eq_self]
        refine h23 _ ?_; clear h23; try clear N23
        refine vc_seq_k fun N43 h43 => ?_
        obtain rfl : k = 60 := by omega
        refine vc_dataT 3 0 1 rfl (f := 0) (ps := psL (matB (rcK l) 60)) (vs := vs) (Nat.le_of_ble_eq_true rfl) (by rw [psL_len, matB_len]; rfl) rfl rfl (by decide) (by rw [psL_len, matB_len]; exact hvs) (by rw [rawR_psL (by rw [matB_len]; exact hvs)]) rfl ?_
        simp only [kilL, updL, List.set, List.cons_append, List.nil_append, List.mem_cons, List.not_mem_nil, or_false]
        rw [dataR_psL]
        refine u_reg ?_
        try refine lg_mk ?_
        refine u_mv ?_
        refine u_mv ?_
        refine lg_nil ?_
        refine h43 _ ?_; clear h43; try clear N43
        refine vc_ret ?_
        try simp only [k_rules]
        refine fin2_ ?_
        exact cl_
 ·cases hg

def E_rep : Env Try.prog := E_orp.add 39 (Spec.pure repG) rep_meets (by kernel_rfl)
end Go.Proofs.Ytjpkgmmmmcgmeaa
