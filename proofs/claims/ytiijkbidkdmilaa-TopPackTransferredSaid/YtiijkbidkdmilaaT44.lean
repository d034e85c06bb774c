/- Walks, printed by wip/gen/walk.py. -/
import Derived.Test.YtiijkbidkdmilaaT43
import Derived.Test.YtiijkbidkdmilaaV5
set_option linter.all false
set_option maxRecDepth 100000
set_option maxHeartbeats 4000000
namespace Go.Proofs.Ytiijkbidkdmilaa
open Go Go.Vc Go.RowKit
def stepCode (total acked : Int) (fs ws : List Int) (k n : Int) : Int :=
  if k = 1 then (if n ≠ 0 then 5 else if acked = total then 11 else 0)
  else if k = 2 ∨ k = 3 ∨ k = 4 then (if okN fs n = true then 0 else 6)
  else if k = 5 ∨ k = 6 then (if okN ws n = true then 0 else 6) else 4
def tookK (taken x : Int) : Int := if x = taken then taken + 1 else taken
def linkB (t : TypeId) (total acked taken : Int) (f w lf lw : Nat) : Option Box := some (.one t [.d (.int .i64 total), .d (.int .i64 acked), .d (.int .i64 taken), .sl f 0 lf, .sl w 0 lw])
def intsB (l : List Int) : Option Box := some (.vec 3 1 (rows eI l))
def stepBf (t : TypeId) (total acked taken : Int) (fs ws : List Int) (k n : Int) : List (Option Box) :=
  if stepCode total acked fs ws k n ≠ 0 then [linkB t total acked taken 1 2 fs.length ws.length, intsB fs, intsB ws]
  else if k = 1 then [linkB t total acked taken 3 2 (fs.length + 1) ws.length, none, intsB ws, intsB (fs ++ [acked])]
  else if k = 4 then [linkB t total acked taken 3 2 (fs.length + 1) ws.length, none, intsB ws, intsB (fs ++ [getN fs n])]
  else if k = 2 then [linkB t total acked (tookK taken (getN fs n)) 1 3 (dropN fs n).length (ws.length + 1), intsB (dropN fs n), none, intsB (ws ++ [tookK taken (getN fs n)])]
  else if k = 3 then [linkB t total acked taken 1 2 (dropN fs n).length ws.length, intsB (dropN fs n), intsB ws]
  else if k = 5 then [linkB t total (max acked (getN ws n)) taken 1 2 fs.length (dropN ws n).length, intsB fs, intsB (dropN ws n)]
  else [linkB t total acked taken 1 2 fs.length (dropN ws n).length, intsB fs, intsB (dropN ws n)]
def stepG : GFun
  | [.ptr 0 0 0, .agg [.d (.int .i64 k), .d (.int .i64 n)]], [some (.one t [.d (.int .i64 total), .d (.int .i64 acked), .d (.int .i64 taken), .sl 1 0 lf, .sl 2 0 lw]), some (.vec t1 s1 xs), some (.vec t2 s2 ys)] =>
    some (xs = rows eI (dI xs) ∧ ys = rows eI (dI ys) ∧ t1 = 3 ∧ s1 = 1 ∧ t2 = 3 ∧ s2 = 1 ∧ lf = (dI xs).length ∧ lw = (dI ys).length ∧ (dI xs).length ≤ 1000000 ∧ (dI ys).length ≤ 1000000 ∧ -1000000000 ≤ taken ∧ taken ≤ 1000000000,
      .d (.int .i64 (stepCode total acked (dI xs) (dI ys) k n)), stepBf t total acked taken (dI xs) (dI ys) k n)
  | _, _ => none
theorem okN_ex {l : List Int} {n : Int} (h : okN l n = true) : ∃ m : Nat, n = m ∧ m < l.length ∧ ∃ x, l[m]? = some x ∧ getN l n = x := by
  simp only [okN, Bool.and_eq_true, decide_eq_true_eq] at h
  refine ⟨n.toNat, by omega, by omega, l[n.toNat]'(by omega), List.getElem?_eq_getElem _, ?_⟩
  have hk : okN l n = true := by simp [okN, h]
  simp [getN, hk, List.getD, show n.toNat < l.length by omega]

section
variable {t : TypeId} {total acked taken : Int} {fs ws : List Int} {k n : Int}
theorem step_bad {c : Int} (h : stepCode total acked fs ws k n = c) (hc : c ≠ 0) : stepCode total acked fs ws k n = c ∧ stepBf t total acked taken fs ws k n = [linkB t total acked taken 1 2 fs.length ws.length, intsB fs, intsB ws] :=
  ⟨h, by unfold stepBf; rw [if_pos (by rw [h]; exact hc)]⟩
theorem sc_1a (h : n ≠ 0) : stepCode total acked fs ws 1 n = 5 := by simp [stepCode, h]
theorem sc_1b (h : acked = total) : stepCode total acked fs ws 1 0 = 11 := by simp [stepCode, h]
theorem sc_1c (h : ¬ acked = total) : stepCode total acked fs ws 1 0 = 0 ∧ stepBf t total acked taken fs ws 1 0 = [linkB t total acked taken 3 2 (fs.length + 1) ws.length, none, intsB ws, intsB (fs ++ [acked])] := by simp [stepBf, stepCode, h]
theorem sc_f (hk : k = 2 ∨ k = 3 ∨ k = 4) (h : okN fs n = false) : stepCode total acked fs ws k n = 6 := by
  unfold stepCode; rw [if_neg (by omega), if_pos hk, h]; rfl
theorem sc_w (hk : k = 5 ∨ k = 6) (h : okN ws n = false) : stepCode total acked fs ws k n = 6 := by
  unfold stepCode; rw [if_neg (by omega), if_neg (by omega), if_pos hk, h]; rfl
theorem sc_k (h1 : ¬ k = 1) (h2 : ¬ k = 2) (h3 : ¬ k = 3) (h4 : ¬ k = 4) (h5 : ¬ k = 5) (h6 : ¬ k = 6) : stepCode total acked fs ws k n = 4 := by
  unfold stepCode; rw [if_neg h1, if_neg (by omega), if_neg (by omega)]
theorem sc_2 (h : okN fs n = true) : stepCode total acked fs ws 2 n = 0 ∧ stepBf t total acked taken fs ws 2 n = [linkB t total acked (tookK taken (getN fs n)) 1 3 (dropN fs n).length (ws.length + 1), intsB (dropN fs n), none, intsB (ws ++ [tookK taken (getN fs n)])] := by simp [stepBf, stepCode, h]
theorem sc_3 (h : okN fs n = true) : stepCode total acked fs ws 3 n = 0 ∧ stepBf t total acked taken fs ws 3 n = [linkB t total acked taken 1 2 (dropN fs n).length ws.length, intsB (dropN fs n), intsB ws] := by simp [stepBf, stepCode, h]
theorem sc_4 (h : okN fs n = true) : stepCode total acked fs ws 4 n = 0 ∧ stepBf t total acked taken fs ws 4 n = [linkB t total acked taken 3 2 (fs.length + 1) ws.length, none, intsB ws, intsB (fs ++ [getN fs n])] := by simp [stepBf, stepCode, h]
theorem sc_5 (h : okN ws n = true) : stepCode total acked fs ws 5 n = 0 ∧ stepBf t total acked taken fs ws 5 n = [linkB t total (max acked (getN ws n)) taken 1 2 fs.length (dropN ws n).length, intsB fs, intsB (dropN ws n)] := by simp [stepBf, stepCode, h]
theorem sc_6 (h : okN ws n = true) : stepCode total acked fs ws 6 n = 0 ∧ stepBf t total acked taken fs ws 6 n = [linkB t total acked taken 1 2 fs.length (dropN ws n).length, intsB fs, intsB (dropN ws n)] := by simp [stepBf, stepCode, h]
theorem dropN_none {l : List Int} {n : Int} (h : okN l n = false) : dropN l n = l := by simp [dropN, h]
end

theorem step_meets : Meets Try.prog 16 (Spec.gen stepG) := by
 refine meets_handed (E_pick.at_ 129) Try.func16 rfl rfl rfl ?_
 intro args bl p r bf hg hp
 unfold stepG at hg
 split at hg
 ·rename_i k n t total acked taken lf lw t1 s1 xs t2 s2 ys
  simp only [Option.some.injEq, Prod.mk.injEq] at hg
  obtain ⟨rfl, rfl, rfl⟩ := hg
  obtain ⟨hx, hy, rfl, rfl, rfl, rfl, rfl, rfl, hl, hm, ht1, ht2⟩ := hp
  generalize dI xs = fs at *
  generalize dI ys = ws at *
  subst hx hy
  have hT : (E_pick).X = T := rfl
  have hx0 := @Try.results16
  have hx := hx0
  refine ⟨Nat.le_of_ble_eq_true rfl, ?_⟩
  intro F W0 M0 hnp hmk
  have hnp : Far.np = 3 := hnp
  refine vc_seq_k fun N1 h1 => ?_
  refine u_reg ?_
  try refine lg_mk ?_
  refine u_bx ?_
  refine u_mv ?_
  refine lg_nil ?_
  refine h1 _ ?_; clear h1; try clear N1
  refine vc_seq_k fun N2 h2 => ?_
  refine u_reg ?_
  try refine lg_mk ?_
  refine u_mv ?_
  refine u_nl ?_
  refine u_pt ?_
  refine u_mv ?_
  refine lg_nil ?_
  refine h2 _ ?_; clear h2; try clear N2
  refine vc_seq_k fun N3 h3 => ?_
  refine vc_seq_k fun N4 h4 => ?_
  refine u_reg ?_
  try refine lg_mk ?_
  refine u_pt ?_
  refine u_ld ?_
  refine lg_nil ?_
  refine h4 _ ?_; clear h4; try clear N4
  refine vc_block ?_
  refine vc_seq_k fun N5 h5 => ?_
  refine u_reg ?_
  try refine lg_mk ?_
  refine u_bn ?_
  refine u_mv ?_
  refine lg_nil ?_
  refine h5 _ ?_; clear h5; try clear N5
  refine u_cond (fun hb6 => ?_) (fun hb6 => ?_)
  ·subst hb6
   refine vc_seq_k fun N7 h7 => ?_
   refine vc_seq_k fun N8 h8 => ?_
   refine u_reg ?_
   try refine lg_mk ?_
   refine u_pt ?_
   refine u_ld ?_
   refine u_bn ?_
   refine lg_nil ?_
   refine h8 _ ?_; clear h8; try clear N8
   refine u_cond (fun hb9 => ?_) (fun hb9 => ?_)
   ·refine vc_seq_k fun N10 h10 => ?_
    refine u_reg ?_
    try refine lg_mk ?_
    refine u_mv ?_
    refine lg_nil ?_
    refine h10 _ ?_; clear h10; try clear N10
    refine vc_ret ?_
    try simp only [k_rules]
    obtain ⟨e1, e2⟩ := step_bad (t := t) (taken := taken) (sc_1a (total := total) (acked := acked) (fs := fs) (ws := ws) (by omega : n ≠ 0)) (by omega)
    rw [e1, e2]
    simp only [linkB, intsB]
    refine fin_ ?_
    refine ⟨[some 0, some 1, some 2], by rfl, ?_, ?_⟩
    ·refine fin_ ?_
     (repeat' apply And.intro) <;> (first | (first | rfl | exact Or.inl rfl | trivial | omega | (simp; done) | (simp [rows, eI]; done)) | exact cl_)
    ·refine fin_ ?_
     (repeat' apply And.intro) <;> (first | (first | rfl | exact Or.inl rfl | trivial | omega | (simp; done) | (simp [rows, eI]; done)) | exact cl_)
   ·have hn : n = 0 := by omega
    subst hn
    refine vc_skip ?_
    try simp only [k_rules]
    refine h7 _ ?_; clear h7; try clear N7
    refine vc_seq_k fun N11 h11 => ?_
    refine vc_seq_k fun N12 h12 => ?_
    refine u_reg ?_
    try refine lg_mk ?_
    refine u_mv ?_
    refine u_nl ?_
    refine u_pt ?_
    refine u_ld ?_
    refine u_mv ?_
    refine u_nl ?_
    refine u_pt ?_
    refine u_ld ?_
    refine u_bn ?_
    refine lg_nil ?_
    refine h12 _ ?_; clear h12; try clear N12
    refine u_cond (fun hb13 => ?_) (fun hb13 => ?_)
    ·refine vc_seq_k fun N14 h14 => ?_
     refine u_reg ?_
     try refine lg_mk ?_
     refine u_mv ?_
     refine lg_nil ?_
     refine h14 _ ?_; clear h14; try clear N14
     refine vc_ret ?_
     try simp only [k_rules]
     obtain ⟨e1, e2⟩ := step_bad (t := t) (taken := taken) (sc_1b (fs := fs) (ws := ws) (by omega : acked = total)) (by omega)
     rw [e1, e2]
     simp only [linkB, intsB]
     refine fin_ ?_
     refine ⟨[some 0, some 1, some 2], by rfl, ?_, ?_⟩
     ·refine fin_ ?_
      (repeat' apply And.intro) <;> (first | (first | rfl | exact Or.inl rfl | trivial | omega | (simp; done) | (simp [rows, eI]; done)) | exact cl_)
     ·refine fin_ ?_
      (repeat' apply And.intro) <;> (first | (first | rfl | exact Or.inl rfl | trivial | omega | (simp; done) | (simp [rows, eI]; done)) | exact cl_)
    ·refine vc_skip ?_
     try simp only [k_rules]
     refine h11 _ ?_; clear h11; try clear N11
     refine vc_seq_k fun N15 h15 => ?_
     refine u_reg ?_
     try refine lg_mk ?_
     refine u_mv ?_
     refine u_mv ?_
     refine u_nl ?_
     refine u_pt ?_
     refine u_ld ?_
     refine u_mv ?_
     refine u_nl ?_
     refine u_pt ?_
     refine u_ld ?_
     refine u_bs ?_
     refine u_ap ?_
     refine u_nl ?_
     refine u_pt ?_
     refine u_st ?_
     refine lg_nil ?_
     refine h15 _ ?_; clear h15; try clear N15
     refine vc_seq_k fun N16 h16 => ?_
     refine u_reg ?_
     try refine lg_mk ?_
     refine u_mv ?_
     refine lg_nil ?_
     refine h16 _ ?_; clear h16; try clear N16
     refine vc_ret ?_
     try simp only [k_rules]
     obtain ⟨e1, e2⟩ := sc_1c (t := t) (taken := taken) (fs := fs) (ws := ws) (by omega : ¬ acked = total)
     rw [e1, e2]
     simp only [linkB, intsB]
     refine fin_ ?_
     refine ⟨[some 0, some 1, some 2, some 5], by rfl, ?_, ?_⟩
     ·refine fin_ ?_
      (repeat' apply And.intro) <;> (first | (first | rfl | exact Or.inl rfl | trivial | omega | (simp; done) | (simp [rows, eI]; done)) | exact cl_)
     ·refine fin_ ?_
      (repeat' apply And.intro) <;> (first | (first | rfl | exact Or.inl rfl | trivial | omega | (simp; done) | (simp [rows, eI]; done)) | exact cl_)
  ·refine vc_seq_k fun N17 h17 => ?_
   refine vc_seq_k fun N18 h18 => ?_
   refine u_reg ?_
   try refine lg_mk ?_
   refine u_bn ?_
   refine u_mv ?_
   refine lg_nil ?_
   refine h18 _ ?_; clear h18; try clear N18
   refine u_cond (fun hb19 => ?_) (fun hb19 => ?_)
   ·refine vc_skip ?_
    try simp only [k_rules]
    refine h17 _ ?_; clear h17; try clear N17
    refine u_cond (fun hb20 => ?_) (fun hb20 => ?_)
    ·refine vc_skip ?_
     try simp only [k_rules]
     refine h3 _ ?_; clear h3; try clear N3
     refine vc_seq_k fun N21 h21 => ?_
     refine vc_seq_k fun N22 h22 => ?_
     refine u_reg ?_
     try refine lg_mk ?_
     refine u_pt ?_
     refine u_ld ?_
     refine u_bn ?_
     refine lg_nil ?_
     refine h22 _ ?_; clear h22; try clear N22
     refine u_cond (fun hb23 => ?_) (fun hb23 => ?_)
     ·first | omega | exact absurd trivial hb23 | contradiction | (simp_all; done)
     ·obtain rfl : k = 2 := by omega
      refine vc_skip ?_
      try simp only [k_rules]
      refine h21 _ ?_; clear h21; try clear N21
      refine vc_seq_k fun N24 h24 => ?_
      refine u_reg ?_
      try refine lg_mk ?_
      refine u_mv ?_
      refine u_pt ?_
      refine u_ld ?_
      have hc := call_rule (E := (E_pick.at_ 129)) (f := 28) (sp := Spec.gen pickG) rfl
      have hs := And.intro @pickG.eq_1 @pickG.eq_2
      refine u_hg ?_
      refine u_mv ?_
      refine u_ex ?_
      refine u_ex ?_
      refine u_mv ?_
      refine u_mv ?_
      refine lg_nil ?_
      refine h24 _ ?_; clear h24; try clear N24
      refine vc_seq_k fun N25 h25 => ?_
      refine vc_seq_k fun N26 h26 => ?_
      refine u_reg ?_
      try refine lg_mk ?_
      refine u_mv ?_
      refine u_un ?_
      refine lg_nil ?_
      refine h26 _ ?_; clear h26; try clear N26
      refine u_cond (fun hb27 => ?_) (fun hb27 => ?_)
      ·have hok : okN fs n = false := by simpa using hb27
       refine vc_seq_k fun N28 h28 => ?_
       refine u_reg ?_
       try refine lg_mk ?_
       refine u_mv ?_
       refine lg_nil ?_
       refine h28 _ ?_; clear h28; try clear N28
       refine vc_ret ?_
       try simp only [k_rules]
       obtain ⟨e1, e2⟩ := step_bad (t := t) (taken := taken) (sc_f (total := total) (acked := acked) (ws := ws) (by omega : (2 : Int) = 2 ∨ (2 : Int) = 3 ∨ (2 : Int) = 4) hok) (by omega)
       rw [e1, e2]
       simp only [linkB, intsB]
       rw [dropN_none hok]
       refine fin_ ?_
       refine ⟨[some 0, some 1, some 2], by rfl, ?_, ?_⟩
       ·refine fin_ ?_
        (repeat' apply And.intro) <;> (first | (first | rfl | exact Or.inl rfl | trivial | omega | (simp; done) | (simp [rows, eI]; done)) | exact cl_)
       ·refine fin_ ?_
        (repeat' apply And.intro) <;> (first | (first | rfl | exact Or.inl rfl | trivial | omega | (simp; done) | (simp [rows, eI]; done)) | exact cl_)
      ·have hok : okN fs n = true := by simpa using hb27
       refine vc_skip ?_
       try simp only [k_rules]
       refine h25 _ ?_; clear h25; try clear N25
       refine vc_seq_k fun N29 h29 => ?_
       refine vc_seq_k fun N30 h30 => ?_
       refine u_reg ?_
       try refine lg_mk ?_
       refine u_pt ?_
       refine u_ld ?_
       refine lg_nil ?_
       refine h30 _ ?_; clear h30; try clear N30
       refine vc_block ?_
       refine vc_seq_k fun N31 h31 => ?_
       refine u_reg ?_
       try refine lg_mk ?_
       refine u_bn ?_
       refine u_mv ?_
       refine lg_nil ?_
       refine h31 _ ?_; clear h31; try clear N31
       refine u_cond (fun hb32 => ?_) (fun hb32 => ?_)
       ·refine vc_seq_k fun N33 h33 => ?_
        refine vc_seq_k fun N34 h34 => ?_
        refine u_reg ?_
        try refine lg_mk ?_
        refine u_mv ?_
        refine u_mv ?_
        refine u_nl ?_
        refine u_pt ?_
        refine u_ld ?_
        refine u_bn ?_
        refine lg_nil ?_
        refine h34 _ ?_; clear h34; try clear N34
        refine u_cond (fun hb35 => ?_) (fun hb35 => ?_)
        ·refine u_reg ?_
         try refine lg_mk ?_
         refine u_mv ?_
         refine u_nl ?_
         refine u_pt ?_
         refine u_ld ?_
         refine u_bn ?_
         refine u_nl ?_
         refine u_pt ?_
         refine u_st ?_
         refine lg_nil ?_
         refine h33 _ ?_; clear h33; try clear N33
         refine u_reg ?_
         try refine lg_mk ?_
         refine u_mv ?_
         refine u_mv ?_
         refine u_nl ?_
         refine u_pt ?_
         refine u_ld ?_
         refine u_mv ?_
         refine u_nl ?_
         refine u_pt ?_
         refine u_ld ?_
         refine u_bs ?_
         refine u_ap ?_
         refine u_nl ?_
         refine u_pt ?_
         refine u_st ?_
         refine lg_nil ?_
         refine h29 _ ?_; clear h29; try clear N29
         refine vc_seq_k fun N36 h36 => ?_
         refine u_reg ?_
         try refine lg_mk ?_
         refine u_mv ?_
         refine lg_nil ?_
         refine h36 _ ?_; clear h36; try clear N36
         refine vc_ret ?_
         try simp only [k_rules]
         obtain ⟨e1, e2⟩ := sc_2 (t := t) (total := total) (acked := acked) (taken := taken) (ws := ws) hok
         rw [e1, e2]
         simp only [linkB, intsB]
         rw [show tookK taken (getN fs n) = taken + 1 by simp [tookK]; omega]
         refine fin_ ?_
         refine ⟨[some 0, some 1, some 2, some 5], by rfl, ?_, ?_⟩
         ·refine fin_ ?_
          (repeat' apply And.intro) <;> (first | (first | rfl | exact Or.inl rfl | trivial | omega | (simp; done) | (simp [rows, eI]; done)) | exact cl_)
         ·refine fin_ ?_
          (repeat' apply And.intro) <;> (first | (first | rfl | exact Or.inl rfl | trivial | omega | (simp; done) | (simp [rows, eI]; done)) | exact cl_)
        ·refine vc_skip ?_
         try simp only [k_rules]
         refine h33 _ ?_; clear h33; try clear N33
         refine u_reg ?_
         try refine lg_mk ?_
         refine u_mv ?_
         refine u_mv ?_
         refine u_nl ?_
         refine u_pt ?_
         refine u_ld ?_
         refine u_mv ?_
         refine u_nl ?_
         refine u_pt ?_
         refine u_ld ?_
         refine u_bs ?_
         refine u_ap ?_
         refine u_nl ?_
         refine u_pt ?_
         refine u_st ?_
         refine lg_nil ?_
         refine h29 _ ?_; clear h29; try clear N29
         refine vc_seq_k fun N37 h37 => ?_
         refine u_reg ?_
         try refine lg_mk ?_
         refine u_mv ?_
         refine lg_nil ?_
         refine h37 _ ?_; clear h37; try clear N37
         refine vc_ret ?_
         try simp only [k_rules]
         obtain ⟨e1, e2⟩ := sc_2 (t := t) (total := total) (acked := acked) (taken := taken) (ws := ws) hok
         rw [e1, e2]
         simp only [linkB, intsB]
         rw [show tookK taken (getN fs n) = taken by simp [tookK]; omega]
         refine fin_ ?_
         refine ⟨[some 0, some 1, some 2, some 5], by rfl, ?_, ?_⟩
         ·refine fin_ ?_
          (repeat' apply And.intro) <;> (first | (first | rfl | exact Or.inl rfl | trivial | omega | (simp; done) | (simp [rows, eI]; done)) | exact cl_)
         ·refine fin_ ?_
          (repeat' apply And.intro) <;> (first | (first | rfl | exact Or.inl rfl | trivial | omega | (simp; done) | (simp [rows, eI]; done)) | exact cl_)
       ·first | omega | exact absurd trivial hb32 | contradiction | (simp_all; done)
    ·exfalso; first | omega | contradiction | (simp_all; done) | (simp_all; omega)
   ·refine vc_seq_k fun N38 h38 => ?_
    refine u_reg ?_
    try refine lg_mk ?_
    refine u_bn ?_
    refine u_mv ?_
    refine lg_nil ?_
    refine h38 _ ?_; clear h38; try clear N38
    refine u_cond (fun hb39 => ?_) (fun hb39 => ?_)
    ·refine vc_skip ?_
     try simp only [k_rules]
     refine h17 _ ?_; clear h17; try clear N17
     refine u_cond (fun hb40 => ?_) (fun hb40 => ?_)
     ·refine vc_skip ?_
      try simp only [k_rules]
      refine h3 _ ?_; clear h3; try clear N3
      refine vc_seq_k fun N41 h41 => ?_
      refine vc_seq_k fun N42 h42 => ?_
      refine u_reg ?_
      try refine lg_mk ?_
      refine u_pt ?_
      refine u_ld ?_
      refine u_bn ?_
      refine lg_nil ?_
      refine h42 _ ?_; clear h42; try clear N42
      refine u_cond (fun hb43 => ?_) (fun hb43 => ?_)
      ·first | omega | exact absurd trivial hb43 | contradiction | (simp_all; done)
      ·obtain rfl : k = 3 := by omega
       refine vc_skip ?_
       try simp only [k_rules]
       refine h41 _ ?_; clear h41; try clear N41
       refine vc_seq_k fun N44 h44 => ?_
       refine u_reg ?_
       try refine lg_mk ?_
       refine u_mv ?_
       refine u_pt ?_
       refine u_ld ?_
       have hc := call_rule (E := (E_pick.at_ 129)) (f := 28) (sp := Spec.gen pickG) rfl
       have hs := And.intro @pickG.eq_1 @pickG.eq_2
       refine u_hg ?_
       refine u_mv ?_
       refine u_ex ?_
       refine u_ex ?_
       refine u_mv ?_
       refine u_mv ?_
       refine lg_nil ?_
       refine h44 _ ?_; clear h44; try clear N44
       refine vc_seq_k fun N45 h45 => ?_
       refine vc_seq_k fun N46 h46 => ?_
       refine u_reg ?_
       try refine lg_mk ?_
       refine u_mv ?_
       refine u_un ?_
       refine lg_nil ?_
       refine h46 _ ?_; clear h46; try clear N46
       refine u_cond (fun hb47 => ?_) (fun hb47 => ?_)
       ·have hok : okN fs n = false := by simpa using hb47
        refine vc_seq_k fun N48 h48 => ?_
        refine u_reg ?_
        try refine lg_mk ?_
        refine u_mv ?_
        refine lg_nil ?_
        refine h48 _ ?_; clear h48; try clear N48
        refine vc_ret ?_
        try simp only [k_rules]
        obtain ⟨e1, e2⟩ := step_bad (t := t) (taken := taken) (sc_f (total := total) (acked := acked) (ws := ws) (by omega : (3 : Int) = 2 ∨ (3 : Int) = 3 ∨ (3 : Int) = 4) hok) (by omega)
        rw [e1, e2]
        simp only [linkB, intsB]
        rw [dropN_none hok]
        refine fin_ ?_
        refine ⟨[some 0, some 1, some 2], by rfl, ?_, ?_⟩
        ·refine fin_ ?_
         (repeat' apply And.intro) <;> (first | (first | rfl | exact Or.inl rfl | trivial | omega | (simp; done) | (simp [rows, eI]; done)) | exact cl_)
        ·refine fin_ ?_
         (repeat' apply And.intro) <;> (first | (first | rfl | exact Or.inl rfl | trivial | omega | (simp; done) | (simp [rows, eI]; done)) | exact cl_)
       ·have hok : okN fs n = true := by simpa using hb47
        refine vc_skip ?_
        try simp only [k_rules]
        refine h45 _ ?_; clear h45; try clear N45
        refine vc_seq_k fun N49 h49 => ?_
        refine vc_seq_k fun N50 h50 => ?_
        refine u_reg ?_
        try refine lg_mk ?_
        refine u_pt ?_
        refine u_ld ?_
        refine lg_nil ?_
        refine h50 _ ?_; clear h50; try clear N50
        refine vc_block ?_
        refine vc_seq_k fun N51 h51 => ?_
        refine u_reg ?_
        try refine lg_mk ?_
        refine u_bn ?_
        refine u_mv ?_
        refine lg_nil ?_
        refine h51 _ ?_; clear h51; try clear N51
        refine u_cond (fun hb52 => ?_) (fun hb52 => ?_)
        ·first | omega | exact absurd trivial hb52 | contradiction | (simp_all; done)
        ·refine vc_seq_k fun N53 h53 => ?_
         refine u_reg ?_
         try refine lg_mk ?_
         refine u_bn ?_
         refine u_mv ?_
         refine lg_nil ?_
         refine h53 _ ?_; clear h53; try clear N53
         refine u_cond (fun hb54 => ?_) (fun hb54 => ?_)
         ·first | omega | exact absurd trivial hb54 | contradiction | (simp_all; done)
         ·refine vc_skip ?_
          try simp only [k_rules]
          refine h49 _ ?_; clear h49; try clear N49
          refine vc_seq_k fun N55 h55 => ?_
          refine u_reg ?_
          try refine lg_mk ?_
          refine u_mv ?_
          refine lg_nil ?_
          refine h55 _ ?_; clear h55; try clear N55
          refine vc_ret ?_
          try simp only [k_rules]
          obtain ⟨e1, e2⟩ := sc_3 (t := t) (total := total) (acked := acked) (taken := taken) (ws := ws) hok
          rw [e1, e2]
          simp only [linkB, intsB]
          refine fin_ ?_
          refine ⟨[some 0, some 1, some 2], by rfl, ?_, ?_⟩
          ·refine fin_ ?_
           (repeat' apply And.intro) <;> (first | (first | rfl | exact Or.inl rfl | trivial | omega | (simp; done) | (simp [rows, eI]; done)) | exact cl_)
          ·refine fin_ ?_
           (repeat' apply And.intro) <;> (first | (first | rfl | exact Or.inl rfl | trivial | omega | (simp; done) | (simp [rows, eI]; done)) | exact cl_)
     ·exfalso; first | omega | contradiction | (simp_all; done) | (simp_all; omega)
    ·refine u_reg ?_
     try refine lg_mk ?_
     refine u_bn ?_
     refine u_mv ?_
     refine lg_nil ?_
     refine h17 _ ?_; clear h17; try clear N17
     refine u_cond (fun hb56 => ?_) (fun hb56 => ?_)
     ·refine vc_skip ?_
      try simp only [k_rules]
      refine h3 _ ?_; clear h3; try clear N3
      refine vc_seq_k fun N57 h57 => ?_
      refine vc_seq_k fun N58 h58 => ?_
      refine u_reg ?_
      try refine lg_mk ?_
      refine u_pt ?_
      refine u_ld ?_
      refine u_bn ?_
      refine lg_nil ?_
      refine h58 _ ?_; clear h58; try clear N58
      refine u_cond (fun hb59 => ?_) (fun hb59 => ?_)
      ·obtain rfl : k = 4 := by omega
       refine vc_seq_k fun N60 h60 => ?_
       refine vc_seq_k fun N61 h61 => ?_
       refine u_reg ?_
       try refine lg_mk ?_
       refine u_pt ?_
       refine u_ld ?_
       refine u_bn ?_
       refine u_mv ?_
       refine g_pt ?_
       refine g_ld ?_
       refine g_mv ?_
       refine g_nl ?_
       refine g_ld ?_
       refine g_ln ?_
       refine g_bn ?_
       refine u_pk ?_
       refine lg_nil ?_
       refine h61 _ ?_; clear h61; try clear N61
       refine u_cond (fun hb62 => ?_) (fun hb62 => ?_)
       ·have ho : okN fs n = false := by simp [okN]; omega
        refine vc_seq_k fun N63 h63 => ?_
        refine u_reg ?_
        try refine lg_mk ?_
        refine u_mv ?_
        refine lg_nil ?_
        refine h63 _ ?_; clear h63; try clear N63
        refine vc_ret ?_
        try simp only [k_rules]
        obtain ⟨e1, e2⟩ := step_bad (t := t) (taken := taken) (sc_f (total := total) (acked := acked) (ws := ws) (by omega : (4 : Int) = 2 ∨ (4 : Int) = 3 ∨ (4 : Int) = 4) ho) (by omega)
        rw [e1, e2]
        simp only [linkB, intsB]
        refine fin_ ?_
        refine ⟨[some 0, some 1, some 2], by rfl, ?_, ?_⟩
        ·refine fin_ ?_
         (repeat' apply And.intro) <;> (first | (first | rfl | exact Or.inl rfl | trivial | omega | (simp; done) | (simp [rows, eI]; done)) | exact cl_)
        ·refine fin_ ?_
         (repeat' apply And.intro) <;> (first | (first | rfl | exact Or.inl rfl | trivial | omega | (simp; done) | (simp [rows, eI]; done)) | exact cl_)
       ·obtain ⟨m, rfl, hm', x, hx, hg⟩ := okN_ex (show okN fs n = true by simp [okN]; omega)
        refine vc_skip ?_
        try simp only [k_rules]
        refine h60 _ ?_; clear h60; try clear N60
        refine vc_seq_k fun N64 h64 => ?_
        have hx := And.intro @hx hx0
        refine u_reg ?_
        try refine lg_mk ?_
        refine u_mv ?_
        refine u_mv ?_
        refine u_nl ?_
        refine u_ld ?_
        refine u_mv ?_
        refine u_nl ?_
        refine u_ld ?_
        refine u_pt ?_
        refine u_ld ?_
        refine u_pt ?_
        refine u_ld ?_
        refine u_bs ?_
        refine u_ap ?_
        refine u_nl ?_
        refine u_st ?_
        refine lg_nil ?_
        have hx := hx0
        refine h64 _ ?_; clear h64; try clear N64
        refine vc_seq_k fun N65 h65 => ?_
        refine u_reg ?_
        try refine lg_mk ?_
        refine u_mv ?_
        refine lg_nil ?_
        refine h65 _ ?_; clear h65; try clear N65
        refine vc_ret ?_
        try simp only [k_rules]
        obtain ⟨e1, e2⟩ := sc_4 (t := t) (total := total) (acked := acked) (taken := taken) (ws := ws) (show okN fs (m : Int) = true by simp [okN]; omega)
        rw [e1, e2]
        simp only [linkB, intsB]
        rw [hg]
        refine fin_ ?_
        refine ⟨[some 0, some 1, some 2, some 5], by rfl, ?_, ?_⟩
        ·refine fin_ ?_
         (repeat' apply And.intro) <;> (first | (first | rfl | exact Or.inl rfl | trivial | omega | (simp; done) | (simp [rows, eI]; done)) | exact cl_)
        ·refine fin_ ?_
         (repeat' apply And.intro) <;> (first | (first | rfl | exact Or.inl rfl | trivial | omega | (simp; done) | (simp [rows, eI]; done)) | exact cl_)
      ·first | omega | exact absurd trivial hb59 | contradiction | (simp_all; done)
     ·refine vc_seq_k fun N66 h66 => ?_
      refine vc_seq_k fun N67 h67 => ?_
      refine u_reg ?_
      try refine lg_mk ?_
      refine u_bn ?_
      refine u_mv ?_
      refine lg_nil ?_
      refine h67 _ ?_; clear h67; try clear N67
      refine u_cond (fun hb68 => ?_) (fun hb68 => ?_)
      ·refine vc_skip ?_
       try simp only [k_rules]
       refine h66 _ ?_; clear h66; try clear N66
       refine u_cond (fun hb69 => ?_) (fun hb69 => ?_)
       ·refine u_reg ?_
        try refine lg_mk ?_
        refine u_mv ?_
        refine u_nl ?_
        refine u_pt ?_
        refine u_mv ?_
        refine lg_nil ?_
        refine h3 _ ?_; clear h3; try clear N3
        refine vc_seq_k fun N70 h70 => ?_
        refine vc_seq_k fun N71 h71 => ?_
        refine u_reg ?_
        try refine lg_mk ?_
        refine u_pt ?_
        refine u_ld ?_
        refine u_bn ?_
        refine lg_nil ?_
        refine h71 _ ?_; clear h71; try clear N71
        refine u_cond (fun hb72 => ?_) (fun hb72 => ?_)
        ·first | omega | exact absurd trivial hb72 | contradiction | (simp_all; done)
        ·obtain rfl : k = 5 := by omega
         refine vc_skip ?_
         try simp only [k_rules]
         refine h70 _ ?_; clear h70; try clear N70
         refine vc_seq_k fun N73 h73 => ?_
         refine u_reg ?_
         try refine lg_mk ?_
         refine u_mv ?_
         refine u_pt ?_
         refine u_ld ?_
         have hc := call_rule (E := (E_pick.at_ 129)) (f := 28) (sp := Spec.gen pickG) rfl
         have hs := And.intro @pickG.eq_1 @pickG.eq_2
         refine u_hg ?_
         refine u_mv ?_
         refine u_ex ?_
         refine u_ex ?_
         refine u_mv ?_
         refine u_mv ?_
         refine lg_nil ?_
         refine h73 _ ?_; clear h73; try clear N73
         refine vc_seq_k fun N74 h74 => ?_
         refine vc_seq_k fun N75 h75 => ?_
         refine u_reg ?_
         try refine lg_mk ?_
         refine u_mv ?_
         refine u_un ?_
         refine lg_nil ?_
         refine h75 _ ?_; clear h75; try clear N75
         refine u_cond (fun hb76 => ?_) (fun hb76 => ?_)
         ·have hok : okN ws n = false := by simpa using hb76
          refine vc_seq_k fun N77 h77 => ?_
          refine u_reg ?_
          try refine lg_mk ?_
          refine u_mv ?_
          refine lg_nil ?_
          refine h77 _ ?_; clear h77; try clear N77
          refine vc_ret ?_
          try simp only [k_rules]
          obtain ⟨e1, e2⟩ := step_bad (t := t) (taken := taken) (sc_w (total := total) (acked := acked) (fs := fs) (by omega : (5 : Int) = 5 ∨ (5 : Int) = 6) hok) (by omega)
          rw [e1, e2]
          simp only [linkB, intsB]
          rw [dropN_none hok]
          refine fin_ ?_
          refine ⟨[some 0, some 1, some 2], by rfl, ?_, ?_⟩
          ·refine fin_ ?_
           (repeat' apply And.intro) <;> (first | (first | rfl | exact Or.inl rfl | trivial | omega | (simp; done) | (simp [rows, eI]; done)) | exact cl_)
          ·refine fin_ ?_
           (repeat' apply And.intro) <;> (first | (first | rfl | exact Or.inl rfl | trivial | omega | (simp; done) | (simp [rows, eI]; done)) | exact cl_)
         ·have hok : okN ws n = true := by simpa using hb76
          refine vc_skip ?_
          try simp only [k_rules]
          refine h74 _ ?_; clear h74; try clear N74
          refine vc_seq_k fun N78 h78 => ?_
          refine vc_seq_k fun N79 h79 => ?_
          refine u_reg ?_
          try refine lg_mk ?_
          refine u_pt ?_
          refine u_ld ?_
          refine lg_nil ?_
          refine h79 _ ?_; clear h79; try clear N79
          refine vc_block ?_
          refine vc_seq_k fun N80 h80 => ?_
          refine u_reg ?_
          try refine lg_mk ?_
          refine u_bn ?_
          refine u_mv ?_
          refine lg_nil ?_
          refine h80 _ ?_; clear h80; try clear N80
          refine u_cond (fun hb81 => ?_) (fun hb81 => ?_)
          ·first | omega | exact absurd trivial hb81 | contradiction | (simp_all; done)
          ·refine vc_seq_k fun N82 h82 => ?_
           refine u_reg ?_
           try refine lg_mk ?_
           refine u_bn ?_
           refine u_mv ?_
           refine lg_nil ?_
           refine h82 _ ?_; clear h82; try clear N82
           refine u_cond (fun hb83 => ?_) (fun hb83 => ?_)
           ·refine u_reg ?_
            try refine lg_mk ?_
            refine u_mv ?_
            refine u_mv ?_
            refine u_nl ?_
            refine u_pt ?_
            refine u_ld ?_
            refine u_mv ?_
            refine u_mm ?_
            refine u_nl ?_
            refine u_pt ?_
            refine u_st ?_
            refine lg_nil ?_
            refine h78 _ ?_; clear h78; try clear N78
            refine vc_seq_k fun N84 h84 => ?_
            refine u_reg ?_
            try refine lg_mk ?_
            refine u_mv ?_
            refine lg_nil ?_
            refine h84 _ ?_; clear h84; try clear N84
            refine vc_ret ?_
            try simp only [k_rules]
            obtain ⟨e1, e2⟩ := sc_5 (t := t) (total := total) (acked := acked) (taken := taken) (fs := fs) hok
            rw [e1, e2]
            simp only [linkB, intsB]
            refine fin_ ?_
            refine ⟨[some 0, some 1, some 2], by rfl, ?_, ?_⟩
            ·refine fin_ ?_
             (repeat' apply And.intro) <;> (first | (first | rfl | exact Or.inl rfl | trivial | omega | (simp; done) | (simp [rows, eI]; done)) | exact cl_)
            ·refine fin_ ?_
             (repeat' apply And.intro) <;> (first | (first | rfl | exact Or.inl rfl | trivial | omega | (simp; done) | (simp [rows, eI]; done)) | exact cl_)
           ·first | omega | exact absurd trivial hb83 | contradiction | (simp_all; done)
       ·exfalso; first | omega | contradiction | (simp_all; done) | (simp_all; omega)
      ·refine u_reg ?_
       try refine lg_mk ?_
       refine u_bn ?_
       refine u_mv ?_
       refine lg_nil ?_
       refine h66 _ ?_; clear h66; try clear N66
       refine u_cond (fun hb85 => ?_) (fun hb85 => ?_)
       ·refine u_reg ?_
        try refine lg_mk ?_
        refine u_mv ?_
        refine u_nl ?_
        refine u_pt ?_
        refine u_mv ?_
        refine lg_nil ?_
        refine h3 _ ?_; clear h3; try clear N3
        refine vc_seq_k fun N86 h86 => ?_
        refine vc_seq_k fun N87 h87 => ?_
        refine u_reg ?_
        try refine lg_mk ?_
        refine u_pt ?_
        refine u_ld ?_
        refine u_bn ?_
        refine lg_nil ?_
        refine h87 _ ?_; clear h87; try clear N87
        refine u_cond (fun hb88 => ?_) (fun hb88 => ?_)
        ·first | omega | exact absurd trivial hb88 | contradiction | (simp_all; done)
        ·obtain rfl : k = 6 := by omega
         refine vc_skip ?_
         try simp only [k_rules]
         refine h86 _ ?_; clear h86; try clear N86
         refine vc_seq_k fun N89 h89 => ?_
         refine u_reg ?_
         try refine lg_mk ?_
         refine u_mv ?_
         refine u_pt ?_
         refine u_ld ?_
         have hc := call_rule (E := (E_pick.at_ 129)) (f := 28) (sp := Spec.gen pickG) rfl
         have hs := And.intro @pickG.eq_1 @pickG.eq_2
         refine u_hg ?_
         refine u_mv ?_
         refine u_ex ?_
         refine u_ex ?_
         refine u_mv ?_
         refine u_mv ?_
         refine lg_nil ?_
         refine h89 _ ?_; clear h89; try clear N89
         refine vc_seq_k fun N90 h90 => ?_
         refine vc_seq_k fun N91 h91 => ?_
         refine u_reg ?_
         try refine lg_mk ?_
         refine u_mv ?_
         refine u_un ?_
         refine lg_nil ?_
         refine h91 _ ?_; clear h91; try clear N91
         refine u_cond (fun hb92 => ?_) (fun hb92 => ?_)
         ·have hok : okN ws n = false := by simpa using hb92
          refine vc_seq_k fun N93 h93 => ?_
          refine u_reg ?_
          try refine lg_mk ?_
          refine u_mv ?_
          refine lg_nil ?_
          refine h93 _ ?_; clear h93; try clear N93
          refine vc_ret ?_
          try simp only [k_rules]
          obtain ⟨e1, e2⟩ := step_bad (t := t) (taken := taken) (sc_w (total := total) (acked := acked) (fs := fs) (by omega : (6 : Int) = 5 ∨ (6 : Int) = 6) hok) (by omega)
          rw [e1, e2]
          simp only [linkB, intsB]
          rw [dropN_none hok]
          refine fin_ ?_
          refine ⟨[some 0, some 1, some 2], by rfl, ?_, ?_⟩
          ·refine fin_ ?_
           (repeat' apply And.intro) <;> (first | (first | rfl | exact Or.inl rfl | trivial | omega | (simp; done) | (simp [rows, eI]; done)) | exact cl_)
          ·refine fin_ ?_
           (repeat' apply And.intro) <;> (first | (first | rfl | exact Or.inl rfl | trivial | omega | (simp; done) | (simp [rows, eI]; done)) | exact cl_)
         ·have hok : okN ws n = true := by simpa using hb92
          refine vc_skip ?_
          try simp only [k_rules]
          refine h90 _ ?_; clear h90; try clear N90
          refine vc_seq_k fun N94 h94 => ?_
          refine vc_seq_k fun N95 h95 => ?_
          refine u_reg ?_
          try refine lg_mk ?_
          refine u_pt ?_
          refine u_ld ?_
          refine lg_nil ?_
          refine h95 _ ?_; clear h95; try clear N95
          refine vc_block ?_
          refine vc_seq_k fun N96 h96 => ?_
          refine u_reg ?_
          try refine lg_mk ?_
          refine u_bn ?_
          refine u_mv ?_
          refine lg_nil ?_
          refine h96 _ ?_; clear h96; try clear N96
          refine u_cond (fun hb97 => ?_) (fun hb97 => ?_)
          ·first | omega | exact absurd trivial hb97 | contradiction | (simp_all; done)
          ·refine vc_seq_k fun N98 h98 => ?_
           refine u_reg ?_
           try refine lg_mk ?_
           refine u_bn ?_
           refine u_mv ?_
           refine lg_nil ?_
           refine h98 _ ?_; clear h98; try clear N98
           refine u_cond (fun hb99 => ?_) (fun hb99 => ?_)
           ·first | omega | exact absurd trivial hb99 | contradiction | (simp_all; done)
           ·refine vc_skip ?_
            try simp only [k_rules]
            refine h94 _ ?_; clear h94; try clear N94
            refine vc_seq_k fun N100 h100 => ?_
            refine u_reg ?_
            try refine lg_mk ?_
            refine u_mv ?_
            refine lg_nil ?_
            refine h100 _ ?_; clear h100; try clear N100
            refine vc_ret ?_
            try simp only [k_rules]
            obtain ⟨e1, e2⟩ := sc_6 (t := t) (total := total) (acked := acked) (taken := taken) (fs := fs) hok
            rw [e1, e2]
            simp only [linkB, intsB]
            refine fin_ ?_
            refine ⟨[some 0, some 1, some 2], by rfl, ?_, ?_⟩
            ·refine fin_ ?_
             (repeat' apply And.intro) <;> (first | (first | rfl | exact Or.inl rfl | trivial | omega | (simp; done) | (simp [rows, eI]; done)) | exact cl_)
            ·refine fin_ ?_
             (repeat' apply And.intro) <;> (first | (first | rfl | exact Or.inl rfl | trivial | omega | (simp; done) | (simp [rows, eI]; done)) | exact cl_)
       ·refine vc_seq_k fun N101 h101 => ?_
        refine u_reg ?_
        try refine lg_mk ?_
        refine u_mv ?_
        refine lg_nil ?_
        refine h101 _ ?_; clear h101; try clear N101
        refine vc_ret ?_
        try simp only [k_rules]
        obtain ⟨e1, e2⟩ := step_bad (t := t) (taken := taken) (sc_k (k := k) (n := n) (total := total) (acked := acked) (fs := fs) (ws := ws) (by omega) (by omega) (by omega) (by omega) (by omega) (by omega)) (by omega)
        rw [e1, e2]
        simp only [linkB, intsB]
        refine fin_ ?_
        refine ⟨[some 0, some 1, some 2], by rfl, ?_, ?_⟩
        ·refine fin_ ?_
         (repeat' apply And.intro) <;> (first | (first | rfl | exact Or.inl rfl | trivial | omega | (simp; done) | (simp [rows, eI]; done)) | exact cl_)
        ·refine fin_ ?_
         (repeat' apply And.intro) <;> (first | (first | rfl | exact Or.inl rfl | trivial | omega | (simp; done) | (simp [rows, eI]; done)) | exact cl_)
 ·cases hg

def E_step : Env Try.prog := E_pick.add 16 (Spec.gen stepG) step_meets (by kernel_rfl)
end Go.Proofs.Ytiijkbidkdmilaa
