/- Walks, printed by wip/gen/walk.py. -/
import Derived.Test.YtaoifpmifpmhmaaT33
import Derived.Test.YtaoifpmifpmhmaaV4
set_option linter.all false
set_option maxRecDepth 100000
set_option maxHeartbeats 4000000
namespace Go.Proofs.Ytaoifpmifpmhmaa
open Go Go.Vc Go.RowKit
theorem orderOf_meets : Meets Try.prog 39 (Spec.pure orderOfG) := by
 refine meets_fun (E_order.at_ 66) Try.func39 rfl rfl rfl ?_
 intro args p r hg hp
 unfold orderOfG at hg
 split at hg
 ·rename_i xs
  simp only [Option.some.injEq, Prod.mk.injEq] at hg
  obtain ⟨rfl, rfl⟩ := hg
  obtain ⟨he, hv⟩ := hp
  generalize dC xs = l at *
  subst he
  have hl60 := hv.len
  have hT : (E_order).X = T := rfl
  have hx0 := And.intro @rect_eC (And.intro @dI_rows @Try.results39)
  have hx := hx0
  refine ⟨by rfl, ?_⟩
  intro F W0 hnp hmk
  refine vc_seq_k fun N1 h1 => ?_
  refine u_reg ?_
  try refine lg_mk ?_
  refine u_mv ?_
  refine lg_nil ?_
  refine h1 _ ?_; clear h1; try clear N1
  refine vc_seq_k fun N2 h2 => ?_
  refine u_reg ?_
  try refine lg_mk ?_
  refine u_mv ?_
  refine lg_nil ?_
  refine h2 _ ?_; clear h2; try clear N2
  refine vc_seq_k fun N3 h3 => ?_
  refine vc_block ?_
  refine vc_loop_mk (σ := Nat) (fun s => (fun m => m ≤ l.length) s)
   (fun s => (fun m => [(0, .d (.sl (rows eC l))), (3, .sl 0 0 m)]) s)
   (fun s => (fun m => [some (.vec 3 1 (rows eI (orderN l m)))]) s) (fun s => (fun m => l.length - m) s) hnp 0 ?_ [none] ?_ ?_
  ·dsimp only
   omega
  ·dsimp only
   refine ⟨by rfl, ?_, ?_⟩
   ·refine fin_ ?_
    exact cl_
   ·refine fin_ ?_
    exact cl_
  ·rintro m hinv N4 h4
   dsimp only at hinv ⊢
   have hm1 := hinv
   refine vc_seq_k fun N5 h5 => ?_
   refine vc_seq_k fun N6 h6 => ?_
   refine u_reg ?_
   try refine lg_mk ?_
   refine u_mv ?_
   refine u_ln ?_
   refine u_mv ?_
   refine u_ln ?_
   refine u_bn ?_
   refine lg_nil ?_
   refine h6 _ ?_; clear h6; try clear N6
   refine u_cond (fun hb7 => ?_) (fun hb7 => ?_)
   ·have hml : m < l.length := by omega
    have hord := ord_all hv m (by omega)
    have hlm := hord.len
    have htk : List.take m (orderN l m) = orderN l m := List.take_of_length_le (by omega)
    obtain ⟨b, hb1, hb2, hb3⟩ := hord.best hv hml
    refine vc_skip ?_
    try simp only [k_rules]
    refine h5 _ ?_; clear h5; try clear N5
    refine vc_block ?_
    refine vc_seq_k fun N8 h8 => ?_
    refine u_reg ?_
    try refine lg_mk ?_
    refine u_mv ?_
    refine lg_nil ?_
    refine h8 _ ?_; clear h8; try clear N8
    refine vc_seq_k fun N9 h9 => ?_
    refine vc_seq_k fun N10 h10 => ?_
    refine u_reg ?_
    try refine lg_mk ?_
    refine u_mv ?_
    refine lg_nil ?_
    refine h10 _ ?_; clear h10; try clear N10
    refine vc_block ?_
    refine vc_loop_mk (σ := Nat) (fun s => (fun i => i ≤ l.length) s)
     (fun s => (fun i => [(0, .d (.sl (rows eC l))), (3, .sl 0 0 m), (4, .d (.int .i64 (bestI (ready l (orderN l m)) l i))), (5, .d (.int .i64 (i : Nat)))]) s)
     (fun s => (fun i => [some (.vec 3 1 (rows eI (orderN l m)))]) s) (fun s => (fun i => l.length - i) s) hnp 0 ?_ [some 0] ?_ ?_
    ·dsimp only
     omega
    ·dsimp only
     refine ⟨by rfl, ?_, ?_⟩
     ·refine fin_ ?_
      exact cl_
     ·refine fin_ ?_
      exact cl_
    ·rintro i hinv N11 h11
     dsimp only at hinv ⊢
     have hi1 := hinv
     refine vc_seq_k fun N12 h12 => ?_
     refine vc_seq_k fun N13 h13 => ?_
     refine u_reg ?_
     try refine lg_mk ?_
     refine u_mv ?_
     refine u_mv ?_
     refine u_ln ?_
     refine u_bn ?_
     refine lg_nil ?_
     refine h13 _ ?_; clear h13; try clear N13
     refine u_cond (fun hb14 => ?_) (fun hb14 => ?_)
     ·have hil : i < l.length := by omega
      obtain ⟨c, hce⟩ := getE (l := l) (i := i) hil
      have hbl := bestI_lt (ready l (orderN l m)) l i
      obtain ⟨cb, hcb⟩ := getE (l := l) (i := (bestI (ready l (orderN l m)) l i).toNat) (by omega)
      refine vc_skip ?_
      try simp only [k_rules]
      refine h12 _ ?_; clear h12; try clear N12
      refine vc_seq_k fun N15 h15 => ?_
      refine vc_block ?_
      refine vc_seq_k fun N16 h16 => ?_
      have hx := And.intro @htk hx0
      refine u_reg ?_
      try refine lg_mk ?_
      refine u_mv ?_
      refine u_mv ?_
      have hc := call_rule (E := (E_order.at_ 66)) (f := 21) (sp := Spec.pure hasG) rfl
      have hs := @hasG.eq_1
      refine u_cp (hq := by (first | (rw [htk]; omega) | (first | trivial | omega | assumption | (unfold inI64; omega) | ((repeat' apply And.intro) <;> first | rfl | trivial | omega | assumption | (unfold inI64; omega)) | (simp; done) | (simp; omega)))) ?_
      refine u_un ?_
      refine u_mv ?_
      refine lg_nil ?_
      have hx := hx0
      refine h16 _ ?_; clear h16; try clear N16
      refine vc_seq_k fun N17 h17 => ?_
      refine vc_seq_k fun N18 h18 => ?_
      refine u_reg ?_
      try refine lg_mk ?_
      refine u_mv ?_
      refine lg_nil ?_
      refine h18 _ ?_; clear h18; try clear N18
      refine vc_block ?_
      refine vc_loop_mk (σ := Nat) (fun s => (fun k => k ≤ l.length) s)
       (fun s => (fun k => [(0, .d (.sl (rows eC l))), (3, .sl 0 0 m), (4, .d (.int .i64 (bestI (ready l (orderN l m)) l i))), (5, .d (.int .i64 (i : Nat))), (6, .d (.bool (readyK l (orderN l m) i k))), (7, .d (.int .i64 (k : Nat)))]) s)
       (fun s => (fun k => [some (.vec 3 1 (rows eI (orderN l m)))]) s) (fun s => (fun k => l.length - k) s) hnp 0 ?_ [some 0] ?_ ?_
      ·dsimp only
       omega
      ·dsimp only
       refine ⟨by rfl, ?_, ?_⟩
       ·refine fin_ ?_
        (repeat' apply And.intro) <;> (first | (first | rfl | trivial | (left; rw [readyK_zero]; done) | (rw [readyK_zero]; done)) | (first | rfl | exact Or.inr rfl | exact Or.inl rfl | trivial | omega | assumption | (simp; done) | (simp; omega)))
       ·refine fin_ ?_
        (repeat' apply And.intro) <;> (first | (first | rfl | trivial | (left; rw [readyK_zero]; done) | (rw [readyK_zero]; done)) | (first | rfl | exact Or.inr rfl | exact Or.inl rfl | trivial | omega | assumption | (simp; done) | (simp; omega)))
      ·rintro k hinv N19 h19
       dsimp only at hinv ⊢
       have hk1 := hinv
       refine vc_seq_k fun N20 h20 => ?_
       refine vc_seq_k fun N21 h21 => ?_
       refine u_reg ?_
       try refine lg_mk ?_
       refine u_mv ?_
       refine u_mv ?_
       refine u_ln ?_
       refine u_bn ?_
       refine lg_nil ?_
       refine h21 _ ?_; clear h21; try clear N21
       refine u_cond (fun hb22 => ?_) (fun hb22 => ?_)
       ·obtain ⟨d, hde⟩ := getE (l := l) (i := k) (by omega)
        have hd3 := hv.few hde
        refine vc_skip ?_
        try simp only [k_rules]
        refine h20 _ ?_; clear h20; try clear N20
        refine vc_seq_k fun N23 h23 => ?_
        refine vc_block ?_
        refine vc_seq_k fun N24 h24 => ?_
        have hx := And.intro @hde (And.intro @eC.eq_1 (And.intro @htk hx0))
        refine u_reg ?_
        try refine lg_mk ?_
        refine u_mv ?_
        refine u_mv ?_
        refine u_pt ?_
        refine u_pt ?_
        refine u_ld ?_
        refine u_mv ?_
        have hc := call_rule (E := (E_order.at_ 66)) (f := 21) (sp := Spec.pure hasG) rfl
        have hs := @hasG.eq_1
        refine u_cp ?_
        refine u_mv ?_
        refine g_mv ?_
        refine g_mv ?_
        have hc := call_rule (E := (E_order.at_ 66)) (f := 21) (sp := Spec.pure hasG) rfl
        have hs := @hasG.eq_1
        refine g_cp ?_
        refine g_un ?_
        refine u_pk ?_
        refine lg_nil ?_
        have hx := hx0
        refine h24 _ ?_; clear h24; try clear N24
        refine u_cond (fun hb25 => ?_) (fun hb25 => ?_)
        ·have hrk : readyK l (orderN l m) i (k + 1) = false := by rw [readyK_succ hde, if_pos (by have := hb25; simpa using this)]
         refine u_reg ?_
         try refine lg_mk ?_
         refine u_mv ?_
         refine lg_nil ?_
         refine h23 _ ?_; clear h23; try clear N23
         refine u_reg ?_
         try refine lg_mk ?_
         refine u_mv ?_
         refine u_bn ?_
         refine u_mv ?_
         refine lg_nil ?_
         refine h19 _ ⟨k + 1, ?_, ?_, [some 0], ?_⟩
         ·dsimp only
          omega
         ·dsimp only
          omega
         ·dsimp only
          refine ⟨by rfl, ?_, ?_⟩
          ·refine fin_ ?_
           (repeat' apply And.intro) <;> (first | (first | rfl | trivial | (rw [hrk]; done) | (left; rw [hrk]; done)) | (first | rfl | exact Or.inr rfl | exact Or.inl rfl | trivial | omega | assumption | (simp; done) | (simp; omega)))
          ·refine fin_ ?_
           (repeat' apply And.intro) <;> (first | (first | rfl | trivial | (rw [hrk]; done) | (left; rw [hrk]; done)) | (first | rfl | exact Or.inr rfl | exact Or.inl rfl | trivial | omega | assumption | (simp; done) | (simp; omega)))
        ·have hrk : readyK l (orderN l m) i (k + 1) = readyK l (orderN l m) i k := by rw [readyK_succ hde, if_neg (by have := hb25; simpa using this)]
         refine vc_skip ?_
         try simp only [k_rules]
         refine h23 _ ?_; clear h23; try clear N23
         refine u_reg ?_
         try refine lg_mk ?_
         refine u_mv ?_
         refine u_bn ?_
         refine u_mv ?_
         refine lg_nil ?_
         refine h19 _ ⟨k + 1, ?_, ?_, [some 0], ?_⟩
         ·dsimp only
          omega
         ·dsimp only
          omega
         ·dsimp only
          refine ⟨by rfl, ?_, ?_⟩
          ·refine fin_ ?_
           (repeat' apply And.intro) <;> (first | (first | rfl | trivial | (rw [hrk]; done) | (left; rw [hrk]; done)) | (first | rfl | exact Or.inr rfl | exact Or.inl rfl | trivial | omega | assumption | (simp; done) | (simp; omega)))
          ·refine fin_ ?_
           (repeat' apply And.intro) <;> (first | (first | rfl | trivial | (rw [hrk]; done) | (left; rw [hrk]; done)) | (first | rfl | exact Or.inr rfl | exact Or.inl rfl | trivial | omega | assumption | (simp; done) | (simp; omega)))
       ·have hk : k = l.length := by omega
        subst hk
        have hrl : readyK l (orderN l m) i l.length = ready l (orderN l m) i := rfl
        rw [hrl]
        refine vc_exit ?_
        simp only [k_rules, Nat.reduceEqDiff, reduceIte, eq_self]
        refine h17 _ ?_; clear h17; try clear N17
        refine vc_seq_k fun N26 h26 => ?_
        cases hrd : ready l (orderN l m) i
        ·have hrx := True.intro
         have hx := And.intro @hce (And.intro @hcb (And.intro @eC.eq_1 hx0))
         refine u_reg ?_
         try refine lg_mk ?_
         refine u_mv ?_
         refine u_mv ?_
         refine g_mv ?_
         refine g_bn ?_
         refine g_mv ?_
         refine g_mv ?_
         refine g_mv ?_
         refine g_pt ?_
         refine g_pt ?_
         refine g_ld ?_
         refine g_mv ?_
         refine g_mv ?_
         refine g_pt ?_
         refine g_pt ?_
         refine g_ld ?_
         refine g_bn ?_
         refine g_pk ?_
         refine u_pk ?_
         refine lg_nil ?_
         have hx := hx0
         refine h26 _ ?_; clear h26; try clear N26
         refine u_cond (fun hb27 => ?_) (fun hb27 => ?_)
         ·first | omega | exact absurd trivial hb27 | contradiction | (simp_all; done)
         ·have hbi : bestI (ready l (orderN l m)) l (i + 1) = bestI (ready l (orderN l m)) l i := by
           rw [bestI, if_neg]
           rw [getD_of hce, getD_of hcb, hrd]
           have := hb27; simpa using this
          refine vc_skip ?_
          try simp only [k_rules]
          refine h15 _ ?_; clear h15; try clear N15
          refine u_reg ?_
          try refine lg_mk ?_
          refine u_mv ?_
          refine u_bn ?_
          refine u_mv ?_
          refine lg_nil ?_
          refine h11 _ ⟨i + 1, ?_, ?_, [some 0], ?_⟩
          ·dsimp only
           omega
          ·dsimp only
           omega
          ·dsimp only
           refine ⟨by rfl, ?_, ?_⟩
           ·refine fin_ ?_
            (repeat' apply And.intro) <;> (first | (first | rfl | trivial | (rw [hbi]; done) | (left; rw [hbi]; done)) | (first | rfl | exact Or.inr rfl | exact Or.inl rfl | trivial | omega | assumption | (simp; done) | (simp; omega)))
           ·refine fin_ ?_
            (repeat' apply And.intro) <;> (first | (first | rfl | trivial | (rw [hbi]; done) | (left; rw [hbi]; done)) | (first | rfl | exact Or.inr rfl | exact Or.inl rfl | trivial | omega | assumption | (simp; done) | (simp; omega)))
        ·have hrx := True.intro
         have hx := And.intro @hce (And.intro @hcb (And.intro @eC.eq_1 hx0))
         refine u_reg ?_
         try refine lg_mk ?_
         refine u_mv ?_
         refine u_mv ?_
         refine g_mv ?_
         refine g_bn ?_
         refine g_mv ?_
         refine g_mv ?_
         refine g_mv ?_
         refine g_pt ?_
         refine g_pt ?_
         refine g_ld ?_
         refine g_mv ?_
         refine g_mv ?_
         refine g_pt ?_
         refine g_pt ?_
         refine g_ld ?_
         refine g_bn ?_
         refine g_pk ?_
         refine u_pk ?_
         refine lg_nil ?_
         have hx := hx0
         refine h26 _ ?_; clear h26; try clear N26
         refine u_cond (fun hb28 => ?_) (fun hb28 => ?_)
         ·have hbi : bestI (ready l (orderN l m)) l (i + 1) = (i : Int) := by
           rw [bestI, if_pos]
           rw [getD_of hce, getD_of hcb, hrd]
           have := hb28; simpa using this
          refine u_reg ?_
          try refine lg_mk ?_
          refine u_mv ?_
          refine u_mv ?_
          refine lg_nil ?_
          refine h15 _ ?_; clear h15; try clear N15
          refine u_reg ?_
          try refine lg_mk ?_
          refine u_mv ?_
          refine u_bn ?_
          refine u_mv ?_
          refine lg_nil ?_
          refine h11 _ ⟨i + 1, ?_, ?_, [some 0], ?_⟩
          ·dsimp only
           omega
          ·dsimp only
           omega
          ·dsimp only
           refine ⟨by rfl, ?_, ?_⟩
           ·refine fin_ ?_
            (repeat' apply And.intro) <;> (first | (first | rfl | trivial | (rw [hbi]; done) | (left; rw [hbi]; done)) | (first | rfl | exact Or.inr rfl | exact Or.inl rfl | trivial | omega | assumption | (simp; done) | (simp; omega)))
           ·refine fin_ ?_
            (repeat' apply And.intro) <;> (first | (first | rfl | trivial | (rw [hbi]; done) | (left; rw [hbi]; done)) | (first | rfl | exact Or.inr rfl | exact Or.inl rfl | trivial | omega | assumption | (simp; done) | (simp; omega)))
         ·have hbi : bestI (ready l (orderN l m)) l (i + 1) = bestI (ready l (orderN l m)) l i := by
           rw [bestI, if_neg]
           rw [getD_of hce, getD_of hcb, hrd]
           have := hb28; simpa using this
          refine vc_skip ?_
          try simp only [k_rules]
          refine h15 _ ?_; clear h15; try clear N15
          refine u_reg ?_
          try refine lg_mk ?_
          refine u_mv ?_
          refine u_bn ?_
          refine u_mv ?_
          refine lg_nil ?_
          refine h11 _ ⟨i + 1, ?_, ?_, [some 0], ?_⟩
          ·dsimp only
           omega
          ·dsimp only
           omega
          ·dsimp only
           refine ⟨by rfl, ?_, ?_⟩
           ·refine fin_ ?_
            (repeat' apply And.intro) <;> (first | (first | rfl | trivial | (rw [hbi]; done) | (left; rw [hbi]; done)) | (first | rfl | exact Or.inr rfl | exact Or.inl rfl | trivial | omega | assumption | (simp; done) | (simp; omega)))
           ·refine fin_ ?_
            (repeat' apply And.intro) <;> (first | (first | rfl | trivial | (rw [hbi]; done) | (left; rw [hbi]; done)) | (first | rfl | exact Or.inr rfl | exact Or.inl rfl | trivial | omega | assumption | (simp; done) | (simp; omega)))
     ·have hi : i = l.length := by omega
      subst hi
      rw [hb2]
      refine vc_exit ?_
      simp only [k_rules, Nat.reduceEqDiff, reduceIte, eq_self]
      refine h9 _ ?_; clear h9; try clear N9
      refine u_reg ?_
      try refine lg_mk ?_
      refine u_mv ?_
      refine u_mv ?_
      refine u_bs ?_
      refine u_ap ?_
      refine u_mv ?_
      refine lg_nil ?_
      have hon : orderN l (m + 1) = orderN l m ++ [(b : Int)] := by rw [orderN, hb2]
      refine h4 _ ⟨m + 1, ?_, ?_, [some 2], ?_⟩
      ·dsimp only
       omega
      ·dsimp only
       omega
      ·dsimp only
       refine ⟨by rfl, ?_, ?_⟩
       ·refine fin_ ?_
        (repeat' apply And.intro) <;> (first | (first | rfl | trivial | (rw [htk, hon]; simp [rows, eI]; done)) | (first | rfl | exact Or.inr rfl | exact Or.inl rfl | trivial | omega | assumption | (simp; done) | (simp; omega)))
       ·refine fin_ ?_
        (repeat' apply And.intro) <;> (first | (first | rfl | trivial | (rw [htk, hon]; simp [rows, eI]; done)) | (first | rfl | exact Or.inr rfl | exact Or.inl rfl | trivial | omega | assumption | (simp; done) | (simp; omega)))
   ·have hm : m = l.length := by omega
    subst hm
    have hlen := (ord_all hv l.length (Nat.le_refl _)).len
    refine vc_exit ?_
    simp only [k_rules, Nat.reduceEqDiff, reduceIte, eq_self]
    refine h3 _ ?_; clear h3; try clear N3
    refine vc_seq_k fun N29 h29 => ?_
    refine u_reg ?_
    try refine lg_mk ?_
    refine u_mv ?_
    refine u_mv ?_
    refine lg_nil ?_
    refine h29 _ ?_; clear h29; try clear N29
    refine vc_ret ?_
    try simp only [k_rules]
    refine fin2_ ?_
    (repeat' apply And.intro) <;> (first | (first | rfl | exact Or.inl rfl | trivial | exact Nat.le_refl _ | (simp [rows_len, hlen]; done) | (rw [List.take_of_length_le (by simp [rows_len, hlen])]; done) | (rw [List.drop_zero, rows_take, List.take_of_length_le (by omega)]; done)) | (first | rfl | exact Or.inr rfl | exact Or.inl rfl | trivial | omega | assumption | (simp; done) | (simp; omega)))
 ·cases hg

def E_orderOf : Env Try.prog := E_order.add 39 (Spec.pure orderOfG) orderOf_meets (by kernel_rfl)
end Go.Proofs.Ytaoifpmifpmhmaa
