/- Walks, printed by wip/gen/walk.py. -/
import Derived.Test.YtgnahopdiljikaaT20
import Derived.Test.YtgnahopdiljikaaV5
set_option linter.all false
set_option maxRecDepth 100000
set_option maxHeartbeats 4000000
namespace Go.Proofs.Ytgnahopdiljikaa
open Go Go.Vc Go.RowKit
def getS (Rm : List SO) (d : Int) : SO := Rm.getD (lbS Rm d) default
def fS (S Rm : List SO) (W : List Int) : Nat → List SO
  | 0 => S
  | k + 1 => addS (fS S Rm W k) (getS Rm (W.getD k 0))
def fL (P W : List Int) (k : Nat) : List Int := P.filter fun p => !decide (p ∈ W.take k)
def fC (S : List SO) (P : List Int) (Rm : List SO) (W : List Int) (i : Nat) : Int :=
  if ¬ (W.getD i 0 ∈ P ∧ W.getD i 0 ∉ W.take i) then 6 else if inS Rm (W.getD i 0) = false then 17 else if 40 ≤ S.length + i then 14 else 0
def fetW (S : List SO) (P : List Int) (Rm : List SO) (W : List Int) : Int × Int := firstF (fC S P Rm W) nI W.length
def fetF (S : List SO) (P : List Int) (Rm : List SO) (W : List Int) : Int × Int :=
  if (proF S P).1 ≠ 0 then proF S P else if (stF Rm).1 ≠ 0 then ((stF Rm).1, -1) else if 40 < W.length then (2, -1) else fetW S P Rm W
def fetS (S : List SO) (P : List Int) (Rm : List SO) (W : List Int) : List SO := if (fetF S P Rm W).1 ≠ 0 then [] else fS S Rm W W.length
def fetL (S : List SO) (P : List Int) (Rm : List SO) (W : List Int) : List Int := if (fetF S P Rm W).1 ≠ 0 then [] else fL P W W.length
theorem getS_at {Rm : List SO} (hv : ValS Rm) {d : Int} (h : inS Rm d = true) : ∃ y, Rm[lbS Rm d]? = some y ∧ y.dg = d ∧ getS Rm d = y ∧ objD y.ob = d ∧ OkO y.ob := by
  obtain ⟨y, hy, hd⟩ := inS_get hv.sort h
  exact ⟨y, hy, hd, by unfold getS; rw [getD_at hy], by rw [hv.dg y (mem_at hy), hd], hv.ok y (mem_at hy)⟩
structure InvF (S : List SO) (P : List Int) (Rm : List SO) (W : List Int) (i : Nat) : Prop where
  val : ValS (fS S Rm W i)
  len : (fS S Rm W i).length = S.length + i
  mem : ∀ d, d ∈ dgs (fS S Rm W i) ↔ d ∈ dgs S ∨ d ∈ W.take i
  sub : ∀ d ∈ W.take i, d ∈ P
theorem InvF.zero {S : List SO} {P : List Int} (h : ValS S) (Rm : List SO) (W : List Int) : InvF S P Rm W 0 := ⟨h, rfl, fun d => by simp [fS], fun d hd => by simp at hd⟩
theorem fC_zero {S : List SO} {P : List Int} {Rm : List SO} {W : List Int} {i : Nat} {d : Int} (hd : W[i]? = some d) : fC S P Rm W i = 0 ↔ (d ∈ P ∧ d ∉ W.take i) ∧ inS Rm d = true ∧ S.length + i < 40 := by
  unfold fC; rw [getD_at hd]
  by_cases h1 : d ∈ P ∧ d ∉ W.take i
  · rw [if_neg (fun h => h h1)]
    cases h2 : inS Rm d with
    | true =>
      rw [if_neg (by simp)]
      by_cases h3 : 40 ≤ S.length + i
      · rw [if_pos h3]; constructor
        · intro h; cases h
        · intro h; omega
      · rw [if_neg h3]; exact ⟨fun _ => ⟨h1, rfl, by omega⟩, fun _ => rfl⟩
    | false => rw [if_pos rfl]; constructor <;> intro h <;> simp at h
  · rw [if_pos h1]; constructor
    · intro h; cases h
    · intro h; exact absurd h.1 h1
theorem addS_dgs {S : List SO} {x : SO} (d : Int) : d ∈ dgs (addS S x) ↔ d = x.dg ∨ d ∈ dgs S := by
  unfold dgs
  rw [List.mem_map, List.mem_map]
  constructor
  · rintro ⟨y, hy, rfl⟩
    rcases addS_mem.1 hy with rfl | hy
    · exact .inl rfl
    · exact .inr ⟨y, hy, rfl⟩
  · rintro (rfl | ⟨y, hy, rfl⟩)
    · exact ⟨x, addS_mem.2 (.inl rfl), rfl⟩
    · exact ⟨y, addS_mem.2 (.inr hy), rfl⟩
theorem InvF.go {S : List SO} {P : List Int} {Rm : List SO} {W : List Int} {i : Nat} {d : Int} (hp : ValP S P) (hr : ValS Rm) (h : InvF S P Rm W i) (hd : W[i]? = some d) (hP : d ∈ P) (hW : d ∉ W.take i) (hin : inS Rm d = true) (hl : S.length + i < 40) : InvF S P Rm W (i + 1) := by
  obtain ⟨y, hy, hyd, hg, hob, hok⟩ := getS_at hr hin
  have hno : inS (fS S Rm W i) (objD y.ob) = false := by
    rw [hob]; refine decide_eq_false fun hm => ?_
    rcases (h.mem d).1 hm with h1 | h1
    · exact hp.apart d hP h1
    · exact hW h1
  have hx : y = ⟨objD y.ob, y.ob⟩ := by
    have : y.dg = objD y.ob := by rw [hob, hyd]
    cases y; simp only at this; rw [← this]
  have hs : fS S Rm W (i + 1) = addS (fS S Rm W i) ⟨objD y.ob, y.ob⟩ := by
    show addS (fS S Rm W i) (getS Rm (W.getD i 0)) = _
    rw [getD_at hd, hg, ← hx]
  have hll := h.len
  refine ⟨?_, ?_, fun e => ?_, fun e he => ?_⟩
  · rw [hs]; exact val_add h.val hok hno (by omega)
  · rw [hs, addS_len]; omega
  · rw [hs, addS_dgs, h.mem, hob, List.take_add_one, hd, List.mem_append]
    simp only [Option.toList_some, List.mem_singleton]
    constructor
    · rintro (h1 | h1 | h1)
      · exact .inr (.inr h1)
      · exact .inl h1
      · exact .inr (.inl h1)
    · rintro (h1 | h1 | h1)
      · exact .inr (.inl h1)
      · exact .inr (.inr h1)
      · exact .inl h1
  · rw [List.take_add_one, hd, List.mem_append] at he
    rcases he with he | he
    · exact h.sub e he
    · simp only [Option.toList_some, List.mem_singleton] at he; rw [he]; exact hP
theorem fL_mem {P W : List Int} {k : Nat} {x : Int} : x ∈ fL P W k ↔ x ∈ P ∧ x ∉ W.take k := by unfold fL; rw [List.mem_filter]; simp
theorem fL_zero (P W : List Int) : fL P W 0 = P := by unfold fL; rw [List.filter_eq_self]; intro x _; simp
theorem fL_sort {P : List Int} (h : P.Pairwise (· < ·)) (W : List Int) (k : Nat) : (fL P W k).Pairwise (· < ·) := h.filter _
theorem fL_len (P W : List Int) (k : Nat) : (fL P W k).length ≤ P.length := List.length_filter_le ..
theorem del_lb {l : List Int} {d : Int} (hs : l.Pairwise (· < ·)) (hd : d ∈ l) : lbR l d < l.length ∧ l.take (lbR l d) ++ l.drop (lbR l d + 1) = l.filter fun x => !decide (x = d) := by
  induction l with
  | nil => cases hd
  | cons a l ih =>
    obtain ⟨h1, h2⟩ := List.pairwise_cons.1 hs
    unfold lbR at *
    by_cases ha : a < d
    · have hdl : d ∈ l := by rcases List.mem_cons.1 hd with e | h; omega; exact h
      obtain ⟨i1, i2⟩ := ih h2 hdl
      rw [List.filter_cons_of_pos (by simpa using ha)]
      simp only [List.length_cons, List.take_succ_cons, List.drop_succ_cons, List.cons_append]
      refine ⟨by omega, ?_⟩
      rw [i2, List.filter_cons_of_pos (by simp; omega)]
    · have had : a = d := by
        rcases List.mem_cons.1 hd with e | h
        · exact e.symm
        · have := h1 d h; omega
      subst had
      have h0 : (a :: l).filter (fun x => decide (x < a)) = [] := by
        rw [List.filter_eq_nil_iff]; intro x hx
        rcases List.mem_cons.1 hx with rfl | hx
        · simp
        · have := h1 x hx; simp; omega
      rw [h0]
      refine ⟨by simp, ?_⟩
      simp only [List.length_nil, List.take_zero, Nat.zero_add, List.drop_succ_cons, List.drop_zero, List.nil_append]
      rw [List.filter_cons_of_neg (by simp), List.filter_eq_self.2]
      intro x hx; have := h1 x hx; simp; omega
theorem fL_succ {P W : List Int} {i : Nat} {d : Int} (hd : W[i]? = some d) : fL P W (i + 1) = (fL P W i).filter fun x => !decide (x = d) := by
  unfold fL
  rw [List.filter_filter, List.take_add_one, hd]
  apply List.filter_congr
  intro x _
  simp only [Option.toList_some, List.mem_append, List.mem_singleton]
  by_cases h1 : x ∈ W.take i <;> by_cases h2 : x = d <;> simp [h1, h2]
theorem fL_del {P W : List Int} {i : Nat} {d : Int} (hs : P.Pairwise (· < ·)) (hd : W[i]? = some d) (hP : d ∈ P) (hW : d ∉ W.take i) : lbR (fL P W i) d < (fL P W i).length ∧ (fL P W i).take (lbR (fL P W i) d) ++ (fL P W i).drop (lbR (fL P W i) d + 1) = fL P W (i + 1) := by
  rw [fL_succ hd]; exact del_lb (fL_sort hs W i) (fL_mem.2 ⟨hP, hW⟩)
theorem fet_cases {S : List SO} {P : List Int} {Rm : List SO} {W : List Int} {i : Nat} {d : Int} (hp : ValP S P) (hr : ValS Rm) (h : InvF S P Rm W i) (hd : W[i]? = some d) (hP : d ∈ P) (hW : d ∉ W.take i) :
    inS Rm d = false ∨ (inS Rm d = true ∧ ∃ y, Rm[lbS Rm d]? = some y ∧ OkO y.ob ∧ 40 ≤ S.length + i ∧ putF (fS S Rm W i) y.ob = (14, -1) ∧ putS (fS S Rm W i) y.ob = []) ∨
    (inS Rm d = true ∧ ∃ y, Rm[lbS Rm d]? = some y ∧ OkO y.ob ∧ S.length + i < 40 ∧ putF (fS S Rm W i) y.ob = (0, 0) ∧ putS (fS S Rm W i) y.ob = fS S Rm W (i + 1) ∧ InvF S P Rm W (i + 1)) := by
  cases hin : inS Rm d with
  | false => exact .inl rfl
  | true =>
    obtain ⟨y, hye, hyd, hyg, hyo, hyk⟩ := getS_at hr hin
    have hli := h.len
    have hno : inS (fS S Rm W i) (objD y.ob) = false := by
      rw [hyo]; refine decide_eq_false fun hm => ?_
      rcases (h.mem d).1 hm with h1 | h1
      · exact hp.apart d hP h1
      · exact hW h1
    have hyu : y = ⟨objD y.ob, y.ob⟩ := by
      have h9 : y.dg = objD y.ob := by rw [hyo, hyd]
      cases y; simp only at h9; rw [← h9]
    have hfs : fS S Rm W (i + 1) = addS (fS S Rm W i) ⟨objD y.ob, y.ob⟩ := by
      show addS (fS S Rm W i) (getS Rm (W.getD i 0)) = _
      rw [getD_at hd, hyg, ← hyu]
    rcases put_cases h.val hyk with ⟨h1, _⟩ | ⟨h1, _⟩ | ⟨_, hfl, g1, g2, g3⟩ | ⟨_, hfl, g1, g2, g3⟩
    · exact absurd (hno.symm.trans h1) (by simp)
    · exact absurd (hno.symm.trans h1) (by simp)
    · exact .inr (.inl ⟨rfl, y, hye, hyk, by omega, g1, g2⟩)
    · exact .inr (.inr ⟨rfl, y, hye, hyk, by omega, g1, by rw [hfs]; exact g2, h.go hp hr hd hP hW hin (by omega)⟩)
def fetG : List AV → Option (Prop × AV)
  | [.agg [.d (.sl xs)], .d (.sl ps), .agg [.d (.sl ys)], .d (.sl ws)] => some (xs = rows eO (dO xs) ∧ (dO xs).length ≤ 9223372036854775807 ∧ smallS (dO xs) ∧ ps = rows eI (dI ps) ∧ (dI ps).length ≤ 9223372036854775807 ∧ ys = rows eO (dO ys) ∧ (dO ys).length ≤ 9223372036854775807 ∧ smallS (dO ys) ∧ ws = rows eI (dI ws) ∧ (dI ws).length ≤ 9223372036854775807,
      .tup [.agg [.d (.sl (rows eO (fetS (dO xs) (dI ps) (dO ys) (dI ws))))], .d (.sl (rows eI (fetL (dO xs) (dI ps) (dO ys) (dI ws)))), .agg [.d (.int .i64 (fetF (dO xs) (dI ps) (dO ys) (dI ws)).1), .d (.int .i64 (fetF (dO xs) (dI ps) (dO ys) (dI ws)).2)]])
  | _ => none
def fetRG : List AV → Option (Prop × AV)
  | [.agg [.d (.sl xs)], .d (.sl ps), .agg [.d (.sl ys)], .d (.sl ws)] => some (xs = rows eO (dO xs) ∧ ps = rows eI (dI ps) ∧ ys = rows eO (dO ys) ∧ ws = rows eI (dI ws) ∧ ValP (dO xs) (dI ps) ∧ ValS (dO ys) ∧ (dI ws).length ≤ 40,
      .tup [.agg [.d (.sl (rows eO (fetS (dO xs) (dI ps) (dO ys) (dI ws))))], .d (.sl (rows eI (fetL (dO xs) (dI ps) (dO ys) (dI ws)))), .agg [.d (.int .i64 (fetW (dO xs) (dI ps) (dO ys) (dI ws)).1), .d (.int .i64 (fetW (dO xs) (dI ps) (dO ys) (dI ws)).2)]])
  | _ => none

theorem delI_meets : Meets Try.prog 40 (Spec.gen (deleteG 3)) := by
 refine meets_handed (E_needed.at_ 33) Try.func40 rfl rfl rfl ?_
 intro args bl p r bf hg hp
 unfold deleteG at hg
 split at hg
 ·rename_i len i j t s xs
  simp only [Option.some.injEq, Prod.mk.injEq] at hg
  obtain ⟨rfl, rfl, rfl⟩ := hg
  obtain ⟨rfl, rfl, hrx, rfl, h0, hij, hj, hlen⟩ := hp
  have hry : ∀ a b, Rect 1 ((xs.drop a).take b) := fun a b x hx => hrx x (List.mem_of_mem_drop (List.mem_of_mem_take hx))
  obtain ⟨i, rfl⟩ := Int.eq_ofNat_of_zero_le h0
  obtain ⟨j, rfl⟩ := Int.eq_ofNat_of_zero_le (by omega : 0 ≤ j)
  have hsl : (splice xs i ((xs.drop j).take (xs.length - j))).length = xs.length := by simp [splice]; omega
  have hl2 : ((xs.drop j).take (xs.length - j)).length = xs.length - j := by simp
  have hdr := delete_rows (xs := xs) (i := i) (j := j) (by omega) (by omega)
  have hT : (E_needed).X = T := rfl
  have hx0 := @Try.results40
  have hx := hx0
  refine ⟨Nat.le_of_ble_eq_true rfl, ?_⟩
  intro F W0 M0 hnp hmk
  have hnp : Far.np = 1 := hnp
  refine vc_seq_k fun N1 h1 => ?_
  refine u_reg ?_
  try refine lg_mk ?_
  refine u_mv ?_
  refine lg_nil ?_
  refine h1 _ ?_; clear h1; try clear N1
  refine vc_seq_k fun N2 h2 => ?_
  refine u_reg ?_
  try refine lg_mk ?_
  refine u_mv ?_
  refine u_mv ?_
  refine u_mv ?_
  refine u_mv ?_
  refine u_ln ?_
  refine lg_sem (by rfl) (sem_slice3n (by first | (simp only [wB, eq_self, Nat.reduceEqDiff, reduceIte]; done) | (simp only [wB, eq_self, Nat.reduceEqDiff, reduceIte]; rfl)) (by first | trivial | simp only [wB, eq_self, Nat.reduceEqDiff, reduceIte]) (by simp only [wB, eq_self, Nat.reduceEqDiff, reduceIte]; rfl) (by first | (simp only [wB, eq_self, Nat.reduceEqDiff, reduceIte, env_rules, tys, hT, tiAgg]; done) | (simp only [wB, eq_self, Nat.reduceEqDiff, reduceIte, env_rules, tys, hT, tiAgg]; rfl)) (by first | (simp only [wB, eq_self, Nat.reduceEqDiff, reduceIte, env_rules, tys, hT, tiAgg]; done) | (simp only [wB, eq_self, Nat.reduceEqDiff, reduceIte, env_rules, tys, hT, tiAgg]; rfl)) (by first | (simp only [wB, eq_self, Nat.reduceEqDiff, reduceIte]; done) | (simp only [wB, eq_self, Nat.reduceEqDiff, reduceIte]; rfl)) (by first | trivial | simp only [wB, eq_self, Nat.reduceEqDiff, reduceIte]) (by first | (simp only [wB, eq_self, Nat.reduceEqDiff, reduceIte]; done) | (simp only [wB, eq_self, Nat.reduceEqDiff, reduceIte]; rfl)) (by first | trivial | simp only [wB, eq_self, Nat.reduceEqDiff, reduceIte]) (by first | (simp only [wB, eq_self, Nat.reduceEqDiff, reduceIte]; done) | (simp only [wB, eq_self, Nat.reduceEqDiff, reduceIte]; rfl)) (by first | trivial | simp only [wB, eq_self, Nat.reduceEqDiff, reduceIte]) (by exact sd_) ?_)
  refine lg_nil ?_
  refine h2 _ ?_; clear h2; try clear N2
  refine vc_seq_k fun N3 h3 => ?_
  refine vc_seq_k fun N4 h4 => ?_
  refine u_reg ?_
  try refine lg_mk ?_
  refine u_mv ?_
  refine u_mv ?_
  refine u_bn ?_
  refine lg_nil ?_
  refine h4 _ ?_; clear h4; try clear N4
  refine u_cond (fun hb5 => ?_) (fun hb5 => ?_)
  ·first | omega | exact absurd trivial hb5 | contradiction | (simp_all; done)
  ·refine vc_skip ?_
   try simp only [k_rules]
   refine h3 _ ?_; clear h3; try clear N3
   refine vc_seq_k fun N6 h6 => ?_
   refine u_reg ?_
   try refine lg_mk ?_
   refine u_mv ?_
   refine u_ln ?_
   refine u_mv ?_
   refine lg_nil ?_
   refine h6 _ ?_; clear h6; try clear N6
   refine vc_seq_k fun N7 h7 => ?_
   refine u_reg ?_
   try refine lg_mk ?_
   refine u_mv ?_
   refine u_mv ?_
   refine u_sl ?_
   refine u_mv ?_
   refine u_mv ?_
   refine u_sl ?_
   refine lg_sem (by rfl) (sem_appendI (by first | (simp only [wB, eq_self, Nat.reduceEqDiff, reduceIte]; done) | (simp only [wB, eq_self, Nat.reduceEqDiff, reduceIte]; rfl)) (by first | trivial | simp only [wB, eq_self, Nat.reduceEqDiff, reduceIte]) (by simp only [wB, eq_self, Nat.reduceEqDiff, reduceIte]; rfl) (by first | (simp only [wB, eq_self, Nat.reduceEqDiff, reduceIte, env_rules, tys, hT, tiAgg]; done) | (simp only [wB, eq_self, Nat.reduceEqDiff, reduceIte, env_rules, tys, hT, tiAgg]; rfl)) (by first | (simp only [wB, eq_self, Nat.reduceEqDiff, reduceIte, env_rules, tys, hT, tiAgg]; done) | (simp only [wB, eq_self, Nat.reduceEqDiff, reduceIte, env_rules, tys, hT, tiAgg]; rfl)) rfl (by first | (simp only [wB, eq_self, Nat.reduceEqDiff, reduceIte]; done) | (simp only [wB, eq_self, Nat.reduceEqDiff, reduceIte]; rfl)) (by first | trivial | simp only [wB, eq_self, Nat.reduceEqDiff, reduceIte]) (by simp only [rowsSrc, wB, eq_self, Nat.reduceEqDiff, reduceIte, wL, Int.toNat_natCast, Int.reduceToNat, Nat.reduceAdd, Nat.reduceMul, Nat.reduceSub, Nat.reduceLeDiff, hx]; rfl) (by (first | (exact hry _ _) | exact sd_)) (by (first | (exact hry _ _) | exact sd_)) (by (first | (exact hry _ _) | exact sd_)) ?_)
   try simp only [wB, eq_self, Nat.reduceEqDiff, reduceIte, wL, Int.toNat_natCast, Int.reduceToNat, Nat.reduceAdd, Nat.reduceMul, Nat.reduceSub, Nat.reduceLeDiff, hx]
   refine u_mv ?_
   refine lg_nil ?_
   refine h7 _ ?_; clear h7; try clear N7
   refine vc_seq_k fun N8 h8 => ?_
   refine u_reg ?_
   try refine lg_mk ?_
   refine u_mv ?_
   refine u_mv ?_
   refine u_ln ?_
   refine u_mv ?_
   refine lg_sem (by rfl) (sem_sliceX (by first | (simp only [wB, eq_self, Nat.reduceEqDiff, reduceIte]; done) | (simp only [wB, eq_self, Nat.reduceEqDiff, reduceIte]; rfl)) (by first | trivial | simp only [wB, eq_self, Nat.reduceEqDiff, reduceIte]) (by simp only [wB, eq_self, Nat.reduceEqDiff, reduceIte]; rfl) (by first | (simp only [wB, eq_self, Nat.reduceEqDiff, reduceIte, env_rules, tys, hT, tiAgg]; done) | (simp only [wB, eq_self, Nat.reduceEqDiff, reduceIte, env_rules, tys, hT, tiAgg]; rfl)) (by first | (simp only [wB, eq_self, Nat.reduceEqDiff, reduceIte, env_rules, tys, hT, tiAgg]; done) | (simp only [wB, eq_self, Nat.reduceEqDiff, reduceIte, env_rules, tys, hT, tiAgg]; rfl)) rfl (by first | (simp only [wB, eq_self, Nat.reduceEqDiff, reduceIte]; done) | (simp only [wB, eq_self, Nat.reduceEqDiff, reduceIte]; rfl)) (by first | trivial | simp only [wB, eq_self, Nat.reduceEqDiff, reduceIte]) (by first | (simp only [wB, eq_self, Nat.reduceEqDiff, reduceIte]; done) | (simp only [wB, eq_self, Nat.reduceEqDiff, reduceIte]; rfl)) (by first | trivial | simp only [wB, eq_self, Nat.reduceEqDiff, reduceIte]) (by exact sd_) ?_)
   try simp only [wB, eq_self, Nat.reduceEqDiff, reduceIte, wL, Int.toNat_natCast, Int.reduceToNat, Nat.reduceAdd, Nat.reduceMul, Nat.reduceSub, Nat.reduceLeDiff, hx]
   refine lg_sem (by rfl) (sem_clear (by first | (simp only [wB, eq_self, Nat.reduceEqDiff, reduceIte]; done) | (simp only [wB, eq_self, Nat.reduceEqDiff, reduceIte]; rfl)) (by first | trivial | simp only [wB, eq_self, Nat.reduceEqDiff, reduceIte]) (by simp only [wB, eq_self, Nat.reduceEqDiff, reduceIte]; rfl) (by first | (simp only [wB, eq_self, Nat.reduceEqDiff, reduceIte, env_rules, tys, hT, tiAgg]; done) | (simp only [wB, eq_self, Nat.reduceEqDiff, reduceIte, env_rules, tys, hT, tiAgg]; rfl)) (by first | (simp only [wB, eq_self, Nat.reduceEqDiff, reduceIte, env_rules, tys, hT, tiAgg]; done) | (simp only [wB, eq_self, Nat.reduceEqDiff, reduceIte, env_rules, tys, hT, tiAgg]; rfl)) rfl ?_)
   try simp only [wB, eq_self, Nat.reduceEqDiff, reduceIte, wL, Int.toNat_natCast, Int.reduceToNat, Nat.reduceAdd, Nat.reduceMul, Nat.reduceSub, Nat.reduceLeDiff, hx]
   refine lg_nil ?_
   refine h8 _ ?_; clear h8; try clear N8
   refine vc_seq_k fun N9 h9 => ?_
   refine u_reg ?_
   try refine lg_mk ?_
   refine u_mv ?_
   refine u_mv ?_
   refine lg_nil ?_
   refine h9 _ ?_; clear h9; try clear N9
   refine vc_ret ?_
   try simp only [k_rules]
   refine fin_ ?_
   refine ⟨[some 0], by rfl, ?_, ?_⟩
   ·refine fin_ ?_
    (repeat' apply And.intro) <;> (first | (first | rfl | (rw [Nat.sub_zero, hl2]; exact hdr) | (rw [hl2]; omega) | trivial | omega) | exact cl_)
   ·refine fin_ ?_
    (repeat' apply And.intro) <;> (first | (first | rfl | (rw [Nat.sub_zero, hl2]; exact hdr) | (rw [hl2]; omega) | trivial | omega) | exact cl_)
 ·cases hg

def E_delI : Env Try.prog := E_needed.add 40 (Spec.gen (deleteG 3)) delI_meets (by kernel_rfl)

theorem fetch_meets : Meets Try.prog 21 (Spec.pure fetG) := by
 refine meets_fun (E_delI.at_ 109) Try.func21 rfl rfl rfl ?_
 intro args p r hg hp
 unfold fetG at hg
 split at hg
 ·rename_i xs ps ys ws
  simp only [Option.some.injEq, Prod.mk.injEq] at hg
  obtain ⟨rfl, rfl⟩ := hg
  obtain ⟨he, hl, hsm, he2, hpl, he3, hl3, hsm3, he4, hwl⟩ := hp
  generalize dO xs = S at *
  generalize dI ps = P at *
  generalize dO ys = Rm at *
  generalize dI ws = W at *
  subst he he2 he3 he4
  have hT : (E_delI).X = T := rfl
  have hx0 := And.intro @rect_eO (And.intro @dI_rows (And.intro @dU_rows (And.intro @dO_rows (And.intro @dec_t (And.intro @dec_f (And.intro @takeI_len (And.intro @takeS_len @Try.results21)))))))
  have hx := hx0
  refine ⟨by rfl, ?_⟩
  intro F W0 hnp hmk
  refine vc_seq_k fun N1 h1 => ?_
  refine vc_regG [39] hmix (by kernel_rfl) ?_
  try refine lg_mk ?_
  refine u_bx ?_
  refine u_bx ?_
  refine u_al ?_
  refine u_mv ?_
  refine u_al ?_
  refine lg_nil ?_
  refine h1 _ ?_; clear h1; try clear N1
  refine vc_seq_k fun N2 h2 => ?_
  refine vc_regG [39] hmix (by kernel_rfl) ?_
  try refine lg_mk ?_
  refine u_al ?_
  refine lg_nil ?_
  refine h2 _ ?_; clear h2; try clear N2
  refine vc_seq_k fun N3 h3 => ?_
  refine vc_seq_k fun N4 h4 => ?_
  refine vc_regG [39] hmix (by kernel_rfl) ?_
  try refine lg_mk ?_
  refine u_ld ?_
  refine u_mv ?_
  have hc := call_rule (E := (E_delI.at_ 109)) (f := 31) (sp := Spec.pure proG) rfl
  have hs := @proG.eq_1
  refine u_cp (hq := by (first | (exact ⟨hl, hsm, hpl⟩) | exact sd_)) ?_
  refine u_al ?_
  refine u_st ?_
  refine lg_nil ?_
  refine h4 _ ?_; clear h4; try clear N4
  refine vc_seq_k fun N5 h5 => ?_
  rcases proF_or S P with ⟨hvx, hvp⟩ | hvx
  ·have hz1 : (proF S P).1 = 0 := by rw [hvx]
   have hz2 : (proF S P).2 = 0 := by rw [hvx]
   have hv := hvp.st
   have hlen := hv.len
   have hpn := hvp.len
   refine vc_regG [39] hmix (by kernel_rfl) ?_
   try refine lg_mk ?_
   refine u_ld ?_
   refine u_bd ?_
   refine u_bn ?_
   refine lg_nil ?_
   refine h5 _ ?_; clear h5; try clear N5
   refine u_cond (fun hb6 => ?_) (fun hb6 => ?_)
   ·exact absurd (And.intro hz1 hz2) (by have := hb6; simpa using this)
   ·refine vc_skip ?_
    try simp only [k_rules]
    refine h3 _ ?_; clear h3; try clear N3
    refine vc_seq_k fun N7 h7 => ?_
    refine vc_seq_k fun N8 h8 => ?_
    refine vc_regG [39] hmix (by kernel_rfl) ?_
    try refine lg_mk ?_
    refine u_ld ?_
    have hc := call_rule (E := (E_delI.at_ 109)) (f := 26) (sp := Spec.pure valG) rfl
    have hs := @valG.eq_1
    refine u_cp (hq := by (first | (exact ⟨hl3, hsm3⟩) | exact sd_)) ?_
    refine u_al ?_
    refine u_st ?_
    refine lg_nil ?_
    refine h8 _ ?_; clear h8; try clear N8
    refine vc_seq_k fun N9 h9 => ?_
    rcases stF_or Rm with ⟨hwx, hvr⟩ | hwx
    ·have hw1 : (stF Rm).1 = 0 := by rw [hwx]
     have hw2 : (stF Rm).2 = 0 := by rw [hwx]
     have hlr := hvr.len
     refine vc_regG [39] hmix (by kernel_rfl) ?_
     try refine lg_mk ?_
     refine u_ld ?_
     refine u_bd ?_
     refine u_bn ?_
     refine lg_nil ?_
     refine h9 _ ?_; clear h9; try clear N9
     refine u_cond (fun hb10 => ?_) (fun hb10 => ?_)
     ·exact absurd (And.intro hw1 hw2) (by have := hb10; simpa using this)
     ·refine vc_skip ?_
      try simp only [k_rules]
      refine h7 _ ?_; clear h7; try clear N7
      refine vc_seq_k fun N11 h11 => ?_
      refine vc_seq_k fun N12 h12 => ?_
      refine vc_regG [39] hmix (by kernel_rfl) ?_
      try refine lg_mk ?_
      refine u_mv ?_
      refine u_ln ?_
      refine u_bn ?_
      refine lg_nil ?_
      refine h12 _ ?_; clear h12; try clear N12
      refine u_cond (fun hb13 => ?_) (fun hb13 => ?_)
      ·refine vc_seq_k fun N14 h14 => ?_
       refine vc_regG [39] hmix (by kernel_rfl) ?_
       try refine lg_mk ?_
       refine u_ld ?_
       refine u_bd ?_
       refine u_st ?_
       refine u_mv ?_
       refine u_st ?_
       refine lg_nil ?_
       refine h14 _ ?_; clear h14; try clear N14
       refine vc_ret ?_
       try simp only [k_rules]
       have hr : fetF S P Rm W = (2, -1) := by unfold fetF; rw [if_neg (by rw [hz1]; simp), if_neg (by rw [hw1]; simp), if_pos (by have := hb13; omega)]
       have hr2 : fetS S P Rm W = [] := by unfold fetS; rw [hr]; exact if_pos (by decide)
       have hr3 : fetL S P Rm W = [] := by unfold fetL; rw [hr]; exact if_pos (by decide)
       rw [hr, hr2, hr3]
       refine fin2_ ?_
       exact cl_
      ·refine vc_skip ?_
       try simp only [k_rules]
       refine h11 _ ?_; clear h11; try clear N11
       refine vc_seq_k fun N15 h15 => ?_
       refine vc_regG [39] hmix (by kernel_rfl) ?_
       try refine lg_mk ?_
       refine u_ld ?_
       have hc := call_rule (E := (E_delI.at_ 109)) (f := 27) (sp := Spec.fresh copyG) rfl
       have hs := @copyG.eq_1
       refine u_hg (hq := by (first | (exact hv) | exact sd_)) ?_
       refine u_mv ?_
       have hc := call_rule (E := (E_delI.at_ 109)) (f := 32) (sp := Spec.fresh (cloneF 3)) rfl
       have hs := @cloneF.eq_1
       refine u_hg (hq := by (first | (exact ⟨rect_eI P, by rw [rows_len]; omega⟩) | exact sd_)) ?_
       refine u_al ?_
       refine u_st ?_
       refine u_mv ?_
       refine lg_nil ?_
       refine h15 _ ?_; clear h15; try clear N15
       refine vc_seq_k fun N16 h16 => ?_
       refine vc_seq_k fun N17 h17 => ?_
       refine vc_regG [39] hmix (by kernel_rfl) ?_
       try refine lg_mk ?_
       refine u_mv ?_
       refine u_ln ?_
       refine u_mv ?_
       refine lg_nil ?_
       refine h17 _ ?_; clear h17; try clear N17
       refine vc_block ?_
       refine vc_loop_mk (σ := Nat) (fun s => (fun i => (i ≤ W.length ∧ ∀ j, j < i → fC S P Rm W j = 0) ∧ InvF S P Rm W i) s)
        (fun s => (fun i => [(1, .d (.sl (rows eI P))), (3, .d (.sl (rows eI W))), (4, .ptr 0 0 0), (6, .ptr 1 0 0), (8, .ptr 2 0 0), (10, .ptr 3 0 0), (11, .ptr 4 0 0), (14, .ptr 7 0 0), (15, .sl 8 0 (fL P W i).length), (50, .d (.sl (rows eI W))), (51, .d (.int .i64 (W.length : Nat))), (52, .d (.int .i64 (i : Nat)))]) s)
        (fun s => (fun i => [some (.one 24 [.d (.sl (rows eO S))]), some (.one 24 [.d (.sl (rows eO Rm))]), some (.one 24 [.d .nils]), some (.one 28 [.d (.int .i64 0), .d (.int .i64 0)]), some (.one 24 [.d .nils]), some (.one 28 [.d (.int .i64 0), .d (.int .i64 0)]), some (.one 28 [.d (.int .i64 0), .d (.int .i64 0)]), some (.one 24 [.d (.sl (rows eO (fS S Rm W i)))]), some (.vec 3 1 (rows eI (fL P W i)))]) s) (fun s => (fun i => W.length - i) s) hnp 0 ?_ [some 0, some 1, some 2, some 3, some 4, some 5, some 6, some 9, some 8] ?_ ?_
       ·dsimp only
        exact ⟨⟨by omega, fun j hj => by omega⟩, InvF.zero hv Rm W⟩
       ·dsimp only
        refine ⟨by rfl, ?_, ?_⟩
        ·refine fin_ ?_
         (repeat' apply And.intro) <;> (first | (first | rfl | trivial | omega | (rw [fL_zero]; done) | exact Or.inl rfl | (simp [fS]; done)) | exact cl_)
        ·refine fin_ ?_
         (repeat' apply And.intro) <;> (first | (first | rfl | trivial | omega | (rw [fL_zero]; done) | exact Or.inl rfl | (simp [fS]; done)) | exact cl_)
       ·rintro i hinv N18 h18
        dsimp only at hinv ⊢
        obtain ⟨⟨i1, i2⟩, hI⟩ := hinv
        refine vc_seq_k fun N19 h19 => ?_
        refine vc_regG [39] hmix (by kernel_rfl) ?_
        try refine lg_mk ?_
        refine u_bn ?_
        refine lg_nil ?_
        refine h19 _ ?_; clear h19; try clear N19
        refine vc_seq_k fun N20 h20 => ?_
        refine u_cond (fun hb21 => ?_) (fun hb21 => ?_)
        ·obtain ⟨x, hxe⟩ := getE (l := W) (i := i) (by omega)
         have hxd : W.getD i 0 = x := getD_at hxe
         have hfz := fC_zero (S := S) (P := P) (Rm := Rm) hxe
         have hls := fL_sort hvp.sort W i
         have hll := fL_len P W i
         refine vc_skip ?_
         try simp only [k_rules]
         refine h20 _ ?_; clear h20; try clear N20
         refine vc_seq_k fun N22 h22 => ?_
         refine vc_block ?_
         refine vc_seq_k fun N23 h23 => ?_
         have hx := And.intro @hxe (And.intro @eI.eq_1 hx0)
         refine vc_regG [39] hmix (by kernel_rfl) ?_
         try refine lg_mk ?_
         refine u_mv ?_
         refine u_pt ?_
         refine u_ld ?_
         refine u_mv ?_
         refine u_mv ?_
         refine lg_nil ?_
         have hx := hx0
         refine h23 _ ?_; clear h23; try clear N23
         refine vc_seq_k fun N24 h24 => ?_
         refine vc_regG [39] hmix (by kernel_rfl) ?_
         try refine lg_mk ?_
         refine u_mv ?_
         refine u_mv ?_
         have hc := call_rule (E := (E_delI.at_ 109)) (f := 33) (sp := Spec.pure bsG) rfl
         have hs := @bsG.eq_1
         refine u_cp (hq := by (first | (exact ⟨Nat.le_refl _, hls, by omega⟩) | exact sd_)) ?_
         refine u_mv ?_
         refine u_ex ?_
         refine u_ex ?_
         refine u_mv ?_
         refine u_mv ?_
         refine lg_nil ?_
         refine h24 _ ?_; clear h24; try clear N24
         refine vc_seq_k fun N25 h25 => ?_
         refine vc_seq_k fun N26 h26 => ?_
         refine vc_regG [39] hmix (by kernel_rfl) ?_
         try refine lg_mk ?_
         refine u_mv ?_
         refine u_un ?_
         refine lg_nil ?_
         refine h26 _ ?_; clear h26; try clear N26
         refine u_cond (fun hb27 => ?_) (fun hb27 => ?_)
         ·refine vc_seq_k fun N28 h28 => ?_
          refine vc_regG [39] hmix (by kernel_rfl) ?_
          try refine lg_mk ?_
          refine u_ld ?_
          refine u_mv ?_
          refine u_bd ?_
          refine u_st ?_
          refine u_mv ?_
          refine u_st ?_
          refine lg_nil ?_
          refine h28 _ ?_; clear h28; try clear N28
          refine vc_ret ?_
          try simp only [k_rules]
          have hf : fC S P Rm W i = 6 := by unfold fC; rw [hxd]; rw [if_pos (fun h => (by have := hb27; simpa using this : x ∉ fL P W i) (fL_mem.2 h))]
          have hr : fetF S P Rm W = (6, (i : Int)) := by unfold fetF fetW; rw [if_neg (by rw [hz1]; simp), if_neg (by rw [hw1]; simp), if_neg (by have := hb13; omega), firstF_at (i := i) (by rw [hf]; decide) i2 (by omega), hf]; rfl
          have hr2 : fetS S P Rm W = [] := by unfold fetS; rw [hr]; exact if_pos (by simp)
          have hr3 : fetL S P Rm W = [] := by unfold fetL; rw [hr]; exact if_pos (by simp)
          rw [hr, hr2, hr3]
          refine fin2_ ?_
          exact cl_
         ·have hmm : x ∈ fL P W i := by have := hb27; simpa using this
          obtain ⟨hxP, hxW⟩ := fL_mem.1 hmm
          have hdl := fL_del hvp.sort hxe hxP hxW
          obtain ⟨hdl1, hdl2⟩ := hdl
          refine vc_skip ?_
          try simp only [k_rules]
          refine h25 _ ?_; clear h25; try clear N25
          refine vc_seq_k fun N29 h29 => ?_
          rcases fet_cases hvp hvr hI hxe hxP hxW with hir | ⟨hir, y, hye, hyk, hfl, g1, g2⟩ | ⟨hir, y, hye, hyk, hfl, g1, g2, hgo⟩
          ·skip
           have hx := And.intro @hir hx0
           refine vc_regG [39] hmix (by kernel_rfl) ?_
           try refine lg_mk ?_
           refine u_ld ?_
           refine u_mv ?_
           have hc := call_rule (E := (E_delI.at_ 109)) (f := 34) (sp := Spec.pure findG) rfl
           have hs := @findG.eq_1
           refine u_cp (hq := by (first | (exact ⟨hvr.sort, by omega⟩) | exact sd_)) ?_
           refine u_mv ?_
           refine u_ex ?_
           refine u_ex ?_
           refine u_mv ?_
           refine u_mv ?_
           refine lg_nil ?_
           have hx := hx0
           refine h29 _ ?_; clear h29; try clear N29
           refine vc_seq_k fun N30 h30 => ?_
           refine vc_seq_k fun N31 h31 => ?_
           refine vc_regG [39] hmix (by kernel_rfl) ?_
           try refine lg_mk ?_
           refine u_mv ?_
           refine u_un ?_
           refine lg_nil ?_
           refine h31 _ ?_; clear h31; try clear N31
           refine u_cond (fun hb32 => ?_) (fun hb32 => ?_)
           ·refine vc_seq_k fun N33 h33 => ?_
            refine vc_regG [39] hmix (by kernel_rfl) ?_
            try refine lg_mk ?_
            refine u_ld ?_
            refine u_mv ?_
            refine u_bd ?_
            refine u_st ?_
            refine u_mv ?_
            refine u_st ?_
            refine lg_nil ?_
            refine h33 _ ?_; clear h33; try clear N33
            refine vc_ret ?_
            try simp only [k_rules]
            have hf : fC S P Rm W i = 17 := by unfold fC; rw [hxd]; rw [if_neg (fun h => h ⟨hxP, hxW⟩), if_pos hir]
            have hr : fetF S P Rm W = (17, (i : Int)) := by unfold fetF fetW; rw [if_neg (by rw [hz1]; simp), if_neg (by rw [hw1]; simp), if_neg (by have := hb13; omega), firstF_at (i := i) (by rw [hf]; decide) i2 (by omega), hf]; rfl
            have hr2 : fetS S P Rm W = [] := by unfold fetS; rw [hr]; exact if_pos (by simp)
            have hr3 : fetL S P Rm W = [] := by unfold fetL; rw [hr]; exact if_pos (by simp)
            rw [hr, hr2, hr3]
            refine fin2_ ?_
            exact cl_
           ·cases hb32
          ·have hyl := hyk.ln
           have hklt := (List.getElem?_eq_some_iff.1 hye).1
           have hvi := hI.val
           have hli := hI.len
           obtain ⟨hyb1, hyb2⟩ : obOk y.ob := small_of hvr y (mem_at hye)
           have hsv := small_of hvi
           have hx := And.intro @hir hx0
           refine vc_regG [39] hmix (by kernel_rfl) ?_
           try refine lg_mk ?_
           refine u_ld ?_
           refine u_mv ?_
           have hc := call_rule (E := (E_delI.at_ 109)) (f := 34) (sp := Spec.pure findG) rfl
           have hs := @findG.eq_1
           refine u_cp (hq := by (first | (exact ⟨hvr.sort, by omega⟩) | exact sd_)) ?_
           refine u_mv ?_
           refine u_ex ?_
           refine u_ex ?_
           refine u_mv ?_
           refine u_mv ?_
           refine lg_nil ?_
           have hx := hx0
           refine h29 _ ?_; clear h29; try clear N29
           refine vc_seq_k fun N34 h34 => ?_
           refine vc_seq_k fun N35 h35 => ?_
           refine vc_regG [39] hmix (by kernel_rfl) ?_
           try refine lg_mk ?_
           refine u_mv ?_
           refine u_un ?_
           refine lg_nil ?_
           refine h35 _ ?_; clear h35; try clear N35
           refine u_cond (fun hb36 => ?_) (fun hb36 => ?_)
           ·cases hb36
           ·refine vc_skip ?_
            try simp only [k_rules]
            refine h34 _ ?_; clear h34; try clear N34
            refine vc_seq_m (σ := Unit) (fun s => (fun u => True) s)
             (fun s => (fun u => [(1, .d (.sl (rows eI P))), (3, .d (.sl (rows eI W))), (4, .ptr 0 0 0), (6, .ptr 1 0 0), (8, .ptr 2 0 0), (10, .ptr 3 0 0), (11, .ptr 4 0 0), (14, .ptr 7 0 0), (15, .sl 8 0 (fL P W i).length), (16, .d (.int .i64 (i : Nat))), (18, .d (.int .i64 (lbR (fL P W i) x : Nat))), (21, .ptr 9 0 0), (23, .ptr 10 0 0), (50, .d (.sl (rows eI W))), (51, .d (.int .i64 (W.length : Nat))), (52, .d (.int .i64 (i : Nat)))]) s)
             (fun s => (fun u => [some (.one 24 [.d (.sl (rows eO S))]), some (.one 24 [.d (.sl (rows eO Rm))]), some (.one 24 [.d .nils]), some (.one 28 [.d (.int .i64 0), .d (.int .i64 0)]), some (.one 24 [.d .nils]), some (.one 28 [.d (.int .i64 0), .d (.int .i64 0)]), some (.one 28 [.d (.int .i64 0), .d (.int .i64 0)]), some (.one 24 [.d (.sl (rows eO (fS S Rm W i)))]), some (.vec 3 1 (rows eI (fL P W i))), some (.one 24 [.d (.sl (rows eO (putS (fS S Rm W i) y.ob)))]), some (.one 28 [.d (.int .i64 (putF (fS S Rm W i) y.ob).1), .d (.int .i64 (putF (fS S Rm W i) y.ob).2)])]) s) hnp ?_ ?_
            ·rintro u hinv
             dsimp only at hinv ⊢
             rw [g1, g2]
             refine vc_seq_k fun N38 h38 => ?_
             refine vc_seq_k fun N39 h39 => ?_
             refine vc_regG [39] hmix (by kernel_rfl) ?_
             try refine lg_mk ?_
             refine u_ld ?_
             refine u_bd ?_
             refine u_bn ?_
             refine lg_nil ?_
             refine h39 _ ?_; clear h39; try clear N39
             refine u_cond (fun hb40 => ?_) (fun hb40 => ?_)
             ·refine vc_seq_k fun N41 h41 => ?_
              refine vc_regT [39] (.seq [0, 3] (.alt 1 (.alt 2 (.alt 4 (.seq [5, 6, 7] .nil) (.alt 5 (.seq [4, 6, 7] .nil) .nil)) (.alt 5 (.seq [2, 4, 6, 7] .nil) .nil)) (.alt 5 (.seq [1, 2, 4, 6, 7] .nil) .nil))) hmix (by kernel_rfl) ?_
              refine at_seq ?_
              simp only [pick_rules, list_rules]
              try refine lg_mk ?_
              refine u_ld ?_
              refine u_mv ?_
              refine lg_nil ?_
              refine at_alt ?_ ?_
              ·simp only [pick_rules, list_rules]
               try refine lg_mk ?_
               refine u_pt ?_
               refine lg_nil ?_
               refine at_alt ?_ ?_
               ·simp only [pick_rules, list_rules]
                try refine lg_mk ?_
                refine u_ld ?_
                refine lg_nil ?_
                refine at_alt ?_ ?_
                ·simp only [pick_rules, list_rules]
                 try refine lg_mk ?_
                 refine u_bd ?_
                 refine lg_nil ?_
                 refine at_seq ?_
                 simp only [pick_rules, list_rules]
                 try refine lg_mk ?_
                 refine u_st ?_
                 refine u_mv ?_
                 refine u_st ?_
                 refine lg_nil ?_
                 refine at_nil ?_
                 refine h41 _ ?_; clear h41; try clear N41
                 refine vc_ret ?_
                 try simp only [k_rules]
                 have hf : fC S P Rm W i = 14 := by unfold fC; rw [hxd]; rw [if_neg (fun h => h ⟨hxP, hxW⟩), if_neg (by rw [hir]; simp), if_pos (by omega)]
                 have hr : fetF S P Rm W = (14, (i : Int)) := by unfold fetF fetW; rw [if_neg (by rw [hz1]; simp), if_neg (by rw [hw1]; simp), if_neg (by have := hb13; omega), firstF_at (i := i) (by rw [hf]; decide) i2 (by omega), hf]; rfl
                 have hr2 : fetS S P Rm W = [] := by unfold fetS; rw [hr]; exact if_pos (by simp)
                 have hr3 : fetL S P Rm W = [] := by unfold fetL; rw [hr]; exact if_pos (by simp)
                 rw [hr, hr2, hr3]
                 refine fin2_ ?_
                 exact cl_
                refine at_alt ?_ ?_
                ·simp only [pick_rules, list_rules]
                 try refine lg_mk ?_
                 refine u_st ?_
                 refine lg_nil ?_
                 refine at_seq ?_
                 simp only [pick_rules, list_rules]
                 try refine lg_mk ?_
                 refine u_bd ?_
                 refine u_mv ?_
                 refine u_st ?_
                 refine lg_nil ?_
                 refine at_nil ?_
                 refine h41 _ ?_; clear h41; try clear N41
                 refine vc_ret ?_
                 try simp only [k_rules]
                 have hf : fC S P Rm W i = 14 := by unfold fC; rw [hxd]; rw [if_neg (fun h => h ⟨hxP, hxW⟩), if_neg (by rw [hir]; simp), if_pos (by omega)]
                 have hr : fetF S P Rm W = (14, (i : Int)) := by unfold fetF fetW; rw [if_neg (by rw [hz1]; simp), if_neg (by rw [hw1]; simp), if_neg (by have := hb13; omega), firstF_at (i := i) (by rw [hf]; decide) i2 (by omega), hf]; rfl
                 have hr2 : fetS S P Rm W = [] := by unfold fetS; rw [hr]; exact if_pos (by simp)
                 have hr3 : fetL S P Rm W = [] := by unfold fetL; rw [hr]; exact if_pos (by simp)
                 rw [hr, hr2, hr3]
                 refine fin2_ ?_
                 exact cl_
                exact at_end
               refine at_alt ?_ ?_
               ·simp only [pick_rules, list_rules]
                try refine lg_mk ?_
                refine u_st ?_
                refine lg_nil ?_
                refine at_seq ?_
                simp only [pick_rules, list_rules]
                try refine lg_mk ?_
                refine u_ld ?_
                refine u_bd ?_
                refine u_mv ?_
                refine u_st ?_
                refine lg_nil ?_
                refine at_nil ?_
                refine h41 _ ?_; clear h41; try clear N41
                refine vc_ret ?_
                try simp only [k_rules]
                have hf : fC S P Rm W i = 14 := by unfold fC; rw [hxd]; rw [if_neg (fun h => h ⟨hxP, hxW⟩), if_neg (by rw [hir]; simp), if_pos (by omega)]
                have hr : fetF S P Rm W = (14, (i : Int)) := by unfold fetF fetW; rw [if_neg (by rw [hz1]; simp), if_neg (by rw [hw1]; simp), if_neg (by have := hb13; omega), firstF_at (i := i) (by rw [hf]; decide) i2 (by omega), hf]; rfl
                have hr2 : fetS S P Rm W = [] := by unfold fetS; rw [hr]; exact if_pos (by simp)
                have hr3 : fetL S P Rm W = [] := by unfold fetL; rw [hr]; exact if_pos (by simp)
                rw [hr, hr2, hr3]
                refine fin2_ ?_
                exact cl_
               exact at_end
              refine at_alt ?_ ?_
              ·simp only [pick_rules, list_rules]
               try refine lg_mk ?_
               refine u_st ?_
               refine lg_nil ?_
               refine at_seq ?_
               simp only [pick_rules, list_rules]
               try refine lg_mk ?_
               refine u_pt ?_
               refine u_ld ?_
               refine u_bd ?_
               refine u_mv ?_
               refine u_st ?_
               refine lg_nil ?_
               refine at_nil ?_
               refine h41 _ ?_; clear h41; try clear N41
               refine vc_ret ?_
               try simp only [k_rules]
               have hf : fC S P Rm W i = 14 := by unfold fC; rw [hxd]; rw [if_neg (fun h => h ⟨hxP, hxW⟩), if_neg (by rw [hir]; simp), if_pos (by omega)]
               have hr : fetF S P Rm W = (14, (i : Int)) := by unfold fetF fetW; rw [if_neg (by rw [hz1]; simp), if_neg (by rw [hw1]; simp), if_neg (by have := hb13; omega), firstF_at (i := i) (by rw [hf]; decide) i2 (by omega), hf]; rfl
               have hr2 : fetS S P Rm W = [] := by unfold fetS; rw [hr]; exact if_pos (by simp)
               have hr3 : fetL S P Rm W = [] := by unfold fetL; rw [hr]; exact if_pos (by simp)
               rw [hr, hr2, hr3]
               refine fin2_ ?_
               exact cl_
              exact at_end
             ·simp at hb40
            ·intro N37 h37
             have hx := And.intro @hye (And.intro @eO.eq_1 hx0)
             refine vc_regT [39] (.seq [0, 1, 2, 3, 4, 5, 6] (.alt 7 (.seq [8, 9, 10, 11] (.alt 12 (.seq [13, 14, 15, 16] .nil) (.alt 13 (.seq [12, 14, 15, 16] .nil) .nil))) (.alt 12 (.alt 7 (.seq [8, 9, 10, 11, 13, 14, 15, 16] .nil) (.alt 13 (.seq [7, 8, 9, 10, 11, 14, 15, 16] .nil) .nil)) (.alt 13 (.alt 7 (.seq [8, 9, 10, 11, 12, 14, 15, 16] .nil) (.alt 12 (.seq [7, 8, 9, 10, 11, 14, 15, 16] .nil) .nil)) .nil)))) hmix (by kernel_rfl) ?_
             refine at_seq ?_
             simp only [pick_rules, list_rules]
             try refine lg_mk ?_
             refine u_ld ?_
             refine u_pt ?_
             refine u_ld ?_
             refine u_mv ?_
             refine u_pt ?_
             refine u_pt ?_
             refine u_ld ?_
             refine lg_nil ?_
             refine at_alt ?_ ?_
             ·simp only [pick_rules, list_rules]
              try refine lg_mk ?_
              have hc := call_rule (E := (E_delI.at_ 109)) (f := 39) (sp := Spec.pure putG) rfl
              have hs := @putG.eq_1
              refine u_hp (hq := by (first | (exact ⟨by omega, hsv, hyb1, hyb2⟩) | exact sd_)) ?_
              refine lg_nil ?_
              refine at_seq ?_
              simp only [pick_rules, list_rules]
              try refine lg_mk ?_
              refine u_mv ?_
              refine u_ex ?_
              refine u_ex ?_
              refine u_ex ?_
              refine lg_nil ?_
              refine at_alt ?_ ?_
              ·simp only [pick_rules, list_rules]
               try refine lg_mk ?_
               refine u_al ?_
               refine lg_nil ?_
               refine at_seq ?_
               simp only [pick_rules, list_rules]
               try refine lg_mk ?_
               refine u_al ?_
               refine u_st ?_
               refine u_mv ?_
               refine u_st ?_
               refine lg_nil ?_
               refine at_nil ?_
               have hx := hx0
               refine h37 _ ⟨(), trivial, [some 0, some 1, some 2, some 3, some 4, some 5, some 6, some 7, some 8, some 9, some 10], ?_⟩
               ·dsimp only
                refine ⟨by rfl, ?_, ?_⟩
                ·refine fin_ ?_
                 exact cl_
                ·refine fin_ ?_
                 exact cl_
              refine at_alt ?_ ?_
              ·simp only [pick_rules, list_rules]
               try refine lg_mk ?_
               refine u_al ?_
               refine lg_nil ?_
               refine at_seq ?_
               simp only [pick_rules, list_rules]
               try refine lg_mk ?_
               refine u_al ?_
               refine u_st ?_
               refine u_mv ?_
               refine u_st ?_
               refine lg_nil ?_
               refine at_nil ?_
               have hx := hx0
               refine h37 _ ⟨(), trivial, [some 0, some 1, some 2, some 3, some 4, some 5, some 6, some 7, some 8, some 10, some 9], ?_⟩
               ·dsimp only
                refine ⟨by rfl, ?_, ?_⟩
                ·refine fin_ ?_
                 exact cl_
                ·refine fin_ ?_
                 exact cl_
              exact at_end
             refine at_alt ?_ ?_
             ·simp only [pick_rules, list_rules]
              try refine lg_mk ?_
              refine u_al ?_
              refine lg_nil ?_
              refine at_alt ?_ ?_
              ·simp only [pick_rules, list_rules]
               try refine lg_mk ?_
               have hc := call_rule (E := (E_delI.at_ 109)) (f := 39) (sp := Spec.pure putG) rfl
               have hs := @putG.eq_1
               refine u_hp (hq := by (first | (exact ⟨by omega, hsv, hyb1, hyb2⟩) | exact sd_)) ?_
               refine lg_nil ?_
               refine at_seq ?_
               simp only [pick_rules, list_rules]
               try refine lg_mk ?_
               refine u_mv ?_
               refine u_ex ?_
               refine u_ex ?_
               refine u_ex ?_
               refine u_al ?_
               refine u_st ?_
               refine u_mv ?_
               refine u_st ?_
               refine lg_nil ?_
               refine at_nil ?_
               have hx := hx0
               refine h37 _ ⟨(), trivial, [some 0, some 1, some 2, some 3, some 4, some 5, some 6, some 7, some 8, some 9, some 10], ?_⟩
               ·dsimp only
                refine ⟨by rfl, ?_, ?_⟩
                ·refine fin_ ?_
                 exact cl_
                ·refine fin_ ?_
                 exact cl_
              refine at_alt ?_ ?_
              ·simp only [pick_rules, list_rules]
               try refine lg_mk ?_
               refine u_al ?_
               refine lg_nil ?_
               refine at_seq ?_
               simp only [pick_rules, list_rules]
               try refine lg_mk ?_
               have hc := call_rule (E := (E_delI.at_ 109)) (f := 39) (sp := Spec.pure putG) rfl
               have hs := @putG.eq_1
               refine u_hp (hq := by (first | (exact ⟨by omega, hsv, hyb1, hyb2⟩) | exact sd_)) ?_
               refine u_mv ?_
               refine u_ex ?_
               refine u_ex ?_
               refine u_ex ?_
               refine u_st ?_
               refine u_mv ?_
               refine u_st ?_
               refine lg_nil ?_
               refine at_nil ?_
               have hx := hx0
               refine h37 _ ⟨(), trivial, [some 0, some 1, some 2, some 3, some 4, some 5, some 6, some 7, some 8, some 9, some 10], ?_⟩
               ·dsimp only
                refine ⟨by rfl, ?_, ?_⟩
                ·refine fin_ ?_
                 exact cl_
                ·refine fin_ ?_
                 exact cl_
              exact at_end
             refine at_alt ?_ ?_
             ·simp only [pick_rules, list_rules]
              try refine lg_mk ?_
              refine u_al ?_
              refine lg_nil ?_
              refine at_alt ?_ ?_
              ·simp only [pick_rules, list_rules]
               try refine lg_mk ?_
               have hc := call_rule (E := (E_delI.at_ 109)) (f := 39) (sp := Spec.pure putG) rfl
               have hs := @putG.eq_1
               refine u_hp (hq := by (first | (exact ⟨by omega, hsv, hyb1, hyb2⟩) | exact sd_)) ?_
               refine lg_nil ?_
               refine at_seq ?_
               simp only [pick_rules, list_rules]
               try refine lg_mk ?_
               refine u_mv ?_
               refine u_ex ?_
               refine u_ex ?_
               refine u_ex ?_
               refine u_al ?_
               refine u_st ?_
               refine u_mv ?_
               refine u_st ?_
               refine lg_nil ?_
               refine at_nil ?_
               have hx := hx0
               refine h37 _ ⟨(), trivial, [some 0, some 1, some 2, some 3, some 4, some 5, some 6, some 7, some 8, some 10, some 9], ?_⟩
               ·dsimp only
                refine ⟨by rfl, ?_, ?_⟩
                ·refine fin_ ?_
                 exact cl_
                ·refine fin_ ?_
                 exact cl_
              refine at_alt ?_ ?_
              ·simp only [pick_rules, list_rules]
               try refine lg_mk ?_
               refine u_al ?_
               refine lg_nil ?_
               refine at_seq ?_
               simp only [pick_rules, list_rules]
               try refine lg_mk ?_
               have hc := call_rule (E := (E_delI.at_ 109)) (f := 39) (sp := Spec.pure putG) rfl
               have hs := @putG.eq_1
               refine u_hp (hq := by (first | (exact ⟨by omega, hsv, hyb1, hyb2⟩) | exact sd_)) ?_
               refine u_mv ?_
               refine u_ex ?_
               refine u_ex ?_
               refine u_ex ?_
               refine u_st ?_
               refine u_mv ?_
               refine u_st ?_
               refine lg_nil ?_
               refine at_nil ?_
               have hx := hx0
               refine h37 _ ⟨(), trivial, [some 0, some 1, some 2, some 3, some 4, some 5, some 6, some 7, some 8, some 10, some 9], ?_⟩
               ·dsimp only
                refine ⟨by rfl, ?_, ?_⟩
                ·refine fin_ ?_
                 exact cl_
                ·refine fin_ ?_
                 exact cl_
              exact at_end
             exact at_end
          ·have hyl := hyk.ln
           have hklt := (List.getElem?_eq_some_iff.1 hye).1
           have hvi := hI.val
           have hli := hI.len
           obtain ⟨hyb1, hyb2⟩ : obOk y.ob := small_of hvr y (mem_at hye)
           have hsv := small_of hvi
           have hx := And.intro @hir hx0
           refine vc_regG [39] hmix (by kernel_rfl) ?_
           try refine lg_mk ?_
           refine u_ld ?_
           refine u_mv ?_
           have hc := call_rule (E := (E_delI.at_ 109)) (f := 34) (sp := Spec.pure findG) rfl
           have hs := @findG.eq_1
           refine u_cp (hq := by (first | (exact ⟨hvr.sort, by omega⟩) | exact sd_)) ?_
           refine u_mv ?_
           refine u_ex ?_
           refine u_ex ?_
           refine u_mv ?_
           refine u_mv ?_
           refine lg_nil ?_
           have hx := hx0
           refine h29 _ ?_; clear h29; try clear N29
           refine vc_seq_k fun N42 h42 => ?_
           refine vc_seq_k fun N43 h43 => ?_
           refine vc_regG [39] hmix (by kernel_rfl) ?_
           try refine lg_mk ?_
           refine u_mv ?_
           refine u_un ?_
           refine lg_nil ?_
           refine h43 _ ?_; clear h43; try clear N43
           refine u_cond (fun hb44 => ?_) (fun hb44 => ?_)
           ·cases hb44
           ·refine vc_skip ?_
            try simp only [k_rules]
            refine h42 _ ?_; clear h42; try clear N42
            refine vc_seq_m (σ := Unit) (fun s => (fun u => True) s)
             (fun s => (fun u => [(1, .d (.sl (rows eI P))), (3, .d (.sl (rows eI W))), (4, .ptr 0 0 0), (6, .ptr 1 0 0), (8, .ptr 2 0 0), (10, .ptr 3 0 0), (11, .ptr 4 0 0), (14, .ptr 7 0 0), (15, .sl 8 0 (fL P W i).length), (16, .d (.int .i64 (i : Nat))), (18, .d (.int .i64 (lbR (fL P W i) x : Nat))), (21, .ptr 9 0 0), (23, .ptr 10 0 0), (50, .d (.sl (rows eI W))), (51, .d (.int .i64 (W.length : Nat))), (52, .d (.int .i64 (i : Nat)))]) s)
             (fun s => (fun u => [some (.one 24 [.d (.sl (rows eO S))]), some (.one 24 [.d (.sl (rows eO Rm))]), some (.one 24 [.d .nils]), some (.one 28 [.d (.int .i64 0), .d (.int .i64 0)]), some (.one 24 [.d .nils]), some (.one 28 [.d (.int .i64 0), .d (.int .i64 0)]), some (.one 28 [.d (.int .i64 0), .d (.int .i64 0)]), some (.one 24 [.d (.sl (rows eO (fS S Rm W i)))]), some (.vec 3 1 (rows eI (fL P W i))), some (.one 24 [.d (.sl (rows eO (putS (fS S Rm W i) y.ob)))]), some (.one 28 [.d (.int .i64 (putF (fS S Rm W i) y.ob).1), .d (.int .i64 (putF (fS S Rm W i) y.ob).2)])]) s) hnp ?_ ?_
            ·rintro u hinv
             dsimp only at hinv ⊢
             rw [g1, g2]
             refine vc_seq_k fun N46 h46 => ?_
             refine vc_seq_k fun N47 h47 => ?_
             refine vc_regG [39] hmix (by kernel_rfl) ?_
             try refine lg_mk ?_
             refine u_ld ?_
             refine u_bd ?_
             refine u_bn ?_
             refine lg_nil ?_
             refine h47 _ ?_; clear h47; try clear N47
             refine u_cond (fun hb48 => ?_) (fun hb48 => ?_)
             ·simp at hb48
             ·refine vc_skip ?_
              try simp only [k_rules]
              refine h46 _ ?_; clear h46; try clear N46
              refine vc_regT [39] (.seq [1, 2, 3, 4] (.alt 0 (.seq [5, 6, 7] .nil) (.alt 5 (.seq [0, 6, 7] .nil) .nil))) hmix (by kernel_rfl) ?_
              refine at_seq ?_
              simp only [pick_rules, list_rules]
              try refine lg_mk ?_
              refine u_mv ?_
              refine u_mv ?_
              refine u_mv ?_
              refine u_bn ?_
              refine lg_nil ?_
              refine at_alt ?_ ?_
              ·simp only [pick_rules, list_rules]
               try refine lg_mk ?_
               refine u_ld ?_
               refine lg_nil ?_
               refine at_seq ?_
               simp only [pick_rules, list_rules]
               try refine lg_mk ?_
               have hc := call_rule (E := (E_delI.at_ 109)) (f := 40) (sp := Spec.gen (deleteG 3)) rfl
               have hs := @deleteG.eq_1
               refine u_hg (hq := by (first | ((repeat' apply And.intro) <;> first | rfl | trivial | omega | exact of_eq_true (rect_eI _)) | exact sd_)) ?_
               refine u_st ?_
               refine u_mv ?_
               refine lg_nil ?_
               refine at_nil ?_
               refine h22 _ ?_; clear h22; try clear N22
               refine vc_regG [39] hmix (by kernel_rfl) ?_
               try refine lg_mk ?_
               refine u_bn ?_
               refine u_mv ?_
               refine lg_nil ?_
               refine h18 _ ⟨i + 1, ?_, ?_, [some 0, some 1, some 2, some 3, some 4, some 5, some 6, some 7, some 8], ?_⟩
               ·dsimp only
                exact ⟨⟨by omega, lt_succF i2 (hfz.2 ⟨⟨hxP, hxW⟩, hir, by omega⟩)⟩, hgo⟩
               ·dsimp only
                omega
               ·dsimp only
                refine ⟨by rfl, ?_, ?_⟩
                ·refine fin_ ?_
                 (repeat' apply And.intro) <;> (first | (first | rfl | trivial | omega | (rw [← hdl2]; simp [rows, List.map_take, List.map_drop]; done) | (rw [← hdl2, List.length_append, List.length_take, List.length_drop]; omega)) | exact cl_)
                ·refine fin_ ?_
                 (repeat' apply And.intro) <;> (first | (first | rfl | trivial | omega | (rw [← hdl2]; simp [rows, List.map_take, List.map_drop]; done) | (rw [← hdl2, List.length_append, List.length_take, List.length_drop]; omega)) | exact cl_)
              refine at_alt ?_ ?_
              ·simp only [pick_rules, list_rules]
               try refine lg_mk ?_
               have hc := call_rule (E := (E_delI.at_ 109)) (f := 40) (sp := Spec.gen (deleteG 3)) rfl
               have hs := @deleteG.eq_1
               refine u_hg (hq := by (first | ((repeat' apply And.intro) <;> first | rfl | trivial | omega | exact of_eq_true (rect_eI _)) | exact sd_)) ?_
               refine lg_nil ?_
               refine at_seq ?_
               simp only [pick_rules, list_rules]
               try refine lg_mk ?_
               refine u_ld ?_
               refine u_st ?_
               refine u_mv ?_
               refine lg_nil ?_
               refine at_nil ?_
               refine h22 _ ?_; clear h22; try clear N22
               refine vc_regG [39] hmix (by kernel_rfl) ?_
               try refine lg_mk ?_
               refine u_bn ?_
               refine u_mv ?_
               refine lg_nil ?_
               refine h18 _ ⟨i + 1, ?_, ?_, [some 0, some 1, some 2, some 3, some 4, some 5, some 6, some 7, some 8], ?_⟩
               ·dsimp only
                exact ⟨⟨by omega, lt_succF i2 (hfz.2 ⟨⟨hxP, hxW⟩, hir, by omega⟩)⟩, hgo⟩
               ·dsimp only
                omega
               ·dsimp only
                refine ⟨by rfl, ?_, ?_⟩
                ·refine fin_ ?_
                 (repeat' apply And.intro) <;> (first | (first | rfl | trivial | omega | (rw [← hdl2]; simp [rows, List.map_take, List.map_drop]; done) | (rw [← hdl2, List.length_append, List.length_take, List.length_drop]; omega)) | exact cl_)
                ·refine fin_ ?_
                 (repeat' apply And.intro) <;> (first | (first | rfl | trivial | omega | (rw [← hdl2]; simp [rows, List.map_take, List.map_drop]; done) | (rw [← hdl2, List.length_append, List.length_take, List.length_drop]; omega)) | exact cl_)
              exact at_end
            ·intro N45 h45
             have hx := And.intro @hye (And.intro @eO.eq_1 hx0)
             refine vc_regT [39] (.seq [0, 1, 2, 3, 4, 5, 6] (.alt 7 (.seq [8, 9, 10, 11] (.alt 12 (.seq [13, 14, 15, 16] .nil) (.alt 13 (.seq [12, 14, 15, 16] .nil) .nil))) (.alt 12 (.alt 7 (.seq [8, 9, 10, 11, 13, 14, 15, 16] .nil) (.alt 13 (.seq [7, 8, 9, 10, 11, 14, 15, 16] .nil) .nil)) (.alt 13 (.alt 7 (.seq [8, 9, 10, 11, 12, 14, 15, 16] .nil) (.alt 12 (.seq [7, 8, 9, 10, 11, 14, 15, 16] .nil) .nil)) .nil)))) hmix (by kernel_rfl) ?_
             refine at_seq ?_
             simp only [pick_rules, list_rules]
             try refine lg_mk ?_
             refine u_ld ?_
             refine u_pt ?_
             refine u_ld ?_
             refine u_mv ?_
             refine u_pt ?_
             refine u_pt ?_
             refine u_ld ?_
             refine lg_nil ?_
             refine at_alt ?_ ?_
             ·simp only [pick_rules, list_rules]
              try refine lg_mk ?_
              have hc := call_rule (E := (E_delI.at_ 109)) (f := 39) (sp := Spec.pure putG) rfl
              have hs := @putG.eq_1
              refine u_hp (hq := by (first | (exact ⟨by omega, hsv, hyb1, hyb2⟩) | exact sd_)) ?_
              refine lg_nil ?_
              refine at_seq ?_
              simp only [pick_rules, list_rules]
              try refine lg_mk ?_
              refine u_mv ?_
              refine u_ex ?_
              refine u_ex ?_
              refine u_ex ?_
              refine lg_nil ?_
              refine at_alt ?_ ?_
              ·simp only [pick_rules, list_rules]
               try refine lg_mk ?_
               refine u_al ?_
               refine lg_nil ?_
               refine at_seq ?_
               simp only [pick_rules, list_rules]
               try refine lg_mk ?_
               refine u_al ?_
               refine u_st ?_
               refine u_mv ?_
               refine u_st ?_
               refine lg_nil ?_
               refine at_nil ?_
               have hx := hx0
               refine h45 _ ⟨(), trivial, [some 0, some 1, some 2, some 3, some 4, some 5, some 6, some 7, some 8, some 9, some 10], ?_⟩
               ·dsimp only
                refine ⟨by rfl, ?_, ?_⟩
                ·refine fin_ ?_
                 exact cl_
                ·refine fin_ ?_
                 exact cl_
              refine at_alt ?_ ?_
              ·simp only [pick_rules, list_rules]
               try refine lg_mk ?_
               refine u_al ?_
               refine lg_nil ?_
               refine at_seq ?_
               simp only [pick_rules, list_rules]
               try refine lg_mk ?_
               refine u_al ?_
               refine u_st ?_
               refine u_mv ?_
               refine u_st ?_
               refine lg_nil ?_
               refine at_nil ?_
               have hx := hx0
               refine h45 _ ⟨(), trivial, [some 0, some 1, some 2, some 3, some 4, some 5, some 6, some 7, some 8, some 10, some 9], ?_⟩
               ·dsimp only
                refine ⟨by rfl, ?_, ?_⟩
                ·refine fin_ ?_
                 exact cl_
                ·refine fin_ ?_
                 exact cl_
              exact at_end
             refine at_alt ?_ ?_
             ·simp only [pick_rules, list_rules]
              try refine lg_mk ?_
              refine u_al ?_
              refine lg_nil ?_
              refine at_alt ?_ ?_
              ·simp only [pick_rules, list_rules]
               try refine lg_mk ?_
               have hc := call_rule (E := (E_delI.at_ 109)) (f := 39) (sp := Spec.pure putG) rfl
               have hs := @putG.eq_1
               refine u_hp (hq := by (first | (exact ⟨by omega, hsv, hyb1, hyb2⟩) | exact sd_)) ?_
               refine lg_nil ?_
               refine at_seq ?_
               simp only [pick_rules, list_rules]
               try refine lg_mk ?_
               refine u_mv ?_
               refine u_ex ?_
               refine u_ex ?_
               refine u_ex ?_
               refine u_al ?_
               refine u_st ?_
               refine u_mv ?_
               refine u_st ?_
               refine lg_nil ?_
               refine at_nil ?_
               have hx := hx0
               refine h45 _ ⟨(), trivial, [some 0, some 1, some 2, some 3, some 4, some 5, some 6, some 7, some 8, some 9, some 10], ?_⟩
               ·dsimp only
                refine ⟨by rfl, ?_, ?_⟩
                ·refine fin_ ?_
                 exact cl_
                ·refine fin_ ?_
                 exact cl_
              refine at_alt ?_ ?_
              ·simp only [pick_rules, list_rules]
               try refine lg_mk ?_
               refine u_al ?_
               refine lg_nil ?_
               refine at_seq ?_
               simp only [pick_rules, list_rules]
               try refine lg_mk ?_
               have hc := call_rule (E := (E_delI.at_ 109)) (f := 39) (sp := Spec.pure putG) rfl
               have hs := @putG.eq_1
               refine u_hp (hq := by (first | (exact ⟨by omega, hsv, hyb1, hyb2⟩) | exact sd_)) ?_
               refine u_mv ?_
               refine u_ex ?_
               refine u_ex ?_
               refine u_ex ?_
               refine u_st ?_
               refine u_mv ?_
               refine u_st ?_
               refine lg_nil ?_
               refine at_nil ?_
               have hx := hx0
               refine h45 _ ⟨(), trivial, [some 0, some 1, some 2, some 3, some 4, some 5, some 6, some 7, some 8, some 9, some 10], ?_⟩
               ·dsimp only
                refine ⟨by rfl, ?_, ?_⟩
                ·refine fin_ ?_
                 exact cl_
                ·refine fin_ ?_
                 exact cl_
              exact at_end
             refine at_alt ?_ ?_
             ·simp only [pick_rules, list_rules]
              try refine lg_mk ?_
              refine u_al ?_
              refine lg_nil ?_
              refine at_alt ?_ ?_
              ·simp only [pick_rules, list_rules]
               try refine lg_mk ?_
               have hc := call_rule (E := (E_delI.at_ 109)) (f := 39) (sp := Spec.pure putG) rfl
               have hs := @putG.eq_1
               refine u_hp (hq := by (first | (exact ⟨by omega, hsv, hyb1, hyb2⟩) | exact sd_)) ?_
               refine lg_nil ?_
               refine at_seq ?_
               simp only [pick_rules, list_rules]
               try refine lg_mk ?_
               refine u_mv ?_
               refine u_ex ?_
               refine u_ex ?_
               refine u_ex ?_
               refine u_al ?_
               refine u_st ?_
               refine u_mv ?_
               refine u_st ?_
               refine lg_nil ?_
               refine at_nil ?_
               have hx := hx0
               refine h45 _ ⟨(), trivial, [some 0, some 1, some 2, some 3, some 4, some 5, some 6, some 7, some 8, some 10, some 9], ?_⟩
               ·dsimp only
                refine ⟨by rfl, ?_, ?_⟩
                ·refine fin_ ?_
                 exact cl_
                ·refine fin_ ?_
                 exact cl_
              refine at_alt ?_ ?_
              ·simp only [pick_rules, list_rules]
               try refine lg_mk ?_
               refine u_al ?_
               refine lg_nil ?_
               refine at_seq ?_
               simp only [pick_rules, list_rules]
               try refine lg_mk ?_
               have hc := call_rule (E := (E_delI.at_ 109)) (f := 39) (sp := Spec.pure putG) rfl
               have hs := @putG.eq_1
               refine u_hp (hq := by (first | (exact ⟨by omega, hsv, hyb1, hyb2⟩) | exact sd_)) ?_
               refine u_mv ?_
               refine u_ex ?_
               refine u_ex ?_
               refine u_ex ?_
               refine u_st ?_
               refine u_mv ?_
               refine u_st ?_
               refine lg_nil ?_
               refine at_nil ?_
               have hx := hx0
               refine h45 _ ⟨(), trivial, [some 0, some 1, some 2, some 3, some 4, some 5, some 6, some 7, some 8, some 10, some 9], ?_⟩
               ·dsimp only
                refine ⟨by rfl, ?_, ?_⟩
                ·refine fin_ ?_
                 exact cl_
                ·refine fin_ ?_
                 exact cl_
              exact at_end
             exact at_end
        ·refine vc_exit ?_
         simp only [k_rules, Nat.reduceEqDiff, reduceIte, eq_self]
         refine h16 _ ?_; clear h16; try clear N16
         refine vc_seq_k fun N49 h49 => ?_
         refine vc_regG [39] hmix (by kernel_rfl) ?_
         try refine lg_mk ?_
         refine u_ld ?_
         refine u_mv ?_
         refine u_bd ?_
         refine u_st ?_
         refine u_mv ?_
         refine u_st ?_
         refine lg_nil ?_
         refine h49 _ ?_; clear h49; try clear N49
         refine vc_ret ?_
         try simp only [k_rules]
         obtain rfl : i = W.length := by omega
         have hr : fetF S P Rm W = (0, 0) := by unfold fetF fetW; rw [if_neg (by rw [hz1]; simp), if_neg (by rw [hw1]; simp), if_neg (by have := hb13; omega), firstF_none (fun j hj => i2 j (by omega))]
         have hr2 : fetS S P Rm W = fS S Rm W W.length := by unfold fetS; rw [hr]; rfl
         have hr3 : fetL S P Rm W = fL P W W.length := by unfold fetL; rw [hr]; rfl
         rw [hr, hr2, hr3]
         refine fin2_ ?_
         (repeat' apply And.intro) <;> (first | (first | rfl | trivial | omega | exact Or.inl rfl | (rw [takeI_len]; done) | (simp; done)) | exact cl_)
    ·have hw1 := hwx
     refine vc_regG [39] hmix (by kernel_rfl) ?_
     try refine lg_mk ?_
     refine u_ld ?_
     refine u_bd ?_
     refine u_bn ?_
     refine lg_nil ?_
     refine h9 _ ?_; clear h9; try clear N9
     refine u_cond (fun hb50 => ?_) (fun hb50 => ?_)
     ·refine vc_seq_k fun N51 h51 => ?_
      refine vc_regT [39] (.seq [0] (.alt 1 (.alt 2 (.alt 3 (.seq [4, 5, 6] .nil) (.alt 4 (.seq [3, 5, 6] .nil) .nil)) (.alt 4 (.seq [2, 3, 5, 6] .nil) .nil)) (.alt 4 (.seq [1, 2, 3, 5, 6] .nil) .nil))) hmix (by kernel_rfl) ?_
      refine at_seq ?_
      simp only [pick_rules, list_rules]
      try refine lg_mk ?_
      refine u_ld ?_
      refine lg_nil ?_
      refine at_alt ?_ ?_
      ·simp only [pick_rules, list_rules]
       try refine lg_mk ?_
       refine u_pt ?_
       refine lg_nil ?_
       refine at_alt ?_ ?_
       ·simp only [pick_rules, list_rules]
        try refine lg_mk ?_
        refine u_ld ?_
        refine lg_nil ?_
        refine at_alt ?_ ?_
        ·simp only [pick_rules, list_rules]
         try refine lg_mk ?_
         refine u_bd ?_
         refine lg_nil ?_
         refine at_seq ?_
         simp only [pick_rules, list_rules]
         try refine lg_mk ?_
         refine u_st ?_
         refine u_mv ?_
         refine u_st ?_
         refine lg_nil ?_
         refine at_nil ?_
         refine h51 _ ?_; clear h51; try clear N51
         refine vc_ret ?_
         try simp only [k_rules]
         have hr : fetF S P Rm W = ((stF Rm).1, -1) := by unfold fetF; rw [if_neg (by rw [hz1]; simp), if_pos hw1]
         have hr2 : fetS S P Rm W = [] := by unfold fetS; rw [hr]; exact if_pos hw1
         have hr3 : fetL S P Rm W = [] := by unfold fetL; rw [hr]; exact if_pos hw1
         rw [hr, hr2, hr3]
         refine fin2_ ?_
         exact cl_
        refine at_alt ?_ ?_
        ·simp only [pick_rules, list_rules]
         try refine lg_mk ?_
         refine u_st ?_
         refine lg_nil ?_
         refine at_seq ?_
         simp only [pick_rules, list_rules]
         try refine lg_mk ?_
         refine u_bd ?_
         refine u_mv ?_
         refine u_st ?_
         refine lg_nil ?_
         refine at_nil ?_
         refine h51 _ ?_; clear h51; try clear N51
         refine vc_ret ?_
         try simp only [k_rules]
         have hr : fetF S P Rm W = ((stF Rm).1, -1) := by unfold fetF; rw [if_neg (by rw [hz1]; simp), if_pos hw1]
         have hr2 : fetS S P Rm W = [] := by unfold fetS; rw [hr]; exact if_pos hw1
         have hr3 : fetL S P Rm W = [] := by unfold fetL; rw [hr]; exact if_pos hw1
         rw [hr, hr2, hr3]
         refine fin2_ ?_
         exact cl_
        exact at_end
       refine at_alt ?_ ?_
       ·simp only [pick_rules, list_rules]
        try refine lg_mk ?_
        refine u_st ?_
        refine lg_nil ?_
        refine at_seq ?_
        simp only [pick_rules, list_rules]
        try refine lg_mk ?_
        refine u_ld ?_
        refine u_bd ?_
        refine u_mv ?_
        refine u_st ?_
        refine lg_nil ?_
        refine at_nil ?_
        refine h51 _ ?_; clear h51; try clear N51
        refine vc_ret ?_
        try simp only [k_rules]
        have hr : fetF S P Rm W = ((stF Rm).1, -1) := by unfold fetF; rw [if_neg (by rw [hz1]; simp), if_pos hw1]
        have hr2 : fetS S P Rm W = [] := by unfold fetS; rw [hr]; exact if_pos hw1
        have hr3 : fetL S P Rm W = [] := by unfold fetL; rw [hr]; exact if_pos hw1
        rw [hr, hr2, hr3]
        refine fin2_ ?_
        exact cl_
       exact at_end
      refine at_alt ?_ ?_
      ·simp only [pick_rules, list_rules]
       try refine lg_mk ?_
       refine u_st ?_
       refine lg_nil ?_
       refine at_seq ?_
       simp only [pick_rules, list_rules]
       try refine lg_mk ?_
       refine u_pt ?_
       refine u_ld ?_
       refine u_bd ?_
       refine u_mv ?_
       refine u_st ?_
       refine lg_nil ?_
       refine at_nil ?_
       refine h51 _ ?_; clear h51; try clear N51
       refine vc_ret ?_
       try simp only [k_rules]
       have hr : fetF S P Rm W = ((stF Rm).1, -1) := by unfold fetF; rw [if_neg (by rw [hz1]; simp), if_pos hw1]
       have hr2 : fetS S P Rm W = [] := by unfold fetS; rw [hr]; exact if_pos hw1
       have hr3 : fetL S P Rm W = [] := by unfold fetL; rw [hr]; exact if_pos hw1
       rw [hr, hr2, hr3]
       refine fin2_ ?_
       exact cl_
      exact at_end
     ·exact absurd (show (stF Rm).1 = 0 by have := hb50; first | exact this.1 | exact (Classical.not_not.1 this).1 | (simp at this; exact this.1)) hw1
  ·have hz1 := hvx
   refine vc_regG [39] hmix (by kernel_rfl) ?_
   try refine lg_mk ?_
   refine u_ld ?_
   refine u_bd ?_
   refine u_bn ?_
   refine lg_nil ?_
   refine h5 _ ?_; clear h5; try clear N5
   refine u_cond (fun hb52 => ?_) (fun hb52 => ?_)
   ·refine vc_seq_k fun N53 h53 => ?_
    refine vc_regT [39] (.seq [0] (.alt 1 (.seq [2, 3, 4] .nil) (.alt 2 (.seq [1, 3, 4] .nil) .nil))) hmix (by kernel_rfl) ?_
    refine at_seq ?_
    simp only [pick_rules, list_rules]
    try refine lg_mk ?_
    refine u_ld ?_
    refine lg_nil ?_
    refine at_alt ?_ ?_
    ·simp only [pick_rules, list_rules]
     try refine lg_mk ?_
     refine u_ld ?_
     refine lg_nil ?_
     refine at_seq ?_
     simp only [pick_rules, list_rules]
     try refine lg_mk ?_
     refine u_st ?_
     refine u_mv ?_
     refine u_st ?_
     refine lg_nil ?_
     refine at_nil ?_
     refine h53 _ ?_; clear h53; try clear N53
     refine vc_ret ?_
     try simp only [k_rules]
     have hr : fetF S P Rm W = proF S P := by unfold fetF; rw [if_pos hz1]
     have hr2 : fetS S P Rm W = [] := by unfold fetS; rw [hr]; exact if_pos hz1
     have hr3 : fetL S P Rm W = [] := by unfold fetL; rw [hr]; exact if_pos hz1
     rw [hr, hr2, hr3]
     refine fin2_ ?_
     exact cl_
    refine at_alt ?_ ?_
    ·simp only [pick_rules, list_rules]
     try refine lg_mk ?_
     refine u_st ?_
     refine lg_nil ?_
     refine at_seq ?_
     simp only [pick_rules, list_rules]
     try refine lg_mk ?_
     refine u_ld ?_
     refine u_mv ?_
     refine u_st ?_
     refine lg_nil ?_
     refine at_nil ?_
     refine h53 _ ?_; clear h53; try clear N53
     refine vc_ret ?_
     try simp only [k_rules]
     have hr : fetF S P Rm W = proF S P := by unfold fetF; rw [if_pos hz1]
     have hr2 : fetS S P Rm W = [] := by unfold fetS; rw [hr]; exact if_pos hz1
     have hr3 : fetL S P Rm W = [] := by unfold fetL; rw [hr]; exact if_pos hz1
     rw [hr, hr2, hr3]
     refine fin2_ ?_
     exact cl_
    exact at_end
   ·exact absurd (show (proF S P).1 = 0 by have := hb52; first | exact this.1 | exact (Classical.not_not.1 this).1 | (simp at this; exact this.1)) hz1
 ·cases hg

def E_fetch : Env Try.prog := E_delI.add 21 (Spec.pure fetG) fetch_meets (by kernel_rfl)
end Go.Proofs.Ytgnahopdiljikaa
