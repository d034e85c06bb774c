/- Walks, printed by wip/gen/walk.py. -/
import Derived.Test.YtmbjnkgpcbpclaaGreatT99
import Derived.Test.YtmbjnkgpcbpclaaGreatV5
set_option linter.all false
set_option maxRecDepth 100000
set_option maxHeartbeats 4000000
namespace Go.Proofs.YtmbjnkgpcbpclaaGreat
open Go Go.Vc Go.RowKit
def nBin (ops : List Int) : Nat := (ops.filter fun k => decide (k = 2 ∨ k = 3)).length
def opOk (k : Int) : Prop := k = 0 ∨ k = 4 ∨ k = 2 ∨ k = 3
structure okMs (i : Nat) (m : Ms) (b : Bool) : Prop where
  cnt : m.ns.length + m.ops.length ≤ i
  rts : m.rs.length = nBin m.ops + (if b = true then 0 else 1)
  ops : ∀ k ∈ m.ops, opOk k
theorem nBin_snoc (l : List Int) (k : Int) : nBin (l ++ [k]) = nBin l + if k = 2 ∨ k = 3 then 1 else 0 := by
  unfold nBin
  rw [List.filter_append, List.length_append]
  congr 1
  by_cases h : k = 2 ∨ k = 3
  · rw [if_pos h, List.filter_cons_of_pos (by simpa using h)]; rfl
  · rw [if_neg h, List.filter_cons_of_neg (by simpa using h)]; rfl
theorem nBin_le (l : List Int) : nBin l ≤ l.length := List.length_filter_le _ _
theorem okMs.le {i j : Nat} {m : Ms} {b : Bool} (h : okMs i m b) (hij : i ≤ j) : okMs j m b := ⟨Nat.le_trans h.cnt hij, h.rts, h.ops⟩
theorem ops_snoc {l : List Int} {k : Int} (h : ∀ k ∈ l, opOk k) (hk : opOk k) : ∀ x ∈ l ++ [k], opOk x := fun x hx => by
  rcases List.mem_append.1 hx with h1 | h1
  · exact h x h1
  · rw [List.mem_singleton.1 h1]; exact hk
theorem okMs.push {i j : Nat} {m : Ms} {k : Int} (h : okMs i m true) (hk : opOk k) (h2 : ¬(k = 2 ∨ k = 3)) (hij : i + 1 ≤ j) : okMs j (pshS m k) true := by
  refine ⟨?_, ?_, ops_snoc h.ops hk⟩
  · have := h.cnt; show m.ns.length + (m.ops ++ [k]).length ≤ j; rw [List.length_append, List.length_singleton]; omega
  · have := h.rts; show m.rs.length = nBin (m.ops ++ [k]) + _; rw [nBin_snoc, if_neg h2]; omega
theorem okMs.pushb {i j : Nat} {m : Ms} {k : Int} (h : okMs i m false) (h2 : k = 2 ∨ k = 3) (hij : i + 1 ≤ j) : okMs j (pshS m k) true := by
  refine ⟨?_, ?_, ops_snoc h.ops (.inr (.inr h2))⟩
  · have := h.cnt; show m.ns.length + (m.ops ++ [k]).length ≤ j; rw [List.length_append, List.length_singleton]; omega
  · have := h.rts; show m.rs.length = nBin (m.ops ++ [k]) + _; rw [nBin_snoc, if_pos h2, if_pos rfl]; simpa using this
def leafS (m : Ms) (n : Sn) : Ms := ⟨m.ns ++ [n], m.rs ++ [(m.ns.length : Int)], m.ops⟩
theorem okMs.leaf {i j : Nat} {m : Ms} {n : Sn} (h : okMs i m true) (hij : i + 1 ≤ j) : okMs j (leafS m n) false := by
  refine ⟨?_, ?_, h.ops⟩
  · have := h.cnt; show (m.ns ++ [n]).length + m.ops.length ≤ j; rw [List.length_append, List.length_singleton]; omega
  · have := h.rts; show (m.rs ++ [_]).length = nBin m.ops + _; rw [List.length_append, List.length_singleton]; simp at this ⊢; omega
theorem sar_op {k : Int} (h : opOk k) (hl : 0 ≤ sbi k) : 1 ≤ sar k ∧ sar k = 1 + (if k = 2 ∨ k = 3 then 1 else 0) ∧ -100 ≤ k ∧ k ≤ 100 := by
  rcases h with rfl | rfl | rfl | rfl
  · exact absurd hl (by decide)
  · decide
  · decide
  · decide
theorem okMs.red {i : Nat} {m : Ms} {l : List Int} {k : Int} (h : okMs i m false) (hi : i ≤ 100000) (hl : m.ops = l ++ [k]) (hk : 0 ≤ sbi k) : rdOk m ∧ okMs i (rdM m) false := by
  obtain ⟨ns, rs, ops⟩ := m
  subst hl
  have h1 := h.cnt
  have h2 := h.rts
  have h3 := h.ops k (by simp)
  obtain ⟨a1, a2, a3, a4⟩ := sar_op h3 hk
  dsimp only at h1 h2
  have ebf : (if false = true then 0 else 1) = 1 := rfl
  rw [nBin_snoc, ebf] at h2
  have hnb := nBin_le l
  have hll : (l ++ [k]).length = l.length + 1 := by simp
  refine ⟨⟨by simp, ?_, ?_, ?_, ?_, by dsimp only; omega, ?_, by dsimp only; omega⟩, ?_⟩
  · show 1 ≤ sar (lastO (l ++ [k])); rw [lastO_snoc]; exact a1
  · show sar (lastO (l ++ [k])) ≤ rs.length; rw [lastO_snoc]; omega
  · show _ ≤ lastO (l ++ [k]); rw [lastO_snoc]; exact a3
  · show lastO (l ++ [k]) ≤ _; rw [lastO_snoc]; exact a4
  · show rs.length ≤ _; split at h2 <;> omega
  · rw [red_gen]
    refine ⟨?_, ?_, fun x hx => h.ops x (List.mem_append_left _ hx)⟩
    · show (ns ++ [_]).length + l.length ≤ i; rw [List.length_append, List.length_singleton]; omega
    · show (rs.take _ ++ [_]).length = nBin l + _
      rw [List.length_append, List.length_take, List.length_singleton, ebf]; omega
theorem okMs.pop {i : Nat} {m : Ms} {l : List Int} {k : Int} (h : okMs i m false) (hl : m.ops = l ++ [k]) (hk : sbi k < 0) : okMs i (popS m) false := by
  obtain ⟨ns, rs, ops⟩ := m
  subst hl
  have h1 := h.cnt
  have h2 := h.rts
  dsimp only at h1 h2
  have hk2 : ¬(k = 2 ∨ k = 3) := by
    rintro (rfl | rfl)
    · exact absurd hk (by decide)
    · exact absurd hk (by decide)
  rw [nBin_snoc, if_neg hk2] at h2
  have hll : (l ++ [k]).length = l.length + 1 := by simp
  unfold popS
  dsimp only
  rw [List.dropLast_concat]
  exact ⟨by dsimp only; omega, by dsimp only; omega, fun x hx => h.ops x (List.mem_append_left _ hx)⟩
theorem qu_fit {t : Bs} {a e : Nat} {s : Bs} (h : quX t a = .ok (e, s)) : a + 2 ≤ e ∧ e ≤ t.length ∧ s.length ≤ t.length := by
  unfold quX at h
  match hq : qdX t (t.length + 1) (a + 1) [], h with
  | .error _, h => cases h
  | .ok (z, s'), h =>
    rw [fnX_o] at h
    split at h
    · cases h
      have := qd_fit (qdX_ok hq)
      simp at this; omega
    · cases h
theorem qu_noz {t : Bs} {a : Nat} {c k : Int} (ha : a < t.length) (h : quX t a = .error (c, k)) : c ≠ 0 := by
  unfold quX at h
  match hq : qdX t (t.length + 1) (a + 1) [], h with
  | .error (c', k'), h => cases h; exact qd_noz _ _ _ (by omega) (by omega) _ _ hq
  | .ok (z, s'), h =>
    rw [fnX_o] at h
    split at h
    · cases h
    · cases h; decide
theorem inv_t {t : Bs} {i : Nat} {m : Ms} {z : SX} (hi : i ≤ t.length) (h32 : t[i]? ≠ some 32) (h : RunS t i true m z) :
    if t.getD i 0 = 34 then (match quX t i with
      | .error e => z = .error e
      | .ok (j, s) => RunS t j false (leafS m ⟨1, s, 0, 0⟩) z)
    else if t.getD i 0 = 33 then RunS t (i + 1) true (pshS m 4) z
    else if t.getD i 0 = 40 then RunS t (i + 1) true (pshS m 0) z
    else z = .error (1, ((i : Nat) : Int)) := by
  obtain ⟨f, hf⟩ := h
  cases f with
  | zero => cases hf
  | succ f =>
    rw [mS_t hi h32, qtX_qu] at hf
    split
    · rename_i c; rw [if_pos c] at hf
      cases hq : quX t i with
      | error e => rw [hq] at hf; exact (Option.some.inj hf).symm
      | ok w => obtain ⟨j, s⟩ := w; rw [hq] at hf; exact ⟨f, hf⟩
    rename_i c1; rw [if_neg c1] at hf
    split
    · rename_i c; rw [if_pos c] at hf; exact ⟨f, hf⟩
    rename_i c2; rw [if_neg c2] at hf
    split
    · rename_i c; rw [if_pos c] at hf; exact ⟨f, hf⟩
    rename_i c3; rw [if_neg c3] at hf
    exact (Option.some.inj hf).symm
theorem inv_sp {t : Bs} {i : Nat} {b : Bool} {m : Ms} {z : SX} (hi : i ≤ t.length) (h32 : t[i]? = some 32) (h : RunS t i b m z) : RunS t (i + 1) b m z := by
  obtain ⟨f, hf⟩ := h
  cases f with
  | zero => cases hf
  | succ f =>
    unfold mS at hf
    rw [if_neg (by omega), if_pos h32] at hf
    exact ⟨f, hf⟩
theorem inv_f0 {t : Bs} {i : Nat} {m : Ms} {z : SX} (hi : i ≤ t.length) (h32 : t[i]? ≠ some 32) (h : RunS t i false m z) (ho : opS t i = none) : z = .error (1, ((i : Nat) : Int)) := by
  obtain ⟨f, hf⟩ := h
  cases f with
  | zero => cases hf
  | succ f =>
    rw [mS_f hi h32, ho] at hf
    exact (Option.some.inj hf).symm
theorem inv_f {t : Bs} {i : Nat} {m : Ms} {z : SX} {op : Int} (hi : i ≤ t.length) (h32 : t[i]? ≠ some 32) (h : RunS t i false m z) (ho : opS t i = some op) :
    if 0 < op then RunS t (i + 1) true (pshS (rdyS op m) op) z
    else if decide (i = t.length) ≠ decide ((rdyS op m).ops = []) then z = .error (1, ((i : Nat) : Int))
    else if i = t.length then RunS t (i + 1) false (rdyS op m) z else RunS t (i + 1) false (popS (rdyS op m)) z := by
  obtain ⟨f, hf⟩ := h
  cases f with
  | zero => cases hf
  | succ f =>
    rw [mS_f hi h32, ho] at hf
    dsimp only at hf
    split
    · rename_i c; rw [if_pos c] at hf; exact ⟨f, hf⟩
    rename_i c1; rw [if_neg c1] at hf
    split
    · rename_i c; rw [if_pos c] at hf; exact (Option.some.inj hf).symm
    rename_i c2; rw [if_neg c2] at hf
    split
    · rename_i c; rw [if_pos c] at hf; exact ⟨f, hf⟩
    · rename_i c; rw [if_neg c] at hf; exact ⟨f, hf⟩
theorem inv_end {t : Bs} {i : Nat} {b : Bool} {m : Ms} {z : SX} (hi : t.length < i) (h : RunS t i b m z) : z = .ok m.ns := by
  obtain ⟨f, hf⟩ := h
  cases f with
  | zero => cases hf
  | succ f =>
    unfold mS at hf
    rw [if_pos hi] at hf
    exact (Option.some.inj hf).symm
theorem ce_no {t : Bs} {i : Nat} {c v : UInt8} {e : Bool} (hc : c = t.getD i 0) (he : e = decide (i = t.length)) (hv : v ≠ 0) (h : ¬(e = false ∧ c = v)) : c ≠ v := fun h1 => by
  have := (getD_lt (hc.symm.trans h1) hv).1
  exact h ⟨by rw [he]; exact decide_eq_false (by omega), h1⟩
theorem no32 {t : Bs} {i : Nat} {c : UInt8} (hc : c = t.getD i 0) (h : c ≠ 32) : t[i]? ≠ some 32 := fun h1 => h (by rw [hc, List.getD_eq_getElem?_getD, h1]; rfl)
theorem rdB_of {op : Int} {ns : List Sn} {rs l : List Int} {k : Int} : rdB op ⟨ns, rs, l ++ [k]⟩ = (decide (0 ≤ sbi k) && (decide (op = 0) || decide (sbi op ≤ sbi k))) := by
  unfold rdB
  dsimp only
  rw [lastO_snoc, decide_eq_true (p := l ++ [k] ≠ []) (by simp), Bool.true_and]
theorem rdy_yes {op : Int} {m : Ms} (h : rdB op m = true) : rdyS op m = rdyS op (rdM m) := by
  obtain ⟨ns, rs, ops⟩ := m
  have h0 : ops ≠ [] := by
    intro h0; subst h0; cases h
  obtain ⟨l, k, rfl⟩ := snoc_of h0
  rw [rdB_of, Bool.and_eq_true, Bool.or_eq_true, decide_eq_true_eq, decide_eq_true_eq, decide_eq_true_eq] at h
  exact rdyS_pre h.1 h.2
theorem push_rows (m : Ms) (k : Int) : rows eI (List.take m.ops.length m.ops) ++ [[.int .i64 k]] = rows eI (pshS m k).ops := by rw [List.take_of_length_le (Nat.le_refl _)]; exact snI_rows _ _
theorem push_len (m : Ms) (k : Int) : m.ops.length + 1 = (pshS m k).ops.length := by show _ = (m.ops ++ [k]).length; simp
theorem leaf_rows (m : Ms) (s : Bs) : rows eSn (List.take m.ns.length m.ns) ++ [[.int .i64 1, .str s, .int .i64 0, .int .i64 0]] = rows eSn (leafS m ⟨1, s, 0, 0⟩).ns := by rw [List.take_of_length_le (Nat.le_refl _)]; exact addS_rows _ _ _ _ _
theorem leaf_len (m : Ms) (n : Sn) : m.ns.length + 1 = (leafS m n).ns.length := by show _ = (m.ns ++ [n]).length; simp
theorem leafr_rows (m : Ms) (n : Sn) : rows eI (List.take m.rs.length m.rs) ++ [[.int .i64 (m.ns.length : Int)]] = rows eI (leafS m n).rs := by rw [List.take_of_length_le (Nat.le_refl _)]; exact snI_rows _ _
theorem leafr_len (m : Ms) (n : Sn) : m.rs.length + 1 = (leafS m n).rs.length := by show _ = (m.rs ++ [_]).length; simp
theorem mcB_rows (a : List Sn) (b c : List Int) : mcB (rows eSn a) (rows eI b) (rows eI c) = ⟨a, b, c⟩ := by unfold mcB; rw [dSn_rows, dI_rows, dI_rows]
theorem preR_ok {ns : List Sn} {rs ops : List Int} {z : Nat} (h : z = ops.length) : preR 79 55 4 ns.length 3 1 rs.length 3 1 z (rows eSn ns) (rows eI rs) (rows eI ops) := by
  unfold preR
  rw [dSn_rows, dI_rows, dI_rows]
  exact ⟨rfl, ⟨rfl, rfl, rfl, rfl⟩, ⟨rfl, rfl, rfl, rfl⟩, ⟨rfl, rfl, rfl, h⟩⟩
theorem pop_eq (ns : List Sn) (rs l : List Int) (k : Int) : popS ⟨ns, rs, l ++ [k]⟩ = ⟨ns, rs, l⟩ := by unfold popS; dsimp only; rw [List.dropLast_concat]
theorem sbt_ {p : Prop} (h : p := by (first | with_reducible rfl | exact push_rows _ _ | exact push_len _ _ | exact leaf_rows _ _ | exact leafr_rows _ _ | exact leaf_len _ _ | exact leafr_len _ _ | exact Or.inl rfl | (rw [pop_eq]; done) | (rw [pop_eq]; rfl) | rfl | (first | rfl | exact Or.inr rfl | exact Or.inl rfl | trivial | omega | assumption | (simp; done) | (simp; omega)))) : p := h
theorem q_cases (ops : List Int) (op : Int) : ops = [] ∨ (∃ l k, ops = l ++ [k] ∧ sbi k < 0) ∨ (∃ l k, ops = l ++ [k] ∧ 0 ≤ sbi k ∧ op = 0) ∨ (∃ l k, ops = l ++ [k] ∧ 0 ≤ sbi k ∧ ¬op = 0 ∧ sbi op ≤ sbi k) ∨ (∃ l k, ops = l ++ [k] ∧ 0 ≤ sbi k ∧ ¬op = 0 ∧ sbi k < sbi op) := by
  by_cases h : ops = []
  · exact .inl h
  obtain ⟨l, k, rfl⟩ := snoc_of h
  by_cases h1 : 0 ≤ sbi k
  · by_cases h2 : op = 0
    · exact .inr (.inr (.inl ⟨l, k, rfl, h1, h2⟩))
    · by_cases h3 : sbi op ≤ sbi k
      · exact .inr (.inr (.inr (.inl ⟨l, k, rfl, h1, h2, h3⟩)))
      · exact .inr (.inr (.inr (.inr ⟨l, k, rfl, h1, h2, by omega⟩)))
  · exact .inr (.inl ⟨l, k, rfl, by omega⟩)
theorem rdB_last {ns : List Sn} {rs l : List Int} {k : Int} (h : rdB 0 ⟨ns, rs, l ++ [k]⟩ = false) : sbi k < 0 := by
  rw [rdB_of] at h
  by_cases h0 : 0 ≤ sbi k
  · rw [decide_eq_true h0] at h; simp at h
  · omega
theorem nsX_e {t : Bs} {e : Int × Int} (h : parX t = .error e) : nsX t = [] := by unfold nsX; rw [h]
theorem nsX_o {t : Bs} {q : List Sn} (h : parX t = .ok q) : nsX t = q := by unfold nsX; rw [h]
theorem opS_e {t : Bs} {i : Nat} {c : UInt8} {e : Bool} (hc : c = t.getD i 0) (he : e = decide (i = t.length)) (h1 : c ≠ 124) (h2 : c ≠ 38) : opS t i = if e = true ∨ c = 41 then some 0 else none := by
  unfold opS
  rw [← hc, if_neg h1, if_neg h2, he]
  simp only [decide_eq_true_eq]
theorem opS_0 {t : Bs} {i : Nat} (h : opS t i = some 0) : i = t.length ∨ t.getD i 0 = 41 := by
  unfold opS at h
  split at h
  · cases h
  · split at h
    · cases h
    · split at h
      · assumption
      · cases h
theorem psr_meets : Meets Tryz.prog 17 (Spec.pure parXG) := by
 refine meets_fun (E_redr.at_ 244) Tryz.func17 rfl rfl rfl ?_
 intro args p r hg hp
 unfold parXG at hg
 split at hg
 rename_i t
 simp only [Option.some.injEq, Prod.mk.injEq] at hg
 obtain ⟨rfl, rfl⟩ := hg
 have htl := hp
 have hT : (E_redr).X = T := rfl
 have hx0 := And.intro @dec_t (And.intro @dec_f (And.intro @rect_eSn (And.intro @rgB.eq_1 (And.intro @ilB.eq_1 (And.intro @nsB.eq_1 (And.intro @dSn_rows (And.intro @dI_rows (And.intro @Int.toNat_natCast @Tryz.results17))))))))
 have hx := hx0
 refine ⟨by rfl, ?_⟩
 intro F W0 hnp hmk
 refine vc_seq_k fun N1 h1 => ?_
 refine u_reg ?_
 try refine lg_mk ?_
 iterate 2 refine u_al (hq := by exact sq_) ?_
 refine lg_nil ?_
 refine h1 _ ?_; clear h1; try clear N1
 refine vc_seq_k fun N2 h2 => ?_
 refine vc_seq_k fun N3 h3 => ?_
 refine u_reg ?_
 try refine lg_mk ?_
 refine u_mv (hq := by exact sq_) ?_
 refine u_ln (hq := by exact sq_) ?_
 refine u_bn (hq := by exact sq_) ?_
 refine lg_nil ?_
 refine h3 _ ?_; clear h3; try clear N3
 refine u_cond (fun hb4 => ?_) (fun hb4 => ?_)
 refine vc_seq_k fun N5 h5 => ?_
 refine u_reg ?_
 try refine lg_mk ?_
 refine u_bd (hq := by exact sq_) ?_
 have hc := call_rule (E := (E_redr.at_ 244)) (f := 21) (sp := Spec.pure faultG) rfl
 have hs := @faultG.eq_1
 refine u_cp (hq := by exact sq_) ?_
 iterate 2 refine u_st (hq := by exact sq_) ?_
 refine lg_nil ?_
 refine h5 _ ?_; clear h5; try clear N5
 refine vc_ret ?_
 try simp only [k_rules]
 have hr : parX t = .error (2, -1) := by unfold parX; rw [if_pos (by have := hb4; omega)]
 rw [nsX_e hr, hr]
 try simp only [eC_e, eK_e]
 refine fin2_ ?_
 exact cl_
 have hl3 : t.length ≤ 300 := by have := hb4; omega
 obtain ⟨z, hz, hzp⟩ := ag_text hl3
 refine vc_skip ?_
 try simp only [k_rules]
 refine h2 _ ?_; clear h2; try clear N2
 refine vc_seq_k fun N6 h6 => ?_
 refine u_reg ?_
 try refine lg_mk ?_
 refine u_bd (hq := by exact sq_) ?_
 refine u_bx (hq := by exact sq_) ?_
 refine u_mv (hq := by exact sq_) ?_
 refine lg_nil ?_
 refine h6 _ ?_; clear h6; try clear N6
 refine vc_seq_k fun N7 h7 => ?_
 refine vc_nil1 2 0 _ 4 (vec_nil 55 4) rfl rfl rfl ?_
 simp only [updL, List.set, List.cons_append, List.nil_append]
 refine vc_nil1 2 1 _ 1 (vec_nil 3 1) rfl rfl rfl ?_
 simp only [updL, List.set, List.cons_append, List.nil_append]
 refine vc_nil1 2 2 _ 1 (vec_nil 3 1) rfl rfl rfl ?_
 simp only [updL, List.set, List.cons_append, List.nil_append]
 refine u_reg ?_
 try refine lg_mk ?_
 refine u_mv (hq := by exact sq_) ?_
 refine lg_nil ?_
 refine h7 _ ?_; clear h7; try clear N7
 refine vc_seq_k fun N8 h8 => ?_
 refine vc_seq_k fun N9 h9 => ?_
 refine u_reg ?_
 try refine lg_mk ?_
 refine u_mv (hq := by exact sq_) ?_
 refine lg_nil ?_
 refine h9 _ ?_; clear h9; try clear N9
 refine vc_block ?_
 refine vc_loop_mk (σ := Nat × Ms × Bool) (fun s => (fun i m b => RunS t i b m z ∧ okMs i m b ∧ i ≤ t.length + 1) (s.1) (s.2.1) (s.2.2))
  (fun s => (fun i m b => [(0, .d (.str t)), (2, .ptr 0 0 0), (3, .ptr 1 0 0), (4, .ptr 2 0 0), (5, .d (.bool b)), (6, .d (.int .i64 (i : Nat)))]) (s.1) (s.2.1) (s.2.2))
  (fun s => (fun i m b => [some (.one 25 [.d .nils]), some (.one 29 [.d (.int .i64 0), .d (.int .i64 0)]), rgB (.sl 3 0 m.ns.length) (.sl 4 0 m.rs.length) (.sl 5 0 m.ops.length), nsB m, ilB m.rs, ilB m.ops]) (s.1) (s.2.1) (s.2.2)) (fun s => (fun i m b => t.length + 1 - i) (s.1) (s.2.1) (s.2.2)) hnp (0, ms0, true) ?_ [some 0, some 1, some 2, some 3, some 4, some 5] ?_ ?_
 dsimp only
 exact ⟨hz, ⟨Nat.le_refl _, rfl, fun k hk => by cases hk⟩, by omega⟩
 dsimp only
 refine ⟨by rfl, ?_, ?_⟩
 refine fin_ ?_
 exact cl_
 refine fin_ ?_
 exact cl_
 rintro ⟨i, m, b⟩ hinv N10 h10
 dsimp only at hinv ⊢
 obtain ⟨hR, hM, hiL⟩ := hinv
 refine vc_seq_k fun N11 h11 => ?_
 refine vc_seq_k fun N12 h12 => ?_
 refine u_reg ?_
 try refine lg_mk ?_
 iterate 2 refine u_mv (hq := by exact sq_) ?_
 refine u_ln (hq := by exact sq_) ?_
 refine u_bn (hq := by exact sq_) ?_
 refine lg_nil ?_
 refine h12 _ ?_; clear h12; try clear N12
 refine u_cond (fun hb13 => ?_) (fun hb13 => ?_)
 have hil : i ≤ t.length := by have := hb13; omega
 have hde : ((i : Int) = (t.length : Int)) = (i = t.length) := propext ⟨fun h => by omega, fun h => by omega⟩
 have hcnt := hM.cnt
 have hrts := hM.rts
 have hnb := nBin_le m.ops
 have hrl : m.rs.length ≤ 1000 := by split at hrts <;> omega
 have hn1 : ((m.ns.length + 1 : Nat) : Int) - 1 = (m.ns.length : Int) := by omega
 refine vc_skip ?_
 try simp only [k_rules]
 refine h11 _ ?_; clear h11; try clear N11
 refine vc_block ?_
 refine vc_seq_k fun N14 h14 => ?_
 refine u_reg ?_
 try refine lg_mk ?_
 refine u_mv (hq := by exact sq_) ?_
 refine lg_nil ?_
 refine h14 _ ?_; clear h14; try clear N14
 refine vc_seq_k fun N15 h15 => ?_
 have hx := And.intro @hde hx0
 refine u_reg ?_
 try refine lg_mk ?_
 iterate 2 refine u_mv (hq := by exact sq_) ?_
 refine u_ln (hq := by exact sq_) ?_
 refine u_bn (hq := by exact sq_) ?_
 refine u_mv (hq := by exact sq_) ?_
 refine lg_nil ?_
 have hx := hx0
 refine h15 _ ?_; clear h15; try clear N15
 refine vc_seq_m (σ := UInt8 × Bool) (fun s => (fun c e => c = t.getD i 0 ∧ e = decide (i = t.length)) (s.1) (s.2))
  (fun s => (fun c e => [(0, .d (.str t)), (2, .ptr 0 0 0), (3, .ptr 1 0 0), (4, .ptr 2 0 0), (5, .d (.bool b)), (6, .d (.int .i64 (i : Nat))), (7, .d (.int .u8 (c.toNat : Int))), (8, .d (.bool e))]) (s.1) (s.2))
  (fun s => (fun c e => [some (.one 25 [.d .nils]), some (.one 29 [.d (.int .i64 0), .d (.int .i64 0)]), rgB (.sl 3 0 m.ns.length) (.sl 4 0 m.rs.length) (.sl 5 0 m.ops.length), nsB m, ilB m.rs, ilB m.ops]) (s.1) (s.2)) hnp ?_ ?_
 rintro ⟨c, e⟩ hinv
 dsimp only at hinv ⊢
 obtain ⟨hcd, hed⟩ := hinv
 refine vc_seq_k fun N17 h17 => ?_
 refine vc_seq_k fun N18 h18 => ?_
 refine u_reg ?_
 try refine lg_mk ?_
 refine u_mv (hq := by exact sq_) ?_
 refine u_un (hq := by exact sq_) ?_
 refine u_mv (hq := by exact sq_) ?_
 refine s_mv (hq := by (intro hg; (try simp only [b_rules, bif_and, bif_or] at hg); exact sq_)) ?_
 refine s_bn (hq := by (intro hg; (try simp only [b_rules, bif_and, bif_or] at hg); exact sq_)) ?_
 refine u_pk (hq := by exact sq_) ?_
 refine lg_nil ?_
 refine h18 _ ?_; clear h18; try clear N18
 refine u_cond (fun hb19 => ?_) (fun hb19 => ?_)
 have hE : e = false ∧ c = 32 := by
  have h9 := hb19
  cases e
  ·refine ⟨rfl, ?_⟩
   ·first | exact UInt8.toNat_inj.1 (show c.toNat = 32 by (try simp at h9); omega) | (simpa using h9)
  ·simp at h9
 obtain ⟨rfl, hcv⟩ := hE
 have hv := inv_sp hil (getD_lt (hcd.symm.trans hcv) (by decide)).2 hR
 have hil1 : i < t.length := (getD_lt (hcd.symm.trans hcv) (by decide)).1
 refine vc_seq_k fun N20 h20 => ?_
 refine u_reg ?_
 try refine lg_mk ?_
 refine u_mv (hq := by exact sq_) ?_
 refine u_bn (hq := by exact sq_) ?_
 refine u_mv (hq := by exact sq_) ?_
 refine lg_nil ?_
 refine h20 _ ?_; clear h20; try clear N20
 refine vc_exit ?_
 simp only [k_rules, Nat.reduceEqDiff, reduceIte, eq_self]
 refine h10 _ ⟨(i + 1, m, b), ?_, ?_, [some 0, some 1, some 2, some 3, some 4, some 5], ?_⟩
 dsimp only
 exact ⟨hv, hM.le (by omega), by omega⟩
 dsimp only
 omega
 dsimp only
 refine ⟨by rfl, ?_, ?_⟩
 refine fin_ ?_
 ·(repeat' apply And.intro) <;> exact sbt_
 refine fin_ ?_
 ·(repeat' apply And.intro) <;> exact sbt_
 have hN32 : c ≠ 32 := ce_no hcd hed (by decide) (by rintro ⟨h1, h2⟩; have h9 := hb19; simp [h1, h2] at h9)
 have h32 := no32 hcd hN32
 refine vc_skip ?_
 try simp only [k_rules]
 refine h17 _ ?_; clear h17; try clear N17
 refine vc_seq_k fun N21 h21 => ?_
 refine vc_seq_k fun N22 h22 => ?_
 refine u_reg ?_
 try refine lg_mk ?_
 refine u_mv (hq := by exact sq_) ?_
 refine lg_nil ?_
 refine h22 _ ?_; clear h22; try clear N22
 refine u_cond (fun hb23 => ?_) (fun hb23 => ?_)
 have hbb : b = true := hb23
 subst hbb
 have hv := inv_t hil h32 hR
 rw [← hcd] at hv
 refine vc_seq_k fun N24 h24 => ?_
 refine vc_seq_k fun N25 h25 => ?_
 refine u_reg ?_
 try refine lg_mk ?_
 refine u_mv (hq := by exact sq_) ?_
 refine u_un (hq := by exact sq_) ?_
 refine u_mv (hq := by exact sq_) ?_
 refine s_mv (hq := by (intro hg; (try simp only [b_rules, bif_and, bif_or] at hg); exact sq_)) ?_
 refine s_bn (hq := by (intro hg; (try simp only [b_rules, bif_and, bif_or] at hg); exact sq_)) ?_
 refine u_pk (hq := by exact sq_) ?_
 refine lg_nil ?_
 refine h25 _ ?_; clear h25; try clear N25
 refine u_cond (fun hb26 => ?_) (fun hb26 => ?_)
 have hE : e = false ∧ c = 34 := by
  have h9 := hb26
  cases e
  ·refine ⟨rfl, ?_⟩
   ·first | exact UInt8.toNat_inj.1 (show c.toNat = 34 by (try simp at h9); omega) | (simpa using h9)
  ·simp at h9
 obtain ⟨rfl, hcv⟩ := hE
 rw [if_pos hcv] at hv
 have hil1 : i < t.length := (getD_lt (hcd.symm.trans hcv) (by decide)).1
 refine vc_seq_k fun N27 h27 => ?_
 rcases hqu : quX t i with ⟨c1, k1⟩ | ⟨e1, s1⟩
 rw [hqu] at hv
 dsimp only at hv
 have hc1 := qu_noz hil1 hqu
 have hx := And.intro @hqu (And.intro @oS_e (And.intro @oE_e (And.intro @oS_o (And.intro @oE_o (And.intro @eC_e (And.intro @eK_e (And.intro @eC_o (And.intro @eK_o hx0))))))))
 refine u_reg ?_
 try refine lg_mk ?_
 iterate 2 refine u_mv (hq := by exact sq_) ?_
 have hc := call_rule (E := (E_redr.at_ 244)) (f := 45) (sp := Spec.pure rqG) rfl
 have hs := @rqG.eq_1
 refine u_cp (hq := by (first | (exact ⟨by omega, by omega, hl3⟩) | exact sd_)) ?_
 refine u_mv (hq := by exact sq_) ?_
 iterate 3 refine u_ex (hq := by exact sq_) ?_
 refine u_al (hq := by exact sq_) ?_
 iterate 2 refine u_mv (hq := by exact sq_) ?_
 refine u_st (hq := by exact sq_) ?_
 refine lg_nil ?_
 have hx := hx0
 refine h27 _ ?_; clear h27; try clear N27
 refine vc_seq_k fun N28 h28 => ?_
 refine vc_seq_k fun N29 h29 => ?_
 refine u_reg ?_
 try refine lg_mk ?_
 refine u_pt (hq := by exact sq_) ?_
 refine u_ld (hq := by exact sq_) ?_
 refine u_bn (hq := by exact sq_) ?_
 refine lg_nil ?_
 refine h29 _ ?_; clear h29; try clear N29
 refine u_cond (fun hb30 => ?_) (fun hb30 => ?_)
 refine vc_seq_k fun N31 h31 => ?_
 refine vc_regT [] (.seq [0] (.alt 1 (.seq [2, 3] .nil) (.alt 2 (.seq [1, 3] .nil) .nil))) hmix (by kernel_rfl) ?_
 refine at_seq ?_
 simp only [pick_rules, list_rules]
 try refine lg_mk ?_
 refine u_bd (hq := by exact sq_) ?_
 refine lg_nil ?_
 refine at_alt ?_ ?_
 simp only [pick_rules, list_rules]
 try refine lg_mk ?_
 refine u_ld (hq := by exact sq_) ?_
 refine lg_nil ?_
 refine at_seq ?_
 simp only [pick_rules, list_rules]
 try refine lg_mk ?_
 iterate 2 refine u_st (hq := by exact sq_) ?_
 refine lg_nil ?_
 refine at_nil ?_
 refine h31 _ ?_; clear h31; try clear N31
 refine vc_ret ?_
 try simp only [k_rules]
 have hr : parX t = .error (c1, k1) := by rw [← hzp, hv]; rfl
 rw [nsX_e hr, hr]
 try simp only [eC_e, eK_e]
 refine fin2_ ?_
 exact cl_
 refine at_alt ?_ ?_
 simp only [pick_rules, list_rules]
 try refine lg_mk ?_
 refine u_st (hq := by exact sq_) ?_
 refine lg_nil ?_
 refine at_seq ?_
 simp only [pick_rules, list_rules]
 try refine lg_mk ?_
 refine u_ld (hq := by exact sq_) ?_
 refine u_st (hq := by exact sq_) ?_
 refine lg_nil ?_
 refine at_nil ?_
 refine h31 _ ?_; clear h31; try clear N31
 refine vc_ret ?_
 try simp only [k_rules]
 have hr : parX t = .error (c1, k1) := by rw [← hzp, hv]; rfl
 rw [nsX_e hr, hr]
 try simp only [eC_e, eK_e]
 refine fin2_ ?_
 exact cl_
 exact at_end
 ·first | omega | exact absurd trivial hb30 | contradiction | (simp_all; done)
 rw [hqu] at hv
 dsimp only at hv
 obtain ⟨q1, q2, q3⟩ := qu_fit hqu
 have hx := And.intro @hqu (And.intro @oS_e (And.intro @oE_e (And.intro @oS_o (And.intro @oE_o (And.intro @eC_e (And.intro @eK_e (And.intro @eC_o (And.intro @eK_o hx0))))))))
 refine u_reg ?_
 try refine lg_mk ?_
 iterate 2 refine u_mv (hq := by exact sq_) ?_
 have hc := call_rule (E := (E_redr.at_ 244)) (f := 45) (sp := Spec.pure rqG) rfl
 have hs := @rqG.eq_1
 refine u_cp (hq := by (first | (exact ⟨by omega, by omega, hl3⟩) | exact sd_)) ?_
 refine u_mv (hq := by exact sq_) ?_
 iterate 3 refine u_ex (hq := by exact sq_) ?_
 refine u_al (hq := by exact sq_) ?_
 iterate 2 refine u_mv (hq := by exact sq_) ?_
 refine u_st (hq := by exact sq_) ?_
 refine lg_nil ?_
 have hx := hx0
 refine h27 _ ?_; clear h27; try clear N27
 refine vc_seq_k fun N32 h32 => ?_
 refine vc_seq_k fun N33 h33 => ?_
 refine u_reg ?_
 try refine lg_mk ?_
 refine u_pt (hq := by exact sq_) ?_
 refine u_ld (hq := by exact sq_) ?_
 refine u_bn (hq := by exact sq_) ?_
 refine lg_nil ?_
 refine h33 _ ?_; clear h33; try clear N33
 refine u_cond (fun hb34 => ?_) (fun hb34 => ?_)
 ·first | omega | exact absurd trivial hb34 | contradiction | (simp_all; done)
 refine vc_skip ?_
 try simp only [k_rules]
 refine h32 _ ?_; clear h32; try clear N32
 refine vc_seq_k fun N35 h35 => ?_
 refine u_reg ?_
 try refine lg_mk ?_
 iterate 2 refine u_mv (hq := by exact sq_) ?_
 refine u_nl (hq := by exact sq_) ?_
 refine u_pt (hq := by exact sq_) ?_
 refine u_ld (hq := by exact sq_) ?_
 refine u_mv (hq := by exact sq_) ?_
 refine u_bd (hq := by exact sq_) ?_
 refine u_bs (hq := by exact sq_) ?_
 refine u_ap (hq := by exact sq_) ?_
 refine u_nl (hq := by exact sq_) ?_
 refine u_pt (hq := by exact sq_) ?_
 refine u_st (hq := by exact sq_) ?_
 refine lg_nil ?_
 refine h35 _ ?_; clear h35; try clear N35
 refine vc_seq_k fun N36 h36 => ?_
 have hx := And.intro @hn1 hx0
 refine u_reg ?_
 try refine lg_mk ?_
 iterate 2 refine u_mv (hq := by exact sq_) ?_
 refine u_nl (hq := by exact sq_) ?_
 refine u_pt (hq := by exact sq_) ?_
 refine u_ld (hq := by exact sq_) ?_
 refine u_mv (hq := by exact sq_) ?_
 refine u_nl (hq := by exact sq_) ?_
 refine u_pt (hq := by exact sq_) ?_
 refine u_ld (hq := by exact sq_) ?_
 refine u_ln (hq := by exact sq_) ?_
 refine u_bn (hq := by exact sq_) ?_
 refine u_bs (hq := by exact sq_) ?_
 refine u_ap (hq := by exact sq_) ?_
 refine u_nl (hq := by exact sq_) ?_
 refine u_pt (hq := by exact sq_) ?_
 refine u_st (hq := by exact sq_) ?_
 refine lg_nil ?_
 have hx := hx0
 refine h36 _ ?_; clear h36; try clear N36
 refine vc_seq_k fun N37 h37 => ?_
 refine u_reg ?_
 try refine lg_mk ?_
 iterate 2 refine u_mv (hq := by exact sq_) ?_
 refine lg_nil ?_
 refine h37 _ ?_; clear h37; try clear N37
 refine vc_seq_k fun N38 h38 => ?_
 refine u_reg ?_
 try refine lg_mk ?_
 refine u_mv (hq := by exact sq_) ?_
 refine lg_nil ?_
 refine h38 _ ?_; clear h38; try clear N38
 refine vc_exit ?_
 simp only [k_rules, Nat.reduceEqDiff, reduceIte, eq_self]
 refine h10 _ ⟨(e1, leafS m ⟨1, s1, 0, 0⟩, false), ?_, ?_, [some 0, some 1, some 2, some 8, some 10, some 5], ?_⟩
 dsimp only
 exact ⟨hv, hM.leaf (by omega), by omega⟩
 dsimp only
 omega
 dsimp only
 refine ⟨by rfl, ?_, ?_⟩
 refine fin_ ?_
 ·(repeat' apply And.intro) <;> exact sbt_
 refine fin_ ?_
 ·(repeat' apply And.intro) <;> exact sbt_
 have hN34 : c ≠ 34 := ce_no hcd hed (by decide) (by rintro ⟨h1, h2⟩; have h9 := hb26; simp [h1, h2] at h9)
 rw [if_neg hN34] at hv
 refine vc_skip ?_
 try simp only [k_rules]
 refine h24 _ ?_; clear h24; try clear N24
 refine vc_seq_k fun N39 h39 => ?_
 refine vc_seq_k fun N40 h40 => ?_
 refine u_reg ?_
 try refine lg_mk ?_
 refine u_mv (hq := by exact sq_) ?_
 refine u_un (hq := by exact sq_) ?_
 refine u_mv (hq := by exact sq_) ?_
 refine s_mv (hq := by (intro hg; (try simp only [b_rules, bif_and, bif_or] at hg); exact sq_)) ?_
 refine s_bn (hq := by (intro hg; (try simp only [b_rules, bif_and, bif_or] at hg); exact sq_)) ?_
 refine u_pk (hq := by exact sq_) ?_
 refine lg_nil ?_
 refine h40 _ ?_; clear h40; try clear N40
 refine u_cond (fun hb41 => ?_) (fun hb41 => ?_)
 have hE : e = false ∧ c = 33 := by
  have h9 := hb41
  cases e
  ·refine ⟨rfl, ?_⟩
   ·first | exact UInt8.toNat_inj.1 (show c.toNat = 33 by (try simp at h9); omega) | (simpa using h9)
  ·simp at h9
 obtain ⟨rfl, hcv⟩ := hE
 rw [if_pos hcv] at hv
 have hil1 : i < t.length := (getD_lt (hcd.symm.trans hcv) (by decide)).1
 refine u_reg ?_
 try refine lg_mk ?_
 iterate 2 refine u_mv (hq := by exact sq_) ?_
 refine u_nl (hq := by exact sq_) ?_
 refine u_pt (hq := by exact sq_) ?_
 refine u_ld (hq := by exact sq_) ?_
 refine u_bs (hq := by exact sq_) ?_
 refine u_ap (hq := by exact sq_) ?_
 refine u_nl (hq := by exact sq_) ?_
 refine u_pt (hq := by exact sq_) ?_
 refine u_st (hq := by exact sq_) ?_
 refine lg_nil ?_
 refine h39 _ ?_; clear h39; try clear N39
 refine vc_seq_k fun N42 h42 => ?_
 refine u_reg ?_
 try refine lg_mk ?_
 refine u_mv (hq := by exact sq_) ?_
 refine u_bn (hq := by exact sq_) ?_
 refine u_mv (hq := by exact sq_) ?_
 refine lg_nil ?_
 refine h42 _ ?_; clear h42; try clear N42
 refine vc_exit ?_
 simp only [k_rules, Nat.reduceEqDiff, reduceIte, eq_self]
 refine h10 _ ⟨(i + 1, pshS m 4, true), ?_, ?_, [some 0, some 1, some 2, some 3, some 4, some 7], ?_⟩
 dsimp only
 exact ⟨hv, hM.push (.inr (.inl rfl)) (by decide) (by omega), by omega⟩
 dsimp only
 omega
 dsimp only
 refine ⟨by rfl, ?_, ?_⟩
 refine fin_ ?_
 ·(repeat' apply And.intro) <;> exact sbt_
 refine fin_ ?_
 ·(repeat' apply And.intro) <;> exact sbt_
 have hN33 : c ≠ 33 := ce_no hcd hed (by decide) (by rintro ⟨h1, h2⟩; have h9 := hb41; simp [h1, h2] at h9)
 rw [if_neg hN33] at hv
 refine vc_seq_k fun N43 h43 => ?_
 refine u_reg ?_
 try refine lg_mk ?_
 refine u_mv (hq := by exact sq_) ?_
 refine u_un (hq := by exact sq_) ?_
 refine u_mv (hq := by exact sq_) ?_
 refine s_mv (hq := by (intro hg; (try simp only [b_rules, bif_and, bif_or] at hg); exact sq_)) ?_
 refine s_bn (hq := by (intro hg; (try simp only [b_rules, bif_and, bif_or] at hg); exact sq_)) ?_
 refine u_pk (hq := by exact sq_) ?_
 refine lg_nil ?_
 refine h43 _ ?_; clear h43; try clear N43
 refine u_cond (fun hb44 => ?_) (fun hb44 => ?_)
 have hE : e = false ∧ c = 40 := by
  have h9 := hb44
  cases e
  ·refine ⟨rfl, ?_⟩
   ·first | exact UInt8.toNat_inj.1 (show c.toNat = 40 by (try simp at h9); omega) | (simpa using h9)
  ·simp at h9
 obtain ⟨rfl, hcv⟩ := hE
 rw [if_pos hcv] at hv
 have hil1 : i < t.length := (getD_lt (hcd.symm.trans hcv) (by decide)).1
 refine u_reg ?_
 try refine lg_mk ?_
 iterate 2 refine u_mv (hq := by exact sq_) ?_
 refine u_nl (hq := by exact sq_) ?_
 refine u_pt (hq := by exact sq_) ?_
 refine u_ld (hq := by exact sq_) ?_
 refine u_bs (hq := by exact sq_) ?_
 refine u_ap (hq := by exact sq_) ?_
 refine u_nl (hq := by exact sq_) ?_
 refine u_pt (hq := by exact sq_) ?_
 refine u_st (hq := by exact sq_) ?_
 refine lg_nil ?_
 refine h39 _ ?_; clear h39; try clear N39
 refine vc_seq_k fun N45 h45 => ?_
 refine u_reg ?_
 try refine lg_mk ?_
 refine u_mv (hq := by exact sq_) ?_
 refine u_bn (hq := by exact sq_) ?_
 refine u_mv (hq := by exact sq_) ?_
 refine lg_nil ?_
 refine h45 _ ?_; clear h45; try clear N45
 refine vc_exit ?_
 simp only [k_rules, Nat.reduceEqDiff, reduceIte, eq_self]
 refine h10 _ ⟨(i + 1, pshS m 0, true), ?_, ?_, [some 0, some 1, some 2, some 3, some 4, some 7], ?_⟩
 dsimp only
 exact ⟨hv, hM.push (.inl rfl) (by decide) (by omega), by omega⟩
 dsimp only
 omega
 dsimp only
 refine ⟨by rfl, ?_, ?_⟩
 refine fin_ ?_
 ·(repeat' apply And.intro) <;> exact sbt_
 refine fin_ ?_
 ·(repeat' apply And.intro) <;> exact sbt_
 have hN40 : c ≠ 40 := ce_no hcd hed (by decide) (by rintro ⟨h1, h2⟩; have h9 := hb44; simp [h1, h2] at h9)
 rw [if_neg hN40] at hv
 refine vc_seq_k fun N46 h46 => ?_
 refine u_reg ?_
 try refine lg_mk ?_
 refine u_bd (hq := by exact sq_) ?_
 refine u_mv (hq := by exact sq_) ?_
 have hc := call_rule (E := (E_redr.at_ 244)) (f := 21) (sp := Spec.pure faultG) rfl
 have hs := @faultG.eq_1
 refine u_cp (hq := by exact sq_) ?_
 iterate 2 refine u_st (hq := by exact sq_) ?_
 refine lg_nil ?_
 refine h46 _ ?_; clear h46; try clear N46
 refine vc_ret ?_
 try simp only [k_rules]
 have hr : parX t = .error (1, (i : Nat)) := by rw [← hzp, hv]; rfl
 rw [nsX_e hr, hr]
 try simp only [eC_e, eK_e]
 refine fin2_ ?_
 exact cl_
 have hbb : b = false := by have := hb23; simpa using this
 subst hbb
 refine vc_skip ?_
 try simp only [k_rules]
 refine h21 _ ?_; clear h21; try clear N21
 refine vc_seq_k fun N47 h47 => ?_
 refine u_reg ?_
 try refine lg_mk ?_
 refine u_mv (hq := by exact sq_) ?_
 refine lg_nil ?_
 refine h47 _ ?_; clear h47; try clear N47
 refine vc_seq_m (σ := Int) (fun s => (fun op => opS t i = some op ∧ (op = 0 ∨ op = 2 ∨ op = 3)) s)
  (fun s => (fun op => [(0, .d (.str t)), (2, .ptr 0 0 0), (3, .ptr 1 0 0), (4, .ptr 2 0 0), (5, .d (.bool false)), (6, .d (.int .i64 (i : Nat))), (8, .d (.bool e)), (12, .d (.int .i64 op))]) s)
  (fun s => (fun op => [some (.one 25 [.d .nils]), some (.one 29 [.d (.int .i64 0), .d (.int .i64 0)]), rgB (.sl 3 0 m.ns.length) (.sl 4 0 m.rs.length) (.sl 5 0 m.ops.length), nsB m, ilB m.rs, ilB m.ops]) s) hnp ?_ ?_
 rintro op hinv
 dsimp only at hinv ⊢
 obtain ⟨hop, hor⟩ := hinv
 have hv := inv_f hil h32 hR hop
 refine vc_seq_m (σ := Ms) (fun s => (fun q => rdyS op m = q ∧ okMs i q false ∧ rdB op q = false) s)
  (fun s => (fun q => [(0, .d (.str t)), (2, .ptr 0 0 0), (3, .ptr 1 0 0), (4, .ptr 2 0 0), (5, .d (.bool false)), (6, .d (.int .i64 (i : Nat))), (8, .d (.bool e)), (12, .d (.int .i64 op))]) s)
  (fun s => (fun q => [some (.one 25 [.d .nils]), some (.one 29 [.d (.int .i64 0), .d (.int .i64 0)]), rgB (.sl 3 0 q.ns.length) (.sl 4 0 q.rs.length) (.sl 5 0 q.ops.length), nsB q, ilB q.rs, ilB q.ops]) s) hnp ?_ ?_
 rintro q hinv
 dsimp only at hinv ⊢
 obtain ⟨hq, hMq, hrb⟩ := hinv
 rw [hq] at hv
 have hcq := hMq.cnt
 have hnq := nBin_le q.ops
 have hrq := hMq.rts
 refine vc_seq_k fun N50 h50 => ?_
 refine vc_seq_k fun N51 h51 => ?_
 refine u_reg ?_
 try refine lg_mk ?_
 refine u_mv (hq := by exact sq_) ?_
 refine u_bn (hq := by exact sq_) ?_
 refine lg_nil ?_
 refine h51 _ ?_; clear h51; try clear N51
 refine u_cond (fun hb52 => ?_) (fun hb52 => ?_)
 have hop0 : 0 < op := by have := hb52; (try simp at this); omega
 rw [if_pos hop0] at hv
 have hil1 : i < t.length := by
  rcases Nat.lt_or_ge i t.length with h | h
  ·exact h
  ·exfalso
   have hz0 : t.getD i 0 = 0 := by rw [List.getD_eq_getElem?_getD, List.getElem?_eq_none (by omega)]; rfl
   unfold opS at hop
   rw [hz0, if_neg (by decide), if_neg (by decide), if_pos (.inl (by omega))] at hop
   have := Option.some.inj hop; omega
 refine vc_seq_k fun N53 h53 => ?_
 refine u_reg ?_
 try refine lg_mk ?_
 iterate 2 refine u_mv (hq := by exact sq_) ?_
 refine u_nl (hq := by exact sq_) ?_
 refine u_pt (hq := by exact sq_) ?_
 refine u_ld (hq := by exact sq_) ?_
 refine u_mv (hq := by exact sq_) ?_
 refine u_bs (hq := by exact sq_) ?_
 refine u_ap (hq := by exact sq_) ?_
 refine u_nl (hq := by exact sq_) ?_
 refine u_pt (hq := by exact sq_) ?_
 refine u_st (hq := by exact sq_) ?_
 refine lg_nil ?_
 refine h53 _ ?_; clear h53; try clear N53
 refine u_reg ?_
 try refine lg_mk ?_
 refine u_mv (hq := by exact sq_) ?_
 refine lg_nil ?_
 refine h50 _ ?_; clear h50; try clear N50
 refine u_reg ?_
 try refine lg_mk ?_
 refine u_mv (hq := by exact sq_) ?_
 refine u_bn (hq := by exact sq_) ?_
 refine u_mv (hq := by exact sq_) ?_
 refine lg_nil ?_
 refine h10 _ ⟨(i + 1, pshS q op, true), ?_, ?_, [some 0, some 1, some 2, some 3, some 4, some 7], ?_⟩
 dsimp only
 exact ⟨hv, hMq.pushb (by omega) (by omega), by omega⟩
 dsimp only
 omega
 dsimp only
 refine ⟨by rfl, ?_, ?_⟩
 refine fin_ ?_
 ·(repeat' apply And.intro) <;> exact sbt_
 refine fin_ ?_
 ·(repeat' apply And.intro) <;> exact sbt_
 obtain rfl : op = 0 := by have := hb52; (try simp at this); omega
 rw [if_neg (by omega)] at hv
 have h0c := opS_0 hop
 refine vc_seq_k fun N54 h54 => ?_
 obtain ⟨ns, rs, ops⟩ := q
 rcases (show ops = [] ∨ ∃ l k, ops = l ++ [k] by by_cases h : ops = []; exact .inl h; exact .inr (snoc_of h)) with rfl | ⟨l, k, rfl⟩ <;> cases e
 have hne : i ≠ t.length := of_decide_eq_false hed.symm
 have f2 : ((([] : List Int).length : Int) = 0) = True := eq_true rfl
 rw [decide_eq_false hne, if_pos (by simp)] at hv
 have hx := And.intro @f2 hx0
 refine u_reg ?_
 try refine lg_mk ?_
 iterate 2 refine u_mv (hq := by exact sq_) ?_
 refine u_nl (hq := by exact sq_) ?_
 refine u_pt (hq := by exact sq_) ?_
 refine u_ld (hq := by exact sq_) ?_
 refine u_ln (hq := by exact sq_) ?_
 iterate 2 refine u_bn (hq := by exact sq_) ?_
 refine lg_nil ?_
 have hx := hx0
 refine h54 _ ?_; clear h54; try clear N54
 refine u_cond (fun hb55 => ?_) (fun hb55 => ?_)
 refine vc_seq_k fun N56 h56 => ?_
 refine u_reg ?_
 try refine lg_mk ?_
 refine u_bd (hq := by exact sq_) ?_
 refine u_mv (hq := by exact sq_) ?_
 have hc := call_rule (E := (E_redr.at_ 244)) (f := 21) (sp := Spec.pure faultG) rfl
 have hs := @faultG.eq_1
 refine u_cp (hq := by exact sq_) ?_
 iterate 2 refine u_st (hq := by exact sq_) ?_
 refine lg_nil ?_
 refine h56 _ ?_; clear h56; try clear N56
 refine vc_ret ?_
 try simp only [k_rules]
 have hr : parX t = .error (1, (i : Nat)) := by rw [← hzp, hv]; rfl
 rw [nsX_e hr, hr]
 try simp only [eC_e, eK_e]
 refine fin2_ ?_
 exact cl_
 ·first | omega | exact absurd trivial hb55 | contradiction | (simp_all; done)
 have hne : i = t.length := of_decide_eq_true hed.symm
 have f2 : ((([] : List Int).length : Int) = 0) = True := eq_true rfl
 rw [decide_eq_true hne, if_neg (by simp), if_pos hne] at hv
 have hx := And.intro @f2 hx0
 refine u_reg ?_
 try refine lg_mk ?_
 iterate 2 refine u_mv (hq := by exact sq_) ?_
 refine u_nl (hq := by exact sq_) ?_
 refine u_pt (hq := by exact sq_) ?_
 refine u_ld (hq := by exact sq_) ?_
 refine u_ln (hq := by exact sq_) ?_
 iterate 2 refine u_bn (hq := by exact sq_) ?_
 refine lg_nil ?_
 have hx := hx0
 refine h54 _ ?_; clear h54; try clear N54
 refine u_cond (fun hb57 => ?_) (fun hb57 => ?_)
 ·first | omega | exact absurd trivial hb57 | contradiction | (simp_all; done)
 refine vc_seq_k fun N58 h58 => ?_
 refine u_reg ?_
 try refine lg_mk ?_
 refine u_mv (hq := by exact sq_) ?_
 refine u_un (hq := by exact sq_) ?_
 refine lg_nil ?_
 refine h58 _ ?_; clear h58; try clear N58
 refine u_cond (fun hb59 => ?_) (fun hb59 => ?_)
 ·first | omega | exact absurd trivial hb59 | contradiction | (simp_all; done)
 refine vc_skip ?_
 try simp only [k_rules]
 refine h50 _ ?_; clear h50; try clear N50
 refine u_reg ?_
 try refine lg_mk ?_
 refine u_mv (hq := by exact sq_) ?_
 refine u_bn (hq := by exact sq_) ?_
 refine u_mv (hq := by exact sq_) ?_
 refine lg_nil ?_
 refine h10 _ ⟨(i + 1, ⟨ns, rs, []⟩, false), ?_, ?_, [some 0, some 1, some 2, some 3, some 4, some 5], ?_⟩
 dsimp only
 exact ⟨hv, hMq.le (by omega), by omega⟩
 dsimp only
 omega
 dsimp only
 refine ⟨by rfl, ?_, ?_⟩
 refine fin_ ?_
 ·(repeat' apply And.intro) <;> exact sbt_
 refine fin_ ?_
 ·(repeat' apply And.intro) <;> exact sbt_
 have hne : i ≠ t.length := of_decide_eq_false hed.symm
 have hll : (l ++ [k]).length = l.length + 1 := by simp
 have hi1 : (((l.length + 1 : Nat) : Int) - 1).toNat = l.length := by omega
 have hk0 : (l ++ [k])[l.length]? = some k := by simp
 have hdl : List.take l.length (l ++ [k]) = l := List.take_left
 have f0 : (0 < ((l.length + 1 : Nat) : Int)) = True := eq_true (by omega)
 have hlb : l.length ≤ 1000 := by have h9 := hcq; dsimp only at h9; rw [hll] at h9; omega
 have f2 : (((l ++ [k]).length : Int) = 0) = False := eq_false (by rw [hll]; omega)
 rw [decide_eq_false hne, if_neg (by simp), if_neg hne] at hv
 have hlk := rdB_last hrb
 have hx := And.intro @f2 hx0
 refine u_reg ?_
 try refine lg_mk ?_
 iterate 2 refine u_mv (hq := by exact sq_) ?_
 refine u_nl (hq := by exact sq_) ?_
 refine u_pt (hq := by exact sq_) ?_
 refine u_ld (hq := by exact sq_) ?_
 refine u_ln (hq := by exact sq_) ?_
 iterate 2 refine u_bn (hq := by exact sq_) ?_
 refine lg_nil ?_
 have hx := hx0
 refine h54 _ ?_; clear h54; try clear N54
 refine u_cond (fun hb60 => ?_) (fun hb60 => ?_)
 ·first | omega | exact absurd trivial hb60 | contradiction | (simp_all; done)
 refine vc_seq_k fun N61 h61 => ?_
 refine u_reg ?_
 try refine lg_mk ?_
 refine u_mv (hq := by exact sq_) ?_
 refine u_un (hq := by exact sq_) ?_
 refine lg_nil ?_
 refine h61 _ ?_; clear h61; try clear N61
 refine u_cond (fun hb62 => ?_) (fun hb62 => ?_)
 try dsimp only
 rw [hll]
 have hx := And.intro @hi1 (And.intro @hdl hx0)
 refine u_reg ?_
 try refine lg_mk ?_
 iterate 2 refine u_mv (hq := by exact sq_) ?_
 refine u_nl (hq := by exact sq_) ?_
 refine u_pt (hq := by exact sq_) ?_
 refine u_ld (hq := by exact sq_) ?_
 refine u_mv (hq := by exact sq_) ?_
 refine u_nl (hq := by exact sq_) ?_
 refine u_pt (hq := by exact sq_) ?_
 refine u_ld (hq := by exact sq_) ?_
 refine u_ln (hq := by exact sq_) ?_
 refine u_bn (hq := by exact sq_) ?_
 refine u_sl (hq := by exact sq_) ?_
 refine u_nl (hq := by exact sq_) ?_
 refine u_pt (hq := by exact sq_) ?_
 refine u_st (hq := by exact sq_) ?_
 refine lg_nil ?_
 have hx := hx0
 refine h50 _ ?_; clear h50; try clear N50
 refine vc_shortL 5 l.length rfl ?_
 simp only [updL, List.set, rows_take, hdl]
 refine u_reg ?_
 try refine lg_mk ?_
 refine u_mv (hq := by exact sq_) ?_
 refine u_bn (hq := by exact sq_) ?_
 refine u_mv (hq := by exact sq_) ?_
 refine lg_nil ?_
 refine h10 _ ⟨(i + 1, popS ⟨ns, rs, l ++ [k]⟩, false), ?_, ?_, [some 0, some 1, some 2, some 3, some 4, some 5], ?_⟩
 dsimp only
 exact ⟨hv, (hMq.pop rfl hlk).le (by omega), by omega⟩
 dsimp only
 omega
 dsimp only
 refine ⟨by rfl, ?_, ?_⟩
 refine fin_ ?_
 ·(repeat' apply And.intro) <;> exact sbt_
 refine fin_ ?_
 ·(repeat' apply And.intro) <;> exact sbt_
 ·first | omega | exact absurd trivial hb62 | contradiction | (simp_all; done)
 have hne : i = t.length := of_decide_eq_true hed.symm
 have f2 : (((l ++ [k]).length : Int) = 0) = False := eq_false (by simp; omega)
 rw [decide_eq_true hne, if_pos (by simp)] at hv
 have hx := And.intro @f2 hx0
 refine u_reg ?_
 try refine lg_mk ?_
 iterate 2 refine u_mv (hq := by exact sq_) ?_
 refine u_nl (hq := by exact sq_) ?_
 refine u_pt (hq := by exact sq_) ?_
 refine u_ld (hq := by exact sq_) ?_
 refine u_ln (hq := by exact sq_) ?_
 iterate 2 refine u_bn (hq := by exact sq_) ?_
 refine lg_nil ?_
 have hx := hx0
 refine h54 _ ?_; clear h54; try clear N54
 refine u_cond (fun hb63 => ?_) (fun hb63 => ?_)
 refine vc_seq_k fun N64 h64 => ?_
 refine u_reg ?_
 try refine lg_mk ?_
 refine u_bd (hq := by exact sq_) ?_
 refine u_mv (hq := by exact sq_) ?_
 have hc := call_rule (E := (E_redr.at_ 244)) (f := 21) (sp := Spec.pure faultG) rfl
 have hs := @faultG.eq_1
 refine u_cp (hq := by exact sq_) ?_
 iterate 2 refine u_st (hq := by exact sq_) ?_
 refine lg_nil ?_
 refine h64 _ ?_; clear h64; try clear N64
 refine vc_ret ?_
 try simp only [k_rules]
 have hr : parX t = .error (1, (i : Nat)) := by rw [← hzp, hv]; rfl
 rw [nsX_e hr, hr]
 try simp only [eC_e, eK_e]
 refine fin2_ ?_
 exact cl_
 ·first | omega | exact absurd trivial hb63 | contradiction | (simp_all; done)
 intro N49 h49
 refine vc_block ?_
 refine vc_loop_mk (σ := Ms) (fun s => (fun q => rdyS op q = rdyS op m ∧ okMs i q false) s)
  (fun s => (fun q => [(0, .d (.str t)), (2, .ptr 0 0 0), (3, .ptr 1 0 0), (4, .ptr 2 0 0), (5, .d (.bool false)), (6, .d (.int .i64 (i : Nat))), (8, .d (.bool e)), (12, .d (.int .i64 op))]) s)
  (fun s => (fun q => [some (.one 25 [.d .nils]), some (.one 29 [.d (.int .i64 0), .d (.int .i64 0)]), rgB (.sl 3 0 q.ns.length) (.sl 4 0 q.rs.length) (.sl 5 0 q.ops.length), nsB q, ilB q.rs, ilB q.ops]) s) (fun s => (fun q => q.ops.length) s) hnp m ?_ [some 0, some 1, some 2, some 3, some 4, some 5] ?_ ?_
 dsimp only
 exact ⟨rfl, hM⟩
 dsimp only
 refine ⟨by rfl, ?_, ?_⟩
 refine fin_ ?_
 exact cl_
 refine fin_ ?_
 exact cl_
 rintro q hinv N65 h65
 dsimp only at hinv ⊢
 obtain ⟨j1, j2⟩ := hinv
 have hcq := j2.cnt
 refine vc_seq_k fun N66 h66 => ?_
 refine vc_seq_k fun N67 h67 => ?_
 obtain ⟨ns, rs, ops⟩ := q
 rcases q_cases ops op with rfl | ⟨l, k, rfl, g1⟩ | ⟨l, k, rfl, g1, g2⟩ | ⟨l, k, rfl, g1, g2, g3⟩ | ⟨l, k, rfl, g1, g2, g3⟩
 have f0 : (0 < ((([] : List Int).length : Nat) : Int)) = False := eq_false (by simp)
 have f1 := True.intro
 have f2 := True.intro
 have f3 := True.intro
 have hi1 := True.intro
 have hk0 := True.intro
 have hx := And.intro @f0 (And.intro @f1 (And.intro @f2 (And.intro @f3 (And.intro @hi1 (And.intro @hk0 (And.intro @eI.eq_1 hx0))))))
 refine vc_regO [46] [0, 1, 2, 3, 4, 5, 6, 7, 8, 9, 10, 11, 12, 13, 14, 15, 16, 17, 18, 19, 20, 21, 22, 23, 24, 25, 26, 27, 28, 29, 30, 31, 32, 33, 34, 35, 36, 37, 39, 38, 40, 41, 42, 43] hmix (by kernel_rfl) ?_
 simp only [pick_rules, list_rules]
 try refine lg_mk ?_
 refine u_mv (hq := by exact sq_) ?_
 refine u_nl (hq := by exact sq_) ?_
 refine u_pt (hq := by exact sq_) ?_
 refine u_ld (hq := by exact sq_) ?_
 refine u_ln (hq := by exact sq_) ?_
 refine u_bn (hq := by exact sq_) ?_
 refine u_mv (hq := by exact sq_) ?_
 refine lg_g0 ?_ ?_
 focus (exact gt_)
 refine lg_g0 ?_ ?_
 focus (exact gt_)
 refine lg_g0 ?_ ?_
 focus (exact gt_)
 refine lg_g0 ?_ ?_
 focus (exact gt_)
 refine lg_g0 ?_ ?_
 focus (exact gt_)
 refine lg_g0 ?_ ?_
 focus (exact gt_)
 refine lg_g0 ?_ ?_
 focus (exact gt_)
 refine lg_g0 ?_ ?_
 focus (exact gt_)
 refine lg_g0 ?_ ?_
 focus (exact gt_)
 refine lg_g0 ?_ ?_
 focus (exact gt_)
 refine lg_g0 ?_ ?_
 focus (exact gt_)
 refine lg_g0 ?_ ?_
 focus (exact gt_)
 refine lg_g0 ?_ ?_
 focus (exact gt_)
 refine lg_g0 ?_ ?_
 focus (exact gt_)
 refine u_pk (hq := by exact sq_) ?_
 refine u_mv (hq := by exact sq_) ?_
 refine lg_g0 ?_ ?_
 focus (exact gt_)
 refine lg_g0 ?_ ?_
 focus (exact gt_)
 refine lg_g0 ?_ ?_
 focus (exact gt_)
 refine lg_g0 ?_ ?_
 focus (exact gt_)
 refine lg_g0 ?_ ?_
 focus (exact gt_)
 refine lg_g0 ?_ ?_
 focus (exact gt_)
 refine lg_g0 ?_ ?_
 focus (exact gt_)
 refine lg_g0 ?_ ?_
 focus (exact gt_)
 refine lg_g0 ?_ ?_
 focus (exact gt_)
 refine lg_g0 ?_ ?_
 focus (exact gt_)
 refine lg_g0 ?_ ?_
 focus (exact gt_)
 refine lg_g0 ?_ ?_
 focus (exact gt_)
 refine lg_g0 ?_ ?_
 focus (exact gt_)
 refine lg_g0 ?_ ?_
 focus (exact gt_)
 refine lg_g0 ?_ ?_
 focus (exact gt_)
 refine lg_g0 ?_ ?_
 focus (exact gt_)
 refine lg_g0 ?_ ?_
 focus (exact gt_)
 refine lg_g0 ?_ ?_
 focus (exact gt_)
 refine lg_g0 ?_ ?_
 focus (exact gt_)
 refine lg_g0 ?_ ?_
 focus (exact gt_)
 refine u_pk (hq := by exact sq_) ?_
 refine lg_nil ?_
 have hx := hx0
 refine h67 _ ?_; clear h67; try clear N67
 refine u_cond (fun hb68 => ?_) (fun hb68 => ?_)
 ·first | omega | exact absurd trivial hb68 | contradiction | (simp_all; done)
 refine vc_exit ?_
 simp only [k_rules, Nat.reduceEqDiff, reduceIte, eq_self]
 refine h49 _ ⟨⟨ns, rs, []⟩, ?_, [some 0, some 1, some 2, some 3, some 4, some 5], ?_⟩
 dsimp only
 exact ⟨by rw [← j1]; exact rdyS_no rfl, j2, rfl⟩
 dsimp only
 refine ⟨by rfl, ?_, ?_⟩
 refine fin_ ?_
 exact cl_
 refine fin_ ?_
 exact cl_
 have hll : (l ++ [k]).length = l.length + 1 := by simp
 have hi1 : (((l.length + 1 : Nat) : Int) - 1).toNat = l.length := by omega
 have hk0 : (l ++ [k])[l.length]? = some k := by simp
 have hdl : List.take l.length (l ++ [k]) = l := List.take_left
 have f0 : (0 < ((l.length + 1 : Nat) : Int)) = True := eq_true (by omega)
 have hlb : l.length ≤ 1000 := by have h9 := hcq; dsimp only at h9; rw [hll] at h9; omega
 try dsimp only
 rw [hll]
 have f1 : (0 ≤ sbi k) = False := eq_false (by omega)
 have f2 := True.intro
 have f3 := True.intro
 have hx := And.intro @f0 (And.intro @f1 (And.intro @f2 (And.intro @f3 (And.intro @hi1 (And.intro @hk0 (And.intro @eI.eq_1 hx0))))))
 refine vc_regO [46] [0, 1, 2, 3, 4, 5, 6, 7, 8, 9, 10, 11, 12, 13, 14, 15, 16, 17, 18, 19, 20, 21, 22, 23, 24, 25, 26, 27, 28, 29, 30, 31, 32, 33, 34, 35, 36, 37, 39, 38, 40, 41, 42, 43] hmix (by kernel_rfl) ?_
 simp only [pick_rules, list_rules]
 try refine lg_mk ?_
 refine u_mv (hq := by exact sq_) ?_
 refine u_nl (hq := by exact sq_) ?_
 refine u_pt (hq := by exact sq_) ?_
 refine u_ld (hq := by exact sq_) ?_
 refine u_ln (hq := by exact sq_) ?_
 refine u_bn (hq := by exact sq_) ?_
 refine u_mv (hq := by exact sq_) ?_
 refine v_mv (hq := by exact sq_) ?_
 refine v_nl (hq := by exact sq_) ?_
 refine v_pt (hq := by exact sq_) ?_
 refine v_ld (hq := by exact sq_) ?_
 refine v_mv (hq := by exact sq_) ?_
 refine v_nl (hq := by exact sq_) ?_
 refine v_pt (hq := by exact sq_) ?_
 refine v_ld (hq := by exact sq_) ?_
 refine v_ln (hq := by exact sq_) ?_
 refine v_bn (hq := by exact sq_) ?_
 refine v_pt (hq := by exact sq_) ?_
 refine v_ld (hq := by exact sq_) ?_
 have hc := call_rule (E := (E_redr.at_ 244)) (f := 46) (sp := Spec.pure sbiG) rfl
 have hs := @sbiG.eq_1
 refine v_cp (hq := by exact sq_) ?_
 refine v_bn (hq := by exact sq_) ?_
 refine u_pk (hq := by exact sq_) ?_
 refine u_mv (hq := by exact sq_) ?_
 refine lg_g0 ?_ ?_
 focus (exact gt_)
 refine lg_g0 ?_ ?_
 focus (exact gt_)
 refine lg_g0 ?_ ?_
 focus (exact gt_)
 refine lg_g0 ?_ ?_
 focus (exact gt_)
 refine lg_g0 ?_ ?_
 focus (exact gt_)
 refine lg_g0 ?_ ?_
 focus (exact gt_)
 refine lg_g0 ?_ ?_
 focus (exact gt_)
 refine lg_g0 ?_ ?_
 focus (exact gt_)
 refine lg_g0 ?_ ?_
 focus (exact gt_)
 refine lg_g0 ?_ ?_
 focus (exact gt_)
 refine lg_g0 ?_ ?_
 focus (exact gt_)
 refine lg_g0 ?_ ?_
 focus (exact gt_)
 refine lg_g0 ?_ ?_
 focus (exact gt_)
 refine lg_g0 ?_ ?_
 focus (exact gt_)
 refine lg_g0 ?_ ?_
 focus (exact gt_)
 refine lg_g0 ?_ ?_
 focus (exact gt_)
 refine lg_g0 ?_ ?_
 focus (exact gt_)
 refine lg_g0 ?_ ?_
 focus (exact gt_)
 refine lg_g0 ?_ ?_
 focus (exact gt_)
 refine lg_g0 ?_ ?_
 focus (exact gt_)
 refine u_pk (hq := by exact sq_) ?_
 refine lg_nil ?_
 have hx := hx0
 refine h67 _ ?_; clear h67; try clear N67
 refine u_cond (fun hb69 => ?_) (fun hb69 => ?_)
 ·first | omega | exact absurd trivial hb69 | contradiction | (simp_all; done)
 refine vc_exit ?_
 simp only [k_rules, Nat.reduceEqDiff, reduceIte, eq_self]
 refine h49 _ ⟨⟨ns, rs, l ++ [k]⟩, ?_, [some 0, some 1, some 2, some 3, some 4, some 5], ?_⟩
 dsimp only
 have hb0 : rdB op ⟨ns, rs, l ++ [k]⟩ = false := by rw [rdB_of, decide_eq_false (p := 0 ≤ sbi k) (by omega)]; rfl
 exact ⟨by rw [← j1]; exact rdyS_no hb0, j2, hb0⟩
 dsimp only
 refine ⟨by rfl, ?_, ?_⟩
 refine fin_ ?_
 exact cl_
 refine fin_ ?_
 exact cl_
 have hll : (l ++ [k]).length = l.length + 1 := by simp
 have hi1 : (((l.length + 1 : Nat) : Int) - 1).toNat = l.length := by omega
 have hk0 : (l ++ [k])[l.length]? = some k := by simp
 have hdl : List.take l.length (l ++ [k]) = l := List.take_left
 have f0 : (0 < ((l.length + 1 : Nat) : Int)) = True := eq_true (by omega)
 have hlb : l.length ≤ 1000 := by have h9 := hcq; dsimp only at h9; rw [hll] at h9; omega
 try dsimp only
 rw [hll]
 have f1 : (0 ≤ sbi k) = True := eq_true (by omega)
 have f2 : (op = 0) = True := eq_true (by omega)
 have f3 := True.intro
 have hx := And.intro @f0 (And.intro @f1 (And.intro @f2 (And.intro @f3 (And.intro @hi1 (And.intro @hk0 (And.intro @eI.eq_1 hx0))))))
 refine vc_regO [46] [0, 1, 2, 3, 4, 5, 6, 7, 8, 9, 10, 11, 12, 13, 14, 15, 16, 17, 18, 19, 20, 21, 22, 23, 24, 25, 26, 27, 28, 29, 30, 31, 32, 33, 34, 35, 36, 37, 39, 38, 40, 41, 42, 43] hmix (by kernel_rfl) ?_
 simp only [pick_rules, list_rules]
 try refine lg_mk ?_
 refine u_mv (hq := by exact sq_) ?_
 refine u_nl (hq := by exact sq_) ?_
 refine u_pt (hq := by exact sq_) ?_
 refine u_ld (hq := by exact sq_) ?_
 refine u_ln (hq := by exact sq_) ?_
 refine u_bn (hq := by exact sq_) ?_
 refine u_mv (hq := by exact sq_) ?_
 refine v_mv (hq := by exact sq_) ?_
 refine v_nl (hq := by exact sq_) ?_
 refine v_pt (hq := by exact sq_) ?_
 refine v_ld (hq := by exact sq_) ?_
 refine v_mv (hq := by exact sq_) ?_
 refine v_nl (hq := by exact sq_) ?_
 refine v_pt (hq := by exact sq_) ?_
 refine v_ld (hq := by exact sq_) ?_
 refine v_ln (hq := by exact sq_) ?_
 refine v_bn (hq := by exact sq_) ?_
 refine v_pt (hq := by exact sq_) ?_
 refine v_ld (hq := by exact sq_) ?_
 have hc := call_rule (E := (E_redr.at_ 244)) (f := 46) (sp := Spec.pure sbiG) rfl
 have hs := @sbiG.eq_1
 refine v_cp (hq := by exact sq_) ?_
 refine v_bn (hq := by exact sq_) ?_
 refine u_pk (hq := by exact sq_) ?_
 refine u_mv (hq := by exact sq_) ?_
 refine v_mv (hq := by exact sq_) ?_
 refine v_bn (hq := by exact sq_) ?_
 refine v_mv (hq := by exact sq_) ?_
 refine lg_g0 ?_ ?_
 focus (exact gt_)
 refine lg_g0 ?_ ?_
 focus (exact gt_)
 refine lg_g0 ?_ ?_
 focus (exact gt_)
 refine lg_g0 ?_ ?_
 focus (exact gt_)
 refine lg_g0 ?_ ?_
 focus (exact gt_)
 refine lg_g0 ?_ ?_
 focus (exact gt_)
 refine lg_g0 ?_ ?_
 focus (exact gt_)
 refine lg_g0 ?_ ?_
 focus (exact gt_)
 refine lg_g0 ?_ ?_
 focus (exact gt_)
 refine lg_g0 ?_ ?_
 focus (exact gt_)
 refine lg_g0 ?_ ?_
 focus (exact gt_)
 refine lg_g0 ?_ ?_
 focus (exact gt_)
 refine lg_g0 ?_ ?_
 focus (exact gt_)
 refine lg_g0 ?_ ?_
 focus (exact gt_)
 refine lg_g0 ?_ ?_
 focus (exact gt_)
 refine lg_g0 ?_ ?_
 focus (exact gt_)
 refine v_pk (hq := by exact sq_) ?_
 refine u_pk (hq := by exact sq_) ?_
 refine lg_nil ?_
 have hx := hx0
 refine h67 _ ?_; clear h67; try clear N67
 refine u_cond (fun hb70 => ?_) (fun hb70 => ?_)
 refine vc_skip ?_
 try simp only [k_rules]
 refine h66 _ ?_; clear h66; try clear N66
 refine vc_block ?_
 have hx := And.intro @mcB_rows hx0
 refine u_reg ?_
 try refine lg_mk ?_
 refine u_mv (hq := by exact sq_) ?_
 have hc := call_rule (E := (E_redr.at_ 244)) (f := 47) (sp := Spec.gen redG) rfl
 have hs := @redG.eq_1
 refine u_hg (hq := by (first | (exact ⟨preR_ok (by simp), (j2.red (by omega) rfl g1).1⟩) | exact sd_)) ?_
 refine lg_nil ?_
 have hx := hx0
 refine h65 _ ⟨rdM ⟨ns, rs, l ++ [k]⟩, ?_, ?_, [some 0, some 1, some 2, some 6, some 7, some 5], ?_⟩
 dsimp only
 exact ⟨(rdy_yes (by rw [rdB_of, decide_eq_true g1, decide_eq_true g2]; rfl)).symm.trans j1, (j2.red (by omega) rfl g1).2⟩
 dsimp only
 show (rdM ⟨ns, rs, l ++ [k]⟩).ops.length < (l ++ [k]).length; rw [red_gen, List.length_append]; exact Nat.lt_succ_self _
 dsimp only
 refine ⟨by rfl, ?_, ?_⟩
 refine fin_ ?_
 exact cl_
 refine fin_ ?_
 exact cl_
 ·first | omega | exact absurd trivial hb70 | contradiction | (simp_all; done)
 have hll : (l ++ [k]).length = l.length + 1 := by simp
 have hi1 : (((l.length + 1 : Nat) : Int) - 1).toNat = l.length := by omega
 have hk0 : (l ++ [k])[l.length]? = some k := by simp
 have hdl : List.take l.length (l ++ [k]) = l := List.take_left
 have f0 : (0 < ((l.length + 1 : Nat) : Int)) = True := eq_true (by omega)
 have hlb : l.length ≤ 1000 := by have h9 := hcq; dsimp only at h9; rw [hll] at h9; omega
 try dsimp only
 rw [hll]
 have f1 : (0 ≤ sbi k) = True := eq_true (by omega)
 have f2 : (op = 0) = False := eq_false (by omega)
 have f3 : (sbi op ≤ sbi k) = True := eq_true (by omega)
 have hx := And.intro @f0 (And.intro @f1 (And.intro @f2 (And.intro @f3 (And.intro @hi1 (And.intro @hk0 (And.intro @eI.eq_1 hx0))))))
 refine vc_regO [46] [0, 1, 2, 3, 4, 5, 6, 7, 8, 9, 10, 11, 12, 13, 14, 15, 16, 17, 18, 19, 20, 21, 22, 23, 24, 25, 26, 27, 28, 29, 30, 31, 32, 33, 34, 35, 36, 37, 39, 38, 40, 41, 42, 43] hmix (by kernel_rfl) ?_
 simp only [pick_rules, list_rules]
 try refine lg_mk ?_
 refine u_mv (hq := by exact sq_) ?_
 refine u_nl (hq := by exact sq_) ?_
 refine u_pt (hq := by exact sq_) ?_
 refine u_ld (hq := by exact sq_) ?_
 refine u_ln (hq := by exact sq_) ?_
 refine u_bn (hq := by exact sq_) ?_
 refine u_mv (hq := by exact sq_) ?_
 refine v_mv (hq := by exact sq_) ?_
 refine v_nl (hq := by exact sq_) ?_
 refine v_pt (hq := by exact sq_) ?_
 refine v_ld (hq := by exact sq_) ?_
 refine v_mv (hq := by exact sq_) ?_
 refine v_nl (hq := by exact sq_) ?_
 refine v_pt (hq := by exact sq_) ?_
 refine v_ld (hq := by exact sq_) ?_
 refine v_ln (hq := by exact sq_) ?_
 refine v_bn (hq := by exact sq_) ?_
 refine v_pt (hq := by exact sq_) ?_
 refine v_ld (hq := by exact sq_) ?_
 have hc := call_rule (E := (E_redr.at_ 244)) (f := 46) (sp := Spec.pure sbiG) rfl
 have hs := @sbiG.eq_1
 refine v_cp (hq := by exact sq_) ?_
 refine v_bn (hq := by exact sq_) ?_
 refine u_pk (hq := by exact sq_) ?_
 refine u_mv (hq := by exact sq_) ?_
 refine v_mv (hq := by exact sq_) ?_
 refine v_bn (hq := by exact sq_) ?_
 iterate 2 refine v_mv (hq := by exact sq_) ?_
 refine v_nl (hq := by exact sq_) ?_
 refine v_pt (hq := by exact sq_) ?_
 refine v_ld (hq := by exact sq_) ?_
 refine v_mv (hq := by exact sq_) ?_
 refine v_nl (hq := by exact sq_) ?_
 refine v_pt (hq := by exact sq_) ?_
 refine v_ld (hq := by exact sq_) ?_
 refine v_ln (hq := by exact sq_) ?_
 refine v_bn (hq := by exact sq_) ?_
 refine v_pt (hq := by exact sq_) ?_
 refine v_ld (hq := by exact sq_) ?_
 refine v_mv (hq := by exact sq_) ?_
 have hc := call_rule (E := (E_redr.at_ 244)) (f := 46) (sp := Spec.pure sbiG) rfl
 have hs := @sbiG.eq_1
 refine v_cp (hq := by exact sq_) ?_
 have hc := call_rule (E := (E_redr.at_ 244)) (f := 46) (sp := Spec.pure sbiG) rfl
 have hs := @sbiG.eq_1
 refine v_cp (hq := by exact sq_) ?_
 refine v_bn (hq := by exact sq_) ?_
 refine v_pk (hq := by exact sq_) ?_
 refine u_pk (hq := by exact sq_) ?_
 refine lg_nil ?_
 have hx := hx0
 refine h67 _ ?_; clear h67; try clear N67
 refine u_cond (fun hb71 => ?_) (fun hb71 => ?_)
 refine vc_skip ?_
 try simp only [k_rules]
 refine h66 _ ?_; clear h66; try clear N66
 refine vc_block ?_
 have hx := And.intro @mcB_rows hx0
 refine u_reg ?_
 try refine lg_mk ?_
 refine u_mv (hq := by exact sq_) ?_
 have hc := call_rule (E := (E_redr.at_ 244)) (f := 47) (sp := Spec.gen redG) rfl
 have hs := @redG.eq_1
 refine u_hg (hq := by (first | (exact ⟨preR_ok (by simp), (j2.red (by omega) rfl g1).1⟩) | exact sd_)) ?_
 refine lg_nil ?_
 have hx := hx0
 refine h65 _ ⟨rdM ⟨ns, rs, l ++ [k]⟩, ?_, ?_, [some 0, some 1, some 2, some 6, some 7, some 5], ?_⟩
 dsimp only
 exact ⟨(rdy_yes (by rw [rdB_of, decide_eq_true g1, decide_eq_true g3]; simp)).symm.trans j1, (j2.red (by omega) rfl g1).2⟩
 dsimp only
 show (rdM ⟨ns, rs, l ++ [k]⟩).ops.length < (l ++ [k]).length; rw [red_gen, List.length_append]; exact Nat.lt_succ_self _
 dsimp only
 refine ⟨by rfl, ?_, ?_⟩
 refine fin_ ?_
 exact cl_
 refine fin_ ?_
 exact cl_
 ·first | omega | exact absurd trivial hb71 | contradiction | (simp_all; done)
 have hll : (l ++ [k]).length = l.length + 1 := by simp
 have hi1 : (((l.length + 1 : Nat) : Int) - 1).toNat = l.length := by omega
 have hk0 : (l ++ [k])[l.length]? = some k := by simp
 have hdl : List.take l.length (l ++ [k]) = l := List.take_left
 have f0 : (0 < ((l.length + 1 : Nat) : Int)) = True := eq_true (by omega)
 have hlb : l.length ≤ 1000 := by have h9 := hcq; dsimp only at h9; rw [hll] at h9; omega
 try dsimp only
 rw [hll]
 have f1 : (0 ≤ sbi k) = True := eq_true (by omega)
 have f2 : (op = 0) = False := eq_false (by omega)
 have f3 : (sbi op ≤ sbi k) = False := eq_false (by omega)
 have hx := And.intro @f0 (And.intro @f1 (And.intro @f2 (And.intro @f3 (And.intro @hi1 (And.intro @hk0 (And.intro @eI.eq_1 hx0))))))
 refine vc_regO [46] [0, 1, 2, 3, 4, 5, 6, 7, 8, 9, 10, 11, 12, 13, 14, 15, 16, 17, 18, 19, 20, 21, 22, 23, 24, 25, 26, 27, 28, 29, 30, 31, 32, 33, 34, 35, 36, 37, 39, 38, 40, 41, 42, 43] hmix (by kernel_rfl) ?_
 simp only [pick_rules, list_rules]
 try refine lg_mk ?_
 refine u_mv (hq := by exact sq_) ?_
 refine u_nl (hq := by exact sq_) ?_
 refine u_pt (hq := by exact sq_) ?_
 refine u_ld (hq := by exact sq_) ?_
 refine u_ln (hq := by exact sq_) ?_
 refine u_bn (hq := by exact sq_) ?_
 refine u_mv (hq := by exact sq_) ?_
 refine v_mv (hq := by exact sq_) ?_
 refine v_nl (hq := by exact sq_) ?_
 refine v_pt (hq := by exact sq_) ?_
 refine v_ld (hq := by exact sq_) ?_
 refine v_mv (hq := by exact sq_) ?_
 refine v_nl (hq := by exact sq_) ?_
 refine v_pt (hq := by exact sq_) ?_
 refine v_ld (hq := by exact sq_) ?_
 refine v_ln (hq := by exact sq_) ?_
 refine v_bn (hq := by exact sq_) ?_
 refine v_pt (hq := by exact sq_) ?_
 refine v_ld (hq := by exact sq_) ?_
 have hc := call_rule (E := (E_redr.at_ 244)) (f := 46) (sp := Spec.pure sbiG) rfl
 have hs := @sbiG.eq_1
 refine v_cp (hq := by exact sq_) ?_
 refine v_bn (hq := by exact sq_) ?_
 refine u_pk (hq := by exact sq_) ?_
 refine u_mv (hq := by exact sq_) ?_
 refine v_mv (hq := by exact sq_) ?_
 refine v_bn (hq := by exact sq_) ?_
 iterate 2 refine v_mv (hq := by exact sq_) ?_
 refine v_nl (hq := by exact sq_) ?_
 refine v_pt (hq := by exact sq_) ?_
 refine v_ld (hq := by exact sq_) ?_
 refine v_mv (hq := by exact sq_) ?_
 refine v_nl (hq := by exact sq_) ?_
 refine v_pt (hq := by exact sq_) ?_
 refine v_ld (hq := by exact sq_) ?_
 refine v_ln (hq := by exact sq_) ?_
 refine v_bn (hq := by exact sq_) ?_
 refine v_pt (hq := by exact sq_) ?_
 refine v_ld (hq := by exact sq_) ?_
 refine v_mv (hq := by exact sq_) ?_
 have hc := call_rule (E := (E_redr.at_ 244)) (f := 46) (sp := Spec.pure sbiG) rfl
 have hs := @sbiG.eq_1
 refine v_cp (hq := by exact sq_) ?_
 have hc := call_rule (E := (E_redr.at_ 244)) (f := 46) (sp := Spec.pure sbiG) rfl
 have hs := @sbiG.eq_1
 refine v_cp (hq := by exact sq_) ?_
 refine v_bn (hq := by exact sq_) ?_
 refine v_pk (hq := by exact sq_) ?_
 refine u_pk (hq := by exact sq_) ?_
 refine lg_nil ?_
 have hx := hx0
 refine h67 _ ?_; clear h67; try clear N67
 refine u_cond (fun hb72 => ?_) (fun hb72 => ?_)
 ·first | omega | exact absurd trivial hb72 | contradiction | (simp_all; done)
 refine vc_exit ?_
 simp only [k_rules, Nat.reduceEqDiff, reduceIte, eq_self]
 refine h49 _ ⟨⟨ns, rs, l ++ [k]⟩, ?_, [some 0, some 1, some 2, some 3, some 4, some 5], ?_⟩
 dsimp only
 have hb0 : rdB op ⟨ns, rs, l ++ [k]⟩ = false := by rw [rdB_of, decide_eq_false g2, decide_eq_false (p := sbi op ≤ sbi k) (by omega)]; simp
 exact ⟨by rw [← j1]; exact rdyS_no hb0, j2, hb0⟩
 dsimp only
 refine ⟨by rfl, ?_, ?_⟩
 refine fin_ ?_
 exact cl_
 refine fin_ ?_
 exact cl_
 intro N48 h48
 refine vc_seq_k fun N73 h73 => ?_
 refine u_reg ?_
 try refine lg_mk ?_
 refine u_mv (hq := by exact sq_) ?_
 refine u_un (hq := by exact sq_) ?_
 refine u_mv (hq := by exact sq_) ?_
 refine s_mv (hq := by (intro hg; (try simp only [b_rules, bif_and, bif_or] at hg); exact sq_)) ?_
 refine s_bn (hq := by (intro hg; (try simp only [b_rules, bif_and, bif_or] at hg); exact sq_)) ?_
 refine u_pk (hq := by exact sq_) ?_
 refine lg_nil ?_
 refine h73 _ ?_; clear h73; try clear N73
 refine u_cond (fun hb74 => ?_) (fun hb74 => ?_)
 have hE : e = false ∧ c = 124 := by
  have h9 := hb74
  cases e
  ·refine ⟨rfl, ?_⟩
   ·first | exact UInt8.toNat_inj.1 (show c.toNat = 124 by (try simp at h9); omega) | (simpa using h9)
  ·simp at h9
 obtain ⟨rfl, hcv⟩ := hE
 refine u_reg ?_
 try refine lg_mk ?_
 refine u_mv (hq := by exact sq_) ?_
 refine lg_nil ?_
 refine h48 _ ⟨3, ?_, [some 0, some 1, some 2, some 3, some 4, some 5], ?_⟩
 dsimp only
 exact ⟨by unfold opS; rw [← hcd, if_pos hcv], by omega⟩
 dsimp only
 refine ⟨by rfl, ?_, ?_⟩
 refine fin_ ?_
 ·(repeat' apply And.intro) <;> exact sbt_
 refine fin_ ?_
 ·(repeat' apply And.intro) <;> exact sbt_
 have hN124 : c ≠ 124 := ce_no hcd hed (by decide) (by rintro ⟨h1, h2⟩; have h9 := hb74; simp [h1, h2] at h9)
 refine vc_seq_k fun N75 h75 => ?_
 refine u_reg ?_
 try refine lg_mk ?_
 refine u_mv (hq := by exact sq_) ?_
 refine u_un (hq := by exact sq_) ?_
 refine u_mv (hq := by exact sq_) ?_
 refine s_mv (hq := by (intro hg; (try simp only [b_rules, bif_and, bif_or] at hg); exact sq_)) ?_
 refine s_bn (hq := by (intro hg; (try simp only [b_rules, bif_and, bif_or] at hg); exact sq_)) ?_
 refine u_pk (hq := by exact sq_) ?_
 refine lg_nil ?_
 refine h75 _ ?_; clear h75; try clear N75
 refine u_cond (fun hb76 => ?_) (fun hb76 => ?_)
 have hE : e = false ∧ c = 38 := by
  have h9 := hb76
  cases e
  ·refine ⟨rfl, ?_⟩
   ·first | exact UInt8.toNat_inj.1 (show c.toNat = 38 by (try simp at h9); omega) | (simpa using h9)
  ·simp at h9
 obtain ⟨rfl, hcv⟩ := hE
 refine u_reg ?_
 try refine lg_mk ?_
 refine u_mv (hq := by exact sq_) ?_
 refine lg_nil ?_
 refine h48 _ ⟨2, ?_, [some 0, some 1, some 2, some 3, some 4, some 5], ?_⟩
 dsimp only
 exact ⟨by unfold opS; rw [← hcd, if_neg (by rw [hcv]; decide), if_pos hcv], by omega⟩
 dsimp only
 refine ⟨by rfl, ?_, ?_⟩
 refine fin_ ?_
 ·(repeat' apply And.intro) <;> exact sbt_
 refine fin_ ?_
 ·(repeat' apply And.intro) <;> exact sbt_
 have hN38 : c ≠ 38 := ce_no hcd hed (by decide) (by rintro ⟨h1, h2⟩; have h9 := hb76; simp [h1, h2] at h9)
 refine vc_seq_k fun N77 h77 => ?_
 refine u_reg ?_
 try refine lg_mk ?_
 refine u_mv (hq := by exact sq_) ?_
 refine u_un (hq := by exact sq_) ?_
 refine u_mv (hq := by exact sq_) ?_
 refine s_mv (hq := by (intro hg; (try simp only [b_rules, bif_and, bif_or] at hg); exact sq_)) ?_
 refine s_bn (hq := by (intro hg; (try simp only [b_rules, bif_and, bif_or] at hg); exact sq_)) ?_
 refine u_pk (hq := by exact sq_) ?_
 refine lg_nil ?_
 refine h77 _ ?_; clear h77; try clear N77
 refine u_cond (fun hb78 => ?_) (fun hb78 => ?_)
 have h41 : ¬(e = true ∨ c = 41) := by
  have h9 := hb78
  cases e
  ·rintro (h | h)
   ·cases h
   ·rw [h] at h9; simp at h9
  ·simp at h9
 have hv := inv_f0 hil h32 hR (by rw [opS_e hcd hed hN124 hN38]; exact if_neg h41)
 refine vc_seq_k fun N79 h79 => ?_
 refine u_reg ?_
 try refine lg_mk ?_
 refine u_bd (hq := by exact sq_) ?_
 refine u_mv (hq := by exact sq_) ?_
 have hc := call_rule (E := (E_redr.at_ 244)) (f := 21) (sp := Spec.pure faultG) rfl
 have hs := @faultG.eq_1
 refine u_cp (hq := by exact sq_) ?_
 iterate 2 refine u_st (hq := by exact sq_) ?_
 refine lg_nil ?_
 refine h79 _ ?_; clear h79; try clear N79
 refine vc_ret ?_
 try simp only [k_rules]
 have hr : parX t = .error (1, (i : Nat)) := by rw [← hzp, hv]; rfl
 rw [nsX_e hr, hr]
 try simp only [eC_e, eK_e]
 refine fin2_ ?_
 exact cl_
 have h41 : e = true ∨ c = 41 := by
  have h9 := hb78
  cases e
  ·exact .inr (by first | exact UInt8.toNat_inj.1 (show c.toNat = 41 by (try simp at h9); omega) | (simpa using h9))
  ·exact .inl rfl
 refine vc_skip ?_
 try simp only [k_rules]
 refine h48 _ ⟨0, ?_, [some 0, some 1, some 2, some 3, some 4, some 5], ?_⟩
 dsimp only
 exact ⟨by rw [opS_e hcd hed hN124 hN38]; exact if_pos h41, by omega⟩
 dsimp only
 refine ⟨by rfl, ?_, ?_⟩
 refine fin_ ?_
 ·(repeat' apply And.intro) <;> exact sbt_
 refine fin_ ?_
 ·(repeat' apply And.intro) <;> exact sbt_
 intro N16 h16
 refine vc_seq_k fun N80 h80 => ?_
 refine u_reg ?_
 try refine lg_mk ?_
 refine u_mv (hq := by exact sq_) ?_
 refine u_un (hq := by exact sq_) ?_
 refine lg_nil ?_
 refine h80 _ ?_; clear h80; try clear N80
 refine u_cond (fun hb81 => ?_) (fun hb81 => ?_)
 have hil1 : i < t.length := by have h9 := hb81; (try simp at h9); omega
 obtain ⟨c0, hc0⟩ := getE (l := t) (i := i) hil1
 have hgd : t.getD i 0 = c0 := by rw [List.getD_eq_getElem?_getD, hc0]; rfl
 have hx := And.intro @hc0 hx0
 refine u_reg ?_
 try refine lg_mk ?_
 iterate 2 refine u_mv (hq := by exact sq_) ?_
 refine u_pt (hq := by exact sq_) ?_
 refine u_mv (hq := by exact sq_) ?_
 refine lg_nil ?_
 have hx := hx0
 refine h16 _ ⟨(c0, decide (i = t.length)), ?_, [some 0, some 1, some 2, some 3, some 4, some 5], ?_⟩
 dsimp only
 exact ⟨hgd.symm, rfl⟩
 dsimp only
 refine ⟨by rfl, ?_, ?_⟩
 refine fin_ ?_
 ·(repeat' apply And.intro) <;> exact sbt_
 refine fin_ ?_
 ·(repeat' apply And.intro) <;> exact sbt_
 have hgd : t.getD i 0 = 0 := by rw [List.getD_eq_getElem?_getD, List.getElem?_eq_none (by have h9 := hb81; (try simp at h9); omega)]; rfl
 refine vc_skip ?_
 try simp only [k_rules]
 refine h16 _ ⟨(0, decide (i = t.length)), ?_, [some 0, some 1, some 2, some 3, some 4, some 5], ?_⟩
 dsimp only
 exact ⟨hgd.symm, rfl⟩
 dsimp only
 refine ⟨by rfl, ?_, ?_⟩
 refine fin_ ?_
 ·(repeat' apply And.intro) <;> exact sbt_
 refine fin_ ?_
 ·(repeat' apply And.intro) <;> exact sbt_
 have hilt : t.length < i := by have := hb13; omega
 have hv := inv_end hilt hR
 have hcnt := hM.cnt
 refine vc_exit ?_
 simp only [k_rules, Nat.reduceEqDiff, reduceIte, eq_self]
 refine h8 _ ?_; clear h8; try clear N8
 refine vc_seq_k fun N82 h82 => ?_
 refine vc_seq_k fun N83 h83 => ?_
 refine u_reg ?_
 try refine lg_mk ?_
 refine u_mv (hq := by exact sq_) ?_
 refine u_nl (hq := by exact sq_) ?_
 refine u_pt (hq := by exact sq_) ?_
 refine u_ld (hq := by exact sq_) ?_
 refine u_ln (hq := by exact sq_) ?_
 refine u_bn (hq := by exact sq_) ?_
 refine lg_nil ?_
 refine h83 _ ?_; clear h83; try clear N83
 refine u_cond (fun hb84 => ?_) (fun hb84 => ?_)
 refine vc_seq_k fun N85 h85 => ?_
 refine u_reg ?_
 try refine lg_mk ?_
 refine u_bd (hq := by exact sq_) ?_
 have hc := call_rule (E := (E_redr.at_ 244)) (f := 21) (sp := Spec.pure faultG) rfl
 have hs := @faultG.eq_1
 refine u_cp (hq := by exact sq_) ?_
 iterate 2 refine u_st (hq := by exact sq_) ?_
 refine lg_nil ?_
 refine h85 _ ?_; clear h85; try clear N85
 refine vc_ret ?_
 try simp only [k_rules]
 have hr : parX t = .error (10, -1) := by rw [← hzp, hv]; unfold limS; dsimp only; rw [if_pos (by have := hb84; (try simp at this); omega)]
 rw [nsX_e hr, hr]
 try simp only [eC_e, eK_e]
 refine fin2_ ?_
 exact cl_
 refine vc_skip ?_
 try simp only [k_rules]
 refine h82 _ ?_; clear h82; try clear N82
 refine vc_seq_k fun N86 h86 => ?_
 refine u_reg ?_
 try refine lg_mk ?_
 refine u_mv (hq := by exact so_) ?_
 refine u_nl (hq := by exact so_) ?_
 refine u_pt (hq := by exact so_) ?_
 refine u_ld (hq := by exact so_) ?_
 iterate 2 refine u_bd (hq := by exact so_) ?_
 iterate 2 refine u_st (hq := by exact so_) ?_
 refine lg_nil ?_
 refine h86 _ ?_; clear h86; try clear N86
 refine vc_ret ?_
 try simp only [k_rules]
 have hr : parX t = .ok m.ns := by rw [← hzp, hv]; unfold limS; dsimp only; rw [if_neg (by have := hb84; (try simp at this); omega)]
 rw [nsX_o hr, hr]
 try simp only [eC_o, eK_o]
 refine fin2_ ?_
 exact cl_
 cases hg

end Go.Proofs.YtmbjnkgpcbpclaaGreat
