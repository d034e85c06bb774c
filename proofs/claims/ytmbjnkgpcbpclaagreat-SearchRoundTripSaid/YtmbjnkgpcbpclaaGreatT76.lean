/- Walks, printed by wip/gen/walk.py. -/
import Derived.Test.YtmbjnkgpcbpclaaGreatT75
import Derived.Test.YtmbjnkgpcbpclaaGreatV5
set_option linter.all false
set_option maxRecDepth 100000
set_option maxHeartbeats 4000000
namespace Go.Proofs.YtmbjnkgpcbpclaaGreat
open Go Go.Vc Go.RowKit
def bndS (k : Int) : Nat := if k = 3 then 0 else if k = 2 then 1 else if k = 4 then 2 else 3
def brS (q : List Sn) (i : Int) (l : Nat) (A : Bs) : Bs := if lvS (q.getD i.toNat default).kd < l then [40] ++ A ++ [41] else A
theorem bndS_lv (k : Int) : bndS k = lvS k ∨ (2 ≤ bndS k ∧ lvS k = 2) := by
  unfold bndS lvS
  split
  · exact .inl rfl
  · split
    · exact .inl rfl
    · split
      · exact .inl rfl
      · exact .inr ⟨by omega, rfl⟩
theorem bndS_le (k : Int) : bndS k ≤ 3 := by unfold bndS; split <;> (try split) <;> (try split) <;> omega
theorem getD_sn1 {q : List Sn} {i : Nat} {n : Sn} (h : q[i]? = some n) : q.getD i default = n := by rw [List.getD_eq_getElem?_getD, h]; rfl
theorem shS_zero {q : List Sn} {f : Nat} {i : Int} {l : Nat} {r : Bs} (h : shS q f i.toNat l = some r) : ∃ A, shS q f i.toNat 0 = some A ∧ r = brS q i l A := by
  match f, h with
  | f + 1, h =>
    obtain ⟨n, s, hn, hs, hl, hr⟩ := shS_step h
    refine ⟨s, ?_, ?_⟩
    · unfold shS
      rw [hn]
      show (shB (shS q f) n).bind _ = _
      rw [hs]
      show (if s.length ≤ 100000 then _ else _) = _
      rw [if_pos hl, if_neg (by omega)]
    · rw [hr]; unfold brS; rw [getD_sn1 hn]
theorem shS_parts {q : List Sn} {f : Nat} {n : Sn} {S : Bs} (h : shB (shS q f) n = some S) (h1 : n.kd ≠ 1) : ∃ A, shS q f n.lf.toNat 0 = some A ∧ (n.kd = 4 → S = [33] ++ brS q n.lf 2 A) ∧
    (n.kd ≠ 4 → ∃ B, shS q f n.rt.toNat 0 = some B ∧ S = brS q n.lf (lvS n.kd) A ++ sgS n.kd ++ brS q n.rt (lvS n.kd + 1) B) := by
  unfold shB at h
  rw [if_neg h1] at h
  split at h
  · rename_i h4
    obtain ⟨A, hA, rfl⟩ := Option.map_eq_some_iff.1 h
    obtain ⟨A0, hA0, rfl⟩ := shS_zero hA
    exact ⟨A0, hA0, fun _ => rfl, fun h => absurd h4 h⟩
  · rename_i h4
    obtain ⟨A, hA, h⟩ := Option.bind_eq_some_iff.1 h
    obtain ⟨B, hB, rfl⟩ := Option.map_eq_some_iff.1 h
    obtain ⟨A0, hA0, rfl⟩ := shS_zero hA
    obtain ⟨B0, hB0, rfl⟩ := shS_zero hB
    exact ⟨A0, hA0, fun h => absurd h h4, fun _ => ⟨B0, hB0, rfl⟩⟩
theorem esc_next {b : Bs} {i : Nat} {c : UInt8} (h : b[i]? = some c) : esc (b.take (i + 1)) = esc (b.take i) ++ esc1 c := by rw [take_snoc h, esc_snoc]
theorem str_one {b : Bs} {i : Nat} {c : UInt8} (h : b[i]? = some c) : (b.drop i).take 1 = [c] := by
  rw [List.drop_eq_getElem_cons (List.getElem?_eq_some_iff.1 h).1, (List.getElem?_eq_some_iff.1 h).2]; rfl
def txG (fu : Nat) : List AV → Option (Prop × AV)
  | [.agg [.d (.sl xs)], .d (.int .i64 i)] => some (xs = rows eSn (dSn xs) ∧ okSh (dSn xs) ∧ 0 ≤ i ∧ (shS (dSn xs) fu i.toNat 0).isSome = true, .tup [.d (.str ((shS (dSn xs) fu i.toNat 0).getD [])), .d (.int .i64 (bndS ((dSn xs).getD i.toNat default).kd : Nat))])
  | _ => none
def E_tx (n : Nat) (kt : Meets Tryz.prog 20 (Spec.pure (txG n))) : Env Tryz.prog := E_exq.add 20 (Spec.pure (txG n)) kt (by kernel_rfl)

theorem txt_step (fu : Nat) (kt : Meets Tryz.prog 20 (Spec.pure (txG fu))) : Meets Tryz.prog 20 (Spec.pure (txG (fu + 1))) := by
 refine meets_fun ((E_tx fu kt).at_ 100) Tryz.func20 rfl rfl rfl ?_
 intro args p r hg hp
 unfold txG at hg
 split at hg
 rename_i xs i
 simp only [Option.some.injEq, Prod.mk.injEq] at hg
 obtain ⟨rfl, rfl⟩ := hg
 obtain ⟨he, hok, hi0, hsm⟩ := hp
 generalize dSn xs = q at *
 subst he
 obtain ⟨i, rfl⟩ := Int.eq_ofNat_of_zero_le hi0
 simp only [Int.toNat_natCast] at hsm ⊢
 obtain ⟨r, hr⟩ := Option.isSome_iff_exists.1 hsm
 rw [hr, getD_bs]
 obtain ⟨n, S, hn, hS, hSl, hrS⟩ := shS_step hr
 rw [if_neg (by omega)] at hrS
 subst hrS
 rw [getD_sn1 hn]
 have hil : i < q.length := (List.getElem?_eq_some_iff.1 hn).1
 have hq40 := hok.1
 have hon := hok.2 n (mem_at hn)
 have hel := esc_le n.tx
 have hpt := shS_parts hS
 obtain ⟨a, b, c, d⟩ := n
 dsimp only at hon hel hpt ⊢
 obtain ⟨o1, o2, o3, o4, o5⟩ := hon
 generalize hkl : (q.getD c.toNat default).kd = kl at *
 generalize hkr : (q.getD d.toNat default).kd = kr2 at *
 have hb1 := bndS_lv kl
 have hb2 := bndS_lv kr2
 have hb3 := bndS_le kl
 have hb4 := bndS_le kr2
 have hT : ((E_tx fu kt)).X = T := rfl
 have hx0 := And.intro @dec_t (And.intro @dec_f (And.intro @rect_eSn (And.intro @dSn_rows (And.intro @Int.toNat_natCast (And.intro @getD_bs @Tryz.results20)))))
 have hx := hx0
 refine ⟨by rfl, ?_⟩
 intro F W0 hnp hmk
 refine vc_seq_k fun N1 h1 => ?_
 refine u_reg ?_
 try refine lg_mk ?_
 refine u_bx ?_
 iterate 2 refine u_mv ?_
 refine lg_nil ?_
 refine h1 _ ?_; clear h1; try clear N1
 refine vc_seq_k fun N2 h2 => ?_
 have hx := And.intro @hn (And.intro @eSn.eq_1 hx0)
 refine u_reg ?_
 try refine lg_mk ?_
 refine u_pt ?_
 refine u_ld ?_
 refine u_mv ?_
 refine u_pt ?_
 refine u_ld ?_
 refine u_al ?_
 refine u_st ?_
 refine lg_nil ?_
 have hx := hx0
 refine h2 _ ?_; clear h2; try clear N2
 refine vc_seq_k fun N3 h3 => ?_
 refine vc_seq_k fun N4 h4 => ?_
 refine u_reg ?_
 try refine lg_mk ?_
 refine u_pt ?_
 refine u_ld ?_
 refine u_bn ?_
 refine lg_nil ?_
 refine h4 _ ?_; clear h4; try clear N4
 refine u_cond (fun hb5 => ?_) (fun hb5 => ?_)
 have hk := hb5
 obtain rfl : a = 1 := by (try simp at hk); omega
 have hS2 : r = [34] ++ esc b ++ [34] := by unfold shB at hS; rw [if_pos rfl] at hS; exact (Option.some.inj hS).symm
 refine vc_seq_k fun N6 h6 => ?_
 refine u_reg ?_
 try refine lg_mk ?_
 refine u_mv ?_
 refine lg_nil ?_
 refine h6 _ ?_; clear h6; try clear N6
 refine vc_seq_k fun N7 h7 => ?_
 refine vc_seq_k fun N8 h8 => ?_
 refine u_reg ?_
 try refine lg_mk ?_
 refine u_mv ?_
 refine lg_nil ?_
 refine h8 _ ?_; clear h8; try clear N8
 refine vc_block ?_
 refine vc_loop_mk (σ := Nat) (fun s => (fun k => k ≤ b.length) s)
  (fun s => (fun k => [(2, .ptr 0 0 0), (6, .ptr 1 0 0), (7, .d (.str (esc (b.take k)))), (8, .d (.int .i64 (k : Nat)))]) s)
  (fun s => (fun k => [some (.one 25 [.d (.sl (rows eSn q))]), some (.one 55 [.d (.int .i64 1), .d (.str b), .d (.int .i64 c), .d (.int .i64 d)])]) s) (fun s => (fun k => b.length - k) s) hnp 0 ?_ [some 0, some 1] ?_ ?_
 dsimp only
 omega
 dsimp only
 refine ⟨by rfl, ?_, ?_⟩
 refine fin_ ?_
 exact cl_
 refine fin_ ?_
 exact cl_
 rintro k hinv N9 h9
 dsimp only at hinv ⊢
 refine vc_seq_k fun N10 h10 => ?_
 refine vc_seq_k fun N11 h11 => ?_
 refine u_reg ?_
 try refine lg_mk ?_
 refine u_mv ?_
 refine u_pt ?_
 refine u_ld ?_
 refine u_ln ?_
 refine u_bn ?_
 refine lg_nil ?_
 refine h11 _ ?_; clear h11; try clear N11
 refine u_cond (fun hb12 => ?_) (fun hb12 => ?_)
 have hib : k < b.length := by have := hb12; (try simp at this); omega
 obtain ⟨x, hxe⟩ := getE (l := b) (i := k) hib
 have hnx := esc_next hxe
 have hs1 : List.take (((k : Int) + 1).toNat - k) (b.drop k) = [x] := by rw [show ((k : Int) + 1).toNat - k = 1 by omega]; exact str_one hxe
 have hekl := esc_take_le b k
 refine vc_skip ?_
 try simp only [k_rules]
 refine h10 _ ?_; clear h10; try clear N10
 refine vc_seq_k fun N13 h13 => ?_
 refine vc_block ?_
 refine vc_seq_k fun N14 h14 => ?_
 refine vc_seq_k fun N15 h15 => ?_
 by_cases e34 : x = 34
 have f1 : ((x.toNat : Int) = 34) = True := eq_true (by rw [e34]; rfl)
 have hE1 : esc1 x = [92, x] := by rw [e34]; rfl
 have hnx2 : esc (b.take k) ++ [92] ++ [x] = esc (b.take (k + 1)) := by rw [hnx, hE1, List.append_assoc]; rfl
 have hx := And.intro @hxe (And.intro @f1 hx0)
 refine u_reg ?_
 try refine lg_mk ?_
 refine u_pt ?_
 refine u_ld ?_
 refine u_mv ?_
 refine u_pt ?_
 refine u_bn ?_
 refine u_mv ?_
 refine g_pt ?_
 refine g_ld ?_
 refine g_mv ?_
 refine g_pt ?_
 refine g_bn ?_
 refine u_pk ?_
 refine lg_nil ?_
 have hx := hx0
 refine h15 _ ?_; clear h15; try clear N15
 refine u_cond (fun hb16 => ?_) (fun hb16 => ?_)
 refine u_reg ?_
 try refine lg_mk ?_
 refine u_mv (hq := by (first | ((simp only [List.length_append, List.length_cons, List.length_nil]; omega)) | exact sd_)) ?_
 refine u_bn (hq := by (first | ((simp only [List.length_append, List.length_cons, List.length_nil]; omega)) | exact sd_)) ?_
 refine u_mv (hq := by (first | ((simp only [List.length_append, List.length_cons, List.length_nil]; omega)) | exact sd_)) ?_
 refine lg_nil ?_
 refine h14 _ ?_; clear h14; try clear N14
 refine u_reg ?_
 try refine lg_mk ?_
 refine u_mv (hq := by (first | (first | omega | (simp only [List.length_append, List.length_cons, List.length_nil]; omega)) | exact sd_)) ?_
 refine u_pt (hq := by (first | (first | omega | (simp only [List.length_append, List.length_cons, List.length_nil]; omega)) | exact sd_)) ?_
 refine u_ld (hq := by (first | (first | omega | (simp only [List.length_append, List.length_cons, List.length_nil]; omega)) | exact sd_)) ?_
 refine u_mv (hq := by (first | (first | omega | (simp only [List.length_append, List.length_cons, List.length_nil]; omega)) | exact sd_)) ?_
 refine u_mv (hq := by (first | (first | omega | (simp only [List.length_append, List.length_cons, List.length_nil]; omega)) | exact sd_)) ?_
 refine u_bn (hq := by (first | (first | omega | (simp only [List.length_append, List.length_cons, List.length_nil]; omega)) | exact sd_)) ?_
 refine u_sl (hq := by (first | (first | omega | (simp only [List.length_append, List.length_cons, List.length_nil]; omega)) | exact sd_)) ?_
 refine u_bn (hq := by (first | (first | omega | (simp only [List.length_append, List.length_cons, List.length_nil]; omega)) | exact sd_)) ?_
 refine u_mv (hq := by (first | (first | omega | (simp only [List.length_append, List.length_cons, List.length_nil]; omega)) | exact sd_)) ?_
 refine lg_nil ?_
 refine h13 _ ?_; clear h13; try clear N13
 refine u_reg ?_
 try refine lg_mk ?_
 refine u_mv ?_
 refine u_bn ?_
 refine u_mv ?_
 refine lg_nil ?_
 rw [hs1, hnx2]
 refine h9 _ ⟨k + 1, ?_, ?_, [some 0, some 1], ?_⟩
 dsimp only
 omega
 dsimp only
 omega
 dsimp only
 refine ⟨by rfl, ?_, ?_⟩
 refine fin_ ?_
 exact cl_
 refine fin_ ?_
 exact cl_
 ·first | omega | exact absurd trivial hb16 | contradiction | (simp_all; done)
 have f1 : ((x.toNat : Int) = 34) = False := eq_false (fun h => e34 (UInt8.toNat_inj.1 (show x.toNat = 34 by omega)))
 have hx := And.intro @hxe (And.intro @f1 hx0)
 refine u_reg ?_
 try refine lg_mk ?_
 refine u_pt ?_
 refine u_ld ?_
 refine u_mv ?_
 refine u_pt ?_
 refine u_bn ?_
 refine u_mv ?_
 refine g_pt ?_
 refine g_ld ?_
 refine g_mv ?_
 refine g_pt ?_
 refine g_bn ?_
 refine u_pk ?_
 refine lg_nil ?_
 have hx := hx0
 refine h15 _ ?_; clear h15; try clear N15
 refine u_cond (fun hb17 => ?_) (fun hb17 => ?_)
 have h92 : x = 92 := by have := hb17; exact UInt8.toNat_inj.1 (show x.toNat = 92 by (try simp at this); omega)
 have hE1 : esc1 x = [92, x] := by rw [h92]; rfl
 have hnx2 : esc (b.take k) ++ [92] ++ [x] = esc (b.take (k + 1)) := by rw [hnx, hE1, List.append_assoc]; rfl
 refine u_reg ?_
 try refine lg_mk ?_
 refine u_mv (hq := by (first | ((simp only [List.length_append, List.length_cons, List.length_nil]; omega)) | exact sd_)) ?_
 refine u_bn (hq := by (first | ((simp only [List.length_append, List.length_cons, List.length_nil]; omega)) | exact sd_)) ?_
 refine u_mv (hq := by (first | ((simp only [List.length_append, List.length_cons, List.length_nil]; omega)) | exact sd_)) ?_
 refine lg_nil ?_
 refine h14 _ ?_; clear h14; try clear N14
 refine u_reg ?_
 try refine lg_mk ?_
 refine u_mv (hq := by (first | (first | omega | (simp only [List.length_append, List.length_cons, List.length_nil]; omega)) | exact sd_)) ?_
 refine u_pt (hq := by (first | (first | omega | (simp only [List.length_append, List.length_cons, List.length_nil]; omega)) | exact sd_)) ?_
 refine u_ld (hq := by (first | (first | omega | (simp only [List.length_append, List.length_cons, List.length_nil]; omega)) | exact sd_)) ?_
 refine u_mv (hq := by (first | (first | omega | (simp only [List.length_append, List.length_cons, List.length_nil]; omega)) | exact sd_)) ?_
 refine u_mv (hq := by (first | (first | omega | (simp only [List.length_append, List.length_cons, List.length_nil]; omega)) | exact sd_)) ?_
 refine u_bn (hq := by (first | (first | omega | (simp only [List.length_append, List.length_cons, List.length_nil]; omega)) | exact sd_)) ?_
 refine u_sl (hq := by (first | (first | omega | (simp only [List.length_append, List.length_cons, List.length_nil]; omega)) | exact sd_)) ?_
 refine u_bn (hq := by (first | (first | omega | (simp only [List.length_append, List.length_cons, List.length_nil]; omega)) | exact sd_)) ?_
 refine u_mv (hq := by (first | (first | omega | (simp only [List.length_append, List.length_cons, List.length_nil]; omega)) | exact sd_)) ?_
 refine lg_nil ?_
 refine h13 _ ?_; clear h13; try clear N13
 refine u_reg ?_
 try refine lg_mk ?_
 refine u_mv ?_
 refine u_bn ?_
 refine u_mv ?_
 refine lg_nil ?_
 rw [hs1, hnx2]
 refine h9 _ ⟨k + 1, ?_, ?_, [some 0, some 1], ?_⟩
 dsimp only
 omega
 dsimp only
 omega
 dsimp only
 refine ⟨by rfl, ?_, ?_⟩
 refine fin_ ?_
 exact cl_
 refine fin_ ?_
 exact cl_
 have h92 : x ≠ 92 := fun h => by have := hb17; rw [h] at this; simp at this
 have hE1 : esc1 x = [x] := by unfold esc1 isE; simp [e34, h92]
 have hnx2 : esc (b.take k) ++ [x] = esc (b.take (k + 1)) := by rw [hnx, hE1]
 refine vc_skip ?_
 try simp only [k_rules]
 refine h14 _ ?_; clear h14; try clear N14
 refine u_reg ?_
 try refine lg_mk ?_
 refine u_mv (hq := by (first | (first | omega | (simp only [List.length_append, List.length_cons, List.length_nil]; omega)) | exact sd_)) ?_
 refine u_pt (hq := by (first | (first | omega | (simp only [List.length_append, List.length_cons, List.length_nil]; omega)) | exact sd_)) ?_
 refine u_ld (hq := by (first | (first | omega | (simp only [List.length_append, List.length_cons, List.length_nil]; omega)) | exact sd_)) ?_
 refine u_mv (hq := by (first | (first | omega | (simp only [List.length_append, List.length_cons, List.length_nil]; omega)) | exact sd_)) ?_
 refine u_mv (hq := by (first | (first | omega | (simp only [List.length_append, List.length_cons, List.length_nil]; omega)) | exact sd_)) ?_
 refine u_bn (hq := by (first | (first | omega | (simp only [List.length_append, List.length_cons, List.length_nil]; omega)) | exact sd_)) ?_
 refine u_sl (hq := by (first | (first | omega | (simp only [List.length_append, List.length_cons, List.length_nil]; omega)) | exact sd_)) ?_
 refine u_bn (hq := by (first | (first | omega | (simp only [List.length_append, List.length_cons, List.length_nil]; omega)) | exact sd_)) ?_
 refine u_mv (hq := by (first | (first | omega | (simp only [List.length_append, List.length_cons, List.length_nil]; omega)) | exact sd_)) ?_
 refine lg_nil ?_
 refine h13 _ ?_; clear h13; try clear N13
 refine u_reg ?_
 try refine lg_mk ?_
 refine u_mv ?_
 refine u_bn ?_
 refine u_mv ?_
 refine lg_nil ?_
 rw [hs1, hnx2]
 refine h9 _ ⟨k + 1, ?_, ?_, [some 0, some 1], ?_⟩
 dsimp only
 omega
 dsimp only
 omega
 dsimp only
 refine ⟨by rfl, ?_, ?_⟩
 refine fin_ ?_
 exact cl_
 refine fin_ ?_
 exact cl_
 obtain rfl : k = b.length := by have := hb12; (try simp at this); omega
 simp only [List.take_length]
 refine vc_exit ?_
 simp only [k_rules, Nat.reduceEqDiff, reduceIte, eq_self]
 refine h7 _ ?_; clear h7; try clear N7
 refine vc_seq_k fun N18 h18 => ?_
 refine u_reg ?_
 try refine lg_mk ?_
 refine u_mv (hq := by (first | ((simp only [List.length_append, List.length_cons, List.length_nil]; omega)) | exact sd_)) ?_
 refine u_bn (hq := by (first | ((simp only [List.length_append, List.length_cons, List.length_nil]; omega)) | exact sd_)) ?_
 refine u_bn (hq := by (first | ((simp only [List.length_append, List.length_cons, List.length_nil]; omega)) | exact sd_)) ?_
 refine u_mv (hq := by (first | ((simp only [List.length_append, List.length_cons, List.length_nil]; omega)) | exact sd_)) ?_
 refine u_mv (hq := by (first | ((simp only [List.length_append, List.length_cons, List.length_nil]; omega)) | exact sd_)) ?_
 refine lg_nil ?_
 refine h18 _ ?_; clear h18; try clear N18
 refine vc_ret ?_
 try simp only [k_rules]
 have hbn : bndS 1 = 3 := rfl
 rw [hbn, hS2]
 refine fin2_ ?_
 exact cl_
 have h22 := hb5
 obtain ⟨A, hA, hp4, hp2⟩ := hpt (by (try simp at h22); omega)
 have hAl := shS_len hA
 refine vc_skip ?_
 try simp only [k_rules]
 refine h3 _ ?_; clear h3; try clear N3
 refine vc_seq_k fun N19 h19 => ?_
 have hx := And.intro @hA (And.intro @hkl hx0)
 refine u_reg ?_
 try refine lg_mk ?_
 refine u_ld ?_
 refine u_pt ?_
 refine u_ld ?_
 have hc := call_rule (E := ((E_tx fu kt).at_ 100)) (f := 20) (sp := Spec.pure (txG fu)) rfl
 have hs := @txG.eq_1
 refine u_cp (hq := by (first | ((repeat' apply And.intro) <;> first | rfl | omega | exact hok.2 | (rw [hA]; rfl) | (rw [hB]; rfl) | (simp [hA]; done)) | exact sd_)) ?_
 refine u_mv ?_
 iterate 2 refine u_ex ?_
 iterate 2 refine u_mv ?_
 refine lg_nil ?_
 have hx := hx0
 refine h19 _ ?_; clear h19; try clear N19
 refine vc_seq_k fun N20 h20 => ?_
 refine vc_seq_k fun N21 h21 => ?_
 refine u_reg ?_
 try refine lg_mk ?_
 refine u_pt ?_
 refine u_ld ?_
 refine u_bn ?_
 refine lg_nil ?_
 refine h21 _ ?_; clear h21; try clear N21
 refine u_cond (fun hb22 => ?_) (fun hb22 => ?_)
 obtain rfl : a = 4 := by have := hb22; (try simp at this); omega
 have hS3 := hp4 rfl
 unfold brS at hS3
 rw [hkl] at hS3
 refine vc_seq_k fun N23 h23 => ?_
 refine vc_seq_k fun N24 h24 => ?_
 refine u_reg ?_
 try refine lg_mk ?_
 refine u_mv ?_
 refine u_bn ?_
 refine lg_nil ?_
 refine h24 _ ?_; clear h24; try clear N24
 refine u_cond (fun hb25 => ?_) (fun hb25 => ?_)
 rw [if_pos (by have := hb25; (try simp at this); omega)] at hS3
 subst hS3
 refine u_reg ?_
 try refine lg_mk ?_
 refine u_mv (hq := by (first | ((simp only [List.length_append, List.length_cons, List.length_nil]; omega)) | exact sd_)) ?_
 refine u_bn (hq := by (first | ((simp only [List.length_append, List.length_cons, List.length_nil]; omega)) | exact sd_)) ?_
 refine u_bn (hq := by (first | ((simp only [List.length_append, List.length_cons, List.length_nil]; omega)) | exact sd_)) ?_
 refine u_mv (hq := by (first | ((simp only [List.length_append, List.length_cons, List.length_nil]; omega)) | exact sd_)) ?_
 refine lg_nil ?_
 refine h23 _ ?_; clear h23; try clear N23
 refine vc_seq_k fun N26 h26 => ?_
 refine u_reg ?_
 try refine lg_mk ?_
 refine u_mv (hq := by (first | ((simp only [List.length_append, List.length_cons, List.length_nil]; omega)) | exact sd_)) ?_
 refine u_bn (hq := by (first | ((simp only [List.length_append, List.length_cons, List.length_nil]; omega)) | exact sd_)) ?_
 refine u_mv (hq := by (first | ((simp only [List.length_append, List.length_cons, List.length_nil]; omega)) | exact sd_)) ?_
 refine u_mv (hq := by (first | ((simp only [List.length_append, List.length_cons, List.length_nil]; omega)) | exact sd_)) ?_
 refine lg_nil ?_
 refine h26 _ ?_; clear h26; try clear N26
 refine vc_ret ?_
 try simp only [k_rules]
 have hbn : bndS 4 = 2 := rfl
 rw [hbn]
 refine fin2_ ?_
 exact cl_
 rw [if_neg (by have := hb25; (try simp at this); omega)] at hS3
 subst hS3
 refine vc_skip ?_
 try simp only [k_rules]
 refine h23 _ ?_; clear h23; try clear N23
 refine vc_seq_k fun N27 h27 => ?_
 refine u_reg ?_
 try refine lg_mk ?_
 refine u_mv (hq := by (first | ((simp only [List.length_append, List.length_cons, List.length_nil]; omega)) | exact sd_)) ?_
 refine u_bn (hq := by (first | ((simp only [List.length_append, List.length_cons, List.length_nil]; omega)) | exact sd_)) ?_
 refine u_mv (hq := by (first | ((simp only [List.length_append, List.length_cons, List.length_nil]; omega)) | exact sd_)) ?_
 refine u_mv (hq := by (first | ((simp only [List.length_append, List.length_cons, List.length_nil]; omega)) | exact sd_)) ?_
 refine lg_nil ?_
 refine h27 _ ?_; clear h27; try clear N27
 refine vc_ret ?_
 try simp only [k_rules]
 have hbn : bndS 4 = 2 := rfl
 rw [hbn]
 refine fin2_ ?_
 exact cl_
 have h64 := hb22
 obtain ⟨B, hB, hS3⟩ := hp2 (by (try simp at h64); omega)
 have hBl := shS_len hB
 unfold brS at hS3
 rw [hkl, hkr] at hS3
 refine vc_skip ?_
 try simp only [k_rules]
 refine h20 _ ?_; clear h20; try clear N20
 refine vc_seq_k fun N28 h28 => ?_
 have hx := And.intro @hB (And.intro @hkr hx0)
 refine u_reg ?_
 try refine lg_mk ?_
 refine u_ld ?_
 refine u_pt ?_
 refine u_ld ?_
 have hc := call_rule (E := ((E_tx fu kt).at_ 100)) (f := 20) (sp := Spec.pure (txG fu)) rfl
 have hs := @txG.eq_1
 refine u_cp (hq := by (first | ((repeat' apply And.intro) <;> first | rfl | omega | exact hok.2 | (rw [hA]; rfl) | (rw [hB]; rfl) | (simp [hA]; done)) | exact sd_)) ?_
 refine u_mv ?_
 iterate 2 refine u_ex ?_
 iterate 2 refine u_mv ?_
 refine lg_nil ?_
 have hx := hx0
 refine h28 _ ?_; clear h28; try clear N28
 refine vc_seq_k fun N29 h29 => ?_
 refine u_reg ?_
 try refine lg_mk ?_
 refine u_mv ?_
 refine lg_nil ?_
 refine h29 _ ?_; clear h29; try clear N29
 refine vc_seq_k fun N30 h30 => ?_
 refine u_reg ?_
 try refine lg_mk ?_
 refine u_mv ?_
 refine lg_nil ?_
 refine h30 _ ?_; clear h30; try clear N30
 refine vc_seq_k fun N31 h31 => ?_
 refine vc_seq_k fun N32 h32 => ?_
 refine u_reg ?_
 try refine lg_mk ?_
 refine u_pt ?_
 refine u_ld ?_
 refine u_bn ?_
 refine lg_nil ?_
 refine h32 _ ?_; clear h32; try clear N32
 refine u_cond (fun hb33 => ?_) (fun hb33 => ?_)
 obtain rfl : a = 2 := by have := hb33; (try simp at this); omega
 have hlv : lvS 2 = 1 := rfl
 have hsg : sgS 2 = [32, 38, 32] := rfl
 have hbn : bndS 2 = 1 := rfl
 rw [hlv, hsg] at hS3
 refine vc_seq_k fun N34 h34 => ?_
 refine u_reg ?_
 try refine lg_mk ?_
 refine u_mv ?_
 refine lg_nil ?_
 refine h34 _ ?_; clear h34; try clear N34
 refine u_reg ?_
 try refine lg_mk ?_
 refine u_mv ?_
 refine lg_nil ?_
 refine h31 _ ?_; clear h31; try clear N31
 refine vc_seq_k fun N35 h35 => ?_
 refine vc_seq_k fun N36 h36 => ?_
 refine u_reg ?_
 try refine lg_mk ?_
 iterate 2 refine u_mv ?_
 refine u_bn ?_
 refine lg_nil ?_
 refine h36 _ ?_; clear h36; try clear N36
 refine u_cond (fun hb37 => ?_) (fun hb37 => ?_)
 rw [if_pos (by have := hb37; (try simp at this); omega)] at hS3
 refine u_reg ?_
 try refine lg_mk ?_
 refine u_mv (hq := by (first | ((simp only [List.length_append, List.length_cons, List.length_nil]; omega)) | exact sd_)) ?_
 refine u_bn (hq := by (first | ((simp only [List.length_append, List.length_cons, List.length_nil]; omega)) | exact sd_)) ?_
 refine u_bn (hq := by (first | ((simp only [List.length_append, List.length_cons, List.length_nil]; omega)) | exact sd_)) ?_
 refine u_mv (hq := by (first | ((simp only [List.length_append, List.length_cons, List.length_nil]; omega)) | exact sd_)) ?_
 refine lg_nil ?_
 refine h35 _ ?_; clear h35; try clear N35
 refine vc_seq_k fun N38 h38 => ?_
 refine vc_seq_k fun N39 h39 => ?_
 refine u_reg ?_
 try refine lg_mk ?_
 iterate 2 refine u_mv ?_
 refine u_bn ?_
 refine lg_nil ?_
 refine h39 _ ?_; clear h39; try clear N39
 refine u_cond (fun hb40 => ?_) (fun hb40 => ?_)
 rw [if_pos (by have := hb40; (try simp at this); omega)] at hS3
 subst hS3
 refine u_reg ?_
 try refine lg_mk ?_
 refine u_mv (hq := by (first | ((simp only [List.length_append, List.length_cons, List.length_nil]; omega)) | exact sd_)) ?_
 refine u_bn (hq := by (first | ((simp only [List.length_append, List.length_cons, List.length_nil]; omega)) | exact sd_)) ?_
 refine u_bn (hq := by (first | ((simp only [List.length_append, List.length_cons, List.length_nil]; omega)) | exact sd_)) ?_
 refine u_mv (hq := by (first | ((simp only [List.length_append, List.length_cons, List.length_nil]; omega)) | exact sd_)) ?_
 refine lg_nil ?_
 refine h38 _ ?_; clear h38; try clear N38
 refine vc_seq_k fun N41 h41 => ?_
 refine u_reg ?_
 try refine lg_mk ?_
 refine u_mv (hq := by (first | ((simp only [List.length_append, List.length_cons, List.length_nil]; omega)) | exact sd_)) ?_
 refine u_mv (hq := by (first | ((simp only [List.length_append, List.length_cons, List.length_nil]; omega)) | exact sd_)) ?_
 refine u_bn (hq := by (first | ((simp only [List.length_append, List.length_cons, List.length_nil]; omega)) | exact sd_)) ?_
 refine u_mv (hq := by (first | ((simp only [List.length_append, List.length_cons, List.length_nil]; omega)) | exact sd_)) ?_
 refine u_bn (hq := by (first | ((simp only [List.length_append, List.length_cons, List.length_nil]; omega)) | exact sd_)) ?_
 refine u_mv (hq := by (first | ((simp only [List.length_append, List.length_cons, List.length_nil]; omega)) | exact sd_)) ?_
 refine u_mv (hq := by (first | ((simp only [List.length_append, List.length_cons, List.length_nil]; omega)) | exact sd_)) ?_
 refine u_mv (hq := by (first | ((simp only [List.length_append, List.length_cons, List.length_nil]; omega)) | exact sd_)) ?_
 refine lg_nil ?_
 refine h41 _ ?_; clear h41; try clear N41
 refine vc_ret ?_
 try simp only [k_rules]
 rw [hbn]
 refine fin2_ ?_
 exact cl_
 rw [if_neg (by have := hb40; (try simp at this); omega)] at hS3
 subst hS3
 refine vc_skip ?_
 try simp only [k_rules]
 refine h38 _ ?_; clear h38; try clear N38
 refine vc_seq_k fun N42 h42 => ?_
 refine u_reg ?_
 try refine lg_mk ?_
 refine u_mv (hq := by (first | ((simp only [List.length_append, List.length_cons, List.length_nil]; omega)) | exact sd_)) ?_
 refine u_mv (hq := by (first | ((simp only [List.length_append, List.length_cons, List.length_nil]; omega)) | exact sd_)) ?_
 refine u_bn (hq := by (first | ((simp only [List.length_append, List.length_cons, List.length_nil]; omega)) | exact sd_)) ?_
 refine u_mv (hq := by (first | ((simp only [List.length_append, List.length_cons, List.length_nil]; omega)) | exact sd_)) ?_
 refine u_bn (hq := by (first | ((simp only [List.length_append, List.length_cons, List.length_nil]; omega)) | exact sd_)) ?_
 refine u_mv (hq := by (first | ((simp only [List.length_append, List.length_cons, List.length_nil]; omega)) | exact sd_)) ?_
 refine u_mv (hq := by (first | ((simp only [List.length_append, List.length_cons, List.length_nil]; omega)) | exact sd_)) ?_
 refine u_mv (hq := by (first | ((simp only [List.length_append, List.length_cons, List.length_nil]; omega)) | exact sd_)) ?_
 refine lg_nil ?_
 refine h42 _ ?_; clear h42; try clear N42
 refine vc_ret ?_
 try simp only [k_rules]
 rw [hbn]
 refine fin2_ ?_
 exact cl_
 rw [if_neg (by have := hb37; (try simp at this); omega)] at hS3
 refine vc_skip ?_
 try simp only [k_rules]
 refine h35 _ ?_; clear h35; try clear N35
 refine vc_seq_k fun N43 h43 => ?_
 refine vc_seq_k fun N44 h44 => ?_
 refine u_reg ?_
 try refine lg_mk ?_
 iterate 2 refine u_mv ?_
 refine u_bn ?_
 refine lg_nil ?_
 refine h44 _ ?_; clear h44; try clear N44
 refine u_cond (fun hb45 => ?_) (fun hb45 => ?_)
 rw [if_pos (by have := hb45; (try simp at this); omega)] at hS3
 subst hS3
 refine u_reg ?_
 try refine lg_mk ?_
 refine u_mv (hq := by (first | ((simp only [List.length_append, List.length_cons, List.length_nil]; omega)) | exact sd_)) ?_
 refine u_bn (hq := by (first | ((simp only [List.length_append, List.length_cons, List.length_nil]; omega)) | exact sd_)) ?_
 refine u_bn (hq := by (first | ((simp only [List.length_append, List.length_cons, List.length_nil]; omega)) | exact sd_)) ?_
 refine u_mv (hq := by (first | ((simp only [List.length_append, List.length_cons, List.length_nil]; omega)) | exact sd_)) ?_
 refine lg_nil ?_
 refine h43 _ ?_; clear h43; try clear N43
 refine vc_seq_k fun N46 h46 => ?_
 refine u_reg ?_
 try refine lg_mk ?_
 refine u_mv (hq := by (first | ((simp only [List.length_append, List.length_cons, List.length_nil]; omega)) | exact sd_)) ?_
 refine u_mv (hq := by (first | ((simp only [List.length_append, List.length_cons, List.length_nil]; omega)) | exact sd_)) ?_
 refine u_bn (hq := by (first | ((simp only [List.length_append, List.length_cons, List.length_nil]; omega)) | exact sd_)) ?_
 refine u_mv (hq := by (first | ((simp only [List.length_append, List.length_cons, List.length_nil]; omega)) | exact sd_)) ?_
 refine u_bn (hq := by (first | ((simp only [List.length_append, List.length_cons, List.length_nil]; omega)) | exact sd_)) ?_
 refine u_mv (hq := by (first | ((simp only [List.length_append, List.length_cons, List.length_nil]; omega)) | exact sd_)) ?_
 refine u_mv (hq := by (first | ((simp only [List.length_append, List.length_cons, List.length_nil]; omega)) | exact sd_)) ?_
 refine u_mv (hq := by (first | ((simp only [List.length_append, List.length_cons, List.length_nil]; omega)) | exact sd_)) ?_
 refine lg_nil ?_
 refine h46 _ ?_; clear h46; try clear N46
 refine vc_ret ?_
 try simp only [k_rules]
 rw [hbn]
 refine fin2_ ?_
 exact cl_
 rw [if_neg (by have := hb45; (try simp at this); omega)] at hS3
 subst hS3
 refine vc_skip ?_
 try simp only [k_rules]
 refine h43 _ ?_; clear h43; try clear N43
 refine vc_seq_k fun N47 h47 => ?_
 refine u_reg ?_
 try refine lg_mk ?_
 refine u_mv (hq := by (first | ((simp only [List.length_append, List.length_cons, List.length_nil]; omega)) | exact sd_)) ?_
 refine u_mv (hq := by (first | ((simp only [List.length_append, List.length_cons, List.length_nil]; omega)) | exact sd_)) ?_
 refine u_bn (hq := by (first | ((simp only [List.length_append, List.length_cons, List.length_nil]; omega)) | exact sd_)) ?_
 refine u_mv (hq := by (first | ((simp only [List.length_append, List.length_cons, List.length_nil]; omega)) | exact sd_)) ?_
 refine u_bn (hq := by (first | ((simp only [List.length_append, List.length_cons, List.length_nil]; omega)) | exact sd_)) ?_
 refine u_mv (hq := by (first | ((simp only [List.length_append, List.length_cons, List.length_nil]; omega)) | exact sd_)) ?_
 refine u_mv (hq := by (first | ((simp only [List.length_append, List.length_cons, List.length_nil]; omega)) | exact sd_)) ?_
 refine u_mv (hq := by (first | ((simp only [List.length_append, List.length_cons, List.length_nil]; omega)) | exact sd_)) ?_
 refine lg_nil ?_
 refine h47 _ ?_; clear h47; try clear N47
 refine vc_ret ?_
 try simp only [k_rules]
 rw [hbn]
 refine fin2_ ?_
 exact cl_
 obtain rfl : a = 3 := by have := hb33; (try simp at this); (try simp at h64); (try simp at h22); omega
 have hlv : lvS 3 = 0 := rfl
 have hsg : sgS 3 = [32, 124, 32] := rfl
 have hbn : bndS 3 = 0 := rfl
 rw [hlv, hsg] at hS3
 refine vc_skip ?_
 try simp only [k_rules]
 refine h31 _ ?_; clear h31; try clear N31
 refine vc_seq_k fun N48 h48 => ?_
 refine vc_seq_k fun N49 h49 => ?_
 refine u_reg ?_
 try refine lg_mk ?_
 iterate 2 refine u_mv ?_
 refine u_bn ?_
 refine lg_nil ?_
 refine h49 _ ?_; clear h49; try clear N49
 refine u_cond (fun hb50 => ?_) (fun hb50 => ?_)
 rw [if_pos (by have := hb50; (try simp at this); omega)] at hS3
 refine u_reg ?_
 try refine lg_mk ?_
 refine u_mv (hq := by (first | ((simp only [List.length_append, List.length_cons, List.length_nil]; omega)) | exact sd_)) ?_
 refine u_bn (hq := by (first | ((simp only [List.length_append, List.length_cons, List.length_nil]; omega)) | exact sd_)) ?_
 refine u_bn (hq := by (first | ((simp only [List.length_append, List.length_cons, List.length_nil]; omega)) | exact sd_)) ?_
 refine u_mv (hq := by (first | ((simp only [List.length_append, List.length_cons, List.length_nil]; omega)) | exact sd_)) ?_
 refine lg_nil ?_
 refine h48 _ ?_; clear h48; try clear N48
 refine vc_seq_k fun N51 h51 => ?_
 refine vc_seq_k fun N52 h52 => ?_
 refine u_reg ?_
 try refine lg_mk ?_
 iterate 2 refine u_mv ?_
 refine u_bn ?_
 refine lg_nil ?_
 refine h52 _ ?_; clear h52; try clear N52
 refine u_cond (fun hb53 => ?_) (fun hb53 => ?_)
 rw [if_pos (by have := hb53; (try simp at this); omega)] at hS3
 subst hS3
 refine u_reg ?_
 try refine lg_mk ?_
 refine u_mv (hq := by (first | ((simp only [List.length_append, List.length_cons, List.length_nil]; omega)) | exact sd_)) ?_
 refine u_bn (hq := by (first | ((simp only [List.length_append, List.length_cons, List.length_nil]; omega)) | exact sd_)) ?_
 refine u_bn (hq := by (first | ((simp only [List.length_append, List.length_cons, List.length_nil]; omega)) | exact sd_)) ?_
 refine u_mv (hq := by (first | ((simp only [List.length_append, List.length_cons, List.length_nil]; omega)) | exact sd_)) ?_
 refine lg_nil ?_
 refine h51 _ ?_; clear h51; try clear N51
 refine vc_seq_k fun N54 h54 => ?_
 refine u_reg ?_
 try refine lg_mk ?_
 refine u_mv (hq := by (first | ((simp only [List.length_append, List.length_cons, List.length_nil]; omega)) | exact sd_)) ?_
 refine u_mv (hq := by (first | ((simp only [List.length_append, List.length_cons, List.length_nil]; omega)) | exact sd_)) ?_
 refine u_bn (hq := by (first | ((simp only [List.length_append, List.length_cons, List.length_nil]; omega)) | exact sd_)) ?_
 refine u_mv (hq := by (first | ((simp only [List.length_append, List.length_cons, List.length_nil]; omega)) | exact sd_)) ?_
 refine u_bn (hq := by (first | ((simp only [List.length_append, List.length_cons, List.length_nil]; omega)) | exact sd_)) ?_
 refine u_mv (hq := by (first | ((simp only [List.length_append, List.length_cons, List.length_nil]; omega)) | exact sd_)) ?_
 refine u_mv (hq := by (first | ((simp only [List.length_append, List.length_cons, List.length_nil]; omega)) | exact sd_)) ?_
 refine u_mv (hq := by (first | ((simp only [List.length_append, List.length_cons, List.length_nil]; omega)) | exact sd_)) ?_
 refine lg_nil ?_
 refine h54 _ ?_; clear h54; try clear N54
 refine vc_ret ?_
 try simp only [k_rules]
 rw [hbn]
 refine fin2_ ?_
 exact cl_
 rw [if_neg (by have := hb53; (try simp at this); omega)] at hS3
 subst hS3
 refine vc_skip ?_
 try simp only [k_rules]
 refine h51 _ ?_; clear h51; try clear N51
 refine vc_seq_k fun N55 h55 => ?_
 refine u_reg ?_
 try refine lg_mk ?_
 refine u_mv (hq := by (first | ((simp only [List.length_append, List.length_cons, List.length_nil]; omega)) | exact sd_)) ?_
 refine u_mv (hq := by (first | ((simp only [List.length_append, List.length_cons, List.length_nil]; omega)) | exact sd_)) ?_
 refine u_bn (hq := by (first | ((simp only [List.length_append, List.length_cons, List.length_nil]; omega)) | exact sd_)) ?_
 refine u_mv (hq := by (first | ((simp only [List.length_append, List.length_cons, List.length_nil]; omega)) | exact sd_)) ?_
 refine u_bn (hq := by (first | ((simp only [List.length_append, List.length_cons, List.length_nil]; omega)) | exact sd_)) ?_
 refine u_mv (hq := by (first | ((simp only [List.length_append, List.length_cons, List.length_nil]; omega)) | exact sd_)) ?_
 refine u_mv (hq := by (first | ((simp only [List.length_append, List.length_cons, List.length_nil]; omega)) | exact sd_)) ?_
 refine u_mv (hq := by (first | ((simp only [List.length_append, List.length_cons, List.length_nil]; omega)) | exact sd_)) ?_
 refine lg_nil ?_
 refine h55 _ ?_; clear h55; try clear N55
 refine vc_ret ?_
 try simp only [k_rules]
 rw [hbn]
 refine fin2_ ?_
 exact cl_
 rw [if_neg (by have := hb50; (try simp at this); omega)] at hS3
 refine vc_skip ?_
 try simp only [k_rules]
 refine h48 _ ?_; clear h48; try clear N48
 refine vc_seq_k fun N56 h56 => ?_
 refine vc_seq_k fun N57 h57 => ?_
 refine u_reg ?_
 try refine lg_mk ?_
 iterate 2 refine u_mv ?_
 refine u_bn ?_
 refine lg_nil ?_
 refine h57 _ ?_; clear h57; try clear N57
 refine u_cond (fun hb58 => ?_) (fun hb58 => ?_)
 rw [if_pos (by have := hb58; (try simp at this); omega)] at hS3
 subst hS3
 refine u_reg ?_
 try refine lg_mk ?_
 refine u_mv (hq := by (first | ((simp only [List.length_append, List.length_cons, List.length_nil]; omega)) | exact sd_)) ?_
 refine u_bn (hq := by (first | ((simp only [List.length_append, List.length_cons, List.length_nil]; omega)) | exact sd_)) ?_
 refine u_bn (hq := by (first | ((simp only [List.length_append, List.length_cons, List.length_nil]; omega)) | exact sd_)) ?_
 refine u_mv (hq := by (first | ((simp only [List.length_append, List.length_cons, List.length_nil]; omega)) | exact sd_)) ?_
 refine lg_nil ?_
 refine h56 _ ?_; clear h56; try clear N56
 refine vc_seq_k fun N59 h59 => ?_
 refine u_reg ?_
 try refine lg_mk ?_
 refine u_mv (hq := by (first | ((simp only [List.length_append, List.length_cons, List.length_nil]; omega)) | exact sd_)) ?_
 refine u_mv (hq := by (first | ((simp only [List.length_append, List.length_cons, List.length_nil]; omega)) | exact sd_)) ?_
 refine u_bn (hq := by (first | ((simp only [List.length_append, List.length_cons, List.length_nil]; omega)) | exact sd_)) ?_
 refine u_mv (hq := by (first | ((simp only [List.length_append, List.length_cons, List.length_nil]; omega)) | exact sd_)) ?_
 refine u_bn (hq := by (first | ((simp only [List.length_append, List.length_cons, List.length_nil]; omega)) | exact sd_)) ?_
 refine u_mv (hq := by (first | ((simp only [List.length_append, List.length_cons, List.length_nil]; omega)) | exact sd_)) ?_
 refine u_mv (hq := by (first | ((simp only [List.length_append, List.length_cons, List.length_nil]; omega)) | exact sd_)) ?_
 refine u_mv (hq := by (first | ((simp only [List.length_append, List.length_cons, List.length_nil]; omega)) | exact sd_)) ?_
 refine lg_nil ?_
 refine h59 _ ?_; clear h59; try clear N59
 refine vc_ret ?_
 try simp only [k_rules]
 rw [hbn]
 refine fin2_ ?_
 exact cl_
 rw [if_neg (by have := hb58; (try simp at this); omega)] at hS3
 subst hS3
 refine vc_skip ?_
 try simp only [k_rules]
 refine h56 _ ?_; clear h56; try clear N56
 refine vc_seq_k fun N60 h60 => ?_
 refine u_reg ?_
 try refine lg_mk ?_
 refine u_mv (hq := by (first | ((simp only [List.length_append, List.length_cons, List.length_nil]; omega)) | exact sd_)) ?_
 refine u_mv (hq := by (first | ((simp only [List.length_append, List.length_cons, List.length_nil]; omega)) | exact sd_)) ?_
 refine u_bn (hq := by (first | ((simp only [List.length_append, List.length_cons, List.length_nil]; omega)) | exact sd_)) ?_
 refine u_mv (hq := by (first | ((simp only [List.length_append, List.length_cons, List.length_nil]; omega)) | exact sd_)) ?_
 refine u_bn (hq := by (first | ((simp only [List.length_append, List.length_cons, List.length_nil]; omega)) | exact sd_)) ?_
 refine u_mv (hq := by (first | ((simp only [List.length_append, List.length_cons, List.length_nil]; omega)) | exact sd_)) ?_
 refine u_mv (hq := by (first | ((simp only [List.length_append, List.length_cons, List.length_nil]; omega)) | exact sd_)) ?_
 refine u_mv (hq := by (first | ((simp only [List.length_append, List.length_cons, List.length_nil]; omega)) | exact sd_)) ?_
 refine lg_nil ?_
 refine h60 _ ?_; clear h60; try clear N60
 refine vc_ret ?_
 try simp only [k_rules]
 rw [hbn]
 refine fin2_ ?_
 exact cl_
 cases hg
end Go.Proofs.YtmbjnkgpcbpclaaGreat
