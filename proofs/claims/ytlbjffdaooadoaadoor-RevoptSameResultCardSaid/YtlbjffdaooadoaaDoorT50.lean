/- Walks, printed by wip/gen/walk.py. -/
import Derived.Test.YtlbjffdaooadoaaDoorT30
import Derived.Test.YtlbjffdaooadoaaDoorV5
set_option linter.all false
set_option maxRecDepth 100000
set_option maxHeartbeats 4000000
namespace Go.Proofs.YtlbjffdaooadoaaDoor
open Go Go.Vc Go.RowKit
inductive Tr where
  | nil
  | nd (k m : Int) (l r : Tr)
  deriving DecidableEq, Inhabited
def dT : Tr → D
  | .nil => .nilp
  | .nd k m l r => .ptr [.int .i64 k, .int .i64 m, dT l, dT r]
def tD : D → Tr
  | .ptr [.int .i64 k, .int .i64 m, a, b] => .nd k m (tD a) (tD b)
  | _ => .nil
termination_by d => SizeOf.sizeOf d
theorem tD_dT (t : Tr) : tD (dT t) = t := by
  induction t with
  | nil => rw [dT, tD]; intro _ _ _ _ h; cases h
  | nd k m l r h1 h2 => rw [dT, tD, h1, h2]
theorem dT_nd (k m : Int) (l r : Tr) : dT (.nd k m l r) = .ptr [.int .i64 k, .int .i64 m, dT l, dT r] := rfl
theorem tD_nd (k m : Int) (l r : Tr) : tD (.ptr [.int .i64 k, .int .i64 m, dT l, dT r]) = .nd k m l r := tD_dT (.nd k m l r)
theorem tD_lf (k m : Int) : tD (.ptr [.int .i64 k, .int .i64 m, .nilp, .nilp]) = .nd k m .nil .nil := tD_dT (.nd k m .nil .nil)
theorem dT_nil : dT .nil = .nilp := rfl
theorem dT_leaf (k m : Int) : D.ptr [.int .i64 k, .int .i64 m, .nilp, .nilp] = dT (.nd k m .nil .nil) := rfl
theorem cm_dT (t : Tr) : cleanD.match_1 (fun _ => D) (dT t) (fun _ => D.sl []) (fun x => x) = dT t := by cases t <;> rfl
theorem cl_dT (t : Tr) : cleanD (dT t) = dT t := by cases t <;> rfl
theorem eq_dT (t : Tr) : aBin T.ty .eql 59 (.d (dT t)) (.d .nilp) = some (True, .d (.bool (decide (t = .nil)))) := by cases t <;> simp [aBin, eqP, dT, ty59]
theorem ne_dT (t : Tr) : aBin T.ty .neq 59 (.d (dT t)) (.d .nilp) = some (True, .d (.bool (!decide (t = .nil)))) := by cases t <;> simp [aBin, eqP, dT, ty59]
theorem dT_ne {t : Tr} (h : t ≠ .nil) : ∃ k m l r, t = .nd k m l r := by
  cases t with
  | nil => exact absurd rfl h
  | nd k m l r => exact ⟨k, m, l, r, rfl⟩
theorem sc_dT {t : Tr} (h : t ≠ .nil) : scA (.d (dT t)) = false := by obtain ⟨k, m, l, r, rfl⟩ := dT_ne h; rfl
def szT : Tr → Nat
  | .nil => 0
  | .nd _ _ l r => szT l + szT r + 1
theorem szT_nd (k m : Int) (l r : Tr) : szT (.nd k m l r) = szT l + szT r + 1 := rfl
theorem szT_pos {t : Tr} (h : t ≠ .nil) : 1 ≤ szT t := by obtain ⟨k, m, l, r, rfl⟩ := dT_ne h; rw [szT_nd]; omega
def kdT : Tr → Int
  | .nil => 0
  | .nd k _ _ _ => k
/-- A tree whose nodes have the operands of their kinds. -/
def okT : Tr → Prop
  | .nil => False
  | .nd k m l r => 1 ≤ k ∧ k ≤ 16 ∧ 0 ≤ m ∧ m ≤ mostN k ∧ (ar k = 0 → l = .nil ∧ r = .nil) ∧ (ar k = 1 → okT l ∧ r = .nil) ∧ (ar k = 2 → okT l ∧ okT r)
theorem okT_ne {t : Tr} (h : okT t) : t ≠ .nil := by rintro rfl; exact h
theorem okT_leaf {k m : Int} (h : 1 ≤ k ∧ k ≤ 6) (hm : 0 ≤ m ∧ m ≤ mostN k) : okT (.nd k m .nil .nil) := by
  rcases ar_or k with ⟨_, h1⟩ | ⟨_, _, h1⟩ | ⟨_, h1⟩
  · exact ⟨by omega, by omega, hm.1, hm.2, fun _ => ⟨rfl, rfl⟩, fun h2 => by omega, fun h2 => by omega⟩
  · omega
  · omega
theorem most_in (k : Int) : 0 ≤ mostN k := by unfold mostN; split <;> (try split) <;> (try split) <;> omega
theorem okT_one {k : Int} {x : Tr} (h : 7 ≤ k ∧ k ≤ 13) (hx : okT x) : okT (.nd k 0 x .nil) := by
  rcases ar_or k with ⟨_, h1⟩ | ⟨_, _, h1⟩ | ⟨_, h1⟩
  · omega
  · exact ⟨by omega, by omega, by omega, most_in k, fun h2 => by omega, fun _ => ⟨hx, rfl⟩, fun h2 => by omega⟩
  · omega
theorem okT_two {k : Int} {x y : Tr} (h : 14 ≤ k ∧ k ≤ 16) (hx : okT x) (hy : okT y) : okT (.nd k 0 x y) := by
  rcases ar_or k with ⟨_, h1⟩ | ⟨_, _, h1⟩ | ⟨_, h1⟩
  · omega
  · omega
  · exact ⟨by omega, by omega, by omega, most_in k, fun h2 => by omega, fun h2 => by omega, fun _ => ⟨hx, hy⟩⟩
/-- The tree of a node of a query. -/
def opnT (q : List Nd) : Nat → Nat → Option Tr
  | 0, _ => none
  | f + 1, i => match q[i]? with
    | none => none
    | some n => if ar n.kd = 0 then some (.nd n.kd n.nm .nil .nil) else (opnT q f n.lf.toNat).bind fun a => if ar n.kd = 1 then some (.nd n.kd n.nm a .nil) else (opnT q f n.rt.toNat).map fun b => .nd n.kd n.nm a b
theorem opn_cases {q : List Nd} {f i : Nat} {R : Tr} (h : opnT q (f + 1) i = some R) : ∃ n, q[i]? = some n ∧ ((ar n.kd = 0 ∧ R = .nd n.kd n.nm .nil .nil) ∨ (ar n.kd = 1 ∧ ∃ A, opnT q f n.lf.toNat = some A ∧ R = .nd n.kd n.nm A .nil) ∨ (ar n.kd = 2 ∧ ∃ A B, opnT q f n.lf.toNat = some A ∧ opnT q f n.rt.toNat = some B ∧ R = .nd n.kd n.nm A B)) := by
  unfold opnT at h
  split at h
  · cases h
  · rename_i n hn
    refine ⟨n, hn, ?_⟩
    rcases ar_or n.kd with ⟨_, h1⟩ | ⟨_, _, h1⟩ | ⟨_, h1⟩
    · rw [if_pos h1] at h; exact .inl ⟨h1, (Option.some.inj h).symm⟩
    · rw [if_neg (by omega)] at h
      obtain ⟨A, hA, h2⟩ := Option.bind_eq_some_iff.1 h
      rw [if_pos h1] at h2
      exact .inr (.inl ⟨h1, A, hA, (Option.some.inj h2).symm⟩)
    · rw [if_neg (by omega)] at h
      obtain ⟨A, hA, h2⟩ := Option.bind_eq_some_iff.1 h
      rw [if_neg (by omega)] at h2
      obtain ⟨B, hB, h3⟩ := Option.map_eq_some_iff.1 h2
      exact .inr (.inr ⟨h1, A, B, hA, hB, h3.symm⟩)
theorem opn_ne {q : List Nd} {f i : Nat} {R : Tr} (h : opnT q f i = some R) : R ≠ .nil := by
  cases f with
  | zero => cases h
  | succ f =>
    obtain ⟨n, _, ⟨_, rfl⟩ | ⟨_, A, _, rfl⟩ | ⟨_, A, B, _, _, rfl⟩⟩ := opn_cases h <;> exact fun h => by cases h
theorem opn_tot {q : List Nd} (h : okQ q) : ∀ (f i : Nat), i < f → i < q.length → ∃ R, opnT q f i = some R ∧ okT R ∧ szT R = szI q i
  | 0, _, hf, _ => by omega
  | f + 1, i, hf, hi => by
    have ih := opn_tot h f
    obtain ⟨x, hx⟩ : ∃ x, q[i]? = some x := ⟨_, List.getElem?_eq_getElem hi⟩
    obtain ⟨h1, h2, h3, h4, h5, h6, h7⟩ := ok_node h hi (getD_nd hx)
    unfold opnT
    rw [hx]
    dsimp only
    rcases ar_or x.kd with ⟨_, ha⟩ | ⟨_, _, ha⟩ | ⟨_, ha⟩
    · rw [if_pos ha]
      exact ⟨_, rfl, ⟨h1, h2, h3, h4, fun _ => ⟨rfl, rfl⟩, fun hh => by omega, fun hh => by omega⟩, by rw [(h5 ha).2.2]; rfl⟩
    · obtain ⟨g1, g2, g3, g4⟩ := h6 ha
      obtain ⟨A, hA, hA2, hA3⟩ := ih (i - 1) (by omega) (by omega)
      rw [if_neg (by omega), g2, Int.toNat_natCast, hA]
      refine ⟨.nd x.kd x.nm A .nil, by rw [Option.bind_some, if_pos ha], ⟨h1, h2, h3, h4, fun hh => by omega, fun _ => ⟨hA2, rfl⟩, fun hh => by omega⟩, ?_⟩
      rw [szT_nd, hA3, g4]; show szI q (i - 1) + 0 + 1 = _; omega
    · obtain ⟨g1, g2, g3, g4⟩ := h7 ha
      obtain ⟨A, hA, hA2, hA3⟩ := ih (i - 1 - szI q (i - 1)) (by omega) (by omega)
      obtain ⟨B, hB, hB2, hB3⟩ := ih (i - 1) (by omega) (by omega)
      rw [if_neg (by omega), g2, g3, Int.toNat_natCast, Int.toNat_natCast, hA]
      refine ⟨.nd x.kd x.nm A B, by rw [Option.bind_some, if_neg (by omega), hB]; rfl, ⟨h1, h2, h3, h4, fun hh => by omega, fun hh => by omega, fun _ => ⟨hA2, hB2⟩⟩, ?_⟩
      rw [szT_nd, hA3, hB3, g4]; omega
/-- A tree's nodes behind s others. -/
def lsT : Nat → Tr → List Nd
  | _, .nil => []
  | s, .nd k m l r => lsT s l ++ lsT (s + szT l) r ++ [⟨k, m, if l = .nil then 0 else ((s + szT l : Nat) : Int) - 1, if r = .nil then 0 else ((s + szT l + szT r : Nat) : Int) - 1⟩]
theorem lsT_len : ∀ (s : Nat) (t : Tr), (lsT s t).length = szT t
  | _, .nil => rfl
  | s, .nd k m l r => by
    show (lsT s l ++ lsT (s + szT l) r ++ [_]).length = _
    rw [List.length_append, List.length_append, lsT_len, lsT_len]; rfl
def inr (k : Int) : Int := if k = 8 then 12 else if k = 9 then 13 else if k = 12 then 8 else if k = 13 then 9 else 0
/-- A node with one operand, simplified. -/
def oneT (k : Int) : Tr → Tr
  | .nil => .nil
  | .nd xk m l r =>
    if k = 7 ∧ xk = 2 then .nd 1 0 .nil .nil
    else if k = 7 ∧ xk = 1 then .nd 2 0 .nil .nil
    else if k = 7 ∧ xk = 7 then l
    else if k ≠ 7 ∧ xk = 2 then .nd xk m l r
    else if (k = 8 ∨ k = 9) ∧ xk = 1 then .nd xk m l r
    else if (k = 8 ∨ k = 9 ∨ k = 12 ∨ k = 13) ∧ xk = k then .nd xk m l r
    else if (k = 8 ∨ k = 9 ∨ k = 12 ∨ k = 13) ∧ xk = inr k then oneT k l
    else .nd k 0 (.nd xk m l r) .nil
def eqI (x y : Tr) : Int := if x = y then 1 else 0
/-- A node with two operands, simplified. -/
def twoE (e k xk yk : Int) (x y : Tr) : Tr :=
  if k = 16 then if e = 1 ∨ xk = 2 ∨ yk = 1 then .nd 2 0 .nil .nil else if yk = 2 then x else if xk = 1 then oneT 7 y else .nd k 0 x y
  else if k = 15 then if e = 1 ∨ yk = 1 then x else if xk = 1 then y else if xk = 2 ∨ yk = 2 then .nd 2 0 .nil .nil else .nd k 0 x y
  else if e = 1 ∨ yk = 2 then x else if xk = 2 then y else if xk = 1 ∨ yk = 1 then .nd 1 0 .nil .nil else .nd k 0 x y
def twoT (k : Int) (x y : Tr) : Tr := twoE (eqI x y) k (kdT x) (kdT y) x y
def simT : Tr → Tr
  | .nil => .nil
  | .nd k m l r => if ar k = 1 then oneT k (simT l) else if ar k = 2 then twoT k (simT l) (simT r) else .nd k m l r
theorem ok_op {k m : Int} {l r : Tr} (h : okT (.nd k m l r)) (h1 : 7 ≤ k ∧ k ≤ 13) : okT l := by
  rcases ar_or k with ⟨_, h2⟩ | ⟨_, _, h2⟩ | ⟨_, h2⟩
  · omega
  · exact (h.2.2.2.2.2.1 h2).1
  · omega
theorem one_ok {k : Int} (hk : 7 ≤ k ∧ k ≤ 13) : ∀ {x : Tr}, okT x → okT (oneT k x) ∧ szT (oneT k x) ≤ szT x + 1
  | .nil, h => absurd h id
  | .nd xk m l r, h => by
    have hin : k = 8 ∨ k = 9 ∨ k = 12 ∨ k = 13 → 7 ≤ inr k ∧ inr k ≤ 13 := by
      rintro (rfl | rfl | rfl | rfl) <;> decide
    unfold oneT
    split
    · exact ⟨okT_leaf ⟨by omega, by omega⟩ ⟨by omega, by decide⟩, by rw [szT_nd, szT_nd]; simp only [szT]; omega⟩
    · split
      · exact ⟨okT_leaf ⟨by omega, by omega⟩ ⟨by omega, by decide⟩, by rw [szT_nd, szT_nd]; simp only [szT]; omega⟩
      · split
        · exact ⟨ok_op h (by omega), by rw [szT_nd]; omega⟩
        · split
          · exact ⟨h, by omega⟩
          · split
            · exact ⟨h, by omega⟩
            · split
              · exact ⟨h, by omega⟩
              · split
                · rename_i hh
                  have hl := ok_op h (by rw [hh.2]; exact hin hh.1)
                  have := one_ok hk hl
                  exact ⟨this.1, by rw [szT_nd]; omega⟩
                · exact ⟨okT_one hk h, by rw [szT_nd]; simp only [szT]; omega⟩
theorem two_ok {k : Int} (hk : 14 ≤ k ∧ k ≤ 16) {x y : Tr} (hx : okT x) (hy : okT y) : okT (twoT k x y) ∧ szT (twoT k x y) ≤ szT x + szT y + 1 := by
  have h1 := szT_pos (okT_ne hx)
  have h2 := szT_pos (okT_ne hy)
  have hn : okT (.nd k 0 x y) ∧ szT (.nd k 0 x y) ≤ szT x + szT y + 1 := ⟨okT_two hk hx hy, Nat.le_refl _⟩
  have lf : ∀ c : Int, c = 1 ∨ c = 2 → okT (.nd c 0 .nil .nil) ∧ szT (.nd c 0 .nil .nil) ≤ szT x + szT y + 1 := fun c hc => ⟨okT_leaf (by omega) ⟨by omega, most_in c⟩, by rw [szT_nd]; simp only [szT]; omega⟩
  unfold twoT twoE
  split
  · split
    · exact lf 2 (by omega)
    · split
      · exact ⟨hx, by omega⟩
      · split
        · have := one_ok (k := 7) (by omega) hy
          exact ⟨this.1, by omega⟩
        · exact hn
  · split
    · split
      · exact ⟨hx, by omega⟩
      · split
        · exact ⟨hy, by omega⟩
        · split
          · exact lf 2 (by omega)
          · exact hn
    · split
      · exact ⟨hx, by omega⟩
      · split
        · exact ⟨hy, by omega⟩
        · split
          · exact lf 1 (by omega)
          · exact hn
theorem sim_ok : ∀ {t : Tr}, okT t → okT (simT t) ∧ szT (simT t) ≤ szT t
  | .nil, h => absurd h id
  | .nd k m l r, h => by
    have h0 := h
    obtain ⟨h1, h2, h3, h4, h5, h6, h7⟩ := h
    unfold simT
    rcases ar_or k with ⟨_, ha⟩ | ⟨_, _, ha⟩ | ⟨_, ha⟩
    · rw [if_neg (by omega), if_neg (by omega)]
      exact ⟨h0, Nat.le_refl _⟩
    · rw [if_pos ha]
      obtain ⟨hl, rfl⟩ := h6 ha
      have i1 := sim_ok hl
      have := one_ok (k := k) (by omega) i1.1
      exact ⟨this.1, by rw [szT_nd]; omega⟩
    · rw [if_neg (by omega), if_pos ha]
      obtain ⟨hl, hr⟩ := h7 ha
      have i1 := sim_ok hl
      have i2 := sim_ok hr
      have := two_ok (k := k) (by omega) i1.1 i2.1
      exact ⟨this.1, by rw [szT_nd]; omega⟩

def opnG (fu : Nat) : List AV → Option (Prop × AV)
  | [.agg [.d (.sl xs)], .d (.int .i64 i)] => some (xs = rows eN (dN xs) ∧ okN (dN xs) ∧ 0 ≤ i ∧ (opnT (dN xs) fu i.toNat).isSome = true, .d (dT ((opnT (dN xs) fu i.toNat).getD .nil)))
  | _ => none
def E_op (n : Nat) (ks : Meets Tryd.prog 36 (Spec.pure (opnG n))) : Env Tryd.prog := E_ev.add 36 (Spec.pure (opnG n)) ks (by kernel_rfl)
theorem getD_tr (t : Tr) : (some t).getD .nil = t := rfl

theorem opn_step (fu : Nat) (ks : Meets Tryd.prog 36 (Spec.pure (opnG fu))) : Meets Tryd.prog 36 (Spec.pure (opnG (fu + 1))) := by
 refine meets_fun ((E_op fu ks).at_ 41) Tryd.func36 rfl rfl rfl ?_
 intro args p r hg hp
 unfold opnG at hg
 split at hg
 rename_i xs i
 simp only [Option.some.injEq, Prod.mk.injEq] at hg
 obtain ⟨rfl, rfl⟩ := hg
 obtain ⟨he, hok, hi0, hsm⟩ := hp
 generalize dN xs = q at *
 subst he
 obtain ⟨i, rfl⟩ := Int.eq_ofNat_of_zero_le hi0
 simp only [Int.toNat_natCast] at hsm ⊢
 obtain ⟨R, hR⟩ := Option.isSome_iff_exists.1 hsm
 rw [hR, getD_tr]
 obtain ⟨n, hn, hcs⟩ := opn_cases hR
 have hil : i < q.length := (List.getElem?_eq_some_iff.1 hn).1
 have hq40 := hok.1
 obtain ⟨o1, o2, o3, o4, o5, o6⟩ := hok.2 n (mem_at hn)
 obtain ⟨a, b, c, d⟩ := n
 dsimp only at o1 o2 o3 o4 o5 o6 hcs
 have hT : ((E_op fu ks)).X = T := rfl
 have hx0 := And.intro @dec_t (And.intro @dec_f (And.intro @rect_eN (And.intro @dN_rows (And.intro @Int.toNat_natCast (And.intro @tD_dT (And.intro @tD_nd (And.intro @tD_lf (And.intro @cl_dT (And.intro @cm_dT (And.intro @dT_nd (And.intro @dT_nil (And.intro @eq_dT (And.intro @ne_dT (And.intro @getD_tr @Tryd.results36))))))))))))))
 have hx := hx0
 refine ⟨by rfl, ?_⟩
 intro F W0 hnp hmk
 refine vc_seq_k fun N1 h1 => ?_
 refine u_reg ?_
 try refine lg_mk ?_
 refine u_bx ?_
 refine u_mv ?_
 refine lg_nil ?_
 refine h1 _ ?_; clear h1; try clear N1
 refine vc_seq_k fun N2 h2 => ?_
 have hx := And.intro @hn (And.intro @eN.eq_1 hx0)
 refine u_reg ?_
 try refine lg_mk ?_
 refine u_pt ?_
 refine u_ld ?_
 refine u_mv ?_
 refine u_pt ?_
 refine u_ld ?_
 refine u_al ?_
 refine u_st ?_
 refine lg_nil ?_
 have hx := hx0
 refine h2 _ ?_; clear h2; try clear N2
 refine vc_seq_k fun N3 h3 => ?_
 refine u_reg ?_
 try refine lg_mk ?_
 refine u_pt ?_
 refine u_ld ?_
 refine u_pt ?_
 refine u_ld ?_
 refine u_bd ?_
 refine u_bx ?_
 refine u_mv ?_
 refine lg_nil ?_
 refine h3 _ ?_; clear h3; try clear N3
 refine vc_seq_k fun N4 h4 => ?_
 rcases hcs with ⟨ha, rfl⟩ | ⟨ha, A, hA, rfl⟩ | ⟨ha, A, B, hA, hB, rfl⟩
 have hx := And.intro @ha hx0
 refine u_reg ?_
 try refine lg_mk ?_
 refine u_pt ?_
 refine u_ld ?_
 have hc := call_rule (E := ((E_op fu ks).at_ 41)) (f := 47) (sp := Spec.pure arG) rfl
 have hs := @arG.eq_1
 refine u_cp ?_
 refine u_mv ?_
 refine lg_nil ?_
 have hx := hx0
 refine h4 _ ?_; clear h4; try clear N4
 refine vc_seq_k fun N5 h5 => ?_
 refine vc_seq_k fun N6 h6 => ?_
 refine u_reg ?_
 try refine lg_mk ?_
 refine u_mv ?_
 refine u_bn ?_
 refine lg_nil ?_
 refine h6 _ ?_; clear h6; try clear N6
 refine u_cond (fun hb7 => ?_) (fun hb7 => ?_)
 ·first | omega | exact absurd trivial hb7 | contradiction | (simp_all; done)
 refine vc_skip ?_
 try simp only [k_rules]
 refine h5 _ ?_; clear h5; try clear N5
 refine vc_seq_k fun N8 h8 => ?_
 refine vc_seq_k fun N9 h9 => ?_
 refine u_reg ?_
 try refine lg_mk ?_
 refine u_mv ?_
 refine u_bn ?_
 refine lg_nil ?_
 refine h9 _ ?_; clear h9; try clear N9
 refine u_cond (fun hb10 => ?_) (fun hb10 => ?_)
 ·first | omega | exact absurd trivial hb10 | contradiction | (simp_all; done)
 refine vc_skip ?_
 try simp only [k_rules]
 refine h8 _ ?_; clear h8; try clear N8
 refine vc_seq_k fun N11 h11 => ?_
 refine u_reg ?_
 try refine lg_mk ?_
 iterate 2 refine u_mv ?_
 refine lg_nil ?_
 refine h11 _ ?_; clear h11; try clear N11
 refine vc_ret ?_
 try simp only [k_rules]
 refine fin2_ ?_
 exact cl_
 have sA := sc_dT (opn_ne hA)
 have hx := And.intro @ha hx0
 refine u_reg ?_
 try refine lg_mk ?_
 refine u_pt ?_
 refine u_ld ?_
 have hc := call_rule (E := ((E_op fu ks).at_ 41)) (f := 47) (sp := Spec.pure arG) rfl
 have hs := @arG.eq_1
 refine u_cp ?_
 refine u_mv ?_
 refine lg_nil ?_
 have hx := hx0
 refine h4 _ ?_; clear h4; try clear N4
 refine vc_seq_k fun N12 h12 => ?_
 refine vc_seq_k fun N13 h13 => ?_
 refine u_reg ?_
 try refine lg_mk ?_
 refine u_mv ?_
 refine u_bn ?_
 refine lg_nil ?_
 refine h13 _ ?_; clear h13; try clear N13
 refine u_cond (fun hb14 => ?_) (fun hb14 => ?_)
 have hx := And.intro @hA (And.intro @sA hx0)
 refine u_reg ?_
 try refine lg_mk ?_
 refine u_mv ?_
 refine u_ld ?_
 refine u_pt ?_
 refine u_ld ?_
 have hc := call_rule (E := ((E_op fu ks).at_ 41)) (f := 36) (sp := Spec.pure (opnG fu)) rfl
 have hs := @opnG.eq_1
 refine u_hp (hq := by (first | ((repeat' apply And.intro) <;> first | rfl | omega | exact hok.2 | (rw [hA]; rfl) | (rw [hB]; rfl)) | exact sd_)) ?_
 refine u_nl ?_
 refine u_pt ?_
 refine u_st ?_
 refine lg_nil ?_
 have hx := hx0
 refine h12 _ ?_; clear h12; try clear N12
 refine vc_seq_k fun N15 h15 => ?_
 refine vc_seq_k fun N16 h16 => ?_
 refine u_reg ?_
 try refine lg_mk ?_
 refine u_mv ?_
 refine u_bn ?_
 refine lg_nil ?_
 refine h16 _ ?_; clear h16; try clear N16
 refine u_cond (fun hb17 => ?_) (fun hb17 => ?_)
 ·first | omega | exact absurd trivial hb17 | contradiction | (simp_all; done)
 refine vc_skip ?_
 try simp only [k_rules]
 refine h15 _ ?_; clear h15; try clear N15
 refine vc_seq_k fun N18 h18 => ?_
 refine u_reg ?_
 try refine lg_mk ?_
 iterate 2 refine u_mv ?_
 refine lg_nil ?_
 refine h18 _ ?_; clear h18; try clear N18
 refine vc_ret ?_
 try simp only [k_rules]
 refine fin2_ ?_
 exact cl_
 ·first | omega | exact absurd trivial hb14 | contradiction | (simp_all; done)
 have sA := sc_dT (opn_ne hA)
 have sB := sc_dT (opn_ne hB)
 have hx := And.intro @ha hx0
 refine u_reg ?_
 try refine lg_mk ?_
 refine u_pt ?_
 refine u_ld ?_
 have hc := call_rule (E := ((E_op fu ks).at_ 41)) (f := 47) (sp := Spec.pure arG) rfl
 have hs := @arG.eq_1
 refine u_cp ?_
 refine u_mv ?_
 refine lg_nil ?_
 have hx := hx0
 refine h4 _ ?_; clear h4; try clear N4
 refine vc_seq_k fun N19 h19 => ?_
 refine vc_seq_k fun N20 h20 => ?_
 refine u_reg ?_
 try refine lg_mk ?_
 refine u_mv ?_
 refine u_bn ?_
 refine lg_nil ?_
 refine h20 _ ?_; clear h20; try clear N20
 refine u_cond (fun hb21 => ?_) (fun hb21 => ?_)
 have hx := And.intro @hA (And.intro @sA hx0)
 refine u_reg ?_
 try refine lg_mk ?_
 refine u_mv ?_
 refine u_ld ?_
 refine u_pt ?_
 refine u_ld ?_
 have hc := call_rule (E := ((E_op fu ks).at_ 41)) (f := 36) (sp := Spec.pure (opnG fu)) rfl
 have hs := @opnG.eq_1
 refine u_hp (hq := by (first | ((repeat' apply And.intro) <;> first | rfl | omega | exact hok.2 | (rw [hA]; rfl) | (rw [hB]; rfl)) | exact sd_)) ?_
 refine u_nl ?_
 refine u_pt ?_
 refine u_st ?_
 refine lg_nil ?_
 have hx := hx0
 refine h19 _ ?_; clear h19; try clear N19
 refine vc_seq_k fun N22 h22 => ?_
 refine vc_seq_k fun N23 h23 => ?_
 refine u_reg ?_
 try refine lg_mk ?_
 refine u_mv ?_
 refine u_bn ?_
 refine lg_nil ?_
 refine h23 _ ?_; clear h23; try clear N23
 refine u_cond (fun hb24 => ?_) (fun hb24 => ?_)
 have hx := And.intro @hB (And.intro @sB hx0)
 refine u_reg ?_
 try refine lg_mk ?_
 refine u_mv ?_
 refine u_ld ?_
 refine u_pt ?_
 refine u_ld ?_
 have hc := call_rule (E := ((E_op fu ks).at_ 41)) (f := 36) (sp := Spec.pure (opnG fu)) rfl
 have hs := @opnG.eq_1
 refine u_hp (hq := by (first | ((repeat' apply And.intro) <;> first | rfl | omega | exact hok.2 | (rw [hA]; rfl) | (rw [hB]; rfl)) | exact sd_)) ?_
 refine u_nl ?_
 refine u_pt ?_
 refine u_st ?_
 refine lg_nil ?_
 have hx := hx0
 refine h22 _ ?_; clear h22; try clear N22
 refine vc_seq_k fun N25 h25 => ?_
 refine u_reg ?_
 try refine lg_mk ?_
 iterate 2 refine u_mv ?_
 refine lg_nil ?_
 refine h25 _ ?_; clear h25; try clear N25
 refine vc_ret ?_
 try simp only [k_rules]
 refine fin2_ ?_
 exact cl_
 ·first | omega | exact absurd trivial hb24 | contradiction | (simp_all; done)
 ·first | omega | exact absurd trivial hb21 | contradiction | (simp_all; done)
 cases hg
end Go.Proofs.YtlbjffdaooadoaaDoor
