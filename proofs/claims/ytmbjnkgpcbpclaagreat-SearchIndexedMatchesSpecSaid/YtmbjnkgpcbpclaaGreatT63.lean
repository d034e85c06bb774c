import Derived.Test.YtmbjnkgpcbpclaaGreatT62
set_option linter.all false
set_option maxRecDepth 100000
set_option maxHeartbeats 4000000
namespace Go.Proofs.YtmbjnkgpcbpclaaGreat
open Go Go.Vc Go.RowKit
def Ob : List Bs := [[92], [92, 92], [34], [92, 34]]
def HA : DP
  | [.ptr 0 0 0, .d (.str s)], [some (.one t [.d (.int .u32 0), .d (.int .i32 0), .d x, .d (.ifc true), .d (.sl xs)])] => some (t = 131 ∧ xs = rows eT Ob ∧ s.length ≤ 1000000, .d (.str (FL s)), [none])
  | _, _ => none
theorem MR [Bl] {W0 : World} {M0 : Nat → Prop} {bl : List (Option B7)} {n : Nat} {w : World} {S : Lays} (hH : Ai W0 M0 (Ax bl) n w S) {b0 : B7} (hb : Ax bl 0 = some b0) {v : Value} (h : R w S n (.ptr 0 0 0) v) : ∃ l b, S 0 = some l ∧ l.blk = some b ∧ BQ w S n b0 l ∧ v = .pointer (some ⟨b, 0, none⟩) := by
  obtain ⟨l, hS, hB⟩ := hH.box 0 _ hb
  cases h with
  | ptrDead _ _ _ _ _ h => rw [hS] at h; cases h
  | ptr _ _ _ b l' _ h hk => rw [hS] at h; cases h; exact ⟨l, b, hS, hk, hB, by simp⟩
theorem VF {w : World} {O : Nat → Prop} {xs : List (List D)} {v : Value} (h : RD w O (.sl xs) v) {x : List D} (hx : xs[0]? = some x) (h1 : x.length = 1) : ∃ g o cap, v = .slice (some ⟨g, o, none⟩) xs.length cap ∧ ¬O g ∧ g < w.heap.size ∧ ∀ e c, D4 xs e 0 = some c → ∃ u, w.cell? ⟨g, o + e, none⟩ = some u ∧ RD w O c u := by
  cases h with
  | sl0 a cap => simp at hx
  | sl _ sz b o cap u hl hb hO hz hc hr =>
    have : sz = 1 := by rw [← hz x (List.mem_of_getElem? hx)]; exact h1
    subst this
    refine ⟨b, o, cap, rfl, hO, hb, fun e c hh => ⟨u e 0, ?_, hr e 0 c hh⟩⟩
    have := hc e 0 c hh
    simpa using this
theorem Xy {w : World} {O : Nat → Prop} {s : Bs} {v : Value} (h : RD w O (.str s) v) : v = .string ⟨s.toArray⟩ := by cases h; rfl
@[reducible] def FX (F : Bl) : Bl := { F := fun _ => False, nev := fun _ => False, sub := fun _ h => h, pin := fun _ => none, np := 0, marks := true, mx := F.mx }
theorem Sr [F : Bl] {W0 : World} {M0 : Nat → Prop} {H : Av} {n : Nat} {w w' : World} {S : Lays} {b : Nat} (hH : Ai W0 M0 H n w S) (hb : own S b) (hD : Tryz.Rep.Done b w w') (s : Bs) (hs : s.length ≤ 1000000) :
    Calls Tryz.prog 178 #[.pointer (some ⟨w.heap.size + 1, 0, none⟩), .string ⟨s.toArray⟩] w' fun e w'' => e = .returned (.string ⟨(FL s).toArray⟩) ∧ Tryz.Rep.Keep (fun _ => False) w' w'' := by
  have hO : ∀ k, ¬@own (FX F) (fun _ => none) k := fun k h => by
    rcases h with h | ⟨i, l, h, _⟩
    · exact h
    · cases h
  have hgl : ∀ p ∈ @GA (FX F), Mf w' (@own (FX F) fun _ => none) p := fun p hp => (hH.gl p hp).ext (by have := hD.size; omega) (fun k hk hn => hD.same k hk fun e => hn (e ▸ hb)) (fun k _ _ => hO k)
  have hh : @Ai (FX F) w' (@Gq (fun _ => none) (fun _ => none)) (fun _ => none) 0 w' (fun _ => none) :=
    @Ai.mk (FX F) _ _ _ _ _ _ (fun _ _ => rfl) (fun i l b h => by cases h) (fun id b h => by cases h) (fun i j l l' b h => by cases h) (fun i l h => by cases h) (fun i l b h => by cases h) (fun i l b h => by cases h) rfl rfl rfl (Nat.le_refl _) (fun _ _ _ => rfl) (fun b hb => hb.elim) (fun i h => absurd h (Nat.not_lt_zero i)) hgl
  have hm := Lu
  unfold A5 at hm
  have hargs : ∀ (i : Nat) (c : AV) (u : Value), [AV.d (.ptr Da), AV.d (.str s)][i]? = some c → [Value.pointer (some ⟨w.heap.size + 1, 0, none⟩), Value.string ⟨s.toArray⟩][i]? = some u → @R (FX F) w' (fun _ => none) 0 c u := ?_
  · have hc := @hm [.d (.ptr Da), .d (.str s)] (fun _ => none) 0 (Da = Da ∧ s.length ≤ 1000000) (.d (.str (FL s))) none rfl ⟨rfl, hs⟩ (FX F) w' (fun _ => none) [.pointer (some ⟨w.heap.size + 1, 0, none⟩), .string ⟨s.toArray⟩] hh rfl hargs
    refine hc.mono ?_
    rintro e w'' ⟨v, S', rfl, hL, hsame, hR⟩
    obtain ⟨rfl, hsm⟩ := hsame rfl
    have hv : v = .string ⟨(FL s).toArray⟩ := (@R.str_iff (FX F) _ _ _ _ _).1 hR
    subst hv
    exact ⟨rfl, @Ai.os (FX F) _ _ _ _ _ _ (@Left.heap (FX F) _ _ _ _ _ _ _ _ hL), @Ai.tape (FX F) _ _ _ _ _ _ (@Left.heap (FX F) _ _ _ _ _ _ _ _ hL), @Ai.output (FX F) _ _ _ _ _ _ (@Left.heap (FX F) _ _ _ _ _ _ _ _ hL), @Ai.size (FX F) _ _ _ _ _ _ (@Left.heap (FX F) _ _ _ _ _ _ _ _ hL), fun k hk _ => hsm k hk⟩
  · intro i c u hc hu
    match i, hc, hu with
    | 1, hc, hu => cases hc; cases hu; exact @R.mkStr (FX F) _ _ _ _
    | 0, hc, hu =>
      cases hc; cases hu
      refine @R.d (FX F) _ _ _ _ _ ?_
      refine RD.ptr Da (w.heap.size + 1) 0 (fun f => (w'.cell? ⟨w.heap.size + 1, f, none⟩).getD undef) (by have := hD.size; omega) (hO _) (fun f c hf => ?_) (fun f c hf => ?_)
      · have hlt : f < 257 := by have := (List.getElem?_eq_some_iff.1 hf).1; rw [Qr] at this; exact this
        rw [Nat.zero_add]
        by_cases h6 : f < 256
        · obtain ⟨v, h1, _⟩ := hD.tab f h6
          rw [h1]; rfl
        · obtain rfl : f = 256 := by omega
          rw [hD.lst]; rfl
      · have hlt : f < 257 := by have := (List.getElem?_eq_some_iff.1 hf).1; rw [Qr] at this; exact this
        by_cases h6 : f < 256
        · obtain ⟨v, h1, h2⟩ := hD.tab f h6
          show RD w' _ c ((w'.cell? _).getD undef)
          rw [h1]
          show RD w' _ c v
          have hcd : c = We f := by
            unfold Da at hf
            rw [List.getElem?_append_left (by simpa using h6), List.getElem?_map, List.getElem?_range h6] at hf
            cases hf; rfl
          subst hcd
          have mk : ∀ (l : Bs), Tryz.Rep.Bs w.heap.size w' (some l) v → RD w' (@own (FX F) fun _ => none) (.sl (rows eU l)) v := fun l h => by
            obtain ⟨k, cp, rfl, e1, e2, e3, e4⟩ := h
            rw [show l.length = (rows eU l).length by simp [rows]]
            refine RD.sl _ 1 k 0 cp (fun e f => .int .u8 ((l.getD e 0).toNat : Int)) (by simpa [rows] using e1) e3 (hO _) (fun x hx => ?_) (fun e f c hh => ?_) (fun e f c hh => ?_)
            · unfold rows at hx
              obtain ⟨y, _, rfl⟩ := List.mem_map.1 hx; rfl
            · obtain ⟨x, hx, hf⟩ := B4 hh
              unfold rows at hx
              rw [List.getElem?_map] at hx
              cases hy : l[e]? with
              | none => rw [hy] at hx; cases hx
              | some y =>
                rw [hy] at hx; cases hx
                obtain ⟨hlt, hye⟩ := List.getElem?_eq_some_iff.1 hy
                cases f with
                | zero =>
                  have := e4 e hlt
                  rw [show (0 + e * 1 + 0) = e by omega, this, List.getD_eq_getElem?_getD, hy, hye]; rfl
                | succ f => cases hf
            · obtain ⟨x, hx, hf⟩ := B4 hh
              unfold rows at hx
              rw [List.getElem?_map] at hx
              cases hy : l[e]? with
              | none => rw [hy] at hx; cases hx
              | some y =>
                rw [hy] at hx; cases hx
                cases f with
                | zero => cases hf; rw [List.getD_eq_getElem?_getD, hy]; exact .int _ _
                | succ f => cases hf
          unfold We
          unfold Tryz.Rep.rowOf at h2
          by_cases h34 : f = 34
          · rw [if_pos h34]; rw [if_neg (by omega), if_pos h34] at h2; exact mk _ h2
          · rw [if_neg h34]
            by_cases h92 : f = 92
            · rw [if_pos h92]; rw [if_pos h92] at h2; exact mk _ h2
            · rw [if_neg h92]; rw [if_neg h92, if_neg h34] at h2
              cases h2; exact .nils
        · obtain rfl : f = 256 := by omega
          rw [R1] at hf; cases hf
          show RD w' _ _ ((w'.cell? _).getD undef)
          rw [hD.lst]
          refine RD.sl _ 1 w.heap.size 0 2 (fun e f => if e = 0 then .string ⟨#[34]⟩ else .string ⟨#[92]⟩) (by decide) (by have := hD.size; omega) (hO _) (fun x hx => ?_) (fun e f c hh => ?_) (fun e f c hh => ?_)
          · simp [rows, eT] at hx; rcases hx with rfl | rfl <;> rfl
          · match e, f, hh with
            | 0, 0, _ => exact hD.s0
            | 1, 0, _ => exact hD.s1
            | 0, f + 1, hh => simp [D4, rows, eT] at hh
            | 1, f + 1, hh => simp [D4, rows, eT] at hh
            | e + 2, _, hh => simp [D4, rows, eT] at hh
          · match e, f, hh with
            | 0, 0, hh => simp [D4, rows, eT] at hh; subst hh; exact .str [34]
            | 1, 0, hh => simp [D4, rows, eT] at hh; subst hh; exact .str [92]
            | 0, f + 1, hh => simp [D4, rows, eT] at hh
            | 1, f + 1, hh => simp [D4, rows, eT] at hh
            | e + 2, _, hh => simp [D4, rows, eT] at hh
theorem Tq : A5 Tryz.prog 68 (Spec.gen HA) := by
 refine Gc fun ia bl p r bf hg hp F w S vs hnp hpin hmk hH hl hr => ?_
 unfold HA at hg
 split at hg
 ·rename_i s t x xs
  simp only [Option.some.injEq, Prod.mk.injEq] at hg
  obtain ⟨rfl, rfl, rfl⟩ := hg
  obtain ⟨rfl, rfl, hs⟩ := hp
  match vs, hl with
  | [v0, v1], _ =>
  obtain ⟨l, b, hS, hbk, hB, rfl⟩ := MR hH rfl (hr 0 _ _ rfl rfl)
  have hv1 := R.str_iff.1 (hr 1 _ _ rfl rfl)
  subst hv1
  obtain ⟨h1, h2, b', hb', cur, hc, hz, hcell⟩ := hB
  rw [hbk] at hb'; cases hb'
  have hown : own S b := .inr ⟨0, l, hS, .inl hbk⟩
  have cl : ∀ j, w.cell? ⟨b, j, none⟩ = cur[j]? := fun j => Lib.cell_of_heap hc j
  have hbl : b < w.heap.size := (Array.getElem?_eq_some_iff.1 hc).1
  obtain ⟨u0, e0, _, r0⟩ := hcell 0 _ rfl
  obtain ⟨u1, e1, _, r1⟩ := hcell 1 _ rfl
  obtain ⟨u3, e3, _, r3⟩ := hcell 3 _ rfl
  obtain ⟨u4, e4, _, r4⟩ := hcell 4 _ rfl
  obtain rfl : u0 = .int .u32 0 := by cases r0 with | d r0 => cases r0; rfl
  obtain rfl : u1 = .int .i32 0 := by cases r1 with | d r1 => cases r1; rfl
  obtain rfl : u3 = .nilIface := by cases r3 with | d r3 => cases r3; rfl
  have r4' : RD w (own S) (.sl (rows eT Ob)) u4 := by cases r4 with | d r4 => exact r4
  obtain ⟨g, o, cap, rfl, hgo, hgl, hgc⟩ := VF r4' (x := [.str [92]]) rfl rfl
  have gs : ∀ e (s : Bs), Ob[e]? = some s → w.cell? ⟨g, o + e, none⟩ = some (.string ⟨s.toArray⟩) := fun e s he => by
   obtain ⟨u, hu, hR⟩ := hgc e (.str s) (by simp only [D4, rows, List.getElem?_map, he]; rfl)
   rw [hu, Xy hR]
  have hF : Tryz.Rep.Fresh b g o cap w := ⟨(cl 0).trans e0, (cl 1).trans e1, (cl 3).trans e3, (cl 4).trans e4, fun j => Lib.frozen_of_heap hc j, fun e => hgo (e ▸ hown), gs 0 _ rfl, gs 1 _ rfl, gs 2 _ rfl, gs 3 _ rfl⟩
  refine (Tryz.Rep.replace b g o cap ⟨s.toArray⟩ ⟨(FL s).toArray⟩ (Tryz.Rep.Keep fun _ => False) w hF (fun w' hD => Sr hH hown hD s hs)).mono ?_
  rintro e w'' ⟨rfl, w', hD, hK⟩
  have hsz : w.heap.size ≤ w''.heap.size := Nat.le_trans (by have := hD.size; omega) hK.size
  have hsame : ∀ k, k < w.heap.size → k ≠ b → w''.heap[k]? = w.heap[k]? := fun k hk hn => (hK.same k (by have := hD.size; omega) (fun h => h)).trans (hD.same k hk hn)
  have hnb : ∀ i, (Ax [none] i : Option B7) = none := fun i => by cases i <;> simp [Ax]
  refine ⟨_, fun _ => none, rfl, ?_, R.mkStr _⟩
  refine ⟨fun _ _ => rfl, fun i l b h => (by cases h), fun id b h => ?_, fun i j l l' b h => (by cases h), fun i l h => (by cases h), fun i l b h => ?_, fun i l b h => ?_, hK.os.trans hD.os, hK.tape.trans hD.tape, hK.output.trans hD.output, hsz, fun k hk hM => hsame k hk fun e => hM ⟨0, l, hS, .inl (e ▸ hbk)⟩, fun k hk => ⟨(hH.far k hk).1, fun i l h => (by cases h)⟩, fun i hi => ⟨by rw [hnp] at hi; exact hi, .inr rfl⟩, fun p hp => ?_⟩
  ·rw [hnb] at h; cases h
  ·rw [hnb] at h; cases h
  ·rw [hnb] at h; cases h
  ·refine (hH.gl p hp).ext hsz (fun k hk hn => hsame k hk fun e => hn (e ▸ hown)) fun k _ hn h => ?_
   rcases h with h | ⟨i, l, h, _⟩
   ·exact hn (.inl h)
   ·cases h
 ·cases hg
theorem SJ [Bl] {W0 : World} {M0 : Nat → Prop} {H H' : Av} {n : Nat} {w w' : World} {S : Lays} {ks : Nat → Prop} (hH : Ai W0 M0 H n w S) {i : Nat} {l : Lay} (hS : S i = some l) (hK : Tryz.Rep.Keep ks w w') (hks : ∀ k, ks k → l.has k ∧ (W0.heap.size ≤ k ∨ M0 k))
    (hbox : Cu w S n w' S n → ∀ b', H' i = some b' → BQ w' S n b' l ∧ (G6 b' = true → l.subs = [])) (hoth : ∀ j, j ≠ i → H' j = H j) (hsome : (H i).isSome = true) : Ai W0 M0 H' n w' S ∧ Cu w S n w' S n := by
  have hE : Cu w S n w' S n := ⟨Nat.le_refl _, hK.size, fun _ _ => .inl rfl, fun _ _ h => h, fun k hk hn => hK.same k hk fun e => hn (.inr ⟨i, l, hS, (hks k e).1⟩)⟩
  refine ⟨⟨hH.bnd, fun i l b h1 h2 => Nat.lt_of_lt_of_le (hH.lt2 i l b h1 h2) hK.size, fun id b' hb' => ?_, hH.inj2, hH.nod, fun j l' b' hb' hl' hf => ?_, fun j l' b' hb' hl' hk => ?_, hK.os.trans hH.os, hK.tape.trans hH.tape, hK.output.trans hH.output, Nat.le_trans hH.size hK.size, fun k hk hn => ?_, hH.far, hH.pin, hH.glx hE⟩, hE⟩
  · by_cases hid : id = i
    · subst hid; exact ⟨l, hS, (hbox hE b' hb').1⟩
    · rw [hoth id hid] at hb'
      obtain ⟨l', h1, h2⟩ := hH.box id b' hb'
      exact ⟨l', h1, h2.ext hE fun k hk => hK.same k (hH.lt2 id l' k h1 hk) fun e => hid (hH.inj2 id i l' l k h1 hS hk (hks k e).1)⟩
  · by_cases hid : j = i
    · subst hid; rw [hS] at hl'; cases hl'; exact (hbox hE b' hb').2 hf
    · rw [hoth j hid] at hb'; exact hH.plain j l' b' hb' hl' hf
  · by_cases hid : j = i
    · subst hid; exact hH.mut2 j l' b' hsome hl' hk
    · rw [hoth j hid] at hb'; exact hH.mut2 j l' b' hb' hl' hk
  · rw [hK.same k (Nat.lt_of_lt_of_le hk hH.size) (fun e => (hks k e).2.elim (by omega) hn)]
    exact hH.same k hk hn
def Zn : AV → Bool
  | .d .nilp => true
  | .ptr 0 0 0 => true
  | _ => false
theorem Yn [Bl] {w : World} {S : Lays} {n : Nat} {p : AV} {u : Value} {l : Lay} {b : Nat} (h : Zn p = true) (hS : S 0 = some l) (hbk : l.blk = some b) (hR : R w S n p u) : u = .pointer none ∨ u = .pointer (some ⟨b, 0, none⟩) := by
  unfold Zn at h
  split at h
  · cases hR with | d hR => cases hR; exact .inl rfl
  · cases hR with
    | ptrDead _ _ _ _ _ h => rw [hS] at h; cases h
    | ptr _ _ _ b' l' _ h hk => rw [hS] at h; cases h; rw [hbk] at hk; cases hk; exact .inr (by simp)
  · cases h
def QF : DP
  | [.ptr 0 0 0, .d (.int .u8 k)], [some (.one t [p, .sl 1 0 m]), some (.ob (.bfr t2 bs false))] => some (t = 143 ∧ t2 = 5 ∧ Zn p = true ∧ m = bs.length ∧ 0 ≤ k ∧ k ≤ 255 ∧ bs.length ≤ 100000, .d (.ifc true), [some (.one 143 [.ptr 0 0 0, .sl 2 0 (m + 1)]), none, some (.ob (.bfr 5 (bs ++ [UInt8.ofNat k.toNat]) false))])
  | _, _ => none
def JZ : DP
  | [.ptr 0 0 0], [some (.one t [p, .sl 1 0 m]), some (.ob (.bfr t2 bs fz))] => some (t = 143 ∧ t2 = 5 ∧ Zn p = true ∧ m = bs.length ∧ bs.length ≤ 100000, .d (.str bs), [some (.one 143 [p, .sl 1 0 m]), some (.ob (.bfr 5 bs true))])
  | _, _ => none
theorem YL [Bl] {w : World} {S : Lays} {n : Nat} {id len : Nat} {v : Value} {l : Lay} (hS : S id = some l) (h : R w S n (.sl id 0 len) v) : v = .slice (l.blk.map fun b => ⟨b, 0, none⟩) len l.cap := by
  cases h with
  | slDead _ _ _ _ _ h => rw [hS] at h; cases h
  | sl _ _ _ o l' _ h _ _ h0 => rw [hS] at h; cases h; rw [h0 rfl]; rfl
theorem T9 {cur : Array Value} (h : cur.size = 2) {a b : Value} (ha : cur[0]? = some a) (hb : cur[1]? = some b) : cur = #[a, b] := by
  apply Array.ext
  · simpa using h
  · intro i h1 h2
    match i, h2 with
    | 0, _ => have := (Array.getElem?_eq_some_iff.1 ha).2; simpa using this
    | 1, _ => have := (Array.getElem?_eq_some_iff.1 hb).2; simpa using this
theorem Ug [Bl] {W0 : World} {M0 : Nat → Prop} {w : World} {S : Lays} {pp : AV} {bs : Bs} {fz : Bool} {l : Lay} {b : Nat} (hH : Ai W0 M0 (Ax [some (.one 143 [pp, .sl 1 0 bs.length]), some (.ob (.bfr 5 bs fz))]) 2 w S) (hS : S 0 = some l) (hbk : l.blk = some b)
    (hB : BQ w S 2 (.one 143 [pp, .sl 1 0 bs.length]) l) (hcc : Zn pp = true) : ∃ u0 u1 l1, w.heap[b]? = some (.cells #[u0, u1] 143 (0, 0)) ∧ (u0 = .pointer none ∨ u0 = .pointer (some ⟨b, 0, none⟩)) ∧ S 1 = some l1 ∧ u1 = .slice (l1.blk.map fun b => ⟨b, 0, none⟩) bs.length l1.cap ∧ Tryz.Rep.Buf w b u1 bs fz ∧
      l1.subs = [] ∧ (∀ g, l1.blk = some g → g ≠ b) ∧ (∀ g, u1.ownBlock = some g ↔ l1.blk = some g) ∧ R w S 2 pp u0 := by
  obtain ⟨h1, h2, b', hb', cur, hc, hz, hcell⟩ := hB
  rw [hbk] at hb'; cases hb'
  obtain ⟨u0, e0, _, r0⟩ := hcell 0 _ rfl
  obtain ⟨u1, e1, _, r1⟩ := hcell 1 _ rfl
  obtain ⟨l1, hS1, hB1⟩ := hH.box 1 _ rfl
  have hu1 := YL hS1 r1
  have hcur := T9 hz e0 e1
  subst hcur
  obtain ⟨hsub, hB1⟩ := hB1
  have hgb : ∀ g, l1.blk = some g → g ≠ b := fun g hg e => by
    have := hH.inj2 1 0 l1 l b hS1 hS (.inl (e ▸ hg)) (.inl hbk)
    omega
  refine ⟨u0, u1, l1, hc, Yn hcc hS hbk r0, hS1, hu1, ?_, hsub, hgb, fun g => ?_, r0⟩
  · subst hu1
    rcases hB1 with ⟨rfl, hn, hcap⟩ | ⟨g, cur, z, hg, hgc, hne, hle, hmx, hsz, htk, hfz⟩
    · left; rw [hn, hcap]; exact ⟨rfl, rfl⟩
    · right; rw [hg]; exact ⟨g, l1.cap, cur, z, hne, rfl, hgb g hg, hle, hmx, hgc, hsz, htk, hfz⟩
  · subst hu1
    cases hbl : l1.blk with
    | none => simp [Value.ownBlock]
    | some g' => simp [Value.ownBlock]
theorem Ss : A5 Tryz.prog 96 (Spec.gen JZ) := by
 refine Gc fun ia bl p r bf hg hp F w S vs hnp hpin hmk hH hl hr => ?_
 unfold JZ at hg
 split at hg
 ·rename_i t pp m t2 bs fz
  simp only [Option.some.injEq, Prod.mk.injEq] at hg
  obtain ⟨rfl, rfl, rfl⟩ := hg
  obtain ⟨rfl, rfl, hcc, rfl, hlen⟩ := hp
  match vs, hl with
  | [v0], _ =>
  obtain ⟨l, b, hS, hbk, hB, rfl⟩ := MR hH rfl (hr 0 _ _ rfl rfl)
  obtain ⟨u0, u1, l1, hc, hp0, hS1, hu1, hbuf, hsub, hgb, hob, _⟩ := Ug hH hS hbk hB hcc
  refine (Tryz.Rep.string b u0 u1 bs fz w hc hbuf (by omega)).mono ?_
  rintro e w' ⟨rfl, hc', hbuf', hK⟩
  obtain ⟨hH', _⟩ := SJ (H' := Ax [some (.one 143 [pp, .sl 1 0 bs.length]), some (.ob (.bfr 5 bs true))]) hH hS1 hK (fun k hk => ⟨.inl ((hob k).1 hk), .inr ⟨1, l1, hS1, .inl ((hob k).1 hk)⟩⟩) (fun hE b' hb' => by
   have hb2 : b' = .ob (.bfr 5 bs true) := by simp [Ax] at hb'; exact hb'.symm
   subst hb2
   refine ⟨⟨hsub, ?_⟩, fun h => by cases h⟩
   rcases hbuf' with ⟨e1, e2⟩ | ⟨g, cap, cur, z, hne, e1, e2, e3, e4, e5, e6, e7, e8⟩
   ·subst e2
    rw [hu1] at e1
    simp only [Value.slice.injEq, Option.map_eq_none_iff] at e1
    exact .inl ⟨rfl, e1.1, e1.2.2⟩
   ·rw [hu1] at e1
    simp only [Value.slice.injEq, Option.map_eq_some_iff] at e1
    obtain ⟨⟨g', hg', hgg⟩, _, hcap⟩ := e1
    have hgg' : g' = g := by cases hgg; rfl
    rw [hgg'] at hg'
    exact .inr ⟨g, cur, z, hg', e5, hne, by omega, by omega, by omega, e7, fun h => by cases h⟩) (fun j hj => by
   match j, hj with
   | 0, _ => rfl
   | j + 2, _ => rfl) rfl
  exact ⟨_, S, rfl, hH', R.mkStr _⟩
 ·cases hg
theorem Wu : A5 Tryz.prog 95 (Spec.gen QF) := by
 refine Gc fun ia bl p r bf hg hp F w S vs hnp hpin hmk hH hl hr => ?_
 unfold QF at hg
 split at hg
 ·rename_i k t pp m t2 bs
  simp only [Option.some.injEq, Prod.mk.injEq] at hg
  obtain ⟨rfl, rfl, rfl⟩ := hg
  obtain ⟨rfl, rfl, hcc, rfl, hk0, hk1, hlen⟩ := hp
  obtain ⟨c, rfl⟩ : ∃ c : UInt8, k = (c.toNat : Int) := ⟨UInt8.ofNat k.toNat, by
   rw [UInt8.toNat_ofNat', Nat.mod_eq_of_lt (by omega)]; omega⟩
  have hcc2 : UInt8.ofNat (c.toNat : Int).toNat = c := by simp
  rw [hcc2]
  match vs, hl with
  | [v0, v1], _ =>
  obtain ⟨l, b, hS, hbk, hB, rfl⟩ := MR hH rfl (hr 0 _ _ rfl rfl)
  have hv1 : v1 = .int .u8 (c.toNat : Int) := R.int_iff.1 (hr 1 _ _ rfl rfl)
  subst hv1
  have hsub0 := hH.plain 0 l _ rfl hS rfl
  have hB0 := hB
  obtain ⟨u0, u1, l1, hc, hp0, hS1, hu1, hbuf, hsub, hgb, hob, _⟩ := Ug hH hS hbk hB hcc
  refine (Tryz.Rep.writeByte b u0 u1 bs c w hc hp0 hbuf (by omega)).mono ?_
  rintro e w' ⟨rfl, v', hc', hbuf', hK, hfr⟩
  rcases hbuf' with ⟨_, e2⟩ | ⟨g, cap, cur, z, hne, e1, e2, e3, e4, e5, e6, e7, e8⟩
  ·simp at e2
  subst e1
  have hgold : l1.blk = some g ∨ w.heap.size ≤ g := by
   rcases hfr with h | ⟨k, h1, h2⟩
   ·left; exact (hob g).1 (by rw [← h]; rfl)
   ·right; simp [Value.ownBlock] at h2; omega
  have hbl : b < w.heap.size := hH.lt2 0 l b hS (.inl hbk)
  have hbg : b ≠ g := fun e => e2 e.symm
  have hown : own S b := .inr ⟨0, l, hS, .inl hbk⟩
  have hnew : ∀ k, k < w.heap.size → ¬own S k → k ≠ b ∧ k ≠ g := fun k hk hn => ⟨fun e => hn (e ▸ hown), fun e => by
   rcases hgold with h | h
   ·exact hn (.inr ⟨1, l1, hS1, .inl (e ▸ h)⟩)
   ·omega⟩
  have hsm : ∀ k, k < w.heap.size → ¬own S k → w'.heap[k]? = w.heap[k]? := fun k hk hn => hK.same k hk fun h => by
   rcases h with h | h
   ·exact (hnew k hk hn).1 h
   ·exact hn (.inr ⟨1, l1, hS1, .inl ((hob k).1 h)⟩)
  let S2 : Lays := fun i => if i = 0 then some l else if i = 2 then some ⟨some g, 1, cap, []⟩ else none
  have s0 : S2 0 = some l := rfl
  have s2 : S2 2 = some ⟨some g, 1, cap, []⟩ := rfl
  have sC : ∀ i l', S2 i = some l' → (i = 0 ∧ l' = l) ∨ (i = 2 ∧ l' = ⟨some g, 1, cap, []⟩) := fun i l' h => by
   show _
   simp only [S2] at h
   split at h
   ·rename_i hi; cases h; exact .inl ⟨hi, rfl⟩
   ·split at h
    ·rename_i hi; cases h; exact .inr ⟨hi, rfl⟩
    ·cases h
  have hasC : ∀ i l' k, S2 i = some l' → l'.has k → (i = 0 ∧ k = b) ∨ (i = 2 ∧ k = g) := fun i l' k h1 h2 => by
   rcases sC i l' h1 with ⟨hi, rfl⟩ | ⟨hi, rfl⟩
   ·rcases h2 with h | h
    ·rw [hbk] at h; cases h; exact .inl ⟨hi, rfl⟩
    ·rw [hsub0] at h; cases h
   ·rcases h2 with h | h
    ·cases h; exact .inr ⟨hi, rfl⟩
    ·cases h
  have hgl : g < w'.heap.size := (Array.getElem?_eq_some_iff.1 e5).1
  obtain ⟨d1, d2, _⟩ := hB0
  refine ⟨.nilIface, S2, rfl, ⟨fun i hi => ?_, fun i l' k h1 h2 => ?_, fun i b' hb' => ?_, fun i j l1 l2 k h1 h2 h3 h4 => ?_, fun i l' h => ?_, fun i l' b' hb' h hf => ?_, fun i l' k hb' h h2 => ?_, hK.os, hK.tape, hK.output, hK.size, fun k hk hn => ?_, fun k hk => ⟨(hH.far k hk).1, fun i l' h h2 => ?_⟩, fun i hi => ?_, fun p hp => ?_⟩, .d .ifc0⟩
  ·have : 3 ≤ i := hi
   show S2 i = none
   simp only [S2]; rw [if_neg (by omega), if_neg (by omega)]
  ·rcases hasC i l' k h1 h2 with ⟨_, rfl⟩ | ⟨_, rfl⟩
   ·have := hK.size; omega
   ·exact hgl
  ·match i, hb' with
   | 0, hb' =>
    simp only [Ax, List.getElem?_cons_zero, Option.join_some, Option.some.injEq] at hb'
    subst hb'
    refine ⟨l, s0, d1, d2, b, hbk, _, hc', rfl, fun f c' hf => ?_⟩
    match f, hf with
    | 0, hf => cases hf; exact ⟨_, rfl, rfl, by have := R.ptr (w := w') (S := S2) (n := 3) 0 0 0 b l (by omega) s0 hbk; simpa using this⟩
    | 1, hf =>
     cases hf
     refine ⟨_, rfl, rfl, ?_⟩
     have := R.sl (w := w') (S := S2) (n := 3) 2 0 (bs.length + 1) 0 ⟨some g, 1, cap, []⟩ (by omega) s2 (by simpa using e3) (fun _ => by simp) (fun _ => rfl)
     simpa using this
   | 1, hb' => simp [Ax] at hb'
   | 2, hb' =>
    simp only [Ax, List.getElem?_cons_succ, List.getElem?_cons_zero, Option.join_some, Option.some.injEq] at hb'
    subst hb'
    exact ⟨_, s2, rfl, .inr ⟨g, cur, z, rfl, e5, hne, e3, e4, e6, e7, e8⟩⟩
   | i + 3, hb' => simp [Ax] at hb'
  ·rcases hasC i l1 k h1 h3 with ⟨ha, e⟩ | ⟨ha, e⟩ <;> rcases hasC j l2 k h2 h4 with ⟨hb, e'⟩ | ⟨hb, e'⟩
   ·omega
   ·exact absurd (e.symm.trans e') hbg
   ·exact absurd (e'.symm.trans e) hbg
   ·omega
  ·rcases sC i l' h with ⟨_, rfl⟩ | ⟨_, rfl⟩
   ·exact hH.nod 0 l' hS
   ·exact ⟨List.nodup_nil, fun b _ h => by cases h⟩
  ·rcases sC i l' h with ⟨_, rfl⟩ | ⟨_, rfl⟩
   ·exact hsub0
   ·rfl
  ·rcases hasC i l' k h h2 with ⟨_, rfl⟩ | ⟨_, rfl⟩
   ·exact .inr ⟨0, l, hS, .inl hbk⟩
   ·exact hgold.elim (fun h => .inr ⟨1, l1, hS1, .inl h⟩) .inl
  ·refine hK.same k hk fun h => hn ?_
   rcases h with rfl | h
   ·exact ⟨0, l, hS, .inl hbk⟩
   ·exact ⟨1, l1, hS1, .inl ((hob k).1 h)⟩
  ·rcases hasC i l' k h h2 with ⟨_, rfl⟩ | ⟨_, rfl⟩
   ·exact (hH.far k hk).2 0 l hS (.inl hbk)
   ·rcases hgold with h | h
    ·exact (hH.far k hk).2 1 l1 hS1 (.inl h)
    ·have := (hH.far k hk).1; omega
  ·have hi2 : i < 2 := by rw [hnp] at hi; exact hi
   refine ⟨by show i < 3; omega, ?_⟩
   match i, hi2 with
   | 0, _ => left; rw [hpin]; exact s0.trans hS.symm
   | 1, _ => right; rfl
  ·refine (hH.gl p hp).ext hK.size hsm fun k hk hn h => ?_
   rcases h with h | ⟨i, l', h1, h2⟩
   ·exact hn (.inl h)
   ·rcases hasC i l' k h1 h2 with ⟨_, e⟩ | ⟨_, e⟩
    ·exact (hnew k hk hn).1 e
    ·exact (hnew k hk hn).2 e
 ·cases hg
