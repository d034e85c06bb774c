/- The Vc layer: parts of rows that are handed on with no room behind. -/
import Derived.Test.YtaoifpmifpmhmaaVc29
set_option linter.all false
namespace Go.Vc
open Go Go.RowKit
theorem RD.recap {w : World} {O : Nat → Prop} {ys : List (List D)} {a : Option Addr} {cap cap' : Nat} (h : RD w O (.sl ys) (.slice a ys.length cap)) (hc : ys.length ≤ cap') : RD w O (.sl ys) (.slice a ys.length cap') := by
  generalize hL : ys.length = L at h
  cases h with
  | sl0 => exact .sl0 _ _
  | sl _ sz b o _ u hl hb hO hz hcl hr => exact .sl _ sz b o _ u hc hb hO hz hcl hr
theorem RD.cut3 [Far] {w : World} {O : Nat → Prop} {sz l h m : Nat} {xs : List (List D)} {a : Option Addr} {cap : Nat} (hr : RD w O (.sl xs) (.slice a xs.length cap)) (hk : Rect sz xs) (hl : l < h) (hh : h ≤ m) (hm : m ≤ xs.length) (hcap : xs.length ≤ cap) :
    RD w O (.sl ((xs.drop l).take (h - l))) (.slice (a.map (·.add (l * sz))) (h - l) (m - l)) := by
  have hcut := hr.cut hk (l := l) (h := h) (by omega) (by omega) (by omega)
  rw [if_neg (by omega)] at hcut
  have hlen : ((xs.drop l).take (h - l)).length = h - l := by rw [List.length_take, List.length_drop]; omega
  generalize (xs.drop l).take (h - l) = ys at hcut hlen ⊢
  rw [← hlen] at hcut ⊢
  exact hcut.recap (by omega)
end Go.Vc
