/- Which paths are valid; their lengths and joints, and the places at depths. -/
import Derived.Test.YtmolckndbmjgfaaMwB
namespace Go.MP
open Go Go.Sx Go.Proofs
set_option linter.unusedVariables false
set_option linter.unusedSimpArgs false
noncomputable section
theorem drop_getD {α : Type} (d : α) : ∀ {l : List α} {i : Nat}, i < l.length → l.drop i = l.getD i d :: l.drop (i + 1) := by
  intro l i h
  rw [List.drop_eq_getElem_cons h]
  simp [List.getD, List.getElem?_eq_getElem h]
theorem drop_step {α : Type} (d : α) {l : List α} {i : Int} (h0 : 0 ≤ i) (h : i < l.length) : l.drop i.toNat = l.getD i.toNat d :: l.drop (i + 1).toNat := by
  rw [drop_getD d (show i.toNat < l.length by omega), show i.toNat + 1 = (i + 1).toNat by omega]
theorem drop_end {α : Type} {l : List α} {i : Int} (h : ¬ i < l.length) : l.drop i.toNat = [] := List.drop_eq_nil_of_le (by omega)
def clashS : Option V → V → Bool
  | some u, v => decide (vdot u v ≤ 0)
  | none, _ => false
def checkL : V → Option V → List V → Int
  | _, _, [] => 0
  | at', prev, v :: r => if (wholeS v).2 = false then 3 else if (wholeS v).1 < 100 ∨ (wholeS v).1 > 131072 then 2
    else if clashS prev v = true then 12
    else if validS (vadd at' v) = false then 2 else checkL (vadd at' v) (some v) r
theorem checkL_cons (a : V) (prev : Option V) (v : V) (r : List V) : checkL a prev (v :: r) = if (wholeS v).2 = false then 3 else if (wholeS v).1 < 100 ∨ (wholeS v).1 > 131072 then 2
    else if clashS prev v = true then 12
    else if validS (vadd a v) = false then 2 else checkL (vadd a v) (some v) r := rfl
def checkS (p : Pth) : Int := if p.2.length > 20 then 5 else if validS p.1 = false then 2 else checkL p.1 none p.2
def prevOf (l : List V) (i : Int) : Option V := if 0 < i then some (l.getD (i - 1).toNat (0, 0, 0)) else none
end
end Go.MP
