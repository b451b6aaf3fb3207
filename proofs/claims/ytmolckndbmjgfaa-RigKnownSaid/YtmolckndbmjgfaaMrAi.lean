/- Rams: which bans keep a ram from joints; plain laws. -/
import Derived.Test.YtmolckndbmjgfaaMrX
namespace Go.MR
open Go Go.Sx Go.Proofs
set_option linter.unusedVariables false
set_option linter.unusedSimpArgs false
noncomputable section
def shP (nr : Int → Bool) (mk : Int → Int → Ban) (n : Int) : Nat → Int → Int → List Ban → List Ban
  | 0, _, _, out => out
  | k + 1, h, f, out =>
    if (decide (h < n) && nr h) = true then (if f < 0 then shP nr mk n k (h + 1) h out else shP nr mk n k (h + 1) f out)
    else (if f ≥ 0 then shP nr mk n k (h + 1) (-1) (out ++ [mk f (h - 1)]) else shP nr mk n k (h + 1) f out)
theorem shP_yes {nr : Int → Bool} {mk : Int → Int → Ban} {n : Int} {k : Nat} {h f : Int} {out : List Ban} (c : (decide (h < n) && nr h) = true) : shP nr mk n (k + 1) h f out = if f < 0 then shP nr mk n k (h + 1) h out else shP nr mk n k (h + 1) f out := by
  rw [shP, if_pos c]
theorem shP_no {nr : Int → Bool} {mk : Int → Int → Ban} {n : Int} {k : Nat} {h f : Int} {out : List Ban} (c : (decide (h < n) && nr h) = false) : shP nr mk n (k + 1) h f out = if f ≥ 0 then shP nr mk n k (h + 1) (-1) (out ++ [mk f (h - 1)]) else shP nr mk n k (h + 1) f out := by
  rw [shP, if_neg (by rw [c]; decide)]
end
end Go.MR
