/- Rams: which bans keep a ram from joints; plain laws. -/
import Derived.Test.YtmolckndbmjgfaaMrX
namespace Go.MR
open Go Go.Sx Go.Proofs
set_option linter.unusedVariables false
set_option linter.unusedSimpArgs false
noncomputable section
def shP (nr : Int → Bool) (mk : Int → Int → Ban) (n : Int) : Nat → Int → Int → List Ban → List Ban
  | 0, _, _, out => out
  | k + 1, h, f, out =>
    if (decide (h < n) && nr h) = true then (if f < 0 then shP nr mk n k (h + 1) h out else shP nr mk n k (h + 1) f out)
    else (if f ≥ 0 then shP nr mk n k (h + 1) (-1) (out ++ [mk f (h - 1)]) else shP nr mk n k (h + 1) f out)
theorem shP_yes {nr : Int → Bool} {mk : Int → Int → Ban} {n : Int} {k : Nat} {h f : Int} {out : List Ban} (c : (decide (h < n) && nr h) = true) : shP nr mk n (k + 1) h f out = if f < 0 then shP nr mk n k (h + 1) h out else shP nr mk n k (h + 1) f out := by
  rw [shP, if_pos c]
theorem shP_no {nr : Int → Bool} {mk : Int → Int → Ban} {n : Int} {k : Nat} {h f : Int} {out : List Ban} (c : (decide (h < n) && nr h) = false) : shP nr mk n (k + 1) h f out = if f ≥ 0 then shP nr mk n k (h + 1) (-1) (out ++ [mk f (h - 1)]) else shP nr mk n k (h + 1) f out := by
  rw [shP, if_neg (by rw [c]; decide)]
def runE (nr : Int → Bool) (n : Int) : Nat → Int → Int
  | 0, h => h
  | k + 1, h => if (decide (h + 1 < n) && nr (h + 1)) = true then runE nr n k (h + 1) else h
theorem runE_rng (nr : Int → Bool) (n : Int) : ∀ (k : Nat) (h : Int), h < n → h ≤ runE nr n k h ∧ runE nr n k h < n
  | 0, h, hn => ⟨Int.le_refl _, hn⟩
  | k + 1, h, hn => by
    rw [runE]
    split
    · rename_i c
      rw [Bool.and_eq_true, decide_eq_true_eq] at c
      have := runE_rng nr n k (h + 1) c.1
      omega
    · exact ⟨Int.le_refl _, hn⟩
theorem shP_run {nr : Int → Bool} {mk : Int → Int → Ban} {n : Int} : ∀ (k : Nat) (h f : Int) (out : List Ban), 0 ≤ f → h + k = n → h < n →
    shP nr mk n k (h + 1) f out = shP nr mk n (n - runE nr n k h).toNat (runE nr n k h + 1) (-1) (out ++ [mk f (runE nr n k h)])
  | 0, h, f, out, _, h1, h2 => by omega
  | k + 1, h, f, out, h0, h1, h2 => by
    by_cases c : (decide (h + 1 < n) && nr (h + 1)) = true
    · rw [shP_yes c, if_neg (by omega), runE, if_pos c]
      rw [Bool.and_eq_true, decide_eq_true_eq] at c
      exact shP_run k (h + 1) f out h0 (by omega) c.1
    · have c' : (decide (h + 1 < n) && nr (h + 1)) = false := by simpa using c
      rw [shP_no c', if_pos h0, runE, if_neg c, show (n - h).toNat = k + 1 by omega, shP_no c', if_neg (by omega), show h + 1 - 1 = h by omega]
theorem shP_len {nr : Int → Bool} {mk : Int → Int → Ban} {n : Int} : ∀ (k : Nat) (h f : Int) (out : List Ban), (shP nr mk n k h f out).length ≤ out.length + k
  | 0, h, f, out => Nat.le_refl _
  | k + 1, h, f, out => by
    rw [shP]
    split
    · split
      · have := shP_len (nr := nr) (mk := mk) (n := n) k (h + 1) h out; omega
      · have := shP_len (nr := nr) (mk := mk) (n := n) k (h + 1) f out; omega
    · split
      · have := shP_len (nr := nr) (mk := mk) (n := n) k (h + 1) (-1) (out ++ [mk f (h - 1)])
        rw [List.length_append, List.length_singleton] at this; omega
      · have := shP_len (nr := nr) (mk := mk) (n := n) k (h + 1) f out; omega
end
end Go.MR
