/- Whole numbers, vectors, roots: what the program's smallest functions compute. -/
import Derived.Test.YtmolckndbmjgfaaFw4
import Derived.Test.YtmolckndbmjgfaaProg
namespace Go.MP
open Go Go.Sx Go.Proofs
noncomputable section
abbrev P : Program := Try.prog
theorem hm : P.follows .mixedOrders = true := by kernel_rfl
theorem W_id {n : Int} (h1 : -9223372036854775808 ≤ n) (h2 : n ≤ 9223372036854775807) : IntKind.wrap IntKind.i64 n = n := by
  have e : IntKind.wrap IntKind.i64 n = (if n % 18446744073709551616 ≥ 9223372036854775808 then n % 18446744073709551616 - 18446744073709551616 else n % 18446744073709551616) := by
    simp [IntKind.wrap, IntKind.signed, IntKind.bits]
  rw [e]
  split <;> omega
def R64 (n : Int) : Prop := -9223372036854775808 ≤ n ∧ n ≤ 9223372036854775807
abbrev tI : Ty := .int .i64
abbrev tV : Ty := .pair tI (.pair tI tI)
abbrev tVs : Ty := .sl tV
abbrev tPath : Ty := .pair tV tVs
abbrev tPart : Ty := .pair tI tI
abbrev V := Int × Int × Int
abbrev Pth := V × List V
def vadd (v w : V) : V := (IntKind.wrap IntKind.i64 (v.1 + w.1), IntKind.wrap IntKind.i64 (v.2.1 + w.2.1), IntKind.wrap IntKind.i64 (v.2.2 + w.2.2))
def vdot (v w : V) : Int := IntKind.wrap IntKind.i64 (IntKind.wrap IntKind.i64 (IntKind.wrap IntKind.i64 (v.1 * w.1) + IntKind.wrap IntKind.i64 (v.2.1 * w.2.1)) + IntKind.wrap IntKind.i64 (v.2.2 * w.2.2))
def inB (v : V) (n : Int) : Bool := decide (-n ≤ v.1 ∧ v.1 ≤ n ∧ -n ≤ v.2.1 ∧ v.2.1 ≤ n ∧ -n ≤ v.2.2 ∧ v.2.2 ≤ n)
abbrev svV (v : V) : SV := .agg [.int .i64 v.1, .int .i64 v.2.1, .int .i64 v.2.2]
def rootBits : Nat → Int → Int → Int
  | 0, _, r => r
  | k + 1, n, r => if (r + 2 ^ k) * (r + 2 ^ k) ≤ n then rootBits k n (r + 2 ^ k) else rootBits k n r
def isq (n : Int) : Int := rootBits 26 n 0
def rootS (n : Int) : Int × Bool := if n < 0 ∨ n > 1125899906842624 then (0, false) else if isq n * isq n ≠ n then (0, false) else (isq n, true)
theorem rootBits_ok : ∀ (k : Nat) (n r : Int), 0 ≤ r → r * r ≤ n → n < (r + 2 ^ k) * (r + 2 ^ k) → 0 ≤ rootBits k n r ∧ rootBits k n r * rootBits k n r ≤ n ∧ n < (rootBits k n r + 1) * (rootBits k n r + 1)
  | 0, n, r, h0, h1, h2 => ⟨h0, h1, h2⟩
  | k + 1, n, r, h0, h1, h2 => by
    unfold rootBits
    have hk : (0 : Int) < 2 ^ k := Int.pow_pos (by decide)
    split
    · rename_i h
      refine rootBits_ok k n _ (by omega) h ?_
      have e : r + 2 ^ k + 2 ^ k = r + 2 ^ (k + 1) := by rw [Int.pow_succ]; omega
      rw [e]; exact h2
    · rename_i h
      exact rootBits_ok k n r h0 h1 (by omega)
theorem sq_mono {a b : Int} (h0 : 0 ≤ a) (h : a ≤ b) : a * a ≤ b * b := Int.mul_le_mul h h h0 (by omega)
theorem sq_lt {a b : Int} (h0 : 0 ≤ b) (h : a * a < b * b) : a < b := by
  by_cases hab : a < b
  · exact hab
  · have := sq_mono h0 (show b ≤ a by omega); omega
theorem isq_ok {n : Int} (h0 : 0 ≤ n) (h1 : n ≤ 1125899906842624) : 0 ≤ isq n ∧ isq n * isq n ≤ n ∧ n < (isq n + 1) * (isq n + 1) :=
  rootBits_ok 26 n 0 (by omega) (by omega) (by omega)
theorem rootS_true {n : Int} (h : (rootS n).2 = true) : 0 ≤ (rootS n).1 ∧ (rootS n).1 * (rootS n).1 = n ∧ 0 ≤ n ∧ n ≤ 1125899906842624 := by
  unfold rootS at *
  split at h
  · cases h
  · split at h
    · cases h
    · rename_i h1 h2
      obtain ⟨h3, h4, h5⟩ := isq_ok (n := n) (by omega) (by omega)
      rw [if_neg h1, if_neg h2]
      exact ⟨h3, by simpa using h2, by omega, by omega⟩
end
end Go.MP
