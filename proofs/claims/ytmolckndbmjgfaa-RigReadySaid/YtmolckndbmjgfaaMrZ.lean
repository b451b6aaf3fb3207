/- Rigs: which commands are lost, and what follows; the least ticks. -/
import Derived.Test.YtmolckndbmjgfaaMrW
import Derived.Test.YtmolckndbmjgfaaMrT
namespace Go.MR
open Go Go.Sx Go.Proofs
set_option linter.unusedVariables false
set_option linter.unusedSimpArgs false
noncomputable section
theorem lst_le {p : Nat → Bool} (hp : ∀ d, p d = true → p (d + 1) = true) {n d : Nat} (hd : d < n) : (0 ≤ lst p n ∧ lst p n ≤ d) ↔ p d = true := by
  have up : ∀ k d : Nat, p d = true → p (d + k) = true := fun k => by
    induction k with
    | zero => exact fun d h => h
    | succ k ih => exact fun d h => hp _ (ih d h)
  rcases lst_spec p n with ⟨h1, h2⟩ | ⟨k, h1, h2, h3, h4⟩
  · rw [h1, h2 d hd]
    constructor
    · intro h; omega
    · intro h; cases h
  · rw [h1]
    constructor
    · intro h
      have := up (d - k) k h3
      rw [show k + (d - k) = d by omega] at this
      exact this
    · intro h
      refine ⟨by omega, ?_⟩
      by_cases e : k ≤ d
      · omega
      · rw [h4 d (by omega)] at h; cases h
theorem tick_le {ps : List Int} {bs : List Ban} {g : List (Int × Int)} {l : Nat} {s : List Int} {d : Nat} (hd : d < 65) : (0 ≤ tickD ps bs g l s ∧ tickD ps bs g l s ≤ d) ↔ reD ps bs g d l s = true :=
  lst_le (p := fun d => reD ps bs g d l s) (fun d h => reD_mono d h) hd
end
end Go.MR
