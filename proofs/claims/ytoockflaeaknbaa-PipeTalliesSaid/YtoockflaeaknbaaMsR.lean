/- Tubes and strings made of numbers. -/
import Derived.Test.YtoockflaeaknbaaMsC
import Derived.Test.YtoockflaeaknbaaMsB
namespace Go.MP
open Go Go.Sx Go.Proofs
set_option linter.unusedVariables false
set_option linter.unusedSimpArgs false
noncomputable section
theorem sumL_le : ∀ (l : List V) (d : Int), (∀ v ∈ l, legOk v) → 0 ≤ d → d + 131072 * l.length ≤ 1048576000 → sumL d l ≤ d + 131072 * l.length
  | [], d, _, _, _ => by show d ≤ d + 131072 * ((0 : Nat) : Int); omega
  | v :: r, d, hl, h0, h1 => by
    obtain ⟨_, w1, w2⟩ := hl v (by simp)
    rw [List.length_cons] at h1 ⊢
    have hw : IntKind.wrap IntKind.i64 (d + (wholeS v).1) = d + (wholeS v).1 := W_id (by omega) (by omega)
    have := sumL_le r (d + (wholeS v).1) (fun u hu => hl u (by simp [hu])) (by omega) (by omega)
    have e : sumL d (v :: r) = sumL (d + (wholeS v).1) r := by unfold sumL; rw [List.foldl_cons, hw]
    rw [e]; omega
theorem lenS_le (p : Pth) : lenS p ≤ 1048576000 := by
  unfold lenS
  split
  · rename_i h
    have := checkS_len h
    have := sumL_le p.2 0 (checkS_legs h) (by decide) (by omega)
    omega
  · decide
structure StrOk (n : Int) (s : List Tb) : Prop where
  fair : AllF s
  le : sumT s ≤ n
  few : sumT s ≤ 19200 * s.length
  wet : ∀ t ∈ s, ∀ m, 0 ≤ m → m ≤ 22000 → 0 < wetS t m
end
end Go.MP
