/- The rule: the reference's. -/
import Derived.Test.YtdoobpeacbcohaaGreatMoD
namespace Go.MB
open Go Go.Sx Go.Proofs
set_option linter.unusedVariables false
set_option linter.unusedSimpArgs false
noncomputable section
theorem prf_zero (envs:List (List Int)) (l so:List Int):prf envs l so 0 = some so:=by cases l <;> rfl
theorem standF_ok (f:List Bool):∀ (l:List (List Int)) (i:Int),0 ≤ i → (standF f l i).length ≤ l.length ∧ ∀ k ∈ standF f l i,i ≤ k ∧ k < i + l.length
  | [],i,_ => ⟨Nat.le_refl _,fun k hk => (by cases hk)⟩
  | x :: l,i,h => by
    obtain ⟨h1,h2⟩:=standF_ok f l (i + 1) (by omega)
    rw [standF]
    split
    · refine ⟨by simp only [List.length_cons]; omega,fun k hk => ?_⟩
      rw [List.length_cons]
      rcases List.mem_cons.1 hk with rfl | hk
      · omega
      · have:=h2 k hk; omega
    · refine ⟨by simp only [List.length_cons]; omega,fun k hk => ?_⟩
      rw [List.length_cons]
      have:=h2 k hk; omega
end
end Go.MB
