/- The place at a depth. -/
import Derived.Test.YtoockflaeaknbaaGreatMwC
namespace Go.MP
open Go Go.Sx Go.Proofs
set_option linter.unusedVariables false
set_option linter.unusedSimpArgs false
noncomputable section
def legOk (v:V):Prop:=(wholeS v).2 = true ∧ 100 ≤ (wholeS v).1 ∧ (wholeS v).1 ≤ 131072
theorem checkL_zero {a:V} {prev:Option V} {v:V} {r:List V} (h:checkL a prev (v :: r) = 0) :
    legOk v ∧ (∀ u,prev = some u → 0 < vdot u v) ∧ validS (vadd a v) = true ∧ checkL (vadd a v) (some v) r = 0:=by
  rw [checkL_cons] at h
  by_cases h1:(wholeS v).2 = false
  · rw [if_pos h1] at h; cases h
  rw [if_neg h1] at h
  by_cases h2:(wholeS v).1 < 100 ∨ (wholeS v).1 > 131072
  · rw [if_pos h2] at h; cases h
  rw [if_neg h2] at h
  by_cases h3:clashS prev v = true
  · rw [if_pos h3] at h; cases h
  rw [if_neg h3] at h
  by_cases h4:validS (vadd a v) = false
  · rw [if_pos h4] at h; cases h
  rw [if_neg h4] at h
  refine ⟨⟨by simpa using h1,by omega,by omega⟩,?_,by simpa using h4,h⟩
  rintro u rfl
  simp only [clashS,decide_eq_true_eq] at h3
  omega
theorem checkL_legs:∀ {l:List V} {a:V} {prev:Option V},checkL a prev l = 0 → ∀ v ∈ l,legOk v
  | [],_,_,_,v,h => by cases h
  | u :: r,a,prev,h,v,hv => by
    obtain ⟨h1,_,_,h2⟩:=checkL_zero h
    rcases List.mem_cons.1 hv with rfl | hv
    · exact h1
    · exact checkL_legs h2 v hv
theorem checkS_legs {p:Pth} (h:checkS p = 0):∀ v ∈ p.2,legOk v:=by
  unfold checkS at h
  split at h
  · cases h
  · split at h
    · cases h
    · exact checkL_legs h
end
end Go.MP
