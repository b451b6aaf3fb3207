/- Rigs: all allowed moves. -/
import Derived.Test.YtdoobpeacbcohaaMxQ
import Derived.Test.YtdoobpeacbcohaaMxO
namespace Go.MR
open Go Go.Sx Go.Proofs
set_option linter.unusedVariables false
set_option linter.unusedSimpArgs false
noncomputable section
theorem stOk_of {r:Rig} {s:List Int} (h:stateS r s = 0):StOk r.1 r.2 s:=by
  obtain ⟨a1,a2,a3⟩:=stateS_in (r:=r) (s:=s) (.inl h)
  obtain ⟨k1,k2,k3,k4,k5⟩:=checkS_ok a1
  exact ⟨k1,k2,k3,a2,a3,k4,banEs_all k5⟩
theorem moveS_of {r:Rig} {m:List Int} (hl:m.length = r.1.length) (hm:isM m):moveS r m = true:=by
  unfold moveS
  rw [decide_eq_true (by omega),Bool.true_and]
  cases e:m.any badM with
  | false => rfl
  | true =>
    rw [List.any_eq_true] at e
    obtain ⟨x,hx,hb⟩:=e
    have:=hm x hx
    unfold badM wi at hb
    rw [decide_eq_true (by omega),decide_eq_true (by omega)] at hb
    cases hb
end
end Go.MR
