/- The law BarrierCuts. -/
import Derived.Test.YtfhomgggbhjglaaGreatMdE
import Derived.Test.YtfhomgggbhjglaaGreatMuK
namespace Go.MB
open Go Go.Sx Go.Proofs
set_option linter.unusedVariables false
set_option linter.unusedSimpArgs false
noncomputable section
theorem cutsS_len (h:Hs) (tick press:Int):((cutsS h tick press).length:Int) < 2 ^ 62 ∧ ∀ x ∈ cutsS h tick press,(x.length:Int) < 2 ^ 62:=by
  unfold cutsS
  by_cases c:houseE h ≠ 0 ∨ holdsS h tick press = false
  · rw [if_pos c]
    exact ⟨by show ((0:Nat):Int) < 2 ^ 62; decide,fun x hx => by cases hx⟩
  · rw [if_neg c]
    have c1:houseE h = 0:=by
      apply Classical.byContradiction
      intro q
      exact c (.inl q)
    have hp:=pow_le (houseE_ok c1).e10
    have hl:=@szS_len (2 ^ h.1.length) (wkS h tick press) (hdM h) 10 1 []
    unfold ctS
    refine ⟨?_,fun x hx => ?_⟩
    · rw [List.length_map]
      rw [List.length_nil] at hl
      omega
    · obtain ⟨s,_,rfl⟩:=List.mem_map.1 hx
      rw [lsI_len]
      have:=cnt_le10 s.toNat
      omega
end
end Go.MB
