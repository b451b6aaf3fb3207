/- Rigs: what a tick does, place by place. -/
import Derived.Test.YtmolckndbmjgfaaMrV
namespace Go.MR
open Go Go.Sx Go.Proofs
set_option linter.unusedVariables false
set_option linter.unusedSimpArgs false
noncomputable section
theorem VS.get {ps s : List Int} (h : VS ps s) {i : Nat} (hi : i < ps.length) : 0 ≤ s.getD i 0 ∧ s.getD i 0 < ps.getD i 0 := (inR_iff h.sl).1 h.si i (by rw [h.sl]; exact hi)
theorem VS.of {ps s : List Int} (hl : s.length = ps.length) (h : ∀ i : Nat, i < ps.length → 0 ≤ s.getD i 0 ∧ s.getD i 0 < ps.getD i 0) : VS ps s := ⟨hl, (inR_iff hl).2 fun i hi => h i (by rw [← hl]; exact hi)⟩
structure Sf (r : Rig) (s : List Int) : Prop where
  ck : checkS r = 0
  vs : VS r.1 s
  sf : safeS r.1 r.2 s = true
theorem Sf.state {r : Rig} {s : List Int} (h : Sf r s) : stateS r s = 0 := by rw [state_of' h.ck h.vs, h.sf]; rfl
where
  state_of' {r : Rig} (hc : checkS r = 0) {s : List Int} (hs : VS r.1 s) : stateS r s = if safeS r.1 r.2 s = true then 0 else 12 := by
    unfold stateS safeS
    rw [hc, if_neg (by simp), if_neg (by rw [hs.sl]; simp), if_neg (by rw [hs.si]; simp)]
    by_cases c : ixS (banS (stillS s)) r.2 < 0
    · rw [decide_eq_true c, if_neg (by omega), if_pos rfl]
    · rw [decide_eq_false c, if_pos (by omega), if_neg (by simp)]
theorem Sf.pb {r : Rig} {s : List Int} (h : Sf r s) : r.1.any badP = false := (checkS_ok h.ck).2.2.1
theorem Sf.ob {r : Rig} {s : List Int} (h : Sf r s) : ∀ b ∈ r.2, okB r.1.length b := banEs_all (checkS_ok h.ck).2.2.2.2
end
end Go.MR
