/- Rigs: what a tick does, place by place. -/
import Derived.Test.YtmolckndbmjgfaaMrV
namespace Go.MR
open Go Go.Sx Go.Proofs
set_option linter.unusedVariables false
set_option linter.unusedSimpArgs false
noncomputable section
theorem ixS_neg {α : Type} {p : α → Bool} {l : List α} : decide (ixS p l < 0) = true ↔ ∀ x ∈ l, p x = false := by
  rw [decide_eq_true_eq]
  unfold ixS
  cases h : l.any p with
  | true =>
    rw [if_pos rfl]
    constructor
    · intro h1; omega
    · intro h1
      rw [List.any_eq_true] at h
      obtain ⟨x, hx, hp⟩ := h
      rw [h1 x hx] at hp; cases hp
  | false =>
    rw [if_neg (by simp)]
    constructor
    · intro _ x hx
      cases e : p x with
      | false => rfl
      | true => rw [List.any_eq_true.2 ⟨x, hx, e⟩] at h; cases h
    · intro _; decide
def stP (s : List Int) (b : Ban) : Bool := wi (s.getD b.1.toNat 0) b.2.1 b.2.2.1 && wi (s.getD b.2.2.2.1.toNat 0) b.2.2.2.2.1 b.2.2.2.2.2
theorem VS.get {ps s : List Int} (h : VS ps s) {i : Nat} (hi : i < ps.length) : 0 ≤ s.getD i 0 ∧ s.getD i 0 < ps.getD i 0 := (inR_iff h.sl).1 h.si i (by rw [h.sl]; exact hi)
theorem VS.of {ps s : List Int} (hl : s.length = ps.length) (h : ∀ i : Nat, i < ps.length → 0 ≤ s.getD i 0 ∧ s.getD i 0 < ps.getD i 0) : VS ps s := ⟨hl, (inR_iff hl).2 fun i hi => h i (by rw [← hl]; exact hi)⟩
theorem stP_eq {ps s : List Int} {b : Ban} (hs : VS ps s) (hb : okB ps.length b) : banS (stillS s) b = stP s b := by
  obtain ⟨h1, h2, h3, h4⟩ := hb
  have sl := hs.sl
  unfold banS stP
  rw [getD_still (by omega), getD_still (by omega)]
  unfold meetS
  rw [Bool.or_self, Bool.or_self]
theorem safe_iff {ps : List Int} {bs : List Ban} {s : List Int} (hs : VS ps s) (hb : ∀ b ∈ bs, okB ps.length b) : safeS ps bs s = true ↔ ∀ b ∈ bs, stP s b = false := by
  unfold safeS
  rw [ixS_neg]
  exact ⟨fun h b hb' => by rw [← stP_eq hs (hb b hb')]; exact h b hb', fun h b hb' => by rw [stP_eq hs (hb b hb')]; exact h b hb'⟩
structure Sf (r : Rig) (s : List Int) : Prop where
  ck : checkS r = 0
  vs : VS r.1 s
  sf : safeS r.1 r.2 s = true
theorem Sf.state {r : Rig} {s : List Int} (h : Sf r s) : stateS r s = 0 := by rw [state_of' h.ck h.vs, h.sf]; rfl
where
  state_of' {r : Rig} (hc : checkS r = 0) {s : List Int} (hs : VS r.1 s) : stateS r s = if safeS r.1 r.2 s = true then 0 else 12 := by
    unfold stateS safeS
    rw [hc, if_neg (by simp), if_neg (by rw [hs.sl]; simp), if_neg (by rw [hs.si]; simp)]
    by_cases c : ixS (banS (stillS s)) r.2 < 0
    · rw [decide_eq_true c, if_neg (by omega), if_pos rfl]
    · rw [decide_eq_false c, if_pos (by omega), if_neg (by simp)]
theorem Sf.pb {r : Rig} {s : List Int} (h : Sf r s) : r.1.any badP = false := (checkS_ok h.ck).2.2.1
theorem Sf.ob {r : Rig} {s : List Int} (h : Sf r s) : ∀ b ∈ r.2, okB r.1.length b := banEs_all (checkS_ok h.ck).2.2.2.2
end
end Go.MR
