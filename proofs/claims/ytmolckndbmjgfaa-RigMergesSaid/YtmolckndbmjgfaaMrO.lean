/- Rigs: what the table holds: the least ticks. -/
import Derived.Test.YtmolckndbmjgfaaMrN
namespace Go.MR
open Go Go.Sx Go.Proofs
set_option linter.unusedVariables false
set_option linter.unusedSimpArgs false
noncomputable section
structure VS (ps s : List Int) : Prop where
  sl : s.length = ps.length
  si : inR s ps = true
structure RgOk (ps : List Int) (bs : List Ban) : Prop where
  l2 : 2 ≤ ps.length
  l4 : ps.length ≤ 4
  pb : ps.any badP = false
theorem RgOk.pr {ps : List Int} {bs : List Ban} (h : RgOk ps bs) : 1 ≤ prodL ps ∧ prodL ps ≤ 4096 := by
  have h1 := prodL_rng h.pb
  have h2 := pow_le h.l4
  omega
theorem RgOk.st {ps : List Int} {bs : List Ban} (h : RgOk ps bs) {n : Int} (h0 : 0 ≤ n) (h1 : n < prodL ps) : VS ps (stS ps n) ∧ numW ps (stS ps n) 0 = n :=
  ⟨⟨stS_len _ _, stS_in h.pb h0 (by have := h.pr; omega)⟩, num_st _ rfl h.pb h0 h1 h.pr.2⟩
theorem RgOk.many {ps : List Int} {bs : List Ban} (h : RgOk ps bs) : manyW ps 1 = prodL ps := by
  rw [manyW_eq h.pb (by omega) (by have := h.pr; omega), Int.one_mul]
end
end Go.MR
