/- An entry made of numbers; what an entry does at any site. -/
import Derived.Test.YtdoobpeacbcohaaGreatMoY
namespace Go.MB
open Go Go.Sx Go.Proofs
set_option linter.unusedVariables false
set_option linter.unusedSimpArgs false
noncomputable section
structure NumV (s:Site):Prop where
  tick:0 ≤ s.1 ∧ s.1 ≤ 1099511627776
  crew:1 ≤ s.2.1 ∧ s.2.1 ≤ 20
  hold:0 ≤ s.2.2.1 ∧ s.2.2.1 < s.2.1
  offer:s.2.2.2.1 = -1 ∨ (0 ≤ s.2.2.2.1 ∧ s.2.2.2.1 < s.2.1)
  other:s.2.2.2.1 ≠ s.2.2.1
  press:0 ≤ s.2.2.2.2.1 ∧ s.2.2.2.2.1 ≤ 68719476736
theorem memB_iff {c w:Int}:memB c w = true ↔ 0 ≤ w ∧ w < c:=by
  unfold memB
  rw [Bool.and_eq_true,decide_eq_true_eq,decide_eq_true_eq]
theorem badN_iff {s:Site}:badN s = false ↔ NumV s:=by
  unfold badN
  rw [Bool.or_eq_false_iff,Bool.or_eq_false_iff,Bool.or_eq_false_iff,Bool.or_eq_false_iff,Bool.or_eq_false_iff,Bool.or_eq_false_iff,Bool.not_eq_false',wi_iff,decide_eq_false_iff_not,decide_eq_false_iff_not,Bool.not_eq_false',memB_iff,Bool.and_eq_false_iff,Bool.not_eq_false',memB_iff,Bool.not_eq_false',wi_iff,bne_eq_false_iff_eq,beq_eq_false_iff_ne]
  constructor
  · rintro ⟨h1,h2,h3,h4,h5,h6,h7⟩
    exact ⟨h1,by omega,h4,h5,h6,h7⟩
  · rintro ⟨h1,h2,h4,h5,h6,h7⟩
    exact ⟨h1,by omega,by omega,h4,h5,h6,h7⟩
theorem chkS_num {s:Site} (h:chkS s = 0):NumV s:=by
  unfold chkS at h
  split at h
  · cases h
  · rename_i c
    exact badN_iff.1 (by simpa using c)
abbrev i64 (n:Int):Prop:=-9223372036854775808 ≤ n ∧ n ≤ 9223372036854775807
abbrev okN (e:Entry):Prop:=i64 e.1 ∧ i64 e.2.1 ∧ i64 e.2.2.1 ∧ i64 e.2.2.2.1 ∧ i64 e.2.2.2.2.1 ∧ i64 e.2.2.2.2.2
def dS (s:Site) (e:Entry):Site × Int:=if chkS s ≠ 0 then (zSite,chkS s) else doG s e
end
end Go.MB
