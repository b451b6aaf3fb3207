/- A site made of numbers; what an entry does. -/
import Derived.Test.YtdoobpeacbcohaaGreatMoX
import Derived.Test.YtdoobpeacbcohaaGreatMoJ
namespace Go.MB
open Go Go.Sx Go.Proofs
set_option linter.unusedVariables false
set_option linter.unusedSimpArgs false
noncomputable section
structure SiteV (s:Site):Prop where
  ok:chkS s = 0
  l1:s.2.2.2.2.2.1.1.length ≤ 10
  l2:s.2.2.2.2.2.1.2.1.length ≤ 8
  l3:∀ q ∈ s.2.2.2.2.2.1.2.1,q.length ≤ 10
  l4:s.2.2.2.2.2.2.1.length ≤ 16
theorem chkS_site {s:Site} (h:chkS s = 0):SiteV s:=by
  have k:=houseE_ok (chkS_house h)
  refine ⟨h,k.e10,k.v8,fun q hq => (k.ev q hq).2.1,?_⟩
  unfold chkS at h
  split at h
  · cases h
  split at h
  · rename_i h2; exact absurd h h2
  split at h
  · cases h
  · omega
theorem SiteV.sOk {s:Site} (h:SiteV s):sOk s:=⟨⟨by have:=h.l1; omega,by have:=h.l2; omega,fun q hq => by have:=h.l3 q hq; omega⟩,by have:=h.l4; omega⟩
theorem chkS_of {s:Site} (h1:badN s = false) (h2:houseE s.2.2.2.2.2.1 = 0) (h3:s.2.2.2.2.2.2.1.length ≤ 16) (h4:ordB (-1) s.2.2.2.2.2.2.1 = false) (h5:s.2.2.2.2.2.2.1.any (prmB s.2.1) = false) (h6:(keepS s s.1 = true → s.2.2.2.2.2.2.2 = -1) ∧ (keepS s s.1 = false → wi s.2.2.2.2.2.2.2 0 s.1 = true)):chkS s = 0:=by
  unfold chkS
  rw [if_neg (by rw [h1]; decide),if_neg (fun k => k h2),if_neg (by omega),if_neg (by rw [h4]; decide),if_neg (by rw [h5]; decide)]
  cases hk:keepS s s.1 with
  | true => rw [if_pos rfl,if_neg (fun k => k (h6.1 hk))]
  | false => rw [if_neg (by decide),if_neg (by rw [h6.2 hk]; decide)]
end
end Go.MB
