/- The reference's check of a path, its length, its joints. -/
import Derived.Test.YtdoobpeacbcohaaGreatMwG
namespace Go.MP
open Go Go.Sx Go.Proofs
set_option linter.unusedVariables false
set_option linter.unusedSimpArgs false
noncomputable section
def jl:V → List V → List V
  | a,[] => [a]
  | a,v :: r => a :: jl (vadd a v) r
theorem jl_next:∀ (l:List V) (a:V) (i:Nat),i < l.length → (jl a l).getD (i + 1) (0,0,0) = vadd ((jl a l).getD i (0,0,0)) (l.getD i (0,0,0))
  | [],_,i,h => by cases h
  | [v],a,0,h => rfl
  | v :: u :: r,a,0,h => rfl
  | v :: r,a,i + 1,h => by
    have h' : i < r.length:=by simpa using h
    have:=jl_next r (vadd a v) i h'
    simpa [jl] using this
theorem take_snoc {α:Type} (d:α):∀ {l:List α} {k:Nat},k < l.length → l.take (k + 1) = l.take k ++ [l.getD k d]
  | a :: l,0,h => by simp
  | a :: l,k + 1,h => by
    have:=take_snoc d (l:=l) (k:=k) (by simpa using h)
    simp only [List.take_succ_cons,List.cons_append]
    rw [this]
    simp
end
end Go.MP
