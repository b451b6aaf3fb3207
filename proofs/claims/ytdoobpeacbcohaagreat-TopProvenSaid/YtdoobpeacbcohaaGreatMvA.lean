/- Strings: tubes, whether they are valid, lengths, weights. -/
import Derived.Test.YtdoobpeacbcohaaGreatFw4
import Derived.Test.YtdoobpeacbcohaaGreatMwK
namespace Go.MP
open Go Go.Sx Go.Proofs
set_option linter.unusedVariables false
set_option linter.unusedSimpArgs false
noncomputable section
abbrev Tb:=Int × Int × Int × Int × Int × Int × Int × Int × Int
def ixS {α:Type} (p:α → Bool) (l:List α):Int:=if l.any p = true then (l.findIdx p:Int) else -1
theorem ixS_ge {α:Type} (p:α → Bool) (l:List α):decide (ixS p l ≥ 0) = l.any p:=by
  unfold ixS
  cases h:l.any p with
  | true => simp
  | false => simp
def ixR {α:Type} (p:α → Bool) (l:List α) (i:Int):Int:=i + ((l.drop i.toNat).findIdx p:Int)
theorem ix_step {α:Type} {p:α → Bool} {l:List α} {i:Int} (d:α) (h0:0 ≤ i) (h:i < l.length) :
    (l.drop i.toNat).any p = (p (l.getD i.toNat d) || (l.drop (i + 1).toNat).any p) ∧ (p (l.getD i.toNat d) = true → ixR p l i = i) ∧ (p (l.getD i.toNat d) = false → ixR p l i = ixR p l (i + 1)):=by
  have e:=drop_step d h0 h
  unfold ixR
  rw [e]
  refine ⟨rfl,fun hp => ?_,fun hp => ?_⟩
  · rw [List.findIdx_cons,hp]; simp
  · rw [List.findIdx_cons,hp]; simp only [cond_false]; omega
def wi (n a b:Int):Bool:=decide (a ≤ n) && decide (n ≤ b)
theorem wi_iff {n a b:Int}:wi n a b = true ↔ a ≤ n ∧ n ≤ b:=by unfold wi; simp
def fairT (t:Tb):Bool:=wi t.1 1 400 && (wi t.2.1 100 4000 && (wi t.2.2.1 1 4000000 && (wi t.2.2.2.1 1 400 && (wi t.2.2.2.2.1 2 90 && (wi t.2.2.2.2.2.1 1 4398046511104 && (wi t.2.2.2.2.2.2.1 1 281474976710656 && (wi t.2.2.2.2.2.2.2.1 0 17179869184 && wi t.2.2.2.2.2.2.2.2 0 1099511627776)))))))
structure Fair (t:Tb):Prop where
  cnt:1 ≤ t.1 ∧ t.1 ≤ 400
  len:100 ≤ t.2.1 ∧ t.2.1 ≤ 4000
  air:1 ≤ t.2.2.1 ∧ t.2.2.1 ≤ 4000000
  ste:1 ≤ t.2.2.2.1 ∧ t.2.2.2.1 ≤ 400
  out:2 ≤ t.2.2.2.2.1 ∧ t.2.2.2.2.1 ≤ 90
  yld:1 ≤ t.2.2.2.2.2.1 ∧ t.2.2.2.2.2.1 ≤ 4398046511104
  twi:1 ≤ t.2.2.2.2.2.2.1 ∧ t.2.2.2.2.2.2.1 ≤ 281474976710656
  sti:0 ≤ t.2.2.2.2.2.2.2.1 ∧ t.2.2.2.2.2.2.2.1 ≤ 17179869184
  use:0 ≤ t.2.2.2.2.2.2.2.2 ∧ t.2.2.2.2.2.2.2.2 ≤ 1099511627776
theorem fair_iff {t:Tb}:fairT t = true ↔ Fair t:=by
  unfold fairT
  simp only [Bool.and_eq_true,wi_iff]
  exact ⟨fun ⟨h1,h2,h3,h4,h5,h6,h7,h8,h9⟩ => ⟨h1,h2,h3,h4,h5,h6,h7,h8,h9⟩,fun ⟨h1,h2,h3,h4,h5,h6,h7,h8,h9⟩ => ⟨h1,h2,h3,h4,h5,h6,h7,h8,h9⟩⟩
def badT (t:Tb):Bool:=!fairT t
def AllF (l:List Tb):Prop:=∀ t ∈ l,Fair t
theorem AllF.any {l:List Tb} (h:AllF l):l.any badT = false:=by
  rw [List.any_eq_false]
  intro t ht
  unfold badT
  rw [fair_iff.2 (h t ht)]
  decide
theorem AllF.drop {l:List Tb} (h:AllF l) (n:Nat):AllF (l.drop n):=fun t ht => h t (List.mem_of_mem_drop ht)
end
end Go.MP
