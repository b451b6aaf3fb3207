/- RigOrder: fewer losses, a wider goal and fewer bans take no more ticks. -/
import Derived.Test.YtdoobpeacbcohaaMxZ
namespace Go.MR
open Go Go.Sx Go.Proofs
set_option linter.unusedVariables false
set_option linter.unusedSimpArgs false
noncomputable section
theorem next_more:∀ {s m:List Int} {l:Nat} {y:List Int × Nat},y ∈ nexts s m l → (y.1,y.2 + 1) ∈ nexts s m (l + 1)
  | [],m,l,y,h => by
    have e:∀ k,nexts [] m k = [([],k)]:=fun k => by cases m <;> cases k <;> rfl
    rw [e,List.mem_singleton] at h ⊢
    subst h; rfl
  | p :: s,[],l,y,h => by
    have e:∀ k,nexts (p :: s) [] k = [([],k)]:=fun k => by cases k <;> rfl
    rw [e,List.mem_singleton] at h ⊢
    subst h; rfl
  | p :: s,x :: m,l,y,h => by
    rw [nexts_cons,List.mem_append,List.mem_map] at h ⊢
    rcases h with ⟨z,hz,rfl⟩ | h
    · exact .inl ⟨_,next_more hz,rfl⟩
    · refine .inr ?_
      split at h
      · cases h
      · rename_i hx
        rw [if_neg hx]
        cases l with
        | zero => cases h
        | succ l =>
          dsimp only at h ⊢
          obtain ⟨z,hz,rfl⟩:=List.mem_map.1 h
          exact List.mem_map.2 ⟨_,next_more hz,rfl⟩
theorem reD_less {ps:List Int} {bs:List Ban} {g:List (Int × Int)}:∀ {d l:Nat} {s:List Int},reD ps bs g d (l + 1) s = true → reD ps bs g d l s = true:=by
  intro d
  induction d with
  | zero => exact fun h => h
  | succ d ih =>
    intro l s h
    rw [reD,Bool.or_eq_true,Bool.and_eq_true,List.any_eq_true] at h ⊢
    rcases h with h | ⟨h1,m,hm,h2⟩
    · exact .inl (ih h)
    · rw [Bool.and_eq_true,List.all_eq_true] at h2
      exact .inr ⟨h1,m,hm,by
        rw [Bool.and_eq_true,List.all_eq_true]
        exact ⟨h2.1,fun y hy => ih (h2.2 _ (next_more hy))⟩⟩
end
end Go.MR
