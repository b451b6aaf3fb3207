/- Rigs: comparisons. -/
import Derived.Test.YtmolckndbmjgfaaMrS
import Derived.Test.YtmolckndbmjgfaaMrU
namespace Go.MR
open Go Go.Sx Go.Proofs
set_option linter.unusedVariables false
set_option linter.unusedSimpArgs false
noncomputable section
def eqC : List Int → List Int → Bool
  | x :: a, y :: b => (x == y) && eqC a b
  | _, _ => true
theorem eqC_end {a b : List Int} {i : Int} (h : ¬ (i < a.length ∧ i < b.length)) : eqC (a.drop i.toNat) (b.drop i.toNat) = true := by
  by_cases h1 : i < a.length
  · rw [drop_end (l := b) (by omega)]
    cases List.drop i.toNat a <;> rfl
  · rw [drop_end h1]; rfl
theorem eqC_step {a b : List Int} {i : Int} (h0 : 0 ≤ i) (h : i < a.length) (h2 : i < b.length) : eqC (a.drop i.toNat) (b.drop i.toNat) = ((a.getD i.toNat 0 == b.getD i.toNat 0) && eqC (a.drop (i + 1).toNat) (b.drop (i + 1).toNat)) := by
  rw [drop_step (0 : Int) h0 h, drop_step (0 : Int) h0 h2, eqC]
theorem eqC_eq : ∀ (a b : List Int), (eqC a b && ((a.length : Int) == b.length)) = decide (a = b)
  | [], [] => rfl
  | [], y :: b => by
    rw [eqC]
    · have : (([] : List Int).length : Int) ≠ ((y :: b).length : Int) := by simp; omega
      rw [beq_eq_false_iff_ne.2 this]; simp
    · intro _ _ _ _ h; cases h
  | x :: a, [] => by
    rw [eqC]
    · have : ((x :: a).length : Int) ≠ (([] : List Int).length : Int) := by simp; omega
      rw [beq_eq_false_iff_ne.2 this]; simp
    · intro _ _ _ _ _ h; cases h
  | x :: a, y :: b => by
    have ih := eqC_eq a b
    have e : (((x :: a).length : Int) == ((y :: b).length : Int)) = ((a.length : Int) == (b.length : Int)) := by
      by_cases c : (a.length : Int) = b.length
      · rw [beq_iff_eq.2 c, beq_iff_eq.2 (by simp; omega)]
      · rw [beq_eq_false_iff_ne.2 c, beq_eq_false_iff_ne.2 (by simp; omega)]
    rw [eqC, e, Bool.and_assoc, ih]
    by_cases c : x = y
    · subst c
      by_cases d : a = b
      · subst d; simp
      · rw [decide_eq_false d, decide_eq_false (fun h => d (List.cons.inj h).2), Bool.and_false]
    · rw [beq_eq_false_iff_ne.2 c, Bool.false_and, decide_eq_false (fun h => c (List.cons.inj h).1)]
def L_sameI : Lay := { slots := [(0, .val tIs), (1, .val tIs), (5, .val tI)] }
def L_sameI_0 : Lay := { slots := [(4, .val .bool)] }
def L_sameI_1 : Lay := { slots := [(0, .val tIs), (1, .val tIs)] }
def X_sameI : Exit → St → Option Lay
  | .ret, _ => some L_sameI_0
  | .exit 0, _ => some L_sameI_1
  | _, _ => none
abbrev C_sameI : Code := loopC (bodyOf Try.f36) 0
theorem B_sameI (a b : List Int) (i : Int) : loopBodyA (P := P) [] (lpOf []) [] 32 noU (inner C_sameI) L_sameI X_sameI (α := List Int × List Int × Int × Unit) (fun x => x) (fun x => x) (a, b, i, ()) =
  Tree.cond (decide (i < (↑(List.length a) : Int))) (Tree.cond (decide (i < (↑(List.length b) : Int))) (Tree.need ((0 : Int) ≤ i ∧ i < (↑(List.length a) : Int)) (Tree.need ((0 : Int) ≤ i ∧ i < (↑(List.length b) : Int)) (Tree.cond (List.getD a (Int.toNat i) (0 : Int) != List.getD b (Int.toNat i) (0 : Int)) (Tree.leaf (Sum.inr (Exit.ret, Lay.st L_sameI_0 noU (false, PUnit.unit)))) (Tree.leaf (Sum.inl (a, b, IntKind.wrap IntKind.i64 (i + (1 : Int)), PUnit.unit)))))) (Tree.leaf (Sum.inr (Exit.exit (0 : Nat), Lay.st L_sameI_1 noU (a, b, PUnit.unit))))) (Tree.leaf (Sum.inr (Exit.exit (0 : Nat), Lay.st L_sameI_1 noU (a, b, PUnit.unit)))) := by kernel_rfl
def inv_sameI : List Int × List Int × Int × Unit → Prop := fun (a, b, i, ()) => 0 ≤ i ∧ i ≤ a.length ∧ i ≤ b.length ∧ (a.length : Int) < 2 ^ 62
def O_sameI : List Int × List Int × Int × Unit → Tree (Exit × St) := fun (a, b, i, ()) => .cond (eqC (a.drop i.toNat) (b.drop i.toNat)) (.leaf (.exit 0, L_sameI_1.st noU (a, b, ()))) (.leaf (.ret, L_sameI_0.st noU ((false), ())))
def R_sameI : LRun := runOf 32 L_sameI (fun x => x) (inv_sameI) (O_sameI)
theorem K_sameI : LoopOk P [] 32 none noU C_sameI (R_sameI) := by
  refine loop_of hm (cx := []) [] (xl := X_sameI) (α := List Int × List Int × Int × Unit) (fun x => x) (fun (a, b, i, ()) => ((a.length : Int) - i).toNat) (fun _ => rfl) (by kernel_rfl) (by kernel_rfl) ?_ (by kernel_rfl) trivial ?_
  · intro e S L' h
    unfold X_sameI at h
    split at h <;> first | (cases h; done) | (cases h; kernel_rfl) | (rcases bif_some h with h | h <;> cases h <;> kernel_rfl)
  · rintro ⟨a, b, i, ⟨⟩⟩ hinv Q hQ
    refine hold_of_eq (B_sameI a b i) ?_
    obtain ⟨h0, h1, h2, h3⟩ := hinv
    rw [W_id (n := i + 1) (by omega) (by omega)]
    unfold O_sameI at hQ
    dsimp only at hQ
    refine ⟨fun c1 => ⟨fun c2 => ?_, fun c2 => ?_⟩, fun c1 => ?_⟩
    · have d1 := of_decide_eq_true c1
      have d2 := of_decide_eq_true c2
      have hm : ((a.length : Int) - (i + 1)).toNat < ((a.length : Int) - i).toNat := by omega
      rw [eqC_step h0 d1 d2] at hQ
      refine ⟨⟨h0, d1⟩, ⟨h0, d2⟩, fun c3 => ?_, fun c3 => ?_⟩
      · rw [show (a.getD i.toNat 0 == b.getD i.toNat 0) = false by simpa using c3, Bool.false_and] at hQ
        exact hQ.2 rfl
      · rw [show (a.getD i.toNat 0 == b.getD i.toNat 0) = true by simpa using c3, Bool.true_and] at hQ
        exact ⟨⟨⟨by omega, by omega, by omega, h3⟩, hm⟩, hQ⟩
    · have d2 := of_decide_eq_false c2
      rw [eqC_end (fun h => d2 h.2)] at hQ
      exact hQ.1 rfl
    · have d1 := of_decide_eq_false c1
      rw [eqC_end (fun h => d1 h.1)] at hQ
      exact hQ.1 rfl
theorem T_SameInts (a b : List Int) : fnTree (P := P) [] (lpOf [(0, R_sameI)]) Try.f36 (encL 0 [.val tIs, .val tIs] (a, b, ())) =
  Tree.need (inv_sameI (a, b, (0 : Int), ())) (Tree.cond (eqC (List.drop (Int.toNat (0 : Int)) a) (List.drop (Int.toNat (0 : Int)) b)) (Tree.leaf (SV.bool ((↑(List.length a) : Int) == (↑(List.length b) : Int)))) (Tree.leaf (SV.bool false))) := by kernel_rfl
def c_SameInts : PC P := PC.of (α := List Int × List Int × Unit) 36 [.val tIs, .val tIs] (fun x => x) (fun x => x) (fun _ => rfl)
  (fun x => some ((x.1.length : Int) < 2 ^ 62))
  (fun x => .bool (decide (x.1 = x.2.1))) (by kernel_rfl) (by
    rintro ⟨a, b, ⟨⟩⟩ hp
    refine fn_of hm (by kernel_rfl) (by kernel_rfl) (T_SameInts a b) ⟨K_sameI, trivial⟩ ?_
    try dsimp only at hp
    try dsimp only
    have hp' : (a.length : Int) < 2 ^ 62 := hp
    rw [← eqC_eq]
    refine ⟨⟨by decide, by omega, by omega, hp'⟩, fun c1 => ?_, fun c1 => ?_⟩
    · exact congrArg SV.bool (by rw [show eqC a b = true from c1, Bool.true_and])
    · exact congrArg SV.bool (by rw [show eqC a b = false from c1, Bool.false_and]))
end
end Go.MR
