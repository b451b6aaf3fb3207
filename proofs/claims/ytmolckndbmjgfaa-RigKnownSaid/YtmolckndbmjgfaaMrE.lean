/- Rigs: the reference's are. -/
import Derived.Test.YtmolckndbmjgfaaMrD
namespace Go.MR
open Go Go.Sx Go.Proofs
set_option linter.unusedVariables false
set_option linter.unusedSimpArgs false
noncomputable section
theorem inR_end {s ps : List Int} {i : Int} (h : ¬ (i < s.length ∧ i < ps.length)) : inR (s.drop i.toNat) (ps.drop i.toNat) = true := by
  by_cases h1 : i < s.length
  · rw [drop_end (l := ps) (by omega)]
    cases List.drop i.toNat s <;> (unfold inR; rfl)
  · rw [drop_end h1, inR_nil]
def areS (r : Rig) (s : List Int) : Bool := inR s r.1 && decide ((s.length : Int) = r.1.length)
def L_areL : Lay := { slots := [(1, .val tIs), (2, .ptr 3042 0), (5, .val tI)], boxes := [(3042, [.val tIs, .val (.sl (.pair tI (.pair tI (.pair tI tV))))])] }
def L_areL_0 : Lay := { slots := [(4, .val .bool)] }
def L_areL_1 : Lay := { slots := [(1, .val tIs), (2, .ptr 3042 0)], boxes := [(3042, [.val tIs, .val (.sl (.pair tI (.pair tI (.pair tI tV))))])] }
def X_areL : Exit → St → Option Lay
  | .ret, _ => some L_areL_0
  | .exit 0, _ => some L_areL_1
  | _, _ => none
abbrev C_areL : Code := loopC (bodyOf Try.f78) 0
theorem B_areL (s : List Int) (i : Int) (ps : List Int) (bs : List (Int × (Int × (Int × V)))) : loopBodyA (P := P) [] (lpOf []) [] 42 noU (inner C_areL) L_areL X_areL (α := List Int × Unit × Int × List Int × List (Int × (Int × (Int × V))) × Unit) (fun x => x) (fun x => x) (s, (), i, ps, bs, ()) =
  Tree.cond (decide (i < (↑(List.length s) : Int))) (Tree.cond (decide (i < (↑(List.length ps) : Int))) (Tree.need ((0 : Int) ≤ i ∧ i < (↑(List.length s) : Int)) (Tree.cond (decide (List.getD s (Int.toNat i) (0 : Int) < (0 : Int))) (Tree.leaf (Sum.inr (Exit.ret, Lay.st L_areL_0 noU (false, PUnit.unit)))) (Tree.need ((0 : Int) ≤ i ∧ i < (↑(List.length s) : Int)) (Tree.need ((0 : Int) ≤ i ∧ i < (↑(List.length ps) : Int)) (Tree.cond (decide (List.getD s (Int.toNat i) (0 : Int) ≥ List.getD ps (Int.toNat i) (0 : Int))) (Tree.leaf (Sum.inr (Exit.ret, Lay.st L_areL_0 noU (false, PUnit.unit)))) (Tree.leaf (Sum.inl (s, PUnit.unit, IntKind.wrap IntKind.i64 (i + (1 : Int)), ps, bs, PUnit.unit)))))))) (Tree.leaf (Sum.inr (Exit.exit (0 : Nat), Lay.st L_areL_1 noU (s, PUnit.unit, ps, bs, PUnit.unit))))) (Tree.leaf (Sum.inr (Exit.exit (0 : Nat), Lay.st L_areL_1 noU (s, PUnit.unit, ps, bs, PUnit.unit)))) := by kernel_rfl
def inv_areL : List Int × Unit × Int × List Int × List (Int × (Int × (Int × V))) × Unit → Prop := fun (s, (), i, ps, bs, ()) => 0 ≤ i ∧ i ≤ s.length ∧ i ≤ ps.length ∧ (s.length : Int) < 2 ^ 62
def O_areL : List Int × Unit × Int × List Int × List (Int × (Int × (Int × V))) × Unit → Tree (Exit × St) := fun (s, (), i, ps, bs, ()) => .cond (inR (s.drop i.toNat) (ps.drop i.toNat)) (.leaf (.exit 0, L_areL_1.st noU (s, (), ps, bs, ()))) (.leaf (.ret, L_areL_0.st noU ((false), ())))
def R_areL : LRun := runOf 42 L_areL (fun x => x) (inv_areL) (O_areL)
theorem K_areL : LoopOk P [] 42 none noU C_areL (R_areL) := by
  refine loop_of hm (cx := []) [] (xl := X_areL) (α := List Int × Unit × Int × List Int × List (Int × (Int × (Int × V))) × Unit) (fun x => x) (fun (s, (), i, ps, bs, ()) => (s.length - i).toNat) (fun _ => rfl) (by kernel_rfl) (by kernel_rfl) ?_ (by kernel_rfl) trivial ?_
  · intro e S L' h
    unfold X_areL at h
    split at h <;> first | (cases h; done) | (cases h; kernel_rfl) | (rcases bif_some h with h | h <;> cases h <;> kernel_rfl)
  · rintro ⟨s, ⟨⟩, i, ps, bs, ⟨⟩⟩ hinv Q hQ
    refine hold_of_eq (B_areL s i ps bs) ?_
    obtain ⟨h0, h1, h2, h3⟩ := hinv
    rw [W_id (n := i + 1) (by omega) (by omega)]
    unfold O_areL at hQ
    dsimp only at hQ
    refine ⟨fun c1 => ⟨fun c2 => ?_, fun c2 => ?_⟩, fun c1 => ?_⟩
    · have d1 := of_decide_eq_true c1
      have d2 := of_decide_eq_true c2
      have hm : ((s.length : Int) - (i + 1)).toNat < ((s.length : Int) - i).toNat := by omega
      rw [inR_step h0 d1 d2] at hQ
      generalize s.getD i.toNat 0 = p at *
      generalize ps.getD i.toNat 0 = q at *
      refine ⟨⟨h0, d1⟩, fun c3 => ?_, fun c3 => ⟨⟨h0, d1⟩, ⟨h0, d2⟩, fun c4 => ?_, fun c4 => ?_⟩⟩
      · have d3 := of_decide_eq_true c3
        rw [decide_eq_false (show ¬ (0 : Int) ≤ p by omega), Bool.false_and, Bool.false_and] at hQ
        exact hQ.2 rfl
      · have d4 := of_decide_eq_true c4
        rw [decide_eq_false (show ¬ p < q by omega), Bool.and_false, Bool.false_and] at hQ
        exact hQ.2 rfl
      · have d3 := of_decide_eq_false c3
        have d4 := of_decide_eq_false c4
        rw [decide_eq_true (show (0 : Int) ≤ p by omega), decide_eq_true (show p < q by omega), Bool.true_and, Bool.true_and] at hQ
        exact ⟨⟨⟨by omega, by omega, by omega, h3⟩, hm⟩, hQ⟩
    · have d2 := of_decide_eq_false c2
      rw [inR_end (fun h => d2 h.2)] at hQ
      exact hQ.1 rfl
    · have d1 := of_decide_eq_false c1
      rw [inR_end (fun h => d1 h.1)] at hQ
      exact hQ.1 rfl
theorem T_are (s0_0 : List Int) (s0_1 : List (Int × (Int × (Int × V)))) (s : List Int) : fnTree (P := P) [] (lpOf [(0, R_areL)]) Try.f78 (encL 0 [.agg (.pair tIs (.sl (.pair tI (.pair tI (.pair tI tV))))), .val tIs] ((s0_0, s0_1), s, ())) =
  Tree.need (inv_areL (s, (), (0 : Int), s0_0, s0_1, ())) (Tree.cond (inR (List.drop (Int.toNat (0 : Int)) s) (List.drop (Int.toNat (0 : Int)) s0_0)) (Tree.leaf (SV.bool ((↑(List.length s) : Int) == (↑(List.length s0_0) : Int)))) (Tree.leaf (SV.bool false))) := by kernel_rfl
def c_are : PC P := PC.of (α := (List Int × List (Int × (Int × (Int × V)))) × List Int × Unit) 78 [.agg (.pair tIs (.sl (.pair tI (.pair tI (.pair tI tV))))), .val tIs] (fun x => x) (fun x => x) (fun _ => rfl)
  (fun x => some ((x.2.1.length : Int) < 2 ^ 62))
  (fun x => .bool (areS x.1 x.2.1)) (by kernel_rfl) (by
    rintro ⟨⟨s0_0, s0_1⟩, s, ⟨⟩⟩ hp
    refine fn_of hm (by kernel_rfl) (by kernel_rfl) (T_are s0_0 s0_1 s) ⟨K_areL, trivial⟩ ?_
    try dsimp only at hp
    try dsimp only
    have hp' : (s.length : Int) < 2 ^ 62 := hp
    refine ⟨⟨by decide, by omega, by omega, hp'⟩, fun c1 => ?_, fun c1 => ?_⟩
    · have e : areS (s0_0, s0_1) s = decide ((s.length : Int) = s0_0.length) := by unfold areS; rw [show inR s s0_0 = true from c1, Bool.true_and]
      exact congrArg SV.bool (by rw [e]; rfl)
    · have e : areS (s0_0, s0_1) s = false := by unfold areS; rw [show inR s s0_0 = false from c1, Bool.false_and]
      exact congrArg SV.bool e.symm)
end
end Go.MR
