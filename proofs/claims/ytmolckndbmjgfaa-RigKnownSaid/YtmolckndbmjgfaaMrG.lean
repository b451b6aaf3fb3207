/- Rigs: the reference's hits. -/
import Derived.Test.YtmolckndbmjgfaaMrF
namespace Go.MR
open Go Go.Sx Go.Proofs
set_option linter.unusedVariables false
set_option linter.unusedSimpArgs false
noncomputable section
def hitS (b : Ban) (s t : List Int) : Bool := meetS (s.getD b.1.toNat 0, t.getD b.1.toNat 0) b.2.1 b.2.2.1 && meetS (s.getD b.2.2.2.1.toNat 0, t.getD b.2.2.2.1.toNat 0) b.2.2.2.2.1 b.2.2.2.2.2
theorem T_hits (s0_0 s0_1 s0_2 s0_3 s0_4 s0_5 : Int) (s1 s2 : List Int) : fnTree (P := P) [] (lpOf []) Try.f117 (encL 0 [.agg (.pair tI (.pair tI (.pair tI tV))), .val tIs, .val tIs] ((s0_0, (s0_1, (s0_2, (s0_3, (s0_4, s0_5))))), s1, s2, ())) =
  Tree.need ((0 : Int) ≤ s0_0 ∧ s0_0 < (↑(List.length s1) : Int)) (Tree.cond (decide (List.getD s1 (Int.toNat s0_0) (0 : Int) ≥ s0_1)) (Tree.need ((0 : Int) ≤ s0_0 ∧ s0_0 < (↑(List.length s1) : Int)) (Tree.cond (decide (List.getD s1 (Int.toNat s0_0) (0 : Int) ≤ s0_2)) (Tree.need ((0 : Int) ≤ s0_3 ∧ s0_3 < (↑(List.length s1) : Int)) (Tree.cond (decide (List.getD s1 (Int.toNat s0_3) (0 : Int) ≥ s0_4)) (Tree.need ((0 : Int) ≤ s0_3 ∧ s0_3 < (↑(List.length s1) : Int)) (Tree.cond (decide (List.getD s1 (Int.toNat s0_3) (0 : Int) ≤ s0_5)) (Tree.leaf (SV.bool true)) (Tree.need ((0 : Int) ≤ s0_3 ∧ s0_3 < (↑(List.length s2) : Int)) (Tree.cond (decide (List.getD s2 (Int.toNat s0_3) (0 : Int) ≥ s0_4)) (Tree.need ((0 : Int) ≤ s0_3 ∧ s0_3 < (↑(List.length s2) : Int)) (Tree.leaf (SV.bool (decide (List.getD s2 (Int.toNat s0_3) (0 : Int) ≤ s0_5))))) (Tree.leaf (SV.bool false)))))) (Tree.need ((0 : Int) ≤ s0_3 ∧ s0_3 < (↑(List.length s2) : Int)) (Tree.cond (decide (List.getD s2 (Int.toNat s0_3) (0 : Int) ≥ s0_4)) (Tree.need ((0 : Int) ≤ s0_3 ∧ s0_3 < (↑(List.length s2) : Int)) (Tree.leaf (SV.bool (decide (List.getD s2 (Int.toNat s0_3) (0 : Int) ≤ s0_5))))) (Tree.leaf (SV.bool false)))))) (Tree.need ((0 : Int) ≤ s0_0 ∧ s0_0 < (↑(List.length s2) : Int)) (Tree.cond (decide (List.getD s2 (Int.toNat s0_0) (0 : Int) ≥ s0_1)) (Tree.need ((0 : Int) ≤ s0_0 ∧ s0_0 < (↑(List.length s2) : Int)) (Tree.cond (decide (List.getD s2 (Int.toNat s0_0) (0 : Int) ≤ s0_2)) (Tree.need ((0 : Int) ≤ s0_3 ∧ s0_3 < (↑(List.length s1) : Int)) (Tree.cond (decide (List.getD s1 (Int.toNat s0_3) (0 : Int) ≥ s0_4)) (Tree.need ((0 : Int) ≤ s0_3 ∧ s0_3 < (↑(List.length s1) : Int)) (Tree.cond (decide (List.getD s1 (Int.toNat s0_3) (0 : Int) ≤ s0_5)) (Tree.leaf (SV.bool true)) (Tree.need ((0 : Int) ≤ s0_3 ∧ s0_3 < (↑(List.length s2) : Int)) (Tree.cond (decide (List.getD s2 (Int.toNat s0_3) (0 : Int) ≥ s0_4)) (Tree.need ((0 : Int) ≤ s0_3 ∧ s0_3 < (↑(List.length s2) : Int)) (Tree.leaf (SV.bool (decide (List.getD s2 (Int.toNat s0_3) (0 : Int) ≤ s0_5))))) (Tree.leaf (SV.bool false)))))) (Tree.need ((0 : Int) ≤ s0_3 ∧ s0_3 < (↑(List.length s2) : Int)) (Tree.cond (decide (List.getD s2 (Int.toNat s0_3) (0 : Int) ≥ s0_4)) (Tree.need ((0 : Int) ≤ s0_3 ∧ s0_3 < (↑(List.length s2) : Int)) (Tree.leaf (SV.bool (decide (List.getD s2 (Int.toNat s0_3) (0 : Int) ≤ s0_5))))) (Tree.leaf (SV.bool false)))))) (Tree.leaf (SV.bool false)))) (Tree.leaf (SV.bool false)))))) (Tree.need ((0 : Int) ≤ s0_0 ∧ s0_0 < (↑(List.length s2) : Int)) (Tree.cond (decide (List.getD s2 (Int.toNat s0_0) (0 : Int) ≥ s0_1)) (Tree.need ((0 : Int) ≤ s0_0 ∧ s0_0 < (↑(List.length s2) : Int)) (Tree.cond (decide (List.getD s2 (Int.toNat s0_0) (0 : Int) ≤ s0_2)) (Tree.need ((0 : Int) ≤ s0_3 ∧ s0_3 < (↑(List.length s1) : Int)) (Tree.cond (decide (List.getD s1 (Int.toNat s0_3) (0 : Int) ≥ s0_4)) (Tree.need ((0 : Int) ≤ s0_3 ∧ s0_3 < (↑(List.length s1) : Int)) (Tree.cond (decide (List.getD s1 (Int.toNat s0_3) (0 : Int) ≤ s0_5)) (Tree.leaf (SV.bool true)) (Tree.need ((0 : Int) ≤ s0_3 ∧ s0_3 < (↑(List.length s2) : Int)) (Tree.cond (decide (List.getD s2 (Int.toNat s0_3) (0 : Int) ≥ s0_4)) (Tree.need ((0 : Int) ≤ s0_3 ∧ s0_3 < (↑(List.length s2) : Int)) (Tree.leaf (SV.bool (decide (List.getD s2 (Int.toNat s0_3) (0 : Int) ≤ s0_5))))) (Tree.leaf (SV.bool false)))))) (Tree.need ((0 : Int) ≤ s0_3 ∧ s0_3 < (↑(List.length s2) : Int)) (Tree.cond (decide (List.getD s2 (Int.toNat s0_3) (0 : Int) ≥ s0_4)) (Tree.need ((0 : Int) ≤ s0_3 ∧ s0_3 < (↑(List.length s2) : Int)) (Tree.leaf (SV.bool (decide (List.getD s2 (Int.toNat s0_3) (0 : Int) ≤ s0_5))))) (Tree.leaf (SV.bool false)))))) (Tree.leaf (SV.bool false)))) (Tree.leaf (SV.bool false))))) := by kernel_rfl
def c_hits : PC P := PC.of (α := (Int × (Int × (Int × V))) × List Int × List Int × Unit) 117 [.agg (.pair tI (.pair tI (.pair tI tV))), .val tIs, .val tIs] (fun x => x) (fun x => x) (fun _ => rfl)
  (fun x => some (okB x.2.1.length x.1 ∧ okB x.2.2.1.length x.1))
  (fun x => .bool (hitS x.1 x.2.1 x.2.2.1)) (by kernel_rfl) (by
    rintro ⟨⟨s0_0, ⟨s0_1, ⟨s0_2, ⟨s0_3, ⟨s0_4, s0_5⟩⟩⟩⟩⟩, s1, s2, ⟨⟩⟩ hp
    refine fn_of hm (by kernel_rfl) (by kernel_rfl) (T_hits s0_0 s0_1 s0_2 s0_3 s0_4 s0_5 s1 s2) trivial ?_
    try dsimp only at hp
    try dsimp only
    obtain ⟨⟨a1, a2, a3, a4⟩, b1, b2, b3, b4⟩ := hp
    dsimp only at a1 a2 a3 a4 b1 b2 b3 b4
    show Tree.holds (fun s => s = SV.bool (((decide (s0_1 ≤ s1.getD s0_0.toNat 0) && decide (s1.getD s0_0.toNat 0 ≤ s0_2)) || (decide (s0_1 ≤ s2.getD s0_0.toNat 0) && decide (s2.getD s0_0.toNat 0 ≤ s0_2))) && ((decide (s0_4 ≤ s1.getD s0_3.toNat 0) && decide (s1.getD s0_3.toNat 0 ≤ s0_5)) || (decide (s0_4 ≤ s2.getD s0_3.toNat 0) && decide (s2.getD s0_3.toNat 0 ≤ s0_5))))) _
    have n1 : 0 ≤ s0_0 ∧ s0_0 < (s1.length : Int) := ⟨a1, a2⟩
    have n2 : 0 ≤ s0_0 ∧ s0_0 < (s2.length : Int) := ⟨b1, b2⟩
    have n3 : 0 ≤ s0_3 ∧ s0_3 < (s1.length : Int) := ⟨a3, a4⟩
    have n4 : 0 ≤ s0_3 ∧ s0_3 < (s2.length : Int) := ⟨b3, b4⟩
    simp only [ge_iff_le, Tree.holds, n1, n2, n3, n4, true_and, and_true]
    generalize decide (s0_1 ≤ s1.getD s0_0.toNat 0) = x1
    generalize decide (s1.getD s0_0.toNat 0 ≤ s0_2) = x2
    generalize decide (s0_1 ≤ s2.getD s0_0.toNat 0) = x3
    generalize decide (s2.getD s0_0.toNat 0 ≤ s0_2) = x4
    generalize decide (s0_4 ≤ s1.getD s0_3.toNat 0) = x5
    generalize decide (s1.getD s0_3.toNat 0 ≤ s0_5) = x6
    generalize decide (s0_4 ≤ s2.getD s0_3.toNat 0) = x7
    generalize decide (s2.getD s0_3.toNat 0 ≤ s0_5) = x8
    cases x1 <;> cases x2 <;> cases x3 <;> cases x4 <;> cases x5 <;> cases x6 <;> cases x7 <;> simp)
end
end Go.MR
