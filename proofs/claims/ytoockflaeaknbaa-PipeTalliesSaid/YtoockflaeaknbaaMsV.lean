/- The reference's Add, in general. -/
import Derived.Test.YtoockflaeaknbaaMsU
namespace Go.MP
open Go Go.Sx Go.Proofs
set_option linter.unusedVariables false
set_option linter.unusedSimpArgs false
noncomputable section
def addG (l : List Tb) (t : Tb) : List Tb × Int := if 0 < l.length ∧ checkT l ≠ 0 then ([], checkT l) else if checkT (l ++ [t]) ≠ 0 then ([], checkT (l ++ [t])) else (l ++ [t], 0)
theorem eqTb_refl (x : Tb) : eqTb x x = true := by unfold eqTb; simp
theorem eqTs_refl : ∀ l : List Tb, eqTs l l = true
  | [] => rfl
  | x :: l => by
    show (eqTb x x && eqTs l l) = true
    rw [eqTb_refl, eqTs_refl l]; rfl
theorem T_rAdd (l_0 : List Tb) (t_0 t_1 t_2 t_3 t_4 t_5 t_6 t_7 t_8 : Int) : fnTree (P := P) [c_rTCheck.gc] (lpOf []) Try.f51 (encL 0 [.agg tTs, .agg tT] (l_0, (t_0, (t_1, (t_2, (t_3, (t_4, (t_5, (t_6, (t_7, t_8)))))))), ())) =
  Tree.cond (decide ((↑(List.length l_0) : Int) > (0 : Int))) (Tree.cond (checkT l_0 != (0 : Int)) (Tree.leaf (SV.tup [SV.agg [SV.nils], SV.int IntKind.i64 (checkT l_0)])) (Tree.need (((0 : Nat) + List.length l_0) * (72 : Nat) ≤ (140737488355328 : Nat)) (Tree.need ((List.length l_0 + List.length [(t_0, t_1, t_2, t_3, t_4, t_5, t_6, t_7, t_8)]) * (72 : Nat) ≤ (140737488355328 : Nat)) (Tree.cond (checkT (l_0 ++ [(t_0, t_1, t_2, t_3, t_4, t_5, t_6, t_7, t_8)]) != (0 : Int)) (Tree.leaf (SV.tup [SV.agg [SV.nils], SV.int IntKind.i64 (checkT (l_0 ++ [(t_0, t_1, t_2, t_3, t_4, t_5, t_6, t_7, t_8)]))])) (Tree.leaf (SV.tup [SV.agg [SV.sl (Ty.pair (Ty.int IntKind.i64) (Ty.pair (Ty.int IntKind.i64) (Ty.pair (Ty.int IntKind.i64) (Ty.pair (Ty.int IntKind.i64) (Ty.pair (Ty.int IntKind.i64) (Ty.pair (Ty.int IntKind.i64) (Ty.pair (Ty.int IntKind.i64) (Ty.pair (Ty.int IntKind.i64) (Ty.int IntKind.i64))))))))) (l_0 ++ [(t_0, t_1, t_2, t_3, t_4, t_5, t_6, t_7, t_8)])], SV.int IntKind.i64 (0 : Int)])))))) (Tree.need (((0 : Nat) + List.length l_0) * (72 : Nat) ≤ (140737488355328 : Nat)) (Tree.need ((List.length l_0 + List.length [(t_0, t_1, t_2, t_3, t_4, t_5, t_6, t_7, t_8)]) * (72 : Nat) ≤ (140737488355328 : Nat)) (Tree.cond (checkT (l_0 ++ [(t_0, t_1, t_2, t_3, t_4, t_5, t_6, t_7, t_8)]) != (0 : Int)) (Tree.leaf (SV.tup [SV.agg [SV.nils], SV.int IntKind.i64 (checkT (l_0 ++ [(t_0, t_1, t_2, t_3, t_4, t_5, t_6, t_7, t_8)]))])) (Tree.leaf (SV.tup [SV.agg [SV.sl (Ty.pair (Ty.int IntKind.i64) (Ty.pair (Ty.int IntKind.i64) (Ty.pair (Ty.int IntKind.i64) (Ty.pair (Ty.int IntKind.i64) (Ty.pair (Ty.int IntKind.i64) (Ty.pair (Ty.int IntKind.i64) (Ty.pair (Ty.int IntKind.i64) (Ty.pair (Ty.int IntKind.i64) (Ty.int IntKind.i64))))))))) (l_0 ++ [(t_0, t_1, t_2, t_3, t_4, t_5, t_6, t_7, t_8)])], SV.int IntKind.i64 (0 : Int)]))))) := by kernel_rfl
def c_rAdd : PC P := PC.of (α := List Tb × Tb × Unit) 51 [.agg tTs, .agg tT] (fun x => x) (fun x => x) (fun _ => rfl)
  (fun x => some (x.1.length ≤ 10))
  (fun x => .tup [.agg [.sl tT (addG x.1 x.2.1).1], .int .i64 (addG x.1 x.2.1).2]) (by kernel_rfl) (by
    rintro ⟨l_0, ⟨t_0, ⟨t_1, ⟨t_2, ⟨t_3, ⟨t_4, ⟨t_5, ⟨t_6, ⟨t_7, t_8⟩⟩⟩⟩⟩⟩⟩⟩, ⟨⟩⟩ hp
    refine fn_le hm (by kernel_rfl) (by kernel_rfl) (T_rAdd l_0 t_0 t_1 t_2 t_3 t_4 t_5 t_6 t_7 t_8) trivial (by kernel_rfl) ?_
    try dsimp only at hp
    try dsimp only
    have h2 : l_0.length ≤ 10 := hp
    show Tree.holds (fun s => LeS s (SV.tup [.agg [.sl tT (addG l_0 (t_0, t_1, t_2, t_3, t_4, t_5, t_6, t_7, t_8)).1], .int .i64 (addG l_0 (t_0, t_1, t_2, t_3, t_4, t_5, t_6, t_7, t_8)).2])) _
    generalize (t_0, t_1, t_2, t_3, t_4, t_5, t_6, t_7, t_8) = t
    have n1 : (0 + l_0.length) * 72 ≤ 140737488355328 := by omega
    have n2 : (l_0.length + [t].length) * 72 ≤ 140737488355328 := by simp only [List.length_cons, List.length_nil]; omega
    have fin : (¬ (0 < l_0.length ∧ checkT l_0 ≠ 0)) → Tree.holds (fun s => LeS s (SV.tup [.agg [.sl tT (addG l_0 t).1], .int .i64 (addG l_0 t).2])) (Tree.cond (checkT (l_0 ++ [t]) != 0) (Tree.leaf (SV.tup [.agg [.nils], .int .i64 (checkT (l_0 ++ [t]))])) (Tree.leaf (SV.tup [.agg [.sl tT (l_0 ++ [t])], .int .i64 0]))) := by
      intro h
      unfold addG
      rw [if_neg h]
      refine ⟨fun c => ?_, fun c => ?_⟩
      · rw [if_pos (show checkT (l_0 ++ [t]) ≠ 0 by simpa using c)]; exact ⟨⟨rfl, trivial⟩, rfl, trivial⟩
      · have c : checkT (l_0 ++ [t]) = 0 := by simpa using c
        rw [if_neg (fun k => k c)]; exact ⟨⟨rfl, trivial⟩, rfl, trivial⟩
    refine ⟨fun c1 => ⟨fun c2 => ?_, fun c2 => ⟨n1, n2, fin ?_⟩⟩, fun c1 => ⟨n1, n2, fin ?_⟩⟩
    · have c1 := of_decide_eq_true c1
      unfold addG
      rw [if_pos ⟨by omega, by simpa using c2⟩]
      exact ⟨⟨rfl, trivial⟩, rfl, trivial⟩
    · have c2 : checkT l_0 = 0 := by simpa using c2
      exact fun h => h.2 c2
    · have c1 := of_decide_eq_false c1
      exact fun h => by omega)
end
end Go.MP
