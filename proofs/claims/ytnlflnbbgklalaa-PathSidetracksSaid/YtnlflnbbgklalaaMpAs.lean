/- The law PathSidetracks, step by step. -/
import Derived.Test.YtnlflnbbgklalaaFw4
import Derived.Test.YtnlflnbbgklalaaMpAf
namespace Go.MP
open Go Go.Sx Go.Proofs
set_option linter.unusedVariables false
set_option linter.unusedSimpArgs false
noncomputable section

/-! ### slices.Concat -/
def L_Grow : Lay := { slots := [(0, .nils), (1, .val tI)] }
theorem T_Grow (n : Int) : mTree (P := P) [] (lpOf []) Try.f139 L_Grow true ((), n, ()) =
  Tree.cond (decide (n < (0 : Int))) (Tree.fail (1007 : Nat)) (Tree.cond (decide (IntKind.wrap IntKind.i64 (n - IntKind.wrap IntKind.i64 ((0 : Int) - (0 : Int))) > (0 : Int))) (Tree.need ((0 : Int) = (0 : Int)) (Tree.need ((0 : Int) < IntKind.wrap IntKind.i64 (n - IntKind.wrap IntKind.i64 ((0 : Int) - (0 : Int))) ∧ IntKind.wrap IntKind.i64 (n - IntKind.wrap IntKind.i64 ((0 : Int) - (0 : Int))) ≤ (70368744177664 : Int) ∧ IntKind.wrap IntKind.i64 (n - IntKind.wrap IntKind.i64 ((0 : Int) - (0 : Int))) * (↑(24 : Nat) : Int) ≤ (140737488355328 : Int)) (Tree.need ((0 : Int) ≤ (0 : Int) ∧ (0 : Int) ≤ (↑(List.length (List.replicate (Int.toNat (IntKind.wrap IntKind.i64 (n - IntKind.wrap IntKind.i64 ((0 : Int) - (0 : Int))))) ((0 : Int), (0 : Int), (0 : Int)))) : Int)) (Tree.leaf { res := SV.own (nat_lit 100), boxes := [], news := [Ob.row (23 : Nat) (Ty.pair (Ty.int IntKind.i64) (Ty.pair (Ty.int IntKind.i64) (Ty.int IntKind.i64))) (List.take (Int.toNat (0 : Int)) (List.replicate (Int.toNat (IntKind.wrap IntKind.i64 (n - IntKind.wrap IntKind.i64 ((0 : Int) - (0 : Int))))) ((0 : Int), (0 : Int), (0 : Int))))] })))) (Tree.leaf { res := SV.nils, boxes := [] })) := by kernel_rfl

def c_Grow : MC P := MC.of (α := Unit × Int × Unit) 139 L_Grow (fun x => x) (fun x => x) (fun _ => rfl)
  (fun (_, n, _) => some (0 < n ∧ n ≤ 1000))
  (fun _ => ⟨.own 100, [], [.row 23 tV []]⟩) (by kernel_rfl) (by kernel_rfl) (by kernel_rfl) (by
    rintro ⟨⟨⟩, n, ⟨⟩⟩ hp
    refine m_of hm (own := true) (by kernel_rfl) (by kernel_rfl) (by kernel_rfl) (T_Grow n) trivial ?_

    obtain ⟨h1, h2⟩ : 0 < n ∧ n ≤ 1000 := hp
    rw [show IntKind.wrap IntKind.i64 (0 - 0) = 0 from by decide, Int.sub_zero, W_id (n := n) (by omega) (by omega)]
    refine ⟨fun c1 => ?_, fun c1 => ⟨fun c2 => ⟨rfl, ⟨h1, by omega, ?_⟩, ⟨by omega, ?_⟩, ?_⟩, fun c2 => ?_⟩⟩
    · simp only [decide_eq_true_eq] at c1; omega
    · show n * 24 ≤ _; omega
    · exact Int.natCast_nonneg _
    · rfl
    · simp only [gt_iff_lt, decide_eq_false_iff_not] at c2; omega)

def totL (ls : List (List V)) : Int := (ls.flatten.length : Int)

theorem totL_step {ms : List (List V)} {i : Int} (h0 : 0 ≤ i) (h : i < ms.length) : totL (ms.drop i.toNat) = ((ms.getD i.toNat []).length : Int) + totL (ms.drop (i + 1).toNat) := by
  rw [drop_step ([] : List V) h0 h]
  unfold totL
  rw [List.flatten_cons, List.length_append]
  omega
theorem totL_nn (ms : List (List V)) : 0 ≤ totL ms := by unfold totL; omega

def L_cat0 : Lay := { slots := [(0, .val (.sl tVs)), (3, .val tI), (9, .val (.sl tVs)), (10, .val tI), (11, .val tI)] }
def L_cat0_0 : Lay := { slots := [(0, .val (.sl tVs)), (3, .val tI)] }
def X_cat0 : Exit → Option Lay
  | .exit 0 => some L_cat0_0
  | _ => none
abbrev C_cat0 : Code := loopC (bodyOf Try.f114) 0
theorem B_cat0 (ls : List (List V)) (s : Int) (ms : List (List V)) (n i : Int) : loopBodyA (P := P) [] (lpOf []) [] 36 noU (inner C_cat0) L_cat0 X_cat0 (α := List (List V) × Int × List (List V) × Int × Int × Unit) (fun x => x) (fun x => x) (ls, s, ms, n, i, ()) =
  Tree.cond (decide (i < n)) (Tree.need ((0 : Int) ≤ i ∧ i < (↑(List.length ms) : Int)) (Tree.cond (decide (IntKind.wrap IntKind.i64 (s + (↑(List.length (List.getD ms (Int.toNat i) [])) : Int)) < (0 : Int))) (Tree.fail (1021 : Nat)) (Tree.leaf (Sum.inl (ls, IntKind.wrap IntKind.i64 (s + (↑(List.length (List.getD ms (Int.toNat i) [])) : Int)), ms, n, IntKind.wrap IntKind.i64 (i + (1 : Int)), PUnit.unit))))) (Tree.leaf (Sum.inr (Exit.exit (0 : Nat), Lay.st L_cat0_0 noU (ls, s, PUnit.unit)))) := by kernel_rfl

def inv_cat0 : List (List V) × Int × List (List V) × Int × Int × Unit → Prop := fun (ls, s, ms, n, i, _) => n = ms.length ∧ 0 ≤ i ∧ i ≤ n ∧ 0 ≤ s ∧ s + totL (ms.drop i.toNat) ≤ 1000 ∧ (ms.length : Int) ≤ 1000
def O_cat0 : List (List V) × Int × List (List V) × Int × Int × Unit → Tree (Exit × St) := fun (ls, s, ms, n, i, _) => .leaf (.exit 0, L_cat0_0.st noU (ls, s + totL (ms.drop i.toNat), ()))
def R_cat0 : LRun := runOf 36 L_cat0 (fun x => x) (inv_cat0) (O_cat0)
theorem K_cat0 : LoopOk P [] 36 none noU C_cat0 (R_cat0) := by
  refine loop_of hm (cx := []) [] (xl := X_cat0) (α := List (List V) × Int × List (List V) × Int × Int × Unit) (fun x => x) (fun (ls, s, ms, n, i, _) => (n - i).toNat) (fun _ => rfl) (by kernel_rfl) (by kernel_rfl) ?_ (by kernel_rfl) trivial ?_
  · intro e L' h
    unfold X_cat0 at h
    split at h <;> cases h <;> kernel_rfl
  · rintro ⟨ls, s, ms, n, i, ⟨⟩⟩ hinv Q hQ
    refine hold_of_eq (B_cat0 ls s ms n i) ?_

    obtain ⟨rfl, h0, h1, h2, h3, h4⟩ := hinv
    refine ⟨fun c1 => ?_, fun c1 => ?_⟩
    · simp only [decide_eq_true_eq] at c1
      have e := totL_step h0 c1
      have hm : ((ms.length : Int) - (i + 1)).toNat < ((ms.length : Int) - i).toNat := by omega
      have nn := totL_nn (ms.drop (i + 1).toNat)
      rw [W_id (n := s + ((ms.getD i.toNat []).length : Int)) (by omega) (by omega), W_id (n := i + 1) (by omega) (by omega)]
      refine ⟨⟨h0, c1⟩, fun c2 => ?_, fun c2 => ?_⟩
      · simp only [decide_eq_true_eq] at c2; omega
      · refine ⟨⟨⟨rfl, by omega, by omega, by omega, by omega, h4⟩, hm⟩, ?_⟩
        have hQ' : Q (.exit 0, L_cat0_0.st noU (ls, s + totL (ms.drop i.toNat), ())) := hQ
        rw [e, ← Int.add_assoc] at hQ'
        exact hQ'
    · simp only [decide_eq_false_iff_not] at c1
      have hQ' : Q (.exit 0, L_cat0_0.st noU (ls, s + totL (ms.drop i.toNat), ())) := hQ
      rw [drop_end c1, show totL [] = 0 from rfl, Int.add_zero] at hQ'
      exact hQ'

def L_cat2 : Lay := { slots := [(6, .row 23 tV), (25, .val (.sl tVs)), (26, .val tI), (27, .val tI)] }
def L_cat2_0 : Lay := { slots := [(6, .row 23 tV)] }
def X_cat2 : Exit → Option Lay
  | .exit 2 => some L_cat2_0
  | _ => none
abbrev C_cat2 : Code := loopC (bodyOf Try.f114) 2
theorem B_cat2 (r : List V) (ms : List (List V)) (n i : Int) : loopBodyA (P := P) [] (lpOf []) [] 36 noU (inner C_cat2) L_cat2 X_cat2 (α := List V × List (List V) × Int × Int × Unit) (fun x => x) (fun x => x) (r, ms, n, i, ()) =
  Tree.cond (decide (i < n)) (Tree.need ((0 : Int) ≤ i ∧ i < (↑(List.length ms) : Int)) (Tree.need ((List.length r + List.length (List.getD ms (Int.toNat i) [])) * (24 : Nat) ≤ (140737488355328 : Nat)) (Tree.leaf (Sum.inl (r ++ List.getD ms (Int.toNat i) [], ms, n, IntKind.wrap IntKind.i64 (i + (1 : Int)), PUnit.unit))))) (Tree.leaf (Sum.inr (Exit.exit (2 : Nat), Lay.st L_cat2_0 noU (r, PUnit.unit)))) := by kernel_rfl

def inv_cat2 : List V × List (List V) × Int × Int × Unit → Prop := fun (r, ms, n, i, _) => n = ms.length ∧ 0 ≤ i ∧ i ≤ n ∧ (r.length : Int) + totL (ms.drop i.toNat) ≤ 1000 ∧ (ms.length : Int) ≤ 1000
def O_cat2 : List V × List (List V) × Int × Int × Unit → Tree (Exit × St) := fun (r, ms, n, i, _) => .leaf (.exit 2, L_cat2_0.st noU (r ++ (ms.drop i.toNat).flatten, ()))
def R_cat2 : LRun := runOf 36 L_cat2 (fun x => x) (inv_cat2) (O_cat2)
theorem K_cat2 : LoopOk P [] 36 none noU C_cat2 (R_cat2) := by
  refine loop_of hm (cx := []) [] (xl := X_cat2) (α := List V × List (List V) × Int × Int × Unit) (fun x => x) (fun (r, ms, n, i, _) => (n - i).toNat) (fun _ => rfl) (by kernel_rfl) (by kernel_rfl) ?_ (by kernel_rfl) trivial ?_
  · intro e L' h
    unfold X_cat2 at h
    split at h <;> cases h <;> kernel_rfl
  · rintro ⟨r, ms, n, i, ⟨⟩⟩ hinv Q hQ
    refine hold_of_eq (B_cat2 r ms n i) ?_

    obtain ⟨rfl, h0, h1, h2, h4⟩ := hinv
    refine ⟨fun c1 => ?_, fun c1 => ?_⟩
    · simp only [decide_eq_true_eq] at c1
      have e := totL_step h0 c1
      have hm : ((ms.length : Int) - (i + 1)).toNat < ((ms.length : Int) - i).toNat := by omega
      have nn := totL_nn (ms.drop (i + 1).toNat)
      rw [W_id (n := i + 1) (by omega) (by omega)]
      refine ⟨⟨h0, c1⟩, by omega, ⟨⟨rfl, by omega, by omega, by rw [List.length_append]; omega, h4⟩, hm⟩, ?_⟩
      have hQ' : Q (.exit 2, L_cat2_0.st noU (r ++ (ms.drop i.toNat).flatten, ())) := hQ
      rw [drop_step ([] : List V) h0 c1, List.flatten_cons, ← List.append_assoc] at hQ'
      exact hQ'
    · simp only [decide_eq_false_iff_not] at c1
      have hQ' : Q (.exit 2, L_cat2_0.st noU (r ++ (ms.drop i.toNat).flatten, ())) := hQ
      rw [drop_end c1, List.flatten_nil, List.append_nil] at hQ'
      exact hQ'

def L_Concat : Lay := { slots := [(0, .val (.sl tVs))] }
theorem T_Concat (ls : List (List V)) : mTree (P := P) [c_Grow.gc] (lpOf [(0, R_cat0), (2, R_cat2)]) Try.f114 L_Concat true (ls, ()) =
  Tree.need (inv_cat0 (ls, (0 : Int), ls, (↑(List.length ls) : Int), (0 : Int), ())) (Tree.need ((0 : Int) < (0 : Int) + totL (List.drop (Int.toNat (0 : Int)) ls) ∧ (0 : Int) + totL (List.drop (Int.toNat (0 : Int)) ls) ≤ (1000 : Int)) (Tree.need (inv_cat2 ([], ls, (↑(List.length ls) : Int), (0 : Int), ())) (Tree.leaf { res := SV.own (nat_lit 100), boxes := [], news := [Ob.row (23 : TypeId) tV (List.flatten (List.drop (Int.toNat (0 : Int)) ls))] }))) := by kernel_rfl

def c_Concat : MC P := MC.of (α := List (List V) × Unit) 114 L_Concat (fun x => x) (fun x => x) (fun _ => rfl)
  (fun (ls, _) => some (0 < totL ls ∧ totL ls ≤ 1000 ∧ (ls.length : Int) ≤ 1000))
  (fun (ls, _) => ⟨.own 100, [], [.row 23 tV ls.flatten]⟩) (by kernel_rfl) (by kernel_rfl) (by kernel_rfl) (by
    rintro ⟨ls, ⟨⟩⟩ hp
    refine m_of hm (own := true) (by kernel_rfl) (by kernel_rfl) (by kernel_rfl) (T_Concat ls) ⟨K_cat0, K_cat2, trivial⟩ ?_

    obtain ⟨h1, h2, h3⟩ : 0 < totL ls ∧ totL ls ≤ 1000 ∧ (ls.length : Int) ≤ 1000 := hp
    refine ⟨⟨rfl, by decide, by omega, by decide, ?_, h3⟩, ⟨?_, ?_⟩, ⟨rfl, by decide, by omega, ?_, h3⟩, rfl⟩
    · show 0 + totL ls ≤ 1000; omega
    · show 0 < 0 + totL ls; omega
    · show 0 + totL ls ≤ 1000; omega
    · show 0 + totL ls ≤ 1000; omega)

/-! ### Sidetrack -/
def zP : Pth := ((0, 0, 0), [])
def sideS (p : Pth) (j : Int) (g : Goal) : Pth × Int :=
  if checkS p ≠ 0 then (zP, checkS p)
  else if j < 1 ∨ j > p.2.length then (zP, 7)
  else if (planS ((jointsS p).getD j.toNat (0, 0, 0)) (p.2.getD (j - 1).toNat (0, 0, 0)) g).2 ≠ 0 then (zP, (planS ((jointsS p).getD j.toNat (0, 0, 0)) (p.2.getD (j - 1).toNat (0, 0, 0)) g).2)
  else if (p.2.take j.toNat ++ (planS ((jointsS p).getD j.toNat (0, 0, 0)) (p.2.getD (j - 1).toNat (0, 0, 0)) g).1.2).length > 20 then (zP, 5)
  else ((p.1, p.2.take j.toNat ++ (planS ((jointsS p).getD j.toNat (0, 0, 0)) (p.2.getD (j - 1).toNat (0, 0, 0)) g).1.2), 0)

theorem nilS_side (n : Int) : NilS (.tup [.agg [.int .i64 0, .int .i64 0, .int .i64 0, .nils], .int .i64 n]) (.tup [.agg [.int .i64 0, .int .i64 0, .int .i64 0, .own 100], .int .i64 n]) := by
  simp [NilS, NilL, isData, newBase]
theorem leS_side (n : Int) : LeS (.tup [.agg [.int .i64 0, .int .i64 0, .int .i64 0, .nils], .int .i64 n]) (.tup [.agg [.int .i64 0, .int .i64 0, .int .i64 0, .sl tV []], .int .i64 n]) := by
  simp [LeS, LeL]
theorem leS_side2 (x y z : Int) (q : List V) : LeS (.tup [.agg [.int .i64 x, .int .i64 y, .int .i64 z, .sl tV q], .int .i64 0]) (.tup [.agg [.int .i64 x, .int .i64 y, .int .i64 z, .sl tV q], .int .i64 0]) := by
  simp [LeS, LeL]
theorem joints_len {p : Pth} (h : checkS p = 0) : (jointsS p).length = p.2.length + 1 := by
  unfold jointsS
  rw [if_pos h]
  exact jl_length _ _
theorem sideS_go {p : Pth} {j : Int} {g : Goal} (h : checkS p = 0) (h1 : 1 ≤ j) (h2 : j ≤ p.2.length) : sideS p j g =
    if (planS ((jointsS p).getD j.toNat (0, 0, 0)) (p.2.getD (j - 1).toNat (0, 0, 0)) g).2 ≠ 0 then (zP, (planS ((jointsS p).getD j.toNat (0, 0, 0)) (p.2.getD (j - 1).toNat (0, 0, 0)) g).2)
    else if (p.2.take j.toNat ++ (planS ((jointsS p).getD j.toNat (0, 0, 0)) (p.2.getD (j - 1).toNat (0, 0, 0)) g).1.2).length > 20 then (zP, 5)
    else ((p.1, p.2.take j.toNat ++ (planS ((jointsS p).getD j.toNat (0, 0, 0)) (p.2.getD (j - 1).toNat (0, 0, 0)) g).1.2), 0) := by
  unfold sideS
  rw [if_neg (by rw [h]; simp), if_neg (by omega)]
theorem side_len (p : Pth) (j : Int) (g : Goal) : (sideS p j g).1.2.length ≤ 20 := by
  unfold sideS
  split
  · exact Nat.zero_le _
  · split
    · exact Nat.zero_le _
    · split
      · exact Nat.zero_le _
      · split
        · exact Nat.zero_le _
        · show (_ ++ _ : List V).length ≤ 20
          omega

def L_Side : Lay := { slots := [(0, .agg tPath), (1, .val tI), (2, .agg tGoal)] }
theorem T_Side (x y z : Int) (q : List V) (j : Int) (l : List V) (m le nn d a b c e f h : Int) : mTree (P := P) [c_Check.gc, c_Joints.gc, c_Plan.gc, c_Concat.gc] (lpOf []) Try.f61 L_Side true (((x, y, z), q), j, (l, m, le, (nn, d), ((a, b, c), (e, f, h))), ()) =
  Tree.cond (checkS ((x, y, z), q) != (0 : Int)) (Tree.leaf { res := SV.tup [SV.agg [SV.int IntKind.i64 (0 : Int), SV.int IntKind.i64 (0 : Int), SV.int IntKind.i64 (0 : Int), SV.nils], SV.int IntKind.i64 (checkS ((x, y, z), q))], boxes := [] }) (Tree.cond (decide (j < (1 : Int))) (Tree.leaf { res := SV.tup [SV.agg [SV.int IntKind.i64 (0 : Int), SV.int IntKind.i64 (0 : Int), SV.int IntKind.i64 (0 : Int), SV.nils], SV.int IntKind.i64 (7 : Int)], boxes := [] }) (Tree.cond (decide (j > (↑(List.length q) : Int))) (Tree.leaf { res := SV.tup [SV.agg [SV.int IntKind.i64 (0 : Int), SV.int IntKind.i64 (0 : Int), SV.int IntKind.i64 (0 : Int), SV.nils], SV.int IntKind.i64 (7 : Int)], boxes := [] }) (Tree.need ((0 : Int) ≤ j ∧ j < (↑(List.length (jointsS ((x, y, z), q))) : Int)) (Tree.need ((0 : Int) ≤ IntKind.wrap IntKind.i64 (j - (1 : Int)) ∧ IntKind.wrap IntKind.i64 (j - (1 : Int)) < (↑(List.length q) : Int)) (Tree.cond ((planS (List.getD (jointsS ((x, y, z), q)) (Int.toNat j) ((0 : Int), (0 : Int), (0 : Int))) (List.getD q (Int.toNat (IntKind.wrap IntKind.i64 (j - (1 : Int)))) ((0 : Int), (0 : Int), (0 : Int))) (l, m, le, (nn, d), (a, b, c), e, f, h)).snd != (0 : Int)) (Tree.leaf { res := SV.tup [SV.agg [SV.int IntKind.i64 (0 : Int), SV.int IntKind.i64 (0 : Int), SV.int IntKind.i64 (0 : Int), SV.nils], SV.int IntKind.i64 (planS (List.getD (jointsS ((x, y, z), q)) (Int.toNat j) ((0 : Int), (0 : Int), (0 : Int))) (List.getD q (Int.toNat (IntKind.wrap IntKind.i64 (j - (1 : Int)))) ((0 : Int), (0 : Int), (0 : Int))) (l, m, le, (nn, d), (a, b, c), e, f, h)).snd], boxes := [] }) (Tree.need ((0 : Int) ≤ (0 : Int) ∧ (0 : Int) ≤ j ∧ j ≤ (↑(List.length q) : Int)) (Tree.need ((0 : Int) < totL [List.drop (Int.toNat (0 : Int)) (List.take (Int.toNat j) q), (planS (List.getD (jointsS ((x, y, z), q)) (Int.toNat j) ((0 : Int), (0 : Int), (0 : Int))) (List.getD q (Int.toNat (IntKind.wrap IntKind.i64 (j - (1 : Int)))) ((0 : Int), (0 : Int), (0 : Int))) (l, m, le, (nn, d), (a, b, c), e, f, h)).fst.snd] ∧ totL [List.drop (Int.toNat (0 : Int)) (List.take (Int.toNat j) q), (planS (List.getD (jointsS ((x, y, z), q)) (Int.toNat j) ((0 : Int), (0 : Int), (0 : Int))) (List.getD q (Int.toNat (IntKind.wrap IntKind.i64 (j - (1 : Int)))) ((0 : Int), (0 : Int), (0 : Int))) (l, m, le, (nn, d), (a, b, c), e, f, h)).fst.snd] ≤ (1000 : Int) ∧ (↑(List.length [List.drop (Int.toNat (0 : Int)) (List.take (Int.toNat j) q), (planS (List.getD (jointsS ((x, y, z), q)) (Int.toNat j) ((0 : Int), (0 : Int), (0 : Int))) (List.getD q (Int.toNat (IntKind.wrap IntKind.i64 (j - (1 : Int)))) ((0 : Int), (0 : Int), (0 : Int))) (l, m, le, (nn, d), (a, b, c), e, f, h)).fst.snd]) : Int) ≤ (1000 : Int)) (Tree.cond (decide ((↑(List.length (List.flatten [List.drop (Int.toNat (0 : Int)) (List.take (Int.toNat j) q), (planS (List.getD (jointsS ((x, y, z), q)) (Int.toNat j) ((0 : Int), (0 : Int), (0 : Int))) (List.getD q (Int.toNat (IntKind.wrap IntKind.i64 (j - (1 : Int)))) ((0 : Int), (0 : Int), (0 : Int))) (l, m, le, (nn, d), (a, b, c), e, f, h)).fst.snd])) : Int) > (20 : Int))) (Tree.leaf { res := SV.tup [SV.agg [SV.int IntKind.i64 (0 : Int), SV.int IntKind.i64 (0 : Int), SV.int IntKind.i64 (0 : Int), SV.nils], SV.int IntKind.i64 (5 : Int)], boxes := [] }) (Tree.leaf { res := SV.tup [SV.agg [SV.int IntKind.i64 x, SV.int IntKind.i64 y, SV.int IntKind.i64 z, SV.own (nat_lit 100)], SV.int IntKind.i64 (0 : Int)], boxes := [], news := [Ob.row (23 : TypeId) tV (List.flatten [List.drop (Int.toNat (0 : Int)) (List.take (Int.toNat j) q), (planS (List.getD (jointsS ((x, y, z), q)) (Int.toNat j) ((0 : Int), (0 : Int), (0 : Int))) (List.getD q (Int.toNat (IntKind.wrap IntKind.i64 (j - (1 : Int)))) ((0 : Int), (0 : Int), (0 : Int))) (l, m, le, (nn, d), (a, b, c), e, f, h)).fst.snd])] }))))))))) := by kernel_rfl

def c_Side : MC P := MC.of (α := Pth × Int × Goal × Unit) 61 L_Side (fun x => x) (fun x => x) (fun _ => rfl)
  (fun (p, j, g, _) => some (p.2.length ≤ 24))
  (fun (p, j, g, _) => ⟨.tup [.agg [.int .i64 (sideS p j g).1.1.1, .int .i64 (sideS p j g).1.1.2.1, .int .i64 (sideS p j g).1.1.2.2, .own 100], .int .i64 (sideS p j g).2], [], [.row 23 tV (sideS p j g).1.2]⟩) (by kernel_rfl) (by kernel_rfl) (by kernel_rfl) (by
    rintro ⟨⟨⟨x, y, z⟩, q⟩, j, ⟨l, m, le, ⟨nn, d⟩, ⟨⟨a, b, c⟩, ⟨e, f, h⟩⟩⟩, ⟨⟩⟩ hp
    refine m_nil hm (own := true) (by kernel_rfl) (by kernel_rfl) (by kernel_rfl) (T_Side x y z q j l m le nn d a b c e f h) trivial (by kernel_rfl) ?_

    have hp : q.length ≤ 24 := hp
    refine ⟨fun c1 => ?_, fun c1 => ⟨fun c2 => ?_, fun c2 => ⟨fun c3 => ?_, fun c3 => ?_⟩⟩⟩
    · simp only [bne_iff_ne, ne_eq] at c1
      have hE : sideS ((x, y, z), q) j (l, m, le, (nn, d), ((a, b, c), (e, f, h))) = (zP, checkS ((x, y, z), q)) := by unfold sideS; rw [if_pos c1]
      exact .inr ⟨rfl, rfl, by rw [hE]; rfl, by rw [hE]; exact nilS_side _⟩
    · simp only [bne_eq_false_iff_eq] at c1
      simp only [decide_eq_true_eq] at c2
      have hE : sideS ((x, y, z), q) j (l, m, le, (nn, d), ((a, b, c), (e, f, h))) = (zP, 7) := by unfold sideS; rw [if_neg (by rw [c1]; simp), if_pos (.inl c2)]
      exact .inr ⟨rfl, rfl, by rw [hE]; rfl, by rw [hE]; exact nilS_side _⟩
    · simp only [bne_eq_false_iff_eq] at c1
      simp only [decide_eq_true_eq] at c3
      have hE : sideS ((x, y, z), q) j (l, m, le, (nn, d), ((a, b, c), (e, f, h))) = (zP, 7) := by unfold sideS; rw [if_neg (by rw [c1]; simp), if_pos (.inr c3)]
      exact .inr ⟨rfl, rfl, by rw [hE]; rfl, by rw [hE]; exact nilS_side _⟩
    · simp only [bne_eq_false_iff_eq] at c1
      simp only [decide_eq_false_iff_not] at c2
      simp only [gt_iff_lt, decide_eq_false_iff_not] at c3
      have hl : (jointsS ((x, y, z), q)).length = q.length + 1 := joints_len c1
      have w1 : IntKind.wrap IntKind.i64 (j - 1) = j - 1 := W_id (by omega) (by omega)
      have hS : sideS ((x, y, z), q) j (l, m, le, (nn, d), ((a, b, c), (e, f, h))) = _ := sideS_go (g := (l, m, le, (nn, d), ((a, b, c), (e, f, h)))) c1 (show 1 ≤ j by omega) (show j ≤ (((x, y, z), q) : Pth).2.length by show j ≤ q.length; omega)
      rw [w1]
      have hX := plan_len ((jointsS ((x, y, z), q)).getD j.toNat (0, 0, 0)) (q.getD (j - 1).toNat (0, 0, 0)) (l, m, le, (nn, d), ((a, b, c), (e, f, h)))
      dsimp only at hS
      generalize planS ((jointsS ((x, y, z), q)).getD j.toNat (0, 0, 0)) (q.getD (j - 1).toNat (0, 0, 0)) (l, m, le, (nn, d), ((a, b, c), (e, f, h))) = X at hS hX ⊢
      have hf : List.flatten [List.drop (Int.toNat 0) (List.take j.toNat q), X.1.2] = q.take j.toNat ++ X.1.2 := by simp
      have ht : (totL [List.drop (Int.toNat 0) (List.take j.toNat q), X.1.2]) = j + X.1.2.length := by
        unfold totL
        rw [hf, List.length_append, List.length_take]
        omega
      rw [hf]
      refine ⟨⟨by omega, by rw [hl]; omega⟩, ⟨by omega, by omega⟩, fun c4 => ?_, fun c4 => ⟨⟨by decide, by omega, by omega⟩, ⟨by rw [ht]; omega, by rw [ht]; omega, by show ((2 : Nat) : Int) ≤ 1000; decide⟩, fun c5 => ?_, fun c5 => ?_⟩⟩
      · simp only [bne_iff_ne, ne_eq] at c4
        have hE : sideS ((x, y, z), q) j (l, m, le, (nn, d), ((a, b, c), (e, f, h))) = (zP, X.2) := by rw [hS, if_pos c4]
        exact .inr ⟨rfl, rfl, by rw [hE]; rfl, by rw [hE]; exact nilS_side _⟩
      · simp only [bne_eq_false_iff_eq] at c4
        simp only [gt_iff_lt, decide_eq_true_eq] at c5
        have hE : sideS ((x, y, z), q) j (l, m, le, (nn, d), ((a, b, c), (e, f, h))) = (zP, 5) := by rw [hS, if_neg (by rw [c4]; simp), if_pos (by omega)]
        exact .inr ⟨rfl, rfl, by rw [hE]; rfl, by rw [hE]; exact nilS_side _⟩
      · simp only [bne_eq_false_iff_eq] at c4
        simp only [gt_iff_lt, decide_eq_false_iff_not] at c5
        have hE : sideS ((x, y, z), q) j (l, m, le, (nn, d), ((a, b, c), (e, f, h))) = (((x, y, z), q.take j.toNat ++ X.1.2), 0) := by rw [hS, if_neg (by rw [c4]; simp), if_neg (by omega)]
        exact .inl (by rw [hE]; exact congrArg (fun l : List V => (⟨.tup [.agg [.int .i64 x, .int .i64 y, .int .i64 z, .own 100], .int .i64 0], [], [.row 23 tV l]⟩ : MOut)) hf))

theorem T_rSide (x y z : Int) (q : List V) (j : Int) (l : List V) (m le nn d a b c e f h : Int) : fnTree (P := P) [c_rCheck.gc, c_rjoints.gc, c_rPlan.gc] (lpOf []) Try.f62 (encL 0 [.agg tPath, .val tI, .agg tGoal] (((x, y, z), q), j, (l, m, le, (nn, d), ((a, b, c), (e, f, h))), ())) =
  Tree.cond (checkS ((x, y, z), q) != (0 : Int)) (Tree.leaf (SV.tup [SV.agg [SV.int IntKind.i64 (0 : Int), SV.int IntKind.i64 (0 : Int), SV.int IntKind.i64 (0 : Int), SV.nils], SV.int IntKind.i64 (checkS ((x, y, z), q))])) (Tree.cond (decide (j < (1 : Int))) (Tree.leaf (SV.tup [SV.agg [SV.int IntKind.i64 (0 : Int), SV.int IntKind.i64 (0 : Int), SV.int IntKind.i64 (0 : Int), SV.nils], SV.int IntKind.i64 (7 : Int)])) (Tree.cond (decide (j > (↑(List.length q) : Int))) (Tree.leaf (SV.tup [SV.agg [SV.int IntKind.i64 (0 : Int), SV.int IntKind.i64 (0 : Int), SV.int IntKind.i64 (0 : Int), SV.nils], SV.int IntKind.i64 (7 : Int)])) (Tree.need (List.length q ≤ (20 : Nat)) (Tree.need ((0 : Int) ≤ j ∧ j < (↑(List.length (jl (x, y, z) q)) : Int)) (Tree.need ((0 : Int) ≤ IntKind.wrap IntKind.i64 (j - (1 : Int)) ∧ IntKind.wrap IntKind.i64 (j - (1 : Int)) < (↑(List.length q) : Int)) (Tree.cond ((rplanS (List.getD (jl (x, y, z) q) (Int.toNat j) ((0 : Int), (0 : Int), (0 : Int))) (List.getD q (Int.toNat (IntKind.wrap IntKind.i64 (j - (1 : Int)))) ((0 : Int), (0 : Int), (0 : Int))) (l, m, le, (nn, d), (a, b, c), e, f, h)).snd != (0 : Int)) (Tree.leaf (SV.tup [SV.agg [SV.int IntKind.i64 (0 : Int), SV.int IntKind.i64 (0 : Int), SV.int IntKind.i64 (0 : Int), SV.nils], SV.int IntKind.i64 (rplanS (List.getD (jl (x, y, z) q) (Int.toNat j) ((0 : Int), (0 : Int), (0 : Int))) (List.getD q (Int.toNat (IntKind.wrap IntKind.i64 (j - (1 : Int)))) ((0 : Int), (0 : Int), (0 : Int))) (l, m, le, (nn, d), (a, b, c), e, f, h)).snd])) (Tree.need ((0 : Int) ≤ (0 : Int) ∧ (0 : Int) ≤ j ∧ j ≤ (↑(List.length q) : Int)) (Tree.need (((0 : Nat) + List.length (List.drop (Int.toNat (0 : Int)) (List.take (Int.toNat j) q))) * (24 : Nat) ≤ (140737488355328 : Nat)) (Tree.need ((List.length (List.drop (Int.toNat (0 : Int)) (List.take (Int.toNat j) q)) + List.length (rplanS (List.getD (jl (x, y, z) q) (Int.toNat j) ((0 : Int), (0 : Int), (0 : Int))) (List.getD q (Int.toNat (IntKind.wrap IntKind.i64 (j - (1 : Int)))) ((0 : Int), (0 : Int), (0 : Int))) (l, m, le, (nn, d), (a, b, c), e, f, h)).fst.snd) * (24 : Nat) ≤ (140737488355328 : Nat)) (Tree.cond (decide ((↑(List.length (List.drop (Int.toNat (0 : Int)) (List.take (Int.toNat j) q) ++ (rplanS (List.getD (jl (x, y, z) q) (Int.toNat j) ((0 : Int), (0 : Int), (0 : Int))) (List.getD q (Int.toNat (IntKind.wrap IntKind.i64 (j - (1 : Int)))) ((0 : Int), (0 : Int), (0 : Int))) (l, m, le, (nn, d), (a, b, c), e, f, h)).fst.snd)) : Int) > (20 : Int))) (Tree.leaf (SV.tup [SV.agg [SV.int IntKind.i64 (0 : Int), SV.int IntKind.i64 (0 : Int), SV.int IntKind.i64 (0 : Int), SV.nils], SV.int IntKind.i64 (5 : Int)])) (Tree.leaf (SV.tup [SV.agg [SV.int IntKind.i64 x, SV.int IntKind.i64 y, SV.int IntKind.i64 z, SV.sl (Ty.pair (Ty.int IntKind.i64) (Ty.pair (Ty.int IntKind.i64) (Ty.int IntKind.i64))) (List.drop (Int.toNat (0 : Int)) (List.take (Int.toNat j) q) ++ (rplanS (List.getD (jl (x, y, z) q) (Int.toNat j) ((0 : Int), (0 : Int), (0 : Int))) (List.getD q (Int.toNat (IntKind.wrap IntKind.i64 (j - (1 : Int)))) ((0 : Int), (0 : Int), (0 : Int))) (l, m, le, (nn, d), (a, b, c), e, f, h)).fst.snd)], SV.int IntKind.i64 (0 : Int)])))))))))))) := by kernel_rfl

def c_rSide : PC P := PC.of (α := Pth × Int × Goal × Unit) 62 [.agg tPath, .val tI, .agg tGoal] (fun x => x) (fun x => x) (fun _ => rfl)
  (fun x => some (x.1.2.length ≤ 24))
  (fun x => .tup [.agg [.int .i64 (sideS x.1 x.2.1 x.2.2.1).1.1.1, .int .i64 (sideS x.1 x.2.1 x.2.2.1).1.1.2.1, .int .i64 (sideS x.1 x.2.1 x.2.2.1).1.1.2.2, .sl tV (sideS x.1 x.2.1 x.2.2.1).1.2], .int .i64 (sideS x.1 x.2.1 x.2.2.1).2]) (by kernel_rfl) (by
    rintro ⟨⟨⟨x, y, z⟩, q⟩, j, ⟨l, m, le, ⟨nn, d⟩, ⟨⟨a, b, c⟩, ⟨e, f, h⟩⟩⟩, ⟨⟩⟩ hp
    refine fn_le hm (by kernel_rfl) (by kernel_rfl) (T_rSide x y z q j l m le nn d a b c e f h) trivial (by kernel_rfl) ?_

    have hp : q.length ≤ 24 := hp
    refine ⟨fun c1 => ?_, fun c1 => ⟨fun c2 => ?_, fun c2 => ⟨fun c3 => ?_, fun c3 => ?_⟩⟩⟩
    · simp only [bne_iff_ne, ne_eq] at c1
      have hE : sideS ((x, y, z), q) j (l, m, le, (nn, d), ((a, b, c), (e, f, h))) = (zP, checkS ((x, y, z), q)) := by unfold sideS; rw [if_pos c1]
      rw [hE]; exact leS_side _
    · simp only [bne_eq_false_iff_eq] at c1
      simp only [decide_eq_true_eq] at c2
      have hE : sideS ((x, y, z), q) j (l, m, le, (nn, d), ((a, b, c), (e, f, h))) = (zP, 7) := by unfold sideS; rw [if_neg (by rw [c1]; simp), if_pos (.inl c2)]
      rw [hE]; exact leS_side _
    · simp only [bne_eq_false_iff_eq] at c1
      simp only [decide_eq_true_eq] at c3
      have hE : sideS ((x, y, z), q) j (l, m, le, (nn, d), ((a, b, c), (e, f, h))) = (zP, 7) := by unfold sideS; rw [if_neg (by rw [c1]; simp), if_pos (.inr c3)]
      rw [hE]; exact leS_side _
    · simp only [bne_eq_false_iff_eq] at c1
      simp only [decide_eq_false_iff_not] at c2
      simp only [gt_iff_lt, decide_eq_false_iff_not] at c3
      have hq : q.length ≤ 20 := checkS_len c1
      have hl : (jointsS ((x, y, z), q)).length = q.length + 1 := joints_len c1
      have hj : jl (x, y, z) q = jointsS ((x, y, z), q) := by unfold jointsS; rw [if_pos c1]
      have w1 : IntKind.wrap IntKind.i64 (j - 1) = j - 1 := W_id (by omega) (by omega)
      have hS : sideS ((x, y, z), q) j (l, m, le, (nn, d), ((a, b, c), (e, f, h))) = _ := sideS_go (g := (l, m, le, (nn, d), ((a, b, c), (e, f, h)))) c1 (show 1 ≤ j by omega) (show j ≤ (((x, y, z), q) : Pth).2.length by show j ≤ q.length; omega)
      rw [w1, hj, ← plans_same]
      have hX := plan_len ((jointsS ((x, y, z), q)).getD j.toNat (0, 0, 0)) (q.getD (j - 1).toNat (0, 0, 0)) (l, m, le, (nn, d), ((a, b, c), (e, f, h)))
      dsimp only at hS
      generalize planS ((jointsS ((x, y, z), q)).getD j.toNat (0, 0, 0)) (q.getD (j - 1).toNat (0, 0, 0)) (l, m, le, (nn, d), ((a, b, c), (e, f, h))) = X at hS hX ⊢
      have hf : List.drop (Int.toNat 0) (List.take j.toNat q) = q.take j.toNat := rfl
      have ht : (q.take j.toNat).length = j.toNat := by rw [List.length_take]; omega
      rw [hf]
      refine ⟨hq, ⟨by omega, by rw [hl]; omega⟩, ⟨by omega, by omega⟩, fun c4 => ?_, fun c4 => ⟨⟨by decide, by omega, by omega⟩, by omega, by omega, fun c5 => ?_, fun c5 => ?_⟩⟩
      · simp only [bne_iff_ne, ne_eq] at c4
        have hE : sideS ((x, y, z), q) j (l, m, le, (nn, d), ((a, b, c), (e, f, h))) = (zP, X.2) := by rw [hS, if_pos c4]
        rw [hE]; exact leS_side _
      · simp only [bne_eq_false_iff_eq] at c4
        simp only [gt_iff_lt, decide_eq_true_eq] at c5
        have hE : sideS ((x, y, z), q) j (l, m, le, (nn, d), ((a, b, c), (e, f, h))) = (zP, 5) := by rw [hS, if_neg (by rw [c4]; simp), if_pos (by omega)]
        rw [hE]; exact leS_side _
      · simp only [bne_eq_false_iff_eq] at c4
        simp only [gt_iff_lt, decide_eq_false_iff_not] at c5
        have hE : sideS ((x, y, z), q) j (l, m, le, (nn, d), ((a, b, c), (e, f, h))) = (((x, y, z), q.take j.toNat ++ X.1.2), 0) := by rw [hS, if_neg (by rw [c4]; simp), if_neg (by omega)]
        rw [hE]; exact leS_side2 _ _ _ _)

/-! ### The law -/
def L_sideI : Lay := { slots := [(15, .val (.sl tPath)), (16, .val tIs), (17, .val (.sl tGoal)), (18, .val tI), (19, .ptr 20138 0), (20, .ptr 21138 0), (24, .val tI)], boxes := [(20138, [.val tI, .val tI, .val tI, .val tVs]), (21138, [.val tI, .val tI, .val tI, .row 23 tV])] }
def L_sideI_0 : Lay := { slots := [(15, .val (.sl tPath)), (16, .val tIs), (17, .val (.sl tGoal)), (18, .val tI), (19, .ptr 20138 0)], boxes := [(20138, [.val tI, .val tI, .val tI, .val tVs])] }
def X_sideI : Exit → Option Lay
  | .exit 2 => some L_sideI_0
  | _ => none
abbrev C_sideI : Code := loopC (inner (loopC (bodyOf Try.f11) 0)) 2
theorem B_sideI (ps : List Pth) (js : List Int) (gs : List Goal) (k i x y z : Int) (q : List V) (x2 y2 z2 : Int) (r : List V) : loopBodyA (P := P) [] (lpOf []) [] 138 noU (inner C_sideI) L_sideI X_sideI (α := List Pth × List Int × List Goal × Int × Unit × Unit × Int × Int × Int × Int × List V × Int × Int × Int × List V × Unit) (fun x => x) (fun x => x) (ps, js, gs, k, (), (), i, x, y, z, q, x2, y2, z2, r, ()) =
  Tree.cond (decide (i < (↑(List.length r) : Int))) (Tree.need ((0 : Int) ≤ i ∧ i < (↑(List.length r) : Int)) (Tree.need (Int.toNat i < List.length r) (Tree.need ((0 : Int) ≤ i ∧ i < (↑(List.length r) : Int)) (Tree.need (Int.toNat i < List.length r) (Tree.leaf (Sum.inl (ps, js, gs, k, PUnit.unit, PUnit.unit, IntKind.wrap IntKind.i64 (i + (1 : Int)), x, y, z, q, x2, y2, z2, List.set r (Int.toNat i) (IntKind.wrap IntKind.i64 ((List.getD r (Int.toNat i) ((0 : Int), (0 : Int), (0 : Int))).fst + (1 : Int)), (List.getD r (Int.toNat i) ((0 : Int), (0 : Int), (0 : Int))).snd), PUnit.unit))))))) (Tree.leaf (Sum.inr (Exit.exit (2 : Nat), Lay.st L_sideI_0 noU (ps, js, gs, k, PUnit.unit, x, y, z, q, PUnit.unit)))) := by kernel_rfl

def inv_sideI : List Pth × List Int × List Goal × Int × Unit × Unit × Int × Int × Int × Int × List V × Int × Int × Int × List V × Unit → Prop := fun (ps, js, gs, k, _, _, i, x, y, z, q, x2, y2, z2, r, _) => 0 ≤ i ∧ i ≤ r.length ∧ (r.length : Int) ≤ 1000
def O_sideI : List Pth × List Int × List Goal × Int × Unit × Unit × Int × Int × Int × Int × List V × Int × Int × Int × List V × Unit → Tree (Exit × St) := fun (ps, js, gs, k, _, _, i, x, y, z, q, x2, y2, z2, r, _) => .leaf (.exit 2, L_sideI_0.st noU (ps, js, gs, k, (), x, y, z, q, ()))
def R_sideI : LRun := runOf 138 L_sideI (fun x => x) (inv_sideI) (O_sideI)
theorem K_sideI : LoopOk P [] 138 none noU C_sideI (R_sideI) := by
  refine loop_of hm (cx := []) [] (xl := X_sideI) (α := List Pth × List Int × List Goal × Int × Unit × Unit × Int × Int × Int × Int × List V × Int × Int × Int × List V × Unit) (fun x => x) (fun (ps, js, gs, k, _, _, i, x, y, z, q, x2, y2, z2, r, _) => (r.length - i).toNat) (fun _ => rfl) (by kernel_rfl) (by kernel_rfl) ?_ (by kernel_rfl) trivial ?_
  · intro e L' h
    unfold X_sideI at h
    split at h <;> cases h <;> kernel_rfl
  · rintro ⟨ps, js, gs, k, ⟨⟩, ⟨⟩, i, x, y, z, q, x2, y2, z2, r, ⟨⟩⟩ hinv Q hQ
    refine hold_of_eq (B_sideI ps js gs k i x y z q x2 y2 z2 r) ?_

    obtain ⟨h0, h1, h2⟩ := hinv
    refine ⟨fun c1 => ?_, fun c1 => hQ⟩
    simp only [decide_eq_true_eq] at c1
    rw [W_id (n := i + 1) (by omega) (by omega)]
    have hlt : i.toNat < r.length := by omega
    refine ⟨⟨h0, c1⟩, hlt, ⟨h0, c1⟩, hlt, ⟨⟨by omega, ?_, ?_⟩, ?_⟩, hQ⟩
    · rw [List.length_set]; omega
    · rw [List.length_set]; exact h2
    · show (((List.set r _ _).length : Int) - (i + 1)).toNat < ((r.length : Int) - i).toNat
      rw [List.length_set]; omega

def L_sideL : Lay := { slots := [(15, .val (.sl tPath)), (16, .val tIs), (17, .val (.sl tGoal)), (18, .val tI)] }
def L_sideL_0 : Lay := { slots := [] }
def L_sideL_1 : Lay := { slots := [(8, .val .bool)] }
def X_sideL : Exit → Option Lay
  | .exit 0 => some L_sideL_0
  | .ret => some L_sideL_1
  | _ => none
abbrev C_sideL : Code := loopC (bodyOf Try.f11) 0
theorem B_sideL (ps : List Pth) (js : List Int) (gs : List Goal) (k : Int) : loopBodyA (P := P) [c_OwnPath.gc, c_Side.gc, c_rSide.gc, c_SamePath.gc] (lpOf [(2, R_sideI)]) [] 138 noU (inner C_sideL) L_sideL X_sideL (α := List Pth × List Int × List Goal × Int × Unit) (fun x => x) (fun x => x) (ps, js, gs, k, ()) =
  Tree.cond (decide (k < (3 : Int)))
  (Tree.need ((0 : Int) ≤ k ∧ k < (↑(List.length ps) : Int))
    (Tree.need (List.length (List.getD ps (Int.toNat k) (((0 : Int), (0 : Int), (0 : Int)), [])).snd ≤ (24 : Nat))
      (Tree.need ((0 : Int) ≤ k ∧ k < (↑(List.length js) : Int))
        (Tree.need ((0 : Int) ≤ k ∧ k < (↑(List.length gs) : Int))
          (Tree.need (List.length (List.getD ps (Int.toNat k) (((0 : Int), (0 : Int), (0 : Int)), [])).snd ≤ (24 : Nat))
            (Tree.need ((0 : Int) ≤ k ∧ k < (↑(List.length ps) : Int)) (Tree.need ((0 : Int) ≤ k ∧ k < (↑(List.length js) : Int)) (Tree.need ((0 : Int) ≤ k ∧ k < (↑(List.length gs) : Int)) (Tree.need (List.length (List.getD ps (Int.toNat k) (((0 : Int), (0 : Int), (0 : Int)), [])).snd ≤ (24 : Nat)) (Tree.need ((↑(List.length (sideS (List.getD ps (Int.toNat k) (((0 : Int), (0 : Int), (0 : Int)), [])) (List.getD js (Int.toNat k) (0 : Int)) (List.getD gs (Int.toNat k) ([], (0 : Int), (0 : Int), ((0 : Int), (0 : Int)), ((0 : Int), (0 : Int), (0 : Int)), (0 : Int), (0 : Int), (0 : Int)))).fst.snd) : Int) < (2 : Int) ^ (62 : Nat)) (Tree.cond (!decide ((sideS (List.getD ps (Int.toNat k) (((0 : Int), (0 : Int), (0 : Int)), [])) (List.getD js (Int.toNat k) (0 : Int)) (List.getD gs (Int.toNat k) ([], (0 : Int), (0 : Int), ((0 : Int), (0 : Int)), ((0 : Int), (0 : Int), (0 : Int)), (0 : Int), (0 : Int), (0 : Int)))).fst = (sideS (List.getD ps (Int.toNat k) (((0 : Int), (0 : Int), (0 : Int)), [])) (List.getD js (Int.toNat k) (0 : Int)) (List.getD gs (Int.toNat k) ([], (0 : Int), (0 : Int), ((0 : Int), (0 : Int)), ((0 : Int), (0 : Int), (0 : Int)), (0 : Int), (0 : Int), (0 : Int)))).fst)) (Tree.leaf (Sum.inr (Exit.ret, Lay.st L_sideL_1 noU (false, PUnit.unit)))) (Tree.cond ((sideS (List.getD ps (Int.toNat k) (((0 : Int), (0 : Int), (0 : Int)), [])) (List.getD js (Int.toNat k) (0 : Int)) (List.getD gs (Int.toNat k) ([], (0 : Int), (0 : Int), ((0 : Int), (0 : Int)), ((0 : Int), (0 : Int), (0 : Int)), (0 : Int), (0 : Int), (0 : Int)))).snd != (sideS (List.getD ps (Int.toNat k) (((0 : Int), (0 : Int), (0 : Int)), [])) (List.getD js (Int.toNat k) (0 : Int)) (List.getD gs (Int.toNat k) ([], (0 : Int), (0 : Int), ((0 : Int), (0 : Int)), ((0 : Int), (0 : Int), (0 : Int)), (0 : Int), (0 : Int), (0 : Int)))).snd) (Tree.leaf (Sum.inr (Exit.ret, Lay.st L_sideL_1 noU (false, PUnit.unit)))) (Tree.need (inv_sideI (ps, js, gs, k, (), (), (0 : Int), (List.getD ps (Int.toNat k) (((0 : Int), (0 : Int), (0 : Int)), [])).fst.fst, (List.getD ps (Int.toNat k) (((0 : Int), (0 : Int), (0 : Int)), [])).fst.snd.fst, (List.getD ps (Int.toNat k) (((0 : Int), (0 : Int), (0 : Int)), [])).fst.snd.snd, (List.getD ps (Int.toNat k) (((0 : Int), (0 : Int), (0 : Int)), [])).snd, (sideS (List.getD ps (Int.toNat k) (((0 : Int), (0 : Int), (0 : Int)), [])) (List.getD js (Int.toNat k) (0 : Int)) (List.getD gs (Int.toNat k) ([], (0 : Int), (0 : Int), ((0 : Int), (0 : Int)), ((0 : Int), (0 : Int), (0 : Int)), (0 : Int), (0 : Int), (0 : Int)))).fst.fst.fst, (sideS (List.getD ps (Int.toNat k) (((0 : Int), (0 : Int), (0 : Int)), [])) (List.getD js (Int.toNat k) (0 : Int)) (List.getD gs (Int.toNat k) ([], (0 : Int), (0 : Int), ((0 : Int), (0 : Int)), ((0 : Int), (0 : Int), (0 : Int)), (0 : Int), (0 : Int), (0 : Int)))).fst.fst.snd.fst, (sideS (List.getD ps (Int.toNat k) (((0 : Int), (0 : Int), (0 : Int)), [])) (List.getD js (Int.toNat k) (0 : Int)) (List.getD gs (Int.toNat k) ([], (0 : Int), (0 : Int), ((0 : Int), (0 : Int)), ((0 : Int), (0 : Int), (0 : Int)), (0 : Int), (0 : Int), (0 : Int)))).fst.fst.snd.snd, (sideS (List.getD ps (Int.toNat k) (((0 : Int), (0 : Int), (0 : Int)), [])) (List.getD js (Int.toNat k) (0 : Int)) (List.getD gs (Int.toNat k) ([], (0 : Int), (0 : Int), ((0 : Int), (0 : Int)), ((0 : Int), (0 : Int), (0 : Int)), (0 : Int), (0 : Int), (0 : Int)))).fst.snd, ())) (Tree.need ((0 : Int) ≤ k ∧ k < (↑(List.length ps) : Int)) (Tree.need ((↑(List.length (List.getD ps (Int.toNat k) (((0 : Int), (0 : Int), (0 : Int)), [])).snd) : Int) < (2 : Int) ^ (62 : Nat)) (Tree.cond (!decide (List.getD ps (Int.toNat k) (((0 : Int), (0 : Int), (0 : Int)), []) = List.getD ps (Int.toNat k) (((0 : Int), (0 : Int), (0 : Int)), []))) (Tree.leaf (Sum.inr (Exit.ret, Lay.st L_sideL_1 noU (false, PUnit.unit)))) (Tree.leaf (Sum.inl (ps, js, gs, IntKind.wrap IntKind.i64 (k + (1 : Int)), PUnit.unit)))))))))))))))))))
  (Tree.leaf (Sum.inr (Exit.exit (0 : Nat), Lay.st L_sideL_0 noU PUnit.unit))) := by kernel_rfl

def inv_sideL : List Pth × List Int × List Goal × Int × Unit → Prop := fun (ps, js, gs, k, _) => 0 ≤ k ∧ k ≤ 3 ∧ ps.length = 3 ∧ js.length = 3 ∧ gs.length = 3 ∧ (∀ p ∈ ps, p.2.length ≤ 24)
def O_sideL : List Pth × List Int × List Goal × Int × Unit → Tree (Exit × St) := fun _ => .leaf (.exit 0, L_sideL_0.st noU ())
def R_sideL : LRun := runOf 138 L_sideL (fun x => x) (inv_sideL) (O_sideL)
theorem K_sideL : LoopOk P [] 138 none noU C_sideL (R_sideL) := by
  refine loop_of hm (cx := [c_OwnPath.gc, c_Side.gc, c_rSide.gc, c_SamePath.gc]) [(2, R_sideI)] (xl := X_sideL) (α := List Pth × List Int × List Goal × Int × Unit) (fun x => x) (fun (ps, js, gs, k, _) => (3 - k).toNat) (fun _ => rfl) (by kernel_rfl) (by kernel_rfl) ?_ (by kernel_rfl) ⟨K_sideI, trivial⟩ ?_
  · intro e L' h
    unfold X_sideL at h
    split at h <;> cases h <;> kernel_rfl
  · rintro ⟨ps, js, gs, k, ⟨⟩⟩ hinv Q hQ
    refine hold_of_eq (B_sideL ps js gs k) ?_

    obtain ⟨h0, h1, h2, h3, h4, h5⟩ := hinv
    rw [W_id (n := k + 1) (by omega) (by omega)]
    refine ⟨fun c1 => ?_, fun c1 => hQ⟩
    simp only [decide_eq_true_eq] at c1
    have hm : (3 - (k + 1)).toNat < (3 - k).toNat := by omega
    have hp : (ps.getD k.toNat (((0, 0, 0), []) : Pth)).2.length ≤ 24 := h5 _ (getD_mem (d := (((0, 0, 0), []) : Pth)) (show k.toNat < ps.length by omega))
    generalize ps.getD k.toNat (((0, 0, 0), []) : Pth) = p at *
    generalize js.getD k.toNat 0 = j at *
    generalize gs.getD k.toNat (([], 0, 0, (0, 0), ((0, 0, 0), (0, 0, 0))) : Goal) = g at *
    have hs := side_len p j g
    refine ⟨⟨h0, by omega⟩, hp, ⟨h0, by omega⟩, ⟨h0, by omega⟩, hp, ⟨h0, by omega⟩, ⟨h0, by omega⟩, ⟨h0, by omega⟩, hp, by omega, fun c2 => ?_, fun _ => ⟨fun c3 => ?_, fun _ => ⟨⟨by decide, by omega, by omega⟩, ⟨h0, by omega⟩, by omega, fun c4 => ?_, fun _ => ⟨⟨⟨by omega, by omega, h2, h3, h4, h5⟩, hm⟩, hQ⟩⟩⟩⟩
    · simp at c2
    · simp at c3
    · simp at c4

theorem T_PathSidetracks (x y z : Int) (q : List V) (j : Int) (l : List V) (m le nn d a b c e f h : Int) (nums : List Int) : fnTree (P := P) [c_BigPath.gc, c_awake.gc, c_NewRing.gc, c_kPath.gc, c_rJoints.gc, c_Next.gc, c_kGoal.gc] (lpOf [(0, R_sideL)]) Try.f11 (encL 0 [.agg tPath, .val tI, .agg tGoal, .val tIs] (((x, y, z), q), j, (l, m, le, (nn, d), ((a, b, c), (e, f, h))), nums, ())) =
  Tree.cond (decide ((↑(List.length q) : Int) > (24 : Int))) (Tree.leaf (SV.bool true)) (Tree.cond (decide ((↑(List.length l) : Int) > (10 : Int))) (Tree.leaf (SV.bool true)) (Tree.need (pr_kPath ((), (6 : Int), nums, (0 : Int), ())) (Tree.need ((0 : Int) ≤ (V_kPath ((), (6 : Int), nums, (0 : Int), ())).snd ∧ (V_kPath ((), (6 : Int), nums, (0 : Int), ())).snd < (1099511627776 : Int) ∧ (0 : Int) < (↑(List.length (jointsS (V_kPath ((), (6 : Int), nums, (0 : Int), ())).fst)) : Int)) (Tree.need ((0 : Int) ≤ nextS nums (V_kPath ((), (6 : Int), nums, (0 : Int), ())).snd (↑(List.length (jointsS (V_kPath ((), (6 : Int), nums, (0 : Int), ())).fst)) : Int) ∧ nextS nums (V_kPath ((), (6 : Int), nums, (0 : Int), ())).snd (↑(List.length (jointsS (V_kPath ((), (6 : Int), nums, (0 : Int), ())).fst)) : Int) < (↑(List.length (jointsS (V_kPath ((), (6 : Int), nums, (0 : Int), ())).fst)) : Int)) (Tree.need (pr_kGoal ((), List.getD (jointsS (V_kPath ((), (6 : Int), nums, (0 : Int), ())).fst) (Int.toNat (nextS nums (V_kPath ((), (6 : Int), nums, (0 : Int), ())).snd (↑(List.length (jointsS (V_kPath ((), (6 : Int), nums, (0 : Int), ())).fst)) : Int))) ((0 : Int), (0 : Int), (0 : Int)), nums, (V_kPath ((), (6 : Int), nums, (0 : Int), ())).snd + (1 : Int), ())) (Tree.need (inv_sideL ([((x, y, z), q), (V_kPath ((), (6 : Int), nums, (0 : Int), ())).fst, (V_kPath ((), (6 : Int), nums, (0 : Int), ())).fst], [j, nextS nums (V_kPath ((), (6 : Int), nums, (0 : Int), ())).snd (↑(List.length (jointsS (V_kPath ((), (6 : Int), nums, (0 : Int), ())).fst)) : Int), IntKind.wrap IntKind.i64 ((↑(List.length (jointsS (V_kPath ((), (6 : Int), nums, (0 : Int), ())).fst)) : Int) - (1 : Int))], [(l, m, le, (nn, d), (a, b, c), e, f, h), (V_kGoal ((), List.getD (jointsS (V_kPath ((), (6 : Int), nums, (0 : Int), ())).fst) (Int.toNat (nextS nums (V_kPath ((), (6 : Int), nums, (0 : Int), ())).snd (↑(List.length (jointsS (V_kPath ((), (6 : Int), nums, (0 : Int), ())).fst)) : Int))) ((0 : Int), (0 : Int), (0 : Int)), nums, (V_kPath ((), (6 : Int), nums, (0 : Int), ())).snd + (1 : Int), ())).fst, (V_kGoal ((), List.getD (jointsS (V_kPath ((), (6 : Int), nums, (0 : Int), ())).fst) (Int.toNat (nextS nums (V_kPath ((), (6 : Int), nums, (0 : Int), ())).snd (↑(List.length (jointsS (V_kPath ((), (6 : Int), nums, (0 : Int), ())).fst)) : Int))) ((0 : Int), (0 : Int), (0 : Int)), nums, (V_kPath ((), (6 : Int), nums, (0 : Int), ())).snd + (1 : Int), ())).fst], (0 : Int), ())) (Tree.leaf (SV.bool true)))))))) := by kernel_rfl

def c_PathSidetracks : PC P := PC.of (α := Pth × Int × Goal × List Int × Unit) 11 [.agg tPath, .val tI, .agg tGoal, .val tIs] (fun x => x) (fun x => x) (fun _ => rfl)
  (fun _ => none)
  (fun x => .bool true) (by kernel_rfl) (by
    rintro ⟨⟨⟨x, y, z⟩, q⟩, j, ⟨l, m, le, ⟨nn, d⟩, ⟨⟨a, b, c⟩, ⟨e, f, h⟩⟩⟩, nums, ⟨⟩⟩ hp
    refine fn_of hm (by kernel_rfl) (by kernel_rfl) (T_PathSidetracks x y z q j l m le nn d a b c e f h nums) ⟨K_sideL, trivial⟩ ?_

    refine ⟨fun c1 => rfl, fun c1 => ⟨fun c2 => rfl, fun c2 => ?_⟩⟩
    have hq : q.length ≤ 24 := by
      have c1' : decide ((q.length : Int) > 24) = false := c1
      simp only [gt_iff_lt, decide_eq_false_iff_not] at c1'
      omega
    have hpr : pr_kPath ((), (6 : Int), nums, (0 : Int), ()) := ⟨by decide, by decide, by decide, by decide⟩
    have hS := S_kPath _ hpr
    generalize V_kPath ((), (6 : Int), nums, (0 : Int), ()) = b at *
    obtain ⟨⟨⟨p, r, s⟩, pl⟩, k1⟩ := b
    obtain ⟨hc, d1, d2, _⟩ := hS
    dsimp only at hc d1 d2 ⊢
    have hl : (jointsS ((p, r, s), pl)).length = pl.length + 1 := joints_len hc
    have hpl : pl.length ≤ 20 := checkS_len hc
    have n1 := nextS_rng (l := nums) (k := k1) (n := ((jointsS ((p, r, s), pl)).length : Int)) (by omega) (by omega)
    generalize nextS nums k1 ((jointsS ((p, r, s), pl)).length : Int) = j1 at *
    refine ⟨hpr, ⟨by omega, by omega, by omega⟩, ⟨n1.1, n1.2⟩, ⟨by omega, by omega⟩, ⟨by decide, by decide, rfl, rfl, rfl, ?_⟩, rfl⟩
    intro w hw
    simp only [List.mem_cons, List.not_mem_nil, or_false] at hw
    rcases hw with rfl | rfl | rfl
    · exact hq
    · show pl.length ≤ 24; omega
    · show pl.length ≤ 24; omega)

end
end Go.MP
