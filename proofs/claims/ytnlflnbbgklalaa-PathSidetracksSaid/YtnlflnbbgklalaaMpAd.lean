/- The reference's CheckGoal and Plan; goals that are copied and compared. -/
import Derived.Test.YtnlflnbbgklalaaMpAc
import Derived.Test.YtnlflnbbgklalaaMpI
namespace Go.MP
open Go Go.Sx Go.Proofs
set_option linter.unusedVariables false
set_option linter.unusedSimpArgs false
noncomputable section

def L_rGoalK : Lay := { slots := [(1, .ptr 2139 0), (3, .val tI), (6, .val tI)], boxes := [(2139, bGoal)] }
def L_rGoalK_0 : Lay := { slots := [(1, .ptr 2139 0), (3, .val tI)], boxes := [(2139, bGoal)] }
def L_rGoalK_1 : Lay := { slots := [(2, .val tI)] }
def X_rGoalK : Exit → Option Lay
  | .exit 2 => some L_rGoalK_0
  | .ret => some L_rGoalK_1
  | _ => none
abbrev C_rGoalK : Code := loopC (inner (loopC (bodyOf Try.f50) 0)) 2
theorem B_rGoalK (i k : Int) (l : List V) (m le nn d a b c e f h : Int) : loopBodyA (P := P) [] (lpOf []) [] 139 noU (inner C_rGoalK) L_rGoalK X_rGoalK (α := Unit × Int × Int × List V × Int × Int × Int × Int × Int × Int × Int × Int × Int × Int × Unit) (fun x => x) (fun x => x) ((), i, k, l, m, le, nn, d, a, b, c, e, f, h, ()) =
  Tree.cond (decide (k < i)) (Tree.need ((0 : Int) ≤ k ∧ k < (↑(List.length l) : Int)) (Tree.need ((0 : Int) ≤ i ∧ i < (↑(List.length l) : Int)) (Tree.cond ((List.getD l (Int.toNat k) ((0 : Int), (0 : Int), (0 : Int))).fst == (List.getD l (Int.toNat i) ((0 : Int), (0 : Int), (0 : Int))).fst && ((List.getD l (Int.toNat k) ((0 : Int), (0 : Int), (0 : Int))).snd.fst == (List.getD l (Int.toNat i) ((0 : Int), (0 : Int), (0 : Int))).snd.fst && ((List.getD l (Int.toNat k) ((0 : Int), (0 : Int), (0 : Int))).snd.snd == (List.getD l (Int.toNat i) ((0 : Int), (0 : Int), (0 : Int))).snd.snd && true))) (Tree.leaf (Sum.inr (Exit.ret, Lay.st L_rGoalK_1 noU ((9 : Int), PUnit.unit)))) (Tree.leaf (Sum.inl (PUnit.unit, i, IntKind.wrap IntKind.i64 (k + (1 : Int)), l, m, le, nn, d, a, b, c, e, f, h, PUnit.unit)))))) (Tree.leaf (Sum.inr (Exit.exit (2 : Nat), Lay.st L_rGoalK_0 noU (PUnit.unit, i, l, m, le, nn, d, a, b, c, e, f, h, PUnit.unit)))) := by kernel_rfl

def inv_rGoalK : Unit × Int × Int × List V × Int × Int × Int × Int × Int × Int × Int × Int × Int × Int × Unit → Prop := fun (_, i, k, l, _) => 0 ≤ i ∧ i < l.length ∧ 0 ≤ k ∧ k ≤ i ∧ l.length ≤ 8
def O_rGoalK : Unit × Int × Int × List V × Int × Int × Int × Int × Int × Int × Int × Int × Int × Int × Unit → Tree (Exit × St) := fun (_, i, k, l, m, le, nn, d, a, b, c, e, f, h, _) => .cond (decide (l.getD i.toNat (0, 0, 0) ∈ (l.take i.toNat).drop k.toNat)) (.leaf (.ret, L_rGoalK_1.st noU ((9 : Int), ()))) (.leaf (.exit 2, L_rGoalK_0.st noU ((), i, l, m, le, nn, d, a, b, c, e, f, h, ())))
def R_rGoalK : LRun := runOf 139 L_rGoalK (fun x => x) (inv_rGoalK) (O_rGoalK)
theorem K_rGoalK : LoopOk P [] 139 none noU C_rGoalK (R_rGoalK) := by
  refine loop_of hm (cx := []) [] (xl := X_rGoalK) (α := Unit × Int × Int × List V × Int × Int × Int × Int × Int × Int × Int × Int × Int × Int × Unit) (fun x => x) (fun (_, i, k, _) => (i - k).toNat) (fun _ => rfl) (by kernel_rfl) (by kernel_rfl) ?_ (by kernel_rfl) trivial ?_
  · intro e L' h
    unfold X_rGoalK at h
    split at h <;> cases h <;> kernel_rfl
  · rintro ⟨⟨⟩, i, k, l, m, le, nn, d, a, b, c, e, f, h, ⟨⟩⟩ hinv Q hQ
    refine hold_of_eq (B_rGoalK i k l m le nn d a b c e f h) ?_

    obtain ⟨h0, h1, h2, h3, h4⟩ := hinv
    rw [W_id (n := k + 1) (by omega) (by omega)]
    unfold O_rGoalK at hQ
    dsimp only at hQ
    have ht : (l.take i.toNat).length = i.toNat := by rw [List.length_take]; omega
    refine ⟨fun hk => ?_, fun hk => ?_⟩
    · simp only [decide_eq_true_eq] at hk
      have hm : (i - (k + 1)).toNat < (i - k).toNat := by omega
      rw [drop_step (0, 0, 0) h2 (by omega), getD_take (0, 0, 0) (by omega)] at hQ
      refine ⟨⟨h2, by omega⟩, ⟨h0, h1⟩, fun hc => ?_, fun hc => ?_⟩
      · have e : l.getD i.toNat (0, 0, 0) = l.getD k.toNat (0, 0, 0) := by
          generalize l.getD i.toNat (0, 0, 0) = u at *
          generalize l.getD k.toNat (0, 0, 0) = v at *
          obtain ⟨a1, a2, a3⟩ := u
          obtain ⟨b1, b2, b3⟩ := v
          simp only [Bool.and_true, Bool.and_eq_true, beq_iff_eq] at hc
          obtain ⟨rfl, rfl, rfl⟩ := hc
          rfl
        exact hQ.1 (decide_eq_true (List.mem_cons.2 (.inl e)))
      · have e : l.getD i.toNat (0, 0, 0) ≠ l.getD k.toNat (0, 0, 0) := by
          intro e
          rw [e] at hc
          simp at hc
        refine ⟨⟨⟨h0, h1, by omega, by omega, h4⟩, hm⟩, ?_⟩
        show Tree.holds Q (Tree.cond (decide (l.getD i.toNat (0, 0, 0) ∈ (l.take i.toNat).drop (k + 1).toNat)) _ _)
        refine ⟨fun hd => hQ.1 (decide_eq_true (List.mem_cons_of_mem _ (of_decide_eq_true hd))), fun hd => hQ.2 (decide_eq_false fun hm => ?_)⟩
        rcases List.mem_cons.1 hm with hm | hm
        · exact e hm
        · exact of_decide_eq_false hd hm
    · simp only [decide_eq_false_iff_not] at hk
      have e : (l.take i.toNat).drop k.toNat = [] := List.drop_eq_nil_of_le (by omega)
      rw [e] at hQ
      exact hQ.2 rfl
def L_rGoalD : Lay := { slots := [(1, .ptr 2139 0), (3, .val tI)], boxes := [(2139, bGoal)] }
def L_rGoalD_0 : Lay := { slots := [(1, .ptr 2139 0)], boxes := [(2139, bGoal)] }
def L_rGoalD_1 : Lay := { slots := [(2, .val tI)] }
def X_rGoalD : Exit → Option Lay
  | .exit 0 => some L_rGoalD_0
  | .ret => some L_rGoalD_1
  | _ => none
abbrev C_rGoalD : Code := loopC (bodyOf Try.f50) 0
theorem B_rGoalD (i : Int) (l : List V) (m le nn d a b c e f h : Int) : loopBodyA (P := P) [c_rwhole.gc, c_rlong.gc] (lpOf [(2, R_rGoalK)]) [] 139 noU (inner C_rGoalD) L_rGoalD X_rGoalD (α := Unit × Int × List V × Int × Int × Int × Int × Int × Int × Int × Int × Int × Int × Unit) (fun x => x) (fun x => x) ((), i, l, m, le, nn, d, a, b, c, e, f, h, ()) =
  Tree.cond (decide (i < (↑(List.length l) : Int))) (Tree.need ((0 : Int) ≤ i ∧ i < (↑(List.length l) : Int)) (Tree.cond (!(wholeS (List.getD l (Int.toNat i) ((0 : Int), (0 : Int), (0 : Int)))).snd) (Tree.leaf (Sum.inr (Exit.ret, Lay.st L_rGoalD_1 noU ((3 : Int), PUnit.unit)))) (Tree.need ((0 : Int) ≤ i ∧ i < (↑(List.length l) : Int)) (Tree.cond (!(longS (List.getD l (Int.toNat i) ((0 : Int), (0 : Int), (0 : Int)))).snd) (Tree.leaf (Sum.inr (Exit.ret, Lay.st L_rGoalD_1 noU ((2 : Int), PUnit.unit)))) (Tree.cond (decide ((longS (List.getD l (Int.toNat i) ((0 : Int), (0 : Int), (0 : Int)))).fst < (100 : Int))) (Tree.leaf (Sum.inr (Exit.ret, Lay.st L_rGoalD_1 noU ((2 : Int), PUnit.unit)))) (Tree.cond (decide ((longS (List.getD l (Int.toNat i) ((0 : Int), (0 : Int), (0 : Int)))).fst > (4000 : Int))) (Tree.leaf (Sum.inr (Exit.ret, Lay.st L_rGoalD_1 noU ((2 : Int), PUnit.unit)))) (Tree.need (inv_rGoalK ((), i, (0 : Int), l, m, le, nn, d, a, b, c, e, f, h, ())) (Tree.cond (decide (List.getD l (Int.toNat i) ((0 : Int), (0 : Int), (0 : Int)) ∈ List.drop (Int.toNat (0 : Int)) (List.take (Int.toNat i) l))) (Tree.leaf (Sum.inr (Exit.ret, Lay.st L_rGoalD_1 noU ((9 : Int), PUnit.unit)))) (Tree.leaf (Sum.inl (PUnit.unit, IntKind.wrap IntKind.i64 (i + (1 : Int)), l, m, le, nn, d, a, b, c, e, f, h, PUnit.unit))))))))))) (Tree.leaf (Sum.inr (Exit.exit (0 : Nat), Lay.st L_rGoalD_0 noU (PUnit.unit, l, m, le, nn, d, a, b, c, e, f, h, PUnit.unit)))) := by kernel_rfl

def inv_rGoalD : Unit × Int × List V × Int × Int × Int × Int × Int × Int × Int × Int × Int × Int × Unit → Prop := fun (_, i, l, _) => 0 ≤ i ∧ i ≤ l.length ∧ l.length ≤ 8
def O_rGoalD : Unit × Int × List V × Int × Int × Int × Int × Int × Int × Int × Int × Int × Int × Unit → Tree (Exit × St) := fun (_, i, l, m, le, nn, d, a, b, c, e, f, h, _) => .cond (decide (dirsR l i (l.drop i.toNat) = 0)) (.leaf (.exit 0, L_rGoalD_0.st noU ((), l, m, le, nn, d, a, b, c, e, f, h, ()))) (.leaf (.ret, L_rGoalD_1.st noU (dirsR l i (l.drop i.toNat), ())))
def R_rGoalD : LRun := runOf 139 L_rGoalD (fun x => x) (inv_rGoalD) (O_rGoalD)
theorem K_rGoalD : LoopOk P [] 139 none noU C_rGoalD (R_rGoalD) := by
  refine loop_of hm (cx := [c_rwhole.gc, c_rlong.gc]) [(2, R_rGoalK)] (xl := X_rGoalD) (α := Unit × Int × List V × Int × Int × Int × Int × Int × Int × Int × Int × Int × Int × Unit) (fun x => x) (fun (_, i, l, _) => (l.length - i).toNat) (fun _ => rfl) (by kernel_rfl) (by kernel_rfl) ?_ (by kernel_rfl) ⟨K_rGoalK, trivial⟩ ?_
  · intro e L' h
    unfold X_rGoalD at h
    split at h <;> cases h <;> kernel_rfl
  · rintro ⟨⟨⟩, i, l, m, le, nn, d, a, b, c, e, f, h, ⟨⟩⟩ hinv Q hQ
    refine hold_of_eq (B_rGoalD i l m le nn d a b c e f h) ?_

    obtain ⟨h1, h2, h3⟩ := hinv
    rw [W_id (n := i + 1) (by omega) (by omega)]
    unfold O_rGoalD at hQ
    dsimp only at hQ
    refine ⟨fun hi => ?_, fun hi => ?_⟩
    · simp only [decide_eq_true_eq] at hi
      have hm : ((l.length : Int) - (i + 1)).toNat < ((l.length : Int) - i).toNat := by omega
      have hK : inv_rGoalK ((), i, (0 : Int), l, m, le, nn, d, a, b, c, e, f, h, ()) := ⟨h1, hi, by decide, h1, h3⟩
      rw [drop_step (0, 0, 0) h1 hi, dirsR] at hQ
      generalize l.getD i.toNat (0, 0, 0) = u at *
      obtain ⟨q1, q2⟩ := long_leg2 u
      rw [Int.toNat_zero, List.drop_zero]
      refine ⟨⟨h1, hi⟩, fun a1 => ?_, fun a1 => ⟨⟨h1, hi⟩, fun a2 => ?_, fun a2 => ⟨fun a3 => ?_, fun a3 => ⟨fun a4 => ?_, fun a4 => ⟨hK, fun a5 => ?_, fun a5 => ?_⟩⟩⟩⟩⟩
      all_goals simp only [Bool.not_eq_true', Bool.not_eq_false', decide_eq_true_eq, decide_eq_false_iff_not] at *
      · rw [if_pos a1] at hQ
        exact hQ.2 (by decide)
      · have : (wholeS u).1 < 100 ∨ (wholeS u).1 > 4000 := by
          rw [q1] at a2
          unfold legS at a2
          rw [a1] at a2
          simp only [Bool.true_and, Bool.and_eq_false_iff, decide_eq_false_iff_not] at a2
          omega
        rw [if_neg (by rw [a1]; decide), if_pos this] at hQ
        exact hQ.2 (by decide)
      · rw [q2 (by rw [← q1]; exact a2)] at a3
        rw [if_neg (by rw [a1]; decide), if_pos (Or.inl a3)] at hQ
        exact hQ.2 (by decide)
      · rw [q2 (by rw [← q1]; exact a2)] at a4
        rw [if_neg (by rw [a1]; decide), if_pos (Or.inr a4)] at hQ
        exact hQ.2 (by decide)
      · rw [q2 (by rw [← q1]; exact a2)] at a3 a4
        rw [if_neg (by rw [a1]; decide), if_neg (by omega), if_pos a5] at hQ
        exact hQ.2 (by decide)
      · rw [q2 (by rw [← q1]; exact a2)] at a3 a4
        rw [if_neg (by rw [a1]; decide), if_neg (by omega), if_neg a5] at hQ
        exact ⟨⟨⟨by omega, by omega, h3⟩, hm⟩, hQ⟩
    · simp only [decide_eq_false_iff_not] at hi
      rw [drop_end hi, dirsR] at hQ
      exact hQ.1 (by decide)
theorem T_rCheckGoal (l : List V) (m le nn d a b c e f h : Int) : fnTree (P := P) [] (lpOf [(0, R_rGoalD)]) Try.f50 (encL 0 [.agg tGoal] ((l, m, le, (nn, d), ((a, b, c), (e, f, h))), ())) =
  Tree.cond (decide ((↑(List.length l) : Int) < (2 : Int))) (Tree.leaf (SV.int IntKind.i64 (6 : Int))) (Tree.cond (decide ((↑(List.length l) : Int) > (8 : Int))) (Tree.leaf (SV.int IntKind.i64 (8 : Int))) (Tree.need (inv_rGoalD ((), (0 : Int), l, m, le, nn, d, a, b, c, e, f, h, ())) (Tree.cond (decide (dirsR l (0 : Int) (List.drop (Int.toNat (0 : Int)) l) = (0 : Int))) (Tree.cond (decide (m < (1 : Int))) (Tree.leaf (SV.int IntKind.i64 (2 : Int))) (Tree.cond (decide (m > (8 : Int))) (Tree.leaf (SV.int IntKind.i64 (2 : Int))) (Tree.cond (decide (le < (1 : Int))) (Tree.leaf (SV.int IntKind.i64 (2 : Int))) (Tree.cond (decide (le > (3 : Int))) (Tree.leaf (SV.int IntKind.i64 (2 : Int))) (Tree.cond (decide (d < (1 : Int))) (Tree.leaf (SV.int IntKind.i64 (2 : Int))) (Tree.cond (decide (d > (1000 : Int))) (Tree.leaf (SV.int IntKind.i64 (2 : Int))) (Tree.cond (decide (nn < (0 : Int))) (Tree.leaf (SV.int IntKind.i64 (2 : Int))) (Tree.cond (decide (nn > d)) (Tree.leaf (SV.int IntKind.i64 (2 : Int))) (Tree.cond (decide (a > e)) (Tree.leaf (SV.int IntKind.i64 (2 : Int))) (Tree.cond (decide (b > f)) (Tree.leaf (SV.int IntKind.i64 (2 : Int))) (Tree.cond (decide (c > h)) (Tree.leaf (SV.int IntKind.i64 (2 : Int))) (Tree.leaf (SV.int IntKind.i64 (0 : Int)))))))))))))) (Tree.leaf (SV.int IntKind.i64 (dirsR l (0 : Int) (List.drop (Int.toNat (0 : Int)) l))))))) := by kernel_rfl

def c_rCheckGoal : PC P := PC.of (α := Goal × Unit) 50 [.agg tGoal] (fun x => x) (fun x => x) (fun _ => rfl)
  (fun _ => none)
  (fun x => .int .i64 (goalS x.1)) (by kernel_rfl) (by
    rintro ⟨⟨l, m, le, ⟨nn, d⟩, ⟨⟨a, b, c⟩, ⟨e, f, h⟩⟩⟩, ⟨⟩⟩ hp
    refine fn_of hm (by kernel_rfl) (by kernel_rfl) (T_rCheckGoal l m le nn d a b c e f h) ⟨K_rGoalD, trivial⟩ ?_

    show Tree.holds (fun s => s = SV.int .i64 (goalS (l, m, le, (nn, d), (a, b, c), (e, f, h)))) _
    have bad : ∀ k : Int, badG (l, m, le, (nn, d), (a, b, c), (e, f, h)) → ¬ l.length < 2 → ¬ l.length > 8 → dirsR l 0 l = 0 → goalS (l, m, le, (nn, d), (a, b, c), (e, f, h)) = 2 := fun _ h h1 h2 h3 => by
      unfold goalS
      rw [if_neg h1, if_neg h2, if_neg (by simp [h3]), if_pos h]
    refine ⟨fun h1 => ?_, fun h1 => ⟨fun h2 => ?_, fun h2 => ⟨⟨by decide, by omega, by simp only [decide_eq_false_iff_not] at h2; omega⟩, fun h3 => ?_, fun h3 => ?_⟩⟩⟩
    · simp only [decide_eq_true_eq] at h1
      unfold goalS
      rw [if_pos (show l.length < 2 by omega)]
      exact rfl
    · simp only [decide_eq_true_eq, decide_eq_false_iff_not] at h1 h2
      unfold goalS
      rw [if_neg (show ¬ l.length < 2 by omega), if_pos (show l.length > 8 by omega)]
      exact rfl
    · simp only [decide_eq_true_eq, decide_eq_false_iff_not, Int.toNat_zero, List.drop_zero] at h1 h2 h3
      have g1 : ¬ l.length < 2 := by omega
      have g2 : ¬ l.length > 8 := by omega
      have out : badG (l, m, le, (nn, d), (a, b, c), (e, f, h)) → (SV.int .i64 2) = SV.int .i64 (goalS (l, m, le, (nn, d), (a, b, c), (e, f, h))) := fun hb => by rw [bad 0 hb g1 g2 h3]
      unfold badG at out
      dsimp only at out
      refine ⟨fun c1 => ?_, fun c1 => ⟨fun c2 => ?_, fun c2 => ⟨fun c3 => ?_, fun c3 => ⟨fun c4 => ?_, fun c4 => ⟨fun c5 => ?_, fun c5 => ⟨fun c6 => ?_, fun c6 => ⟨fun c7 => ?_, fun c7 => ⟨fun c8 => ?_, fun c8 => ⟨fun c9 => ?_, fun c9 => ⟨fun d1 => ?_, fun d1 => ⟨fun d2 => ?_, fun d2 => ?_⟩⟩⟩⟩⟩⟩⟩⟩⟩⟩⟩
      all_goals simp only [decide_eq_true_eq, decide_eq_false_iff_not] at *
      · exact out (by omega)
      · exact out (by omega)
      · exact out (by omega)
      · exact out (by omega)
      · exact out (by omega)
      · exact out (by omega)
      · exact out (by omega)
      · exact out (by omega)
      · exact out (by omega)
      · exact out (by omega)
      · exact out (by omega)
      · unfold goalS
        rw [if_neg g1, if_neg g2, if_neg (by simp [h3]), if_neg (by unfold badG; dsimp only; omega)]
        exact rfl
    · simp only [decide_eq_true_eq, decide_eq_false_iff_not, Int.toNat_zero, List.drop_zero] at h1 h2 h3 ⊢
      unfold goalS
      rw [if_neg (show ¬ l.length < 2 by omega), if_neg (show ¬ l.length > 8 by omega), if_pos h3]
      exact rfl)
theorem T_rPlan (x y z x2 y2 z2 : Int) (l : List V) (m le nn d a b c e f h : Int) : fnTree (P := P) [c_rCheckGoal.gc, c_rplace.gc, c_rlong.gc, c_go1.gc] (lpOf []) Try.f48 (encL 0 [.agg tV, .agg tV, .agg tGoal] ((x, y, z), (x2, y2, z2), (l, m, le, (nn, d), ((a, b, c), (e, f, h))), ())) =
  Tree.cond (goalS (l, m, le, (nn, d), (a, b, c), e, f, h) != (0 : Int)) (Tree.leaf (SV.tup [SV.agg [SV.int IntKind.i64 (0 : Int), SV.int IntKind.i64 (0 : Int), SV.int IntKind.i64 (0 : Int), SV.nils], SV.int IntKind.i64 (goalS (l, m, le, (nn, d), (a, b, c), e, f, h))])) (Tree.cond (!validS (x, y, z)) (Tree.leaf (SV.tup [SV.agg [SV.int IntKind.i64 (0 : Int), SV.int IntKind.i64 (0 : Int), SV.int IntKind.i64 (0 : Int), SV.nils], SV.int IntKind.i64 (2 : Int)])) (Tree.cond (!(longS (x2, y2, z2)).snd) (Tree.leaf (SV.tup [SV.agg [SV.int IntKind.i64 (0 : Int), SV.int IntKind.i64 (0 : Int), SV.int IntKind.i64 (0 : Int), SV.nils], SV.int IntKind.i64 (3 : Int)])) (Tree.need (pre_go1 ((), l, m, le, nn, d, a, b, c, e, f, h, x2, y2, z2, x, y, z, [], [], (0 : Int), (0 : Int), (0 : Int), [], false, ())) (Tree.cond (!(goIn l m le nn d a b c e f h x2 y2 z2 x y z [] [] (0 : Int) (0 : Int) (0 : Int) [] false).snd.snd.snd) (Tree.leaf (SV.tup [SV.agg [SV.int IntKind.i64 (0 : Int), SV.int IntKind.i64 (0 : Int), SV.int IntKind.i64 (0 : Int), SV.nils], SV.int IntKind.i64 (7 : Int)])) (Tree.leaf (SV.tup [SV.agg [SV.int IntKind.i64 (goIn l m le nn d a b c e f h x2 y2 z2 x y z [] [] (0 : Int) (0 : Int) (0 : Int) [] false).snd.snd.fst.fst.fst, SV.int IntKind.i64 (goIn l m le nn d a b c e f h x2 y2 z2 x y z [] [] (0 : Int) (0 : Int) (0 : Int) [] false).snd.snd.fst.fst.snd.fst, SV.int IntKind.i64 (goIn l m le nn d a b c e f h x2 y2 z2 x y z [] [] (0 : Int) (0 : Int) (0 : Int) [] false).snd.snd.fst.fst.snd.snd, SV.sl (Ty.pair tI (Ty.pair tI tI)) (goIn l m le nn d a b c e f h x2 y2 z2 x y z [] [] (0 : Int) (0 : Int) (0 : Int) [] false).snd.snd.fst.snd], SV.int IntKind.i64 (0 : Int)])))))) := by kernel_rfl

def c_rPlan : PC P := PC.of (α := V × V × Goal × Unit) 48 [.agg tV, .agg tV, .agg tGoal] (fun x => x) (fun x => x) (fun _ => rfl)
  (fun _ => none)
  (fun x => .tup [.agg [.int .i64 (rplanS x.1 x.2.1 x.2.2.1).1.1.1, .int .i64 (rplanS x.1 x.2.1 x.2.2.1).1.1.2.1, .int .i64 (rplanS x.1 x.2.1 x.2.2.1).1.1.2.2, .sl tV (rplanS x.1 x.2.1 x.2.2.1).1.2], .int .i64 (rplanS x.1 x.2.1 x.2.2.1).2]) (by kernel_rfl) (by
    rintro ⟨⟨x, y, z⟩, ⟨x2, y2, z2⟩, ⟨l, m, le, ⟨nn, d⟩, ⟨⟨a, b, c⟩, ⟨e, f, h⟩⟩⟩, ⟨⟩⟩ hp
    refine fn_le hm (by kernel_rfl) (by kernel_rfl) (T_rPlan x y z x2 y2 z2 l m le nn d a b c e f h) trivial (by kernel_rfl) ?_

    show Tree.holds (fun s => LeS s (SV.tup [.agg [.int .i64 (rplanS (x, y, z) (x2, y2, z2) (l, m, le, (nn, d), (a, b, c), (e, f, h))).1.1.1, .int .i64 (rplanS (x, y, z) (x2, y2, z2) (l, m, le, (nn, d), (a, b, c), (e, f, h))).1.1.2.1, .int .i64 (rplanS (x, y, z) (x2, y2, z2) (l, m, le, (nn, d), (a, b, c), (e, f, h))).1.1.2.2, .sl tV (rplanS (x, y, z) (x2, y2, z2) (l, m, le, (nn, d), (a, b, c), (e, f, h))).1.2], .int .i64 (rplanS (x, y, z) (x2, y2, z2) (l, m, le, (nn, d), (a, b, c), (e, f, h))).2])) _
    unfold rplanS
    refine ⟨fun h1 => ?_, fun h1 => ⟨fun h2 => ?_, fun h2 => ⟨fun h3 => ?_, fun h3 => ⟨?_, fun h4 => ?_, fun h4 => ?_⟩⟩⟩⟩
    · simp only [bne_iff_ne, ne_eq] at h1
      rw [if_pos h1]
      exact ⟨⟨rfl, rfl, rfl, rfl, trivial⟩, rfl, trivial⟩
    all_goals simp only [bne_eq_false_iff_eq] at h1
    · simp only [Bool.not_eq_true'] at h2
      rw [if_neg (by simp [h1]), if_pos h2]
      exact ⟨⟨rfl, rfl, rfl, rfl, trivial⟩, rfl, trivial⟩
    all_goals simp only [Bool.not_eq_false'] at h2
    · simp only [Bool.not_eq_true'] at h3
      rw [if_neg (by simp [h1]), if_neg (by simp [h2]), if_pos h3]
      exact ⟨⟨rfl, rfl, rfl, rfl, trivial⟩, rfl, trivial⟩
    all_goals simp only [Bool.not_eq_false'] at h3
    · have hl : (legS (x2, y2, z2)).2 = true := by rw [← (long_leg2 (x2, y2, z2)).1]; exact h3
      have hk := (goalS_zero h1).1
      refine ⟨goal_okS (x := (x, y, z)) h1 hl, ?_, by show ((0 : Nat) : Int) ≤ le; have := hk.2.2.2.1; simp only [] at this; omega, rfl⟩
      unfold checkS
      rw [if_neg (by simp), if_neg (by simp [h2])]
      rfl
    all_goals rw [if_neg (by simp [h1]), if_neg (by simp [h2]), if_neg (by simp [h3])]
    · simp only [Bool.not_eq_true'] at h4
      have h4' : (goR (l, m, le, (nn, d), (a, b, c), (e, f, h)) (x, y, z) (x2, y2, z2) le.toNat ([], [], ((((0, 0, 0) : V), []), false))).2.2.2 = false := h4
      rw [if_pos h4']
      exact ⟨⟨rfl, rfl, rfl, rfl, trivial⟩, rfl, trivial⟩
    · simp only [Bool.not_eq_false'] at h4
      have h4' : ¬ (goR (l, m, le, (nn, d), (a, b, c), (e, f, h)) (x, y, z) (x2, y2, z2) le.toNat ([], [], ((((0, 0, 0) : V), []), false))).2.2.2 = false := by
        intro h5
        have h6 : (goR (l, m, le, (nn, d), (a, b, c), (e, f, h)) (x, y, z) (x2, y2, z2) le.toNat ([], [], ((((0, 0, 0) : V), []), false))).2.2.2 = true := h4
        rw [h5] at h6
        cases h6
      rw [if_neg h4']
      exact ⟨⟨rfl, rfl, rfl, rfl, trivial⟩, rfl, trivial⟩)
theorem T_OwnGoal (l : List V) (m le nn d a b c e f h : Int) : fnTree (P := P) [] (lpOf []) Try.f46 (encL 0 [.agg tGoal] ((l, m, le, (nn, d), ((a, b, c), (e, f, h))), ())) =
  Tree.need (((0 : Nat) + List.length l) * (24 : Nat) ≤ (140737488355328 : Nat)) (Tree.leaf (SV.agg [SV.sl (Ty.pair (Ty.int IntKind.i64) (Ty.pair (Ty.int IntKind.i64) (Ty.int IntKind.i64))) l, SV.int IntKind.i64 m, SV.int IntKind.i64 le, SV.int IntKind.i64 nn, SV.int IntKind.i64 d, SV.int IntKind.i64 a, SV.int IntKind.i64 b, SV.int IntKind.i64 c, SV.int IntKind.i64 e, SV.int IntKind.i64 f, SV.int IntKind.i64 h])) := by kernel_rfl

def c_OwnGoal : PC P := PC.of (α := Goal × Unit) 46 [.agg tGoal] (fun x => x) (fun x => x) (fun _ => rfl)
  (fun x => some (x.1.1.length ≤ 24))
  (fun x => .agg (svG x.1)) (by kernel_rfl) (by
    rintro ⟨⟨l, m, le, ⟨nn, d⟩, ⟨⟨a, b, c⟩, ⟨e, f, h⟩⟩⟩, ⟨⟩⟩ hp
    refine fn_of hm (by kernel_rfl) (by kernel_rfl) (T_OwnGoal l m le nn d a b c e f h) trivial ?_

    have h' : l.length ≤ 24 := hp
    exact ⟨by omega, rfl⟩)
def sameG (g h : Goal) : Bool := decide (g.1 = h.1) && (decide (g.2.1 = h.2.1) && (decide (g.2.2.1 = h.2.2.1) && (decide (g.2.2.2.1 = h.2.2.2.1) && decide (g.2.2.2.2 = h.2.2.2.2))))
theorem sameG_refl (g : Goal) : sameG g g = true := by simp [sameG]
theorem T_SameGoal (l : List V) (m le nn d a b c e f h : Int) (l' : List V) (m' le' nn' d' a' b' c' e' f' h' : Int) : fnTree (P := P) [c_SameVecs.gc] (lpOf []) Try.f51 (encL 0 [.agg tGoal, .agg tGoal] ((l, m, le, (nn, d), ((a, b, c), (e, f, h))), (l', m', le', (nn', d'), ((a', b', c'), (e', f', h'))), ())) =
  Tree.cond (m == m') (Tree.cond (le == le') (Tree.cond (nn == nn' && (d == d' && true)) (Tree.cond (a == a' && (b == b' && (c == c' && true)) && (e == e' && (f == f' && (h == h' && true)) && true)) (Tree.need ((↑(List.length l) : Int) < (2 : Int) ^ (62 : Nat)) (Tree.leaf (SV.bool (decide (l = l'))))) (Tree.leaf (SV.bool false))) (Tree.leaf (SV.bool false))) (Tree.leaf (SV.bool false))) (Tree.leaf (SV.bool false)) := by kernel_rfl

def c_SameGoal : PC P := PC.of (α := Goal × Goal × Unit) 51 [.agg tGoal, .agg tGoal] (fun x => x) (fun x => x) (fun _ => rfl)
  (fun x => some ((x.1.1.length : Int) < 2 ^ 62))
  (fun x => .bool (sameG x.1 x.2.1)) (by kernel_rfl) (by
    rintro ⟨⟨l, m, le, ⟨nn, d⟩, ⟨⟨a, b, c⟩, ⟨e, f, h⟩⟩⟩, ⟨l', m', le', ⟨nn', d'⟩, ⟨⟨a', b', c'⟩, ⟨e', f', h'⟩⟩⟩, ⟨⟩⟩ hp
    refine fn_of hm (by kernel_rfl) (by kernel_rfl) (T_SameGoal l m le nn d a b c e f h l' m' le' nn' d' a' b' c' e' f' h') trivial ?_

    show Tree.holds (fun s => s = SV.bool (sameG (l, m, le, (nn, d), ((a, b, c), (e, f, h))) (l', m', le', (nn', d'), ((a', b', c'), (e', f', h'))))) _
    unfold sameG
    dsimp only
    refine ⟨fun c1 => ⟨fun c2 => ⟨fun c3 => ⟨fun c4 => ⟨hp, ?_⟩, fun c4 => ?_⟩, fun c3 => ?_⟩, fun c2 => ?_⟩, fun c1 => ?_⟩
    all_goals simp only [Bool.and_true, Bool.and_eq_true, Bool.and_eq_false_iff, beq_iff_eq, beq_eq_false_iff_ne, ne_eq] at c1
    · simp only [Bool.and_true, Bool.and_eq_true, beq_iff_eq] at c2 c3 c4
      obtain ⟨rfl, rfl⟩ := c3
      obtain ⟨⟨rfl, rfl, rfl⟩, rfl, rfl, rfl⟩ := c4
      subst c1 c2
      simp only [decide_true, Bool.and_true]
      exact rfl
    · have e : decide ((((a, b, c), (e, f, h)) : Box) = ((a', b', c'), (e', f', h'))) = false := decide_eq_false fun he => by
        simp only [Prod.mk.injEq] at he
        obtain ⟨⟨rfl, rfl, rfl⟩, rfl, rfl, rfl⟩ := he
        simp at c4
      rw [e]
      simp only [Bool.and_false]
      exact rfl
    · have e : decide (((nn, d) : Int × Int) = (nn', d')) = false := decide_eq_false fun he => by
        simp only [Prod.mk.injEq] at he
        obtain ⟨rfl, rfl⟩ := he
        simp at c3
      rw [e]
      simp only [Bool.and_false, Bool.false_and]
      exact rfl
    · simp only [beq_eq_false_iff_ne, ne_eq] at c2
      rw [decide_eq_false c2]
      simp only [Bool.and_false, Bool.false_and]
      exact rfl
    · rw [decide_eq_false c1]
      simp only [Bool.and_false, Bool.false_and]
      exact rfl)

end
end Go.MP
