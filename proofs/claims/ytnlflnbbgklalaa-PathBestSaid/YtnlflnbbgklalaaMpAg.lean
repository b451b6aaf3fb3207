/- The law PathBest: which paths a goal allows. -/
import Derived.Test.YtnlflnbbgklalaaMpAf
namespace Go.MP
open Go Go.Sx Go.Proofs
set_option linter.unusedVariables false
set_option linter.unusedSimpArgs false
noncomputable section

/-- The direction of which a vector is a multiple: the first one that is not the last leg's. -/
def kN (k at' : Int) (v w : V) : Nat → Int → Int → Int
  | 0, _, d => d
  | j + 1, n, d => kN k at' v w j (n + 1) (if d < 0 ∧ k ≠ at' ∧ v = vmul w n then k else d)
def kD (at' : Int) (v : V) (m : Int) : List V → Int → Int → Int
  | [], _, d => d
  | w :: r, k, d => kD at' v m r (k + 1) (kN k at' v w m.toNat 1 d)

def L_keptN : Lay := { slots := [(4, .ptr 5214 0), (7, .ptr 8214 0), (10, .ptr 11214 0), (11, .val tI), (12, .val tI), (13, .ptr 14214 0), (14, .val tI), (15, .val tI), (16, .val tI)], boxes := [(5214, [.val tI, .val tI, .val tI, .val tVs]), (8214, bGoal), (11214, [.val tI, .val tI, .val tI]), (14214, [.val tI, .val tI, .val tI])] }
def L_keptN_0 : Lay := { slots := [(4, .ptr 5214 0), (7, .ptr 8214 0), (10, .ptr 11214 0), (11, .val tI), (12, .val tI), (13, .ptr 14214 0), (14, .val tI), (15, .val tI)], boxes := [(5214, [.val tI, .val tI, .val tI, .val tVs]), (8214, bGoal), (11214, [.val tI, .val tI, .val tI]), (14214, [.val tI, .val tI, .val tI])] }
def X_keptN : Exit → Option Lay
  | .exit 4 => some L_keptN_0
  | _ => none
abbrev C_keptN : Code := loopC (inner (loopC (inner (loopC (bodyOf Try.f59) 0)) 2)) 4
theorem B_keptN (at' i dd k n x y z : Int) (q l : List V) (m le nn d a b c e f h p1 p2 p3 v1 v2 v3 : Int) : loopBodyA (P := P) [] (lpOf []) [] 214 noU (inner C_keptN) L_keptN X_keptN (α := Unit × Unit × Unit × Int × Int × Unit × Int × Int × Int × Int × Int × Int × List V × List V × Int × Int × Int × Int × Int × Int × Int × Int × Int × Int × Int × Int × Int × Int × Int × Int × Unit) (fun x => x) (fun x => x) ((), (), (), at', i, (), dd, k, n, x, y, z, q, l, m, le, nn, d, a, b, c, e, f, h, p1, p2, p3, v1, v2, v3, ()) =
  Tree.cond (decide (n ≤ m)) (Tree.need ((0 : Int) ≤ k ∧ k < (↑(List.length l) : Int)) (Tree.cond (decide (dd < (0 : Int))) (Tree.cond (k != at') (Tree.cond (v1 == IntKind.wrap IntKind.i64 ((List.getD l (Int.toNat k) ((0 : Int), (0 : Int), (0 : Int))).fst * n) && (v2 == IntKind.wrap IntKind.i64 ((List.getD l (Int.toNat k) ((0 : Int), (0 : Int), (0 : Int))).snd.fst * n) && (v3 == IntKind.wrap IntKind.i64 ((List.getD l (Int.toNat k) ((0 : Int), (0 : Int), (0 : Int))).snd.snd * n) && true))) (Tree.leaf (Sum.inl (PUnit.unit, PUnit.unit, PUnit.unit, at', i, PUnit.unit, k, k, IntKind.wrap IntKind.i64 (n + (1 : Int)), x, y, z, q, l, m, le, nn, d, a, b, c, e, f, h, p1, p2, p3, v1, v2, v3, PUnit.unit))) (Tree.leaf (Sum.inl (PUnit.unit, PUnit.unit, PUnit.unit, at', i, PUnit.unit, dd, k, IntKind.wrap IntKind.i64 (n + (1 : Int)), x, y, z, q, l, m, le, nn, d, a, b, c, e, f, h, p1, p2, p3, v1, v2, v3, PUnit.unit)))) (Tree.leaf (Sum.inl (PUnit.unit, PUnit.unit, PUnit.unit, at', i, PUnit.unit, dd, k, IntKind.wrap IntKind.i64 (n + (1 : Int)), x, y, z, q, l, m, le, nn, d, a, b, c, e, f, h, p1, p2, p3, v1, v2, v3, PUnit.unit)))) (Tree.leaf (Sum.inl (PUnit.unit, PUnit.unit, PUnit.unit, at', i, PUnit.unit, dd, k, IntKind.wrap IntKind.i64 (n + (1 : Int)), x, y, z, q, l, m, le, nn, d, a, b, c, e, f, h, p1, p2, p3, v1, v2, v3, PUnit.unit))))) (Tree.leaf (Sum.inr (Exit.exit (4 : Nat), Lay.st L_keptN_0 noU (PUnit.unit, PUnit.unit, PUnit.unit, at', i, PUnit.unit, dd, k, x, y, z, q, l, m, le, nn, d, a, b, c, e, f, h, p1, p2, p3, v1, v2, v3, PUnit.unit)))) := by kernel_rfl

def inv_keptN : Unit × Unit × Unit × Int × Int × Unit × Int × Int × Int × Int × Int × Int × List V × List V × Int × Int × Int × Int × Int × Int × Int × Int × Int × Int × Int × Int × Int × Int × Int × Int × Unit → Prop := fun (_, _, _, at', i, _, dd, k, n, x, y, z, q, l, m, le, nn, d, a, b, c, e, f, h, p1, p2, p3, v1, v2, v3, _) => 0 ≤ k ∧ k < l.length ∧ 1 ≤ n ∧ n ≤ m + 1 ∧ m ≤ 8
def O_keptN : Unit × Unit × Unit × Int × Int × Unit × Int × Int × Int × Int × Int × Int × List V × List V × Int × Int × Int × Int × Int × Int × Int × Int × Int × Int × Int × Int × Int × Int × Int × Int × Unit → Tree (Exit × St) := fun (_, _, _, at', i, _, dd, k, n, x, y, z, q, l, m, le, nn, d, a, b, c, e, f, h, p1, p2, p3, v1, v2, v3, _) => .leaf (.exit 4, L_keptN_0.st noU ((), (), (), at', i, (), kN k at' (v1, v2, v3) (l.getD k.toNat (0, 0, 0)) (m + 1 - n).toNat n dd, k, x, y, z, q, l, m, le, nn, d, a, b, c, e, f, h, p1, p2, p3, v1, v2, v3, ()))
def R_keptN : LRun := runOf 214 L_keptN (fun x => x) (inv_keptN) (O_keptN)
theorem K_keptN : LoopOk P [] 214 none noU C_keptN (R_keptN) := by
  refine loop_of hm (cx := []) [] (xl := X_keptN) (α := Unit × Unit × Unit × Int × Int × Unit × Int × Int × Int × Int × Int × Int × List V × List V × Int × Int × Int × Int × Int × Int × Int × Int × Int × Int × Int × Int × Int × Int × Int × Int × Unit) (fun x => x) (fun (_, _, _, at', i, _, dd, k, n, x, y, z, q, l, m, _) => (m + 1 - n).toNat) (fun _ => rfl) (by kernel_rfl) (by kernel_rfl) ?_ (by kernel_rfl) trivial ?_
  · intro e L' h
    unfold X_keptN at h
    split at h <;> cases h <;> kernel_rfl
  · rintro ⟨⟨⟩, ⟨⟩, ⟨⟩, at', i, ⟨⟩, dd, k, n, x, y, z, q, l, m, le, nn, d, a, b, c, e, f, h, p1, p2, p3, v1, v2, v3, ⟨⟩⟩ hinv Q hQ
    refine hold_of_eq (B_keptN at' i dd k n x y z q l m le nn d a b c e f h p1 p2 p3 v1 v2 v3) ?_

    obtain ⟨h0, h1, h2, h3, h4⟩ := hinv
    rw [W_id (n := n + 1) (by omega) (by omega)]
    unfold O_keptN at hQ
    dsimp only at hQ
    refine ⟨fun hn => ?_, fun hn => ?_⟩
    · simp only [decide_eq_true_eq] at hn
      have hm : (m + 1 - (n + 1)).toNat < (m + 1 - n).toNat := by omega
      rw [show (m + 1 - n).toNat = (m + 1 - (n + 1)).toNat + 1 by omega, kN] at hQ
      generalize hw : l.getD k.toNat (0, 0, 0) = w at *
      have hinv2 : 0 ≤ k ∧ k < (l.length : Int) ∧ 1 ≤ n + 1 ∧ n + 1 ≤ m + 1 ∧ m ≤ 8 := ⟨h0, h1, by omega, by omega, h4⟩
      have stay : ¬ (dd < 0 ∧ k ≠ at' ∧ ((v1, v2, v3) : V) = vmul w n) → Tree.holds Q (O_keptN ((), (), (), at', i, (), dd, k, n + 1, x, y, z, q, l, m, le, nn, d, a, b, c, e, f, h, p1, p2, p3, v1, v2, v3, ())) := fun hs => by
        rw [if_neg hs] at hQ
        unfold O_keptN
        dsimp only
        rw [hw]
        exact hQ
      refine ⟨⟨h0, h1⟩, fun c1 => ⟨fun c2 => ⟨fun c3 => ?_, fun c3 => ?_⟩, fun c2 => ?_⟩, fun c1 => ?_⟩
      all_goals simp only [decide_eq_true_eq, decide_eq_false_iff_not] at c1
      · simp only [bne_iff_ne, ne_eq] at c2
        simp only [Bool.and_true, Bool.and_eq_true, beq_iff_eq] at c3
        have e : ((v1, v2, v3) : V) = vmul w n := by
          unfold vmul
          rw [c3.1, c3.2.1, c3.2.2]
        rw [if_pos ⟨c1, c2, e⟩] at hQ
        refine ⟨⟨hinv2, hm⟩, ?_⟩
        unfold O_keptN
        dsimp only
        rw [hw]
        exact hQ
      · refine ⟨⟨hinv2, hm⟩, stay fun hs => ?_⟩
        have e := hs.2.2
        unfold vmul at e
        simp only [Prod.mk.injEq] at e
        obtain ⟨e1, e2, e3⟩ := e
        rw [e1, e2, e3] at c3
        simp at c3
      · simp only [bne_eq_false_iff_eq] at c2
        exact ⟨⟨hinv2, hm⟩, stay fun hs => hs.2.1 c2⟩
      · exact ⟨⟨hinv2, hm⟩, stay fun hs => c1 hs.1⟩
    · simp only [decide_eq_false_iff_not] at hn
      rw [show (m + 1 - n).toNat = 0 by omega, kN] at hQ
      exact hQ

def L_keptD : Lay := { slots := [(4, .ptr 5214 0), (7, .ptr 8214 0), (10, .ptr 11214 0), (11, .val tI), (12, .val tI), (13, .ptr 14214 0), (14, .val tI), (15, .val tI)], boxes := [(5214, [.val tI, .val tI, .val tI, .val tVs]), (8214, bGoal), (11214, [.val tI, .val tI, .val tI]), (14214, [.val tI, .val tI, .val tI])] }
def L_keptD_0 : Lay := { slots := [(4, .ptr 5214 0), (7, .ptr 8214 0), (10, .ptr 11214 0), (11, .val tI), (12, .val tI), (13, .ptr 14214 0), (14, .val tI)], boxes := [(5214, [.val tI, .val tI, .val tI, .val tVs]), (8214, bGoal), (11214, [.val tI, .val tI, .val tI]), (14214, [.val tI, .val tI, .val tI])] }
def X_keptD : Exit → Option Lay
  | .exit 2 => some L_keptD_0
  | _ => none
abbrev C_keptD : Code := loopC (inner (loopC (bodyOf Try.f59) 0)) 2
theorem B_keptD (at' i dd k x y z : Int) (q l : List V) (m le nn d a b c e f h p1 p2 p3 v1 v2 v3 : Int) : loopBodyA (P := P) [] (lpOf [(4, R_keptN)]) [] 214 noU (inner C_keptD) L_keptD X_keptD (α := Unit × Unit × Unit × Int × Int × Unit × Int × Int × Int × Int × Int × List V × List V × Int × Int × Int × Int × Int × Int × Int × Int × Int × Int × Int × Int × Int × Int × Int × Int × Unit) (fun x => x) (fun x => x) ((), (), (), at', i, (), dd, k, x, y, z, q, l, m, le, nn, d, a, b, c, e, f, h, p1, p2, p3, v1, v2, v3, ()) =
  Tree.cond (decide (k < (↑(List.length l) : Int))) (Tree.need (inv_keptN ((), (), (), at', i, (), dd, k, (1 : Int), x, y, z, q, l, m, le, nn, d, a, b, c, e, f, h, p1, p2, p3, v1, v2, v3, ())) (Tree.leaf (Sum.inl (PUnit.unit, PUnit.unit, PUnit.unit, at', i, PUnit.unit, kN k at' (v1, v2, v3) (List.getD l (Int.toNat k) ((0 : Int), (0 : Int), (0 : Int))) (Int.toNat (m + (1 : Int) - (1 : Int))) (1 : Int) dd, IntKind.wrap IntKind.i64 (k + (1 : Int)), x, y, z, q, l, m, le, nn, d, a, b, c, e, f, h, p1, p2, p3, v1, v2, v3, PUnit.unit)))) (Tree.leaf (Sum.inr (Exit.exit (2 : Nat), Lay.st L_keptD_0 noU (PUnit.unit, PUnit.unit, PUnit.unit, at', i, PUnit.unit, dd, x, y, z, q, l, m, le, nn, d, a, b, c, e, f, h, p1, p2, p3, v1, v2, v3, PUnit.unit)))) := by kernel_rfl

def inv_keptD : Unit × Unit × Unit × Int × Int × Unit × Int × Int × Int × Int × Int × List V × List V × Int × Int × Int × Int × Int × Int × Int × Int × Int × Int × Int × Int × Int × Int × Int × Int × Unit → Prop := fun (_, _, _, at', i, _, dd, k, x, y, z, q, l, m, le, nn, d, a, b, c, e, f, h, p1, p2, p3, v1, v2, v3, _) => 0 ≤ k ∧ k ≤ l.length ∧ l.length ≤ 8 ∧ 0 ≤ m ∧ m ≤ 8
def O_keptD : Unit × Unit × Unit × Int × Int × Unit × Int × Int × Int × Int × Int × List V × List V × Int × Int × Int × Int × Int × Int × Int × Int × Int × Int × Int × Int × Int × Int × Int × Int × Unit → Tree (Exit × St) := fun (_, _, _, at', i, _, dd, k, x, y, z, q, l, m, le, nn, d, a, b, c, e, f, h, p1, p2, p3, v1, v2, v3, _) => .leaf (.exit 2, L_keptD_0.st noU ((), (), (), at', i, (), kD at' (v1, v2, v3) m (l.drop k.toNat) k dd, x, y, z, q, l, m, le, nn, d, a, b, c, e, f, h, p1, p2, p3, v1, v2, v3, ()))
def R_keptD : LRun := runOf 214 L_keptD (fun x => x) (inv_keptD) (O_keptD)
theorem K_keptD : LoopOk P [] 214 none noU C_keptD (R_keptD) := by
  refine loop_of hm (cx := []) [(4, R_keptN)] (xl := X_keptD) (α := Unit × Unit × Unit × Int × Int × Unit × Int × Int × Int × Int × Int × List V × List V × Int × Int × Int × Int × Int × Int × Int × Int × Int × Int × Int × Int × Int × Int × Int × Int × Unit) (fun x => x) (fun (_, _, _, at', i, _, dd, k, x, y, z, q, l, _) => (l.length - k).toNat) (fun _ => rfl) (by kernel_rfl) (by kernel_rfl) ?_ (by kernel_rfl) ⟨K_keptN, trivial⟩ ?_
  · intro e L' h
    unfold X_keptD at h
    split at h <;> cases h <;> kernel_rfl
  · rintro ⟨⟨⟩, ⟨⟩, ⟨⟩, at', i, ⟨⟩, dd, k, x, y, z, q, l, m, le, nn, d, a, b, c, e, f, h, p1, p2, p3, v1, v2, v3, ⟨⟩⟩ hinv Q hQ
    refine hold_of_eq (B_keptD at' i dd k x y z q l m le nn d a b c e f h p1 p2 p3 v1 v2 v3) ?_

    obtain ⟨h0, h1, h2, h3, h4⟩ := hinv
    rw [W_id (n := k + 1) (by omega) (by omega)]
    unfold O_keptD at hQ
    dsimp only at hQ
    refine ⟨fun hk => ?_, fun hk => ?_⟩
    · simp only [decide_eq_true_eq] at hk
      have hm : ((l.length : Int) - (k + 1)).toNat < ((l.length : Int) - k).toNat := by omega
      rw [drop_step (0, 0, 0) h0 hk, kD] at hQ
      rw [show m + 1 - 1 = m by omega]
      exact ⟨⟨h0, hk, by decide, by show (1 : Int) ≤ m + 1; omega, h4⟩, ⟨⟨by omega, by omega, h2, h3, h4⟩, hm⟩, hQ⟩
    · simp only [decide_eq_false_iff_not] at hk
      rw [drop_end hk, kD] at hQ
      exact hQ

/-- A leg that is not allowed. -/
def badLeg (g : Goal) (last v : V) (d : Int) : Prop := d < 0 ∨ (TurnS last v).2 ≠ 0 ∨ IntKind.wrap IntKind.i64 ((TurnS last v).1.1 * g.2.2.2.1.2) > IntKind.wrap IntKind.i64 ((TurnS last v).1.2 * g.2.2.2.1.1) ∨ vdot last v ≤ 0
instance (g : Goal) (last v : V) (d : Int) : Decidable (badLeg g last v d) := by unfold badLeg; infer_instance
def keptR (g : Goal) : V → Int → List V → Bool
  | _, _, [] => true
  | last, at', v :: r => if badLeg g last v (kD at' v g.2.1 g.1 0 (-1)) then false else keptR g v (kD at' v g.2.1 g.1 0 (-1)) r
def L_kept : Lay := { slots := [(4, .ptr 5214 0), (7, .ptr 8214 0), (10, .ptr 11214 0), (11, .val tI), (12, .val tI)], boxes := [(5214, [.val tI, .val tI, .val tI, .val tVs]), (8214, bGoal), (11214, [.val tI, .val tI, .val tI])] }
def L_kept_0 : Lay := { slots := [(4, .ptr 5214 0), (7, .ptr 8214 0)], boxes := [(5214, [.val tI, .val tI, .val tI, .val tVs]), (8214, bGoal)] }
def L_kept_1 : Lay := { slots := [(8, .val tI), (9, .val .bool)] }
def X_kept : Exit → Option Lay
  | .exit 0 => some L_kept_0
  | .ret => some L_kept_1
  | _ => none
abbrev C_kept : Code := loopC (bodyOf Try.f59) 0
theorem B_kept (at' i x y z : Int) (q l : List V) (m le nn d a b c e f h p1 p2 p3 : Int) : loopBodyA (P := P) [c_Turn.gc] (lpOf [(2, R_keptD)]) [] 214 noU (inner C_kept) L_kept X_kept (α := Unit × Unit × Unit × Int × Int × Int × Int × Int × List V × List V × Int × Int × Int × Int × Int × Int × Int × Int × Int × Int × Int × Int × Int × Unit) (fun x => x) (fun x => x) ((), (), (), at', i, x, y, z, q, l, m, le, nn, d, a, b, c, e, f, h, p1, p2, p3, ()) =
  Tree.cond (decide (i < (↑(List.length q) : Int))) (Tree.need ((0 : Int) ≤ i ∧ i < (↑(List.length q) : Int)) (Tree.need (inv_keptD ((), (), (), at', i, (), (-1 : Int), (0 : Int), x, y, z, q, l, m, le, nn, d, a, b, c, e, f, h, p1, p2, p3, (List.getD q (Int.toNat i) ((0 : Int), (0 : Int), (0 : Int))).fst, (List.getD q (Int.toNat i) ((0 : Int), (0 : Int), (0 : Int))).snd.fst, (List.getD q (Int.toNat i) ((0 : Int), (0 : Int), (0 : Int))).snd.snd, ())) (Tree.cond (decide (kD at' (List.getD q (Int.toNat i) ((0 : Int), (0 : Int), (0 : Int))) m (List.drop (Int.toNat (0 : Int)) l) (0 : Int) (-1 : Int) < (0 : Int))) (Tree.leaf (Sum.inr (Exit.ret, Lay.st L_kept_1 noU ((0 : Int), false, PUnit.unit)))) (Tree.cond ((TurnS (p1, p2, p3) (List.getD q (Int.toNat i) ((0 : Int), (0 : Int), (0 : Int)))).snd != (0 : Int)) (Tree.leaf (Sum.inr (Exit.ret, Lay.st L_kept_1 noU ((0 : Int), false, PUnit.unit)))) (Tree.cond (decide (IntKind.wrap IntKind.i64 ((TurnS (p1, p2, p3) (List.getD q (Int.toNat i) ((0 : Int), (0 : Int), (0 : Int)))).fst.fst * d) > IntKind.wrap IntKind.i64 ((TurnS (p1, p2, p3) (List.getD q (Int.toNat i) ((0 : Int), (0 : Int), (0 : Int)))).fst.snd * nn))) (Tree.leaf (Sum.inr (Exit.ret, Lay.st L_kept_1 noU ((0 : Int), false, PUnit.unit)))) (Tree.cond (decide (IntKind.wrap IntKind.i64 (IntKind.wrap IntKind.i64 (IntKind.wrap IntKind.i64 (p1 * (List.getD q (Int.toNat i) ((0 : Int), (0 : Int), (0 : Int))).fst) + IntKind.wrap IntKind.i64 (p2 * (List.getD q (Int.toNat i) ((0 : Int), (0 : Int), (0 : Int))).snd.fst)) + IntKind.wrap IntKind.i64 (p3 * (List.getD q (Int.toNat i) ((0 : Int), (0 : Int), (0 : Int))).snd.snd)) ≤ (0 : Int))) (Tree.leaf (Sum.inr (Exit.ret, Lay.st L_kept_1 noU ((0 : Int), false, PUnit.unit)))) (Tree.leaf (Sum.inl (PUnit.unit, PUnit.unit, PUnit.unit, kD at' (List.getD q (Int.toNat i) ((0 : Int), (0 : Int), (0 : Int))) m (List.drop (Int.toNat (0 : Int)) l) (0 : Int) (-1 : Int), IntKind.wrap IntKind.i64 (i + (1 : Int)), x, y, z, q, l, m, le, nn, d, a, b, c, e, f, h, (List.getD q (Int.toNat i) ((0 : Int), (0 : Int), (0 : Int))).fst, (List.getD q (Int.toNat i) ((0 : Int), (0 : Int), (0 : Int))).snd.fst, (List.getD q (Int.toNat i) ((0 : Int), (0 : Int), (0 : Int))).snd.snd, PUnit.unit))))))))) (Tree.leaf (Sum.inr (Exit.exit (0 : Nat), Lay.st L_kept_0 noU (PUnit.unit, PUnit.unit, x, y, z, q, l, m, le, nn, d, a, b, c, e, f, h, PUnit.unit)))) := by kernel_rfl

def inv_kept : Unit × Unit × Unit × Int × Int × Int × Int × Int × List V × List V × Int × Int × Int × Int × Int × Int × Int × Int × Int × Int × Int × Int × Int × Unit → Prop := fun (_, _, _, at', i, x, y, z, q, l, m, le, nn, d, a, b, c, e, f, h, p1, p2, p3, _) => 0 ≤ i ∧ i ≤ q.length ∧ q.length ≤ 20 ∧ l.length ≤ 8 ∧ 0 ≤ m ∧ m ≤ 8
def O_kept : Unit × Unit × Unit × Int × Int × Int × Int × Int × List V × List V × Int × Int × Int × Int × Int × Int × Int × Int × Int × Int × Int × Int × Int × Unit → Tree (Exit × St) := fun (_, _, _, at', i, x, y, z, q, l, m, le, nn, d, a, b, c, e, f, h, p1, p2, p3, _) => .cond (keptR (gOf l m le nn d a b c e f h) (p1, p2, p3) at' (q.drop i.toNat)) (.leaf (.exit 0, L_kept_0.st noU ((), (), x, y, z, q, l, m, le, nn, d, a, b, c, e, f, h, ()))) (.leaf (.ret, L_kept_1.st noU ((0 : Int), false, ())))
def R_kept : LRun := runOf 214 L_kept (fun x => x) (inv_kept) (O_kept)
theorem K_kept : LoopOk P [] 214 none noU C_kept (R_kept) := by
  refine loop_of hm (cx := [c_Turn.gc]) [(2, R_keptD)] (xl := X_kept) (α := Unit × Unit × Unit × Int × Int × Int × Int × Int × List V × List V × Int × Int × Int × Int × Int × Int × Int × Int × Int × Int × Int × Int × Int × Unit) (fun x => x) (fun (_, _, _, at', i, x, y, z, q, _) => (q.length - i).toNat) (fun _ => rfl) (by kernel_rfl) (by kernel_rfl) ?_ (by kernel_rfl) ⟨K_keptD, trivial⟩ ?_
  · intro e L' h
    unfold X_kept at h
    split at h <;> cases h <;> kernel_rfl
  · rintro ⟨⟨⟩, ⟨⟩, ⟨⟩, at', i, x, y, z, q, l, m, le, nn, d, a, b, c, e, f, h, p1, p2, p3, ⟨⟩⟩ hinv Q hQ
    refine hold_of_eq (B_kept at' i x y z q l m le nn d a b c e f h p1 p2 p3) ?_

    obtain ⟨h0, h1, h2, h3, h4, h5⟩ := hinv
    rw [W_id (n := i + 1) (by omega) (by omega)]
    unfold O_kept at hQ
    dsimp only at hQ
    refine ⟨fun hi => ?_, fun hi => ?_⟩
    · simp only [decide_eq_true_eq] at hi
      have hm : ((q.length : Int) - (i + 1)).toNat < ((q.length : Int) - i).toNat := by omega
      rw [drop_step (0, 0, 0) h0 hi, keptR] at hQ
      generalize q.getD i.toNat (0, 0, 0) = v at *
      rw [Int.toNat_zero, List.drop_zero]
      have out : badLeg (gOf l m le nn d a b c e f h) (p1, p2, p3) v (kD at' v m l 0 (-1)) → Q (Exit.ret, L_kept_1.st noU ((0 : Int), false, ())) := fun hb => by
        rw [if_pos (show badLeg (gOf l m le nn d a b c e f h) (p1, p2, p3) v (kD at' v (gOf l m le nn d a b c e f h).2.1 (gOf l m le nn d a b c e f h).1 0 (-1)) from hb)] at hQ
        exact hQ.2 rfl
      refine ⟨⟨h0, hi⟩, ⟨by decide, by omega, h3, h4, h5⟩, fun c1 => out (.inl (of_decide_eq_true c1)), fun c1 => ⟨fun c2 => out (.inr (.inl ?_)), fun c2 => ⟨fun c3 => out (.inr (.inr (.inl (of_decide_eq_true c3)))), fun c3 => ⟨fun c4 => out (.inr (.inr (.inr (of_decide_eq_true c4)))), fun c4 => ?_⟩⟩⟩⟩
      · simpa using c2
      · simp only [bne_eq_false_iff_eq] at c2
        have nb : ¬ badLeg (gOf l m le nn d a b c e f h) (p1, p2, p3) v (kD at' v (gOf l m le nn d a b c e f h).2.1 (gOf l m le nn d a b c e f h).1 0 (-1)) := by
          rintro (hb | hb | hb | hb)
          · exact of_decide_eq_false c1 hb
          · exact hb c2
          · exact of_decide_eq_false c3 hb
          · exact of_decide_eq_false c4 hb
        rw [if_neg nb] at hQ
        exact ⟨⟨⟨by omega, by omega, h2, h3, h4, h5⟩, hm⟩, hQ⟩
    · simp only [decide_eq_false_iff_not] at hi
      rw [drop_end hi, keptR] at hQ
      exact hQ.1 rfl


def keptS (x : Pth) (o v : V) (g : Goal) : Int × Bool :=
  if checkS x ≠ 0 ∨ x.1 ≠ o ∨ x.2.length = 0 ∨ (x.2.length : Int) > g.2.2.1 then (0, false)
  else if keptR g v (-1) x.2 = false then (0, false) else (lenS x, withinS ((jl x.1 x.2).getD x.2.length (0, 0, 0)) g.2.2.2.2)
theorem T_kept (x_0 x_1 x_2 : Int) (x_3 : List V) (o_0 o_1 o_2 v_0 v_1 v_2 : Int) (g_0 : List V) (g_1 g_2 g_3 g_4 g_5 g_6 g_7 g_8 g_9 g_10 : Int) : fnTree (P := P) [c_Check.gc, c_Length.gc, c_Joints.gc] (lpOf [(0, R_kept)]) Try.f59 (encL 0 [.agg (.pair tV tVs), .agg tV, .agg tV, .agg (.pair tVs (.pair tI (.pair tI (.pair tPart (.pair tV tV)))))] (((x_0, (x_1, x_2)), x_3), (o_0, (o_1, o_2)), (v_0, (v_1, v_2)), (g_0, (g_1, (g_2, ((g_3, g_4), ((g_5, (g_6, g_7)), (g_8, (g_9, g_10))))))), ())) =
  Tree.cond (checkS ((x_0, x_1, x_2), x_3) != (0 : Int)) (Tree.leaf (SV.tup [SV.int IntKind.i64 (0 : Int), SV.bool false])) (Tree.cond (!(x_0 == o_0 && (x_1 == o_1 && (x_2 == o_2 && true)))) (Tree.leaf (SV.tup [SV.int IntKind.i64 (0 : Int), SV.bool false])) (Tree.cond ((↑(List.length x_3) : Int) == (0 : Int)) (Tree.leaf (SV.tup [SV.int IntKind.i64 (0 : Int), SV.bool false])) (Tree.cond (decide ((↑(List.length x_3) : Int) > g_2)) (Tree.leaf (SV.tup [SV.int IntKind.i64 (0 : Int), SV.bool false])) (Tree.need (inv_kept ((), (), (), (-1 : Int), (0 : Int), x_0, x_1, x_2, x_3, g_0, g_1, g_2, g_3, g_4, g_5, g_6, g_7, g_8, g_9, g_10, v_0, v_1, v_2, ())) (Tree.cond (keptR (gOf g_0 g_1 g_2 g_3 g_4 g_5 g_6 g_7 g_8 g_9 g_10) (v_0, v_1, v_2) (-1 : Int) (List.drop (Int.toNat (0 : Int)) x_3)) (Tree.cond ((↑(List.length (jointsS ((x_0, x_1, x_2), x_3))) : Int) == (0 : Int)) (Tree.leaf (SV.tup [SV.int IntKind.i64 (0 : Int), SV.bool false])) (Tree.need ((0 : Int) ≤ IntKind.wrap IntKind.i64 ((↑(List.length (jointsS ((x_0, x_1, x_2), x_3))) : Int) - (1 : Int)) ∧ IntKind.wrap IntKind.i64 ((↑(List.length (jointsS ((x_0, x_1, x_2), x_3))) : Int) - (1 : Int)) < (↑(List.length (jointsS ((x_0, x_1, x_2), x_3))) : Int)) (Tree.cond (decide (g_5 ≤ (List.getD (jointsS ((x_0, x_1, x_2), x_3)) (Int.toNat (IntKind.wrap IntKind.i64 ((↑(List.length (jointsS ((x_0, x_1, x_2), x_3))) : Int) - (1 : Int)))) ((0 : Int), (0 : Int), (0 : Int))).fst)) (Tree.cond (decide ((List.getD (jointsS ((x_0, x_1, x_2), x_3)) (Int.toNat (IntKind.wrap IntKind.i64 ((↑(List.length (jointsS ((x_0, x_1, x_2), x_3))) : Int) - (1 : Int)))) ((0 : Int), (0 : Int), (0 : Int))).fst ≤ g_8)) (Tree.cond (decide (g_6 ≤ (List.getD (jointsS ((x_0, x_1, x_2), x_3)) (Int.toNat (IntKind.wrap IntKind.i64 ((↑(List.length (jointsS ((x_0, x_1, x_2), x_3))) : Int) - (1 : Int)))) ((0 : Int), (0 : Int), (0 : Int))).snd.fst)) (Tree.cond (decide ((List.getD (jointsS ((x_0, x_1, x_2), x_3)) (Int.toNat (IntKind.wrap IntKind.i64 ((↑(List.length (jointsS ((x_0, x_1, x_2), x_3))) : Int) - (1 : Int)))) ((0 : Int), (0 : Int), (0 : Int))).snd.fst ≤ g_9)) (Tree.cond (decide (g_7 ≤ (List.getD (jointsS ((x_0, x_1, x_2), x_3)) (Int.toNat (IntKind.wrap IntKind.i64 ((↑(List.length (jointsS ((x_0, x_1, x_2), x_3))) : Int) - (1 : Int)))) ((0 : Int), (0 : Int), (0 : Int))).snd.snd)) (Tree.leaf (SV.tup [SV.int IntKind.i64 (lenS ((x_0, x_1, x_2), x_3)), SV.bool (decide ((List.getD (jointsS ((x_0, x_1, x_2), x_3)) (Int.toNat (IntKind.wrap IntKind.i64 ((↑(List.length (jointsS ((x_0, x_1, x_2), x_3))) : Int) - (1 : Int)))) ((0 : Int), (0 : Int), (0 : Int))).snd.snd ≤ g_10))])) (Tree.leaf (SV.tup [SV.int IntKind.i64 (lenS ((x_0, x_1, x_2), x_3)), SV.bool false]))) (Tree.leaf (SV.tup [SV.int IntKind.i64 (lenS ((x_0, x_1, x_2), x_3)), SV.bool false]))) (Tree.leaf (SV.tup [SV.int IntKind.i64 (lenS ((x_0, x_1, x_2), x_3)), SV.bool false]))) (Tree.leaf (SV.tup [SV.int IntKind.i64 (lenS ((x_0, x_1, x_2), x_3)), SV.bool false]))) (Tree.leaf (SV.tup [SV.int IntKind.i64 (lenS ((x_0, x_1, x_2), x_3)), SV.bool false]))))) (Tree.leaf (SV.tup [SV.int IntKind.i64 (0 : Int), SV.bool false]))))))) := by kernel_rfl

def c_kept : PC P := PC.of (α := (V × List V) × V × V × (List V × (Int × (Int × ((Int × Int) × (V × V))))) × Unit) 59 [.agg (.pair tV tVs), .agg tV, .agg tV, .agg (.pair tVs (.pair tI (.pair tI (.pair tPart (.pair tV tV)))))] (fun x => x) (fun x => x) (fun _ => rfl)
  (fun x => some (x.2.2.2.1.1.length ≤ 8 ∧ 0 ≤ x.2.2.2.1.2.1 ∧ x.2.2.2.1.2.1 ≤ 8))
  (fun x => .tup [.int .i64 (keptS x.1 x.2.1 x.2.2.1 x.2.2.2.1).1, .bool (keptS x.1 x.2.1 x.2.2.1 x.2.2.2.1).2]) (by kernel_rfl) (by
    rintro ⟨⟨⟨x_0, ⟨x_1, x_2⟩⟩, x_3⟩, ⟨o_0, ⟨o_1, o_2⟩⟩, ⟨v_0, ⟨v_1, v_2⟩⟩, ⟨g_0, ⟨g_1, ⟨g_2, ⟨⟨g_3, g_4⟩, ⟨⟨g_5, ⟨g_6, g_7⟩⟩, ⟨g_8, ⟨g_9, g_10⟩⟩⟩⟩⟩⟩⟩, ⟨⟩⟩ hp
    refine fn_of hm (by kernel_rfl) (by kernel_rfl) (T_kept x_0 x_1 x_2 x_3 o_0 o_1 o_2 v_0 v_1 v_2 g_0 g_1 g_2 g_3 g_4 g_5 g_6 g_7 g_8 g_9 g_10) ⟨K_kept, trivial⟩ ?_

    try dsimp only at hp
    dsimp only
    obtain ⟨h1, h2, h3⟩ := hp
    unfold keptS
    dsimp only
    refine ⟨fun c1 => ?_, fun c1 => ⟨fun c2 => ?_, fun c2 => ⟨fun c3 => ?_, fun c3 => ⟨fun c4 => ?_, fun c4 => ⟨?_, ⟨fun c5 => ⟨fun c6 => ?_, fun c6 => ⟨?_, ?_⟩⟩, fun c5 => ?_⟩⟩⟩⟩⟩⟩
    all_goals simp only [bne_iff_ne, ne_eq, bne_eq_false_iff_eq, Bool.not_eq_true', Bool.not_eq_false', decide_eq_true_eq, decide_eq_false_iff_not, beq_iff_eq, beq_eq_false_iff_ne, gt_iff_lt, Int.toNat_zero, List.drop_zero] at *
    · rw [if_pos (Or.inl c1)]; exact rfl
    · rw [if_pos (Or.inr (Or.inl fun e => ?_))]
      · exact rfl
      · cases e; simp at c2
    · rw [if_pos (Or.inr (Or.inr (Or.inl (by omega))))]; exact rfl
    · rw [if_pos (Or.inr (Or.inr (Or.inr c4)))]; exact rfl
    · exact ⟨by decide, by show (0 : Int) ≤ x_3.length; omega, checkS_len c1, h1, h2, h3⟩
    all_goals
      have c2' : ((x_0, x_1, x_2) : V) = (o_0, o_1, o_2) := by
        simp only [Bool.and_true, Bool.and_eq_true, beq_iff_eq] at c2
        rw [c2.1, c2.2.1, c2.2.2]
      try rw [if_neg (by
        rintro (h | h | h | h)
        · exact h c1
        · exact h c2'
        · omega
        · omega)]
    · unfold jointsS at c6
      rw [if_pos c1, jl_length] at c6
      simp at c6
      omega
    · unfold jointsS
      rw [if_pos c1, jl_length]
      dsimp only
      have := checkS_len c1
      dsimp only at this
      rw [W_id (by omega) (by omega)]
      omega
    · have hl : Int.toNat (IntKind.wrap IntKind.i64 ((((jl (x_0, x_1, x_2) x_3).length : Nat) : Int) - 1)) = x_3.length := by
        have := checkS_len c1
        dsimp only at this
        rw [jl_length, W_id (by omega) (by omega)]
        omega
      have e : keptR (g_0, g_1, g_2, (g_3, g_4), (g_5, g_6, g_7), g_8, g_9, g_10) (v_0, v_1, v_2) (-1) x_3 = true := c5
      rw [if_neg (by rw [e]; decide)]
      unfold jointsS
      rw [if_pos c1]
      dsimp only
      rw [hl]
      generalize (jl (x_0, x_1, x_2) x_3).getD x_3.length (0, 0, 0) = w
      unfold withinS
      dsimp only
      refine ⟨fun c7 => ⟨fun c8 => ⟨fun c9 => ⟨fun c10 => ⟨fun c11 => ?_, fun c11 => ?_⟩, fun c10 => ?_⟩, fun c9 => ?_⟩, fun c8 => ?_⟩, fun c7 => ?_⟩
      all_goals simp only [decide_eq_true_eq, decide_eq_false_iff_not] at *
      · rw [show decide (g_5 ≤ w.1 ∧ w.1 ≤ g_8 ∧ g_6 ≤ w.2.1 ∧ w.2.1 ≤ g_9 ∧ g_7 ≤ w.2.2 ∧ w.2.2 ≤ g_10) = decide (w.2.2 ≤ g_10) from decide_eq_decide.2 ⟨fun h => h.2.2.2.2.2, fun h => ⟨c7, c8, c9, c10, c11, h⟩⟩]
        exact rfl
      all_goals
        rw [decide_eq_false (p := g_5 ≤ w.1 ∧ w.1 ≤ g_8 ∧ g_6 ≤ w.2.1 ∧ w.2.1 ≤ g_9 ∧ g_7 ≤ w.2.2 ∧ w.2.2 ≤ g_10) (by omega)]
        exact rfl
    · have e : keptR (g_0, g_1, g_2, (g_3, g_4), (g_5, g_6, g_7), g_8, g_9, g_10) (v_0, v_1, v_2) (-1) x_3 = false := c5
      rw [if_pos e]
      exact rfl)

end
end Go.MP
