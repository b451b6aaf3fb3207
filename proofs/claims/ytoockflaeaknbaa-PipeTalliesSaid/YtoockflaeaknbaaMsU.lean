/- Equal strings, in general. -/
import Derived.Test.YtoockflaeaknbaaMsT
namespace Go.MP
open Go Go.Sx Go.Proofs
set_option linter.unusedVariables false
set_option linter.unusedSimpArgs false
noncomputable section
def eqTb (x y : Tb) : Bool := x.1 == y.1 && (x.2.1 == y.2.1 && (x.2.2.1 == y.2.2.1 && (x.2.2.2.1 == y.2.2.2.1 && (x.2.2.2.2.1 == y.2.2.2.2.1 && (x.2.2.2.2.2.1 == y.2.2.2.2.2.1 && (x.2.2.2.2.2.2.1 == y.2.2.2.2.2.2.1 && (x.2.2.2.2.2.2.2.1 == y.2.2.2.2.2.2.2.1 && (x.2.2.2.2.2.2.2.2 == y.2.2.2.2.2.2.2.2 && true))))))))
def eqTs : List Tb → List Tb → Bool
  | [], [] => true
  | x :: a, y :: b => eqTb x y && eqTs a b
  | [], _ :: _ => false
  | _ :: _, [] => false
theorem eqTs_len : ∀ {a b : List Tb}, eqTs a b = true → a.length = b.length
  | [], [], _ => rfl
  | x :: a, y :: b, h => by
    have h : (eqTb x y && eqTs a b) = true := h
    rw [Bool.and_eq_true] at h
    rw [List.length_cons, List.length_cons, eqTs_len h.2]
  | [], _ :: _, h => by cases h
  | _ :: _, [], h => by cases h
theorem eqTs_step {a b : List Tb} {i : Int} (h0 : 0 ≤ i) (ha : i < a.length) (hb : i < b.length) : eqTs (a.drop i.toNat) (b.drop i.toNat) = (eqTb (a.getD i.toNat zT) (b.getD i.toNat zT) && eqTs (a.drop (i + 1).toNat) (b.drop (i + 1).toNat)) := by
  rw [drop_step zT h0 ha, drop_step zT h0 hb]; rfl
theorem eqTs_end {a b : List Tb} {i : Int} (ha : ¬ i < a.length) (hb : a.length = b.length) (h0 : 0 ≤ i) : eqTs (a.drop i.toNat) (b.drop i.toNat) = true := by
  rw [drop_end ha, drop_end (by omega)]; rfl
def L_EqTL : Lay := { slots := [(0, .val tTs), (1, .val tTs), (12, .val tI), (13, .val tI)] }
def L_EqTL_0 : Lay := { slots := [(4, .val .bool)] }
def L_EqTL_1 : Lay := { slots := [] }
def X_EqTL : Exit → St → Option Lay
  | .ret, _ => some L_EqTL_0
  | .exit 0, _ => some L_EqTL_1
  | _, _ => none
abbrev C_EqTL : Code := loopC (bodyOf Try.f93) 0
theorem B_EqTL (a b : List Tb) (n i : Int) : loopBodyA (P := P) [] (lpOf []) [] 26 noU (inner C_EqTL) L_EqTL X_EqTL (α := List Tb × List Tb × Int × Int × Unit) (fun x => x) (fun x => x) (a, b, n, i, ()) =
  Tree.cond (decide (i < n)) (Tree.need ((0 : Int) ≤ i ∧ i < (↑(List.length a) : Int)) (Tree.need ((0 : Int) ≤ i ∧ i < (↑(List.length b) : Int)) (Tree.cond (!((List.getD a (Int.toNat i) ((0 : Int), (0 : Int), (0 : Int), (0 : Int), (0 : Int), (0 : Int), (0 : Int), (0 : Int), (0 : Int))).fst == (List.getD b (Int.toNat i) ((0 : Int), (0 : Int), (0 : Int), (0 : Int), (0 : Int), (0 : Int), (0 : Int), (0 : Int), (0 : Int))).fst && ((List.getD a (Int.toNat i) ((0 : Int), (0 : Int), (0 : Int), (0 : Int), (0 : Int), (0 : Int), (0 : Int), (0 : Int), (0 : Int))).snd.fst == (List.getD b (Int.toNat i) ((0 : Int), (0 : Int), (0 : Int), (0 : Int), (0 : Int), (0 : Int), (0 : Int), (0 : Int), (0 : Int))).snd.fst && ((List.getD a (Int.toNat i) ((0 : Int), (0 : Int), (0 : Int), (0 : Int), (0 : Int), (0 : Int), (0 : Int), (0 : Int), (0 : Int))).snd.snd.fst == (List.getD b (Int.toNat i) ((0 : Int), (0 : Int), (0 : Int), (0 : Int), (0 : Int), (0 : Int), (0 : Int), (0 : Int), (0 : Int))).snd.snd.fst && ((List.getD a (Int.toNat i) ((0 : Int), (0 : Int), (0 : Int), (0 : Int), (0 : Int), (0 : Int), (0 : Int), (0 : Int), (0 : Int))).snd.snd.snd.fst == (List.getD b (Int.toNat i) ((0 : Int), (0 : Int), (0 : Int), (0 : Int), (0 : Int), (0 : Int), (0 : Int), (0 : Int), (0 : Int))).snd.snd.snd.fst && ((List.getD a (Int.toNat i) ((0 : Int), (0 : Int), (0 : Int), (0 : Int), (0 : Int), (0 : Int), (0 : Int), (0 : Int), (0 : Int))).snd.snd.snd.snd.fst == (List.getD b (Int.toNat i) ((0 : Int), (0 : Int), (0 : Int), (0 : Int), (0 : Int), (0 : Int), (0 : Int), (0 : Int), (0 : Int))).snd.snd.snd.snd.fst && ((List.getD a (Int.toNat i) ((0 : Int), (0 : Int), (0 : Int), (0 : Int), (0 : Int), (0 : Int), (0 : Int), (0 : Int), (0 : Int))).snd.snd.snd.snd.snd.fst == (List.getD b (Int.toNat i) ((0 : Int), (0 : Int), (0 : Int), (0 : Int), (0 : Int), (0 : Int), (0 : Int), (0 : Int), (0 : Int))).snd.snd.snd.snd.snd.fst && ((List.getD a (Int.toNat i) ((0 : Int), (0 : Int), (0 : Int), (0 : Int), (0 : Int), (0 : Int), (0 : Int), (0 : Int), (0 : Int))).snd.snd.snd.snd.snd.snd.fst == (List.getD b (Int.toNat i) ((0 : Int), (0 : Int), (0 : Int), (0 : Int), (0 : Int), (0 : Int), (0 : Int), (0 : Int), (0 : Int))).snd.snd.snd.snd.snd.snd.fst && ((List.getD a (Int.toNat i) ((0 : Int), (0 : Int), (0 : Int), (0 : Int), (0 : Int), (0 : Int), (0 : Int), (0 : Int), (0 : Int))).snd.snd.snd.snd.snd.snd.snd.fst == (List.getD b (Int.toNat i) ((0 : Int), (0 : Int), (0 : Int), (0 : Int), (0 : Int), (0 : Int), (0 : Int), (0 : Int), (0 : Int))).snd.snd.snd.snd.snd.snd.snd.fst && ((List.getD a (Int.toNat i) ((0 : Int), (0 : Int), (0 : Int), (0 : Int), (0 : Int), (0 : Int), (0 : Int), (0 : Int), (0 : Int))).snd.snd.snd.snd.snd.snd.snd.snd == (List.getD b (Int.toNat i) ((0 : Int), (0 : Int), (0 : Int), (0 : Int), (0 : Int), (0 : Int), (0 : Int), (0 : Int), (0 : Int))).snd.snd.snd.snd.snd.snd.snd.snd && true)))))))))) (Tree.leaf (Sum.inr (Exit.ret, Lay.st L_EqTL_0 noU (false, PUnit.unit)))) (Tree.leaf (Sum.inl (a, b, n, IntKind.wrap IntKind.i64 (i + (1 : Int)), PUnit.unit)))))) (Tree.leaf (Sum.inr (Exit.exit (0 : Nat), Lay.st L_EqTL_1 noU PUnit.unit))) := by kernel_rfl
def inv_EqTL : List Tb × List Tb × Int × Int × Unit → Prop := fun (a, b, n, i, ()) => n = a.length ∧ 0 ≤ i ∧ i ≤ n ∧ a.length = b.length ∧ (a.length : Int) < 2 ^ 62
def O_EqTL : List Tb × List Tb × Int × Int × Unit → Tree (Exit × St) := fun (a, b, n, i, ()) => .cond (eqTs (a.drop i.toNat) (b.drop i.toNat)) (.leaf (.exit 0, L_EqTL_1.st noU ())) (.leaf (.ret, L_EqTL_0.st noU ((false), ())))
def R_EqTL : LRun := runOf 26 L_EqTL (fun x => x) (inv_EqTL) (O_EqTL)
theorem K_EqTL : LoopOk P [] 26 none noU C_EqTL (R_EqTL) := by
  refine loop_of hm (cx := []) [] (xl := X_EqTL) (α := List Tb × List Tb × Int × Int × Unit) (fun x => x) (fun (a, b, n, i, ()) => (n - i).toNat) (fun _ => rfl) (by kernel_rfl) (by kernel_rfl) ?_ (by kernel_rfl) trivial ?_
  · intro e S L' h
    unfold X_EqTL at h
    split at h <;> first | (cases h; done) | (cases h; kernel_rfl) | (rcases bif_some h with h | h <;> cases h <;> kernel_rfl)
  · rintro ⟨a, b, n, i, ⟨⟩⟩ hinv Q hQ
    refine hold_of_eq (B_EqTL a b n i) ?_
    obtain ⟨rfl, h0, h1, h2, h3⟩ := hinv
    rw [W_id (n := i + 1) (by omega) (by omega)]
    unfold O_EqTL at hQ
    dsimp only at hQ
    refine ⟨fun c1 => ?_, fun c1 => ?_⟩
    · have c1 := of_decide_eq_true c1
      rw [eqTs_step h0 c1 (by omega)] at hQ
      refine ⟨⟨h0, c1⟩, ⟨h0, by omega⟩, fun d => ?_, fun d => ?_⟩
      · have d : (!eqTb (a.getD i.toNat zT) (b.getD i.toNat zT)) = true := d
        rw [Bool.not_eq_true'] at d
        rw [d] at hQ
        exact hQ.2 rfl
      · have d : (!eqTb (a.getD i.toNat zT) (b.getD i.toNat zT)) = false := d
        rw [Bool.not_eq_false'] at d
        rw [d] at hQ
        exact ⟨⟨⟨rfl, by omega, by omega, h2, h3⟩, by show ((a.length : Int) - (i + 1)).toNat < ((a.length : Int) - i).toNat; omega⟩, hQ⟩
    · have c1 := of_decide_eq_false c1
      rw [eqTs_end c1 h2 h0] at hQ
      exact hQ.1 rfl
theorem T_EqT (a b : List Tb) : fnTree (P := P) [] (lpOf [(0, R_EqTL)]) Try.f93 (encL 0 [.val tTs, .val tTs] (a, b, ())) =
  Tree.cond ((↑(List.length a) : Int) != (↑(List.length b) : Int)) (Tree.leaf (SV.bool false)) (Tree.need (inv_EqTL (a, b, (↑(List.length a) : Int), (0 : Int), ())) (Tree.cond (eqTs (List.drop (Int.toNat (0 : Int)) a) (List.drop (Int.toNat (0 : Int)) b)) (Tree.leaf (SV.bool true)) (Tree.leaf (SV.bool false)))) := by kernel_rfl
def c_EqT : PC P := PC.of (α := List Tb × List Tb × Unit) 93 [.val tTs, .val tTs] (fun x => x) (fun x => x) (fun _ => rfl)
  (fun x => some ((x.1.length : Int) < 2 ^ 62 ∧ (x.2.1.length : Int) < 2 ^ 62))
  (fun x => .bool (eqTs x.1 x.2.1)) (by kernel_rfl) (by
    rintro ⟨a, b, ⟨⟩⟩ hp
    refine fn_of hm (by kernel_rfl) (by kernel_rfl) (T_EqT a b) ⟨K_EqTL, trivial⟩ ?_
    try dsimp only at hp
    try dsimp only
    have hl : (a.length : Int) < 2 ^ 62 ∧ (b.length : Int) < 2 ^ 62 := hp
    refine ⟨fun c1 => ?_, fun c1 => ?_⟩
    · have c1 : a.length ≠ b.length := by
        have c1 : (a.length : Int) ≠ b.length := by simpa using c1
        omega
      have e : eqTs a b = false := by
        rw [← Bool.not_eq_true]
        exact fun h => c1 (eqTs_len h)
      rw [e]; exact rfl
    · have c1 : (a.length : Int) = b.length := by simpa using c1
      refine ⟨⟨rfl, by decide, by omega, by omega, hl.1⟩, fun c2 => ?_, fun c2 => ?_⟩
      · rw [show eqTs a b = true from c2]; exact rfl
      · rw [show eqTs a b = false from c2]; exact rfl)
theorem T_pSame (l_0 m_0 : List Tb) : fnTree (P := P) [c_EqT.gc] (lpOf []) Try.f54 (encL 0 [.agg tTs, .agg tTs] (l_0, m_0, ())) =
  Tree.need ((↑(List.length l_0) : Int) < (2 : Int) ^ (62 : Nat) ∧ (↑(List.length m_0) : Int) < (2 : Int) ^ (62 : Nat)) (Tree.leaf (SV.bool (eqTs l_0 m_0))) := by kernel_rfl
def c_pSame : PC P := PC.of (α := List Tb × List Tb × Unit) 54 [.agg tTs, .agg tTs] (fun x => x) (fun x => x) (fun _ => rfl)
  (fun x => some ((x.1.length : Int) < 2 ^ 62 ∧ (x.2.1.length : Int) < 2 ^ 62))
  (fun x => .bool (eqTs x.1 x.2.1)) (by kernel_rfl) (by
    rintro ⟨l_0, m_0, ⟨⟩⟩ hp
    refine fn_of hm (by kernel_rfl) (by kernel_rfl) (T_pSame l_0 m_0) trivial ?_
    try dsimp only at hp
    try dsimp only
    exact ⟨hp, rfl⟩)
def L_rSmL : Lay := { slots := [(2, .ptr 3031 0), (3, .ptr 4031 0), (5, .val tI)], boxes := [(3031, [.val tTs]), (4031, [.val tTs])] }
def L_rSmL_0 : Lay := { slots := [(4, .val .bool)] }
def L_rSmL_1 : Lay := { slots := [] }
def X_rSmL : Exit → St → Option Lay
  | .ret, _ => some L_rSmL_0
  | .exit 0, _ => some L_rSmL_1
  | _, _ => none
abbrev C_rSmL : Code := loopC (bodyOf Try.f46) 0
theorem B_rSmL (i : Int) (a_0 b_0 : List Tb) : loopBodyA (P := P) [] (lpOf []) [] 31 noU (inner C_rSmL) L_rSmL X_rSmL (α := Unit × Unit × Int × List Tb × List Tb × Unit) (fun x => x) (fun x => x) ((), (), i, a_0, b_0, ()) =
  Tree.cond (decide (i < (↑(List.length a_0) : Int))) (Tree.need ((0 : Int) ≤ i ∧ i < (↑(List.length a_0) : Int)) (Tree.need ((0 : Int) ≤ i ∧ i < (↑(List.length b_0) : Int)) (Tree.cond (!((List.getD a_0 (Int.toNat i) ((0 : Int), (0 : Int), (0 : Int), (0 : Int), (0 : Int), (0 : Int), (0 : Int), (0 : Int), (0 : Int))).fst == (List.getD b_0 (Int.toNat i) ((0 : Int), (0 : Int), (0 : Int), (0 : Int), (0 : Int), (0 : Int), (0 : Int), (0 : Int), (0 : Int))).fst && ((List.getD a_0 (Int.toNat i) ((0 : Int), (0 : Int), (0 : Int), (0 : Int), (0 : Int), (0 : Int), (0 : Int), (0 : Int), (0 : Int))).snd.fst == (List.getD b_0 (Int.toNat i) ((0 : Int), (0 : Int), (0 : Int), (0 : Int), (0 : Int), (0 : Int), (0 : Int), (0 : Int), (0 : Int))).snd.fst && ((List.getD a_0 (Int.toNat i) ((0 : Int), (0 : Int), (0 : Int), (0 : Int), (0 : Int), (0 : Int), (0 : Int), (0 : Int), (0 : Int))).snd.snd.fst == (List.getD b_0 (Int.toNat i) ((0 : Int), (0 : Int), (0 : Int), (0 : Int), (0 : Int), (0 : Int), (0 : Int), (0 : Int), (0 : Int))).snd.snd.fst && ((List.getD a_0 (Int.toNat i) ((0 : Int), (0 : Int), (0 : Int), (0 : Int), (0 : Int), (0 : Int), (0 : Int), (0 : Int), (0 : Int))).snd.snd.snd.fst == (List.getD b_0 (Int.toNat i) ((0 : Int), (0 : Int), (0 : Int), (0 : Int), (0 : Int), (0 : Int), (0 : Int), (0 : Int), (0 : Int))).snd.snd.snd.fst && ((List.getD a_0 (Int.toNat i) ((0 : Int), (0 : Int), (0 : Int), (0 : Int), (0 : Int), (0 : Int), (0 : Int), (0 : Int), (0 : Int))).snd.snd.snd.snd.fst == (List.getD b_0 (Int.toNat i) ((0 : Int), (0 : Int), (0 : Int), (0 : Int), (0 : Int), (0 : Int), (0 : Int), (0 : Int), (0 : Int))).snd.snd.snd.snd.fst && ((List.getD a_0 (Int.toNat i) ((0 : Int), (0 : Int), (0 : Int), (0 : Int), (0 : Int), (0 : Int), (0 : Int), (0 : Int), (0 : Int))).snd.snd.snd.snd.snd.fst == (List.getD b_0 (Int.toNat i) ((0 : Int), (0 : Int), (0 : Int), (0 : Int), (0 : Int), (0 : Int), (0 : Int), (0 : Int), (0 : Int))).snd.snd.snd.snd.snd.fst && ((List.getD a_0 (Int.toNat i) ((0 : Int), (0 : Int), (0 : Int), (0 : Int), (0 : Int), (0 : Int), (0 : Int), (0 : Int), (0 : Int))).snd.snd.snd.snd.snd.snd.fst == (List.getD b_0 (Int.toNat i) ((0 : Int), (0 : Int), (0 : Int), (0 : Int), (0 : Int), (0 : Int), (0 : Int), (0 : Int), (0 : Int))).snd.snd.snd.snd.snd.snd.fst && ((List.getD a_0 (Int.toNat i) ((0 : Int), (0 : Int), (0 : Int), (0 : Int), (0 : Int), (0 : Int), (0 : Int), (0 : Int), (0 : Int))).snd.snd.snd.snd.snd.snd.snd.fst == (List.getD b_0 (Int.toNat i) ((0 : Int), (0 : Int), (0 : Int), (0 : Int), (0 : Int), (0 : Int), (0 : Int), (0 : Int), (0 : Int))).snd.snd.snd.snd.snd.snd.snd.fst && ((List.getD a_0 (Int.toNat i) ((0 : Int), (0 : Int), (0 : Int), (0 : Int), (0 : Int), (0 : Int), (0 : Int), (0 : Int), (0 : Int))).snd.snd.snd.snd.snd.snd.snd.snd == (List.getD b_0 (Int.toNat i) ((0 : Int), (0 : Int), (0 : Int), (0 : Int), (0 : Int), (0 : Int), (0 : Int), (0 : Int), (0 : Int))).snd.snd.snd.snd.snd.snd.snd.snd && true)))))))))) (Tree.leaf (Sum.inr (Exit.ret, Lay.st L_rSmL_0 noU (false, PUnit.unit)))) (Tree.leaf (Sum.inl (PUnit.unit, PUnit.unit, IntKind.wrap IntKind.i64 (i + (1 : Int)), a_0, b_0, PUnit.unit)))))) (Tree.leaf (Sum.inr (Exit.exit (0 : Nat), Lay.st L_rSmL_1 noU PUnit.unit))) := by kernel_rfl
def inv_rSmL : Unit × Unit × Int × List Tb × List Tb × Unit → Prop := fun ((), (), i, a_0, b_0, ()) => 0 ≤ i ∧ i ≤ a_0.length ∧ a_0.length = b_0.length ∧ (a_0.length : Int) < 2 ^ 62
def O_rSmL : Unit × Unit × Int × List Tb × List Tb × Unit → Tree (Exit × St) := fun ((), (), i, a_0, b_0, ()) => .cond (eqTs (a_0.drop i.toNat) (b_0.drop i.toNat)) (.leaf (.exit 0, L_rSmL_1.st noU ())) (.leaf (.ret, L_rSmL_0.st noU ((false), ())))
def R_rSmL : LRun := runOf 31 L_rSmL (fun x => x) (inv_rSmL) (O_rSmL)
theorem K_rSmL : LoopOk P [] 31 none noU C_rSmL (R_rSmL) := by
  refine loop_of hm (cx := []) [] (xl := X_rSmL) (α := Unit × Unit × Int × List Tb × List Tb × Unit) (fun x => x) (fun ((), (), i, a_0, b_0, ()) => (a_0.length - i).toNat) (fun _ => rfl) (by kernel_rfl) (by kernel_rfl) ?_ (by kernel_rfl) trivial ?_
  · intro e S L' h
    unfold X_rSmL at h
    split at h <;> first | (cases h; done) | (cases h; kernel_rfl) | (rcases bif_some h with h | h <;> cases h <;> kernel_rfl)
  · rintro ⟨⟨⟩, ⟨⟩, i, a_0, b_0, ⟨⟩⟩ hinv Q hQ
    refine hold_of_eq (B_rSmL i a_0 b_0) ?_
    obtain ⟨h0, h1, h2, h3⟩ := hinv
    rw [W_id (n := i + 1) (by omega) (by omega)]
    unfold O_rSmL at hQ
    dsimp only at hQ
    refine ⟨fun c1 => ?_, fun c1 => ?_⟩
    · have c1 := of_decide_eq_true c1
      rw [eqTs_step h0 c1 (by omega)] at hQ
      refine ⟨⟨h0, c1⟩, ⟨h0, by omega⟩, fun d => ?_, fun d => ?_⟩
      · have d : (!eqTb (a_0.getD i.toNat zT) (b_0.getD i.toNat zT)) = true := d
        rw [Bool.not_eq_true'] at d
        rw [d] at hQ
        exact hQ.2 rfl
      · have d : (!eqTb (a_0.getD i.toNat zT) (b_0.getD i.toNat zT)) = false := d
        rw [Bool.not_eq_false'] at d
        rw [d] at hQ
        exact ⟨⟨⟨by omega, by omega, h2, h3⟩, by show ((a_0.length : Int) - (i + 1)).toNat < ((a_0.length : Int) - i).toNat; omega⟩, hQ⟩
    · have c1 := of_decide_eq_false c1
      rw [eqTs_end c1 h2 h0] at hQ
      exact hQ.1 rfl
theorem T_rSameG (l_0 m_0 : List Tb) : fnTree (P := P) [] (lpOf [(0, R_rSmL)]) Try.f46 (encL 0 [.agg tTs, .agg tTs] (l_0, m_0, ())) =
  Tree.cond ((↑(List.length l_0) : Int) != (↑(List.length m_0) : Int)) (Tree.leaf (SV.bool false)) (Tree.need (inv_rSmL ((), (), (0 : Int), l_0, m_0, ())) (Tree.cond (eqTs (List.drop (Int.toNat (0 : Int)) l_0) (List.drop (Int.toNat (0 : Int)) m_0)) (Tree.leaf (SV.bool true)) (Tree.leaf (SV.bool false)))) := by kernel_rfl
def c_rSameG : PC P := PC.of (α := List Tb × List Tb × Unit) 46 [.agg tTs, .agg tTs] (fun x => x) (fun x => x) (fun _ => rfl)
  (fun x => some ((x.1.length : Int) < 2 ^ 62 ∧ (x.2.1.length : Int) < 2 ^ 62))
  (fun x => .bool (eqTs x.1 x.2.1)) (by kernel_rfl) (by
    rintro ⟨l_0, m_0, ⟨⟩⟩ hp
    refine fn_of hm (by kernel_rfl) (by kernel_rfl) (T_rSameG l_0 m_0) ⟨K_rSmL, trivial⟩ ?_
    try dsimp only at hp
    try dsimp only
    have hl : (l_0.length : Int) < 2 ^ 62 ∧ (m_0.length : Int) < 2 ^ 62 := hp
    refine ⟨fun c1 => ?_, fun c1 => ?_⟩
    · have c1 : l_0.length ≠ m_0.length := by
        have c1 : (l_0.length : Int) ≠ m_0.length := by simpa using c1
        omega
      have e : eqTs l_0 m_0 = false := by
        rw [← Bool.not_eq_true]
        exact fun h => c1 (eqTs_len h)
      rw [e]; exact rfl
    · have c1 : (l_0.length : Int) = m_0.length := by simpa using c1
      refine ⟨⟨by decide, by omega, by omega, hl.1⟩, fun c2 => ?_, fun c2 => ?_⟩
      · rw [show eqTs l_0 m_0 = true from c2]; exact rfl
      · rw [show eqTs l_0 m_0 = false from c2]; exact rfl)
end
end Go.MP
