/- The reference's check of a path, its length, its joints. -/
import Derived.Test.YtmolckndbmjgfaaMwG
namespace Go.MP
open Go Go.Sx Go.Proofs
set_option linter.unusedVariables false
set_option linter.unusedSimpArgs false
noncomputable section
def L_rCheck : Lay := { slots := [(1, .ptr 2063 0), (3, .ptr 4063 0), (4, .val tI)], boxes := [(2063, [.val tI, .val tI, .val tI, .val tVs]), (4063, [.val tI, .val tI, .val tI])] }
def L_rCheck_0 : Lay := { slots := [] }
def L_rCheck_1 : Lay := { slots := [(2, .val tI)] }
def X_rCheck : Exit → St → Option Lay
  | .exit 0, _ => some L_rCheck_0
  | .ret, _ => some L_rCheck_1
  | _, _ => none
abbrev C_rCheck : Code := loopC (bodyOf Try.f99) 0
theorem B_rCheck (i : Int) (x y z : Int) (l : List V) (a b c : Int) : loopBodyA (P := P) [c_rwhole.gc, c_rlong.gc, c_rDot.gc, c_rPlus.gc, c_rplace.gc] (lpOf []) [] 63 noU (inner C_rCheck) L_rCheck X_rCheck (α := Unit × Unit × Int × Int × Int × Int × List V × Int × Int × Int × Unit) (fun x => x) (fun x => x) ((), (), i, x, y, z, l, a, b, c, ()) =
  Tree.cond (decide (i < (↑(List.length l) : Int))) (Tree.need ((0 : Int) ≤ i ∧ i < (↑(List.length l) : Int)) (Tree.cond (!(wholeS (List.getD l (Int.toNat i) ((0 : Int), (0 : Int), (0 : Int)))).snd) (Tree.leaf (Sum.inr (Exit.ret, Lay.st L_rCheck_1 noU ((3 : Int), PUnit.unit)))) (Tree.cond (!(longS (List.getD l (Int.toNat i) ((0 : Int), (0 : Int), (0 : Int)))).snd) (Tree.leaf (Sum.inr (Exit.ret, Lay.st L_rCheck_1 noU ((2 : Int), PUnit.unit)))) (Tree.cond (decide ((longS (List.getD l (Int.toNat i) ((0 : Int), (0 : Int), (0 : Int)))).fst < (100 : Int))) (Tree.leaf (Sum.inr (Exit.ret, Lay.st L_rCheck_1 noU ((2 : Int), PUnit.unit)))) (Tree.cond (decide (i > (0 : Int))) (Tree.need ((0 : Int) ≤ IntKind.wrap IntKind.i64 (i - (1 : Int)) ∧ IntKind.wrap IntKind.i64 (i - (1 : Int)) < (↑(List.length l) : Int)) (Tree.cond (decide (vdot (List.getD l (Int.toNat (IntKind.wrap IntKind.i64 (i - (1 : Int)))) ((0 : Int), (0 : Int), (0 : Int))) (List.getD l (Int.toNat i) ((0 : Int), (0 : Int), (0 : Int))) ≤ (0 : Int))) (Tree.leaf (Sum.inr (Exit.ret, Lay.st L_rCheck_1 noU ((12 : Int), PUnit.unit)))) (Tree.cond (!validS (vadd (a, b, c) (List.getD l (Int.toNat i) ((0 : Int), (0 : Int), (0 : Int))))) (Tree.leaf (Sum.inr (Exit.ret, Lay.st L_rCheck_1 noU ((2 : Int), PUnit.unit)))) (Tree.leaf (Sum.inl (PUnit.unit, PUnit.unit, IntKind.wrap IntKind.i64 (i + (1 : Int)), x, y, z, l, (vadd (a, b, c) (List.getD l (Int.toNat i) ((0 : Int), (0 : Int), (0 : Int)))).fst, (vadd (a, b, c) (List.getD l (Int.toNat i) ((0 : Int), (0 : Int), (0 : Int)))).snd.fst, (vadd (a, b, c) (List.getD l (Int.toNat i) ((0 : Int), (0 : Int), (0 : Int)))).snd.snd, PUnit.unit)))))) (Tree.cond (!validS (vadd (a, b, c) (List.getD l (Int.toNat i) ((0 : Int), (0 : Int), (0 : Int))))) (Tree.leaf (Sum.inr (Exit.ret, Lay.st L_rCheck_1 noU ((2 : Int), PUnit.unit)))) (Tree.leaf (Sum.inl (PUnit.unit, PUnit.unit, IntKind.wrap IntKind.i64 (i + (1 : Int)), x, y, z, l, (vadd (a, b, c) (List.getD l (Int.toNat i) ((0 : Int), (0 : Int), (0 : Int)))).fst, (vadd (a, b, c) (List.getD l (Int.toNat i) ((0 : Int), (0 : Int), (0 : Int)))).snd.fst, (vadd (a, b, c) (List.getD l (Int.toNat i) ((0 : Int), (0 : Int), (0 : Int)))).snd.snd, PUnit.unit))))))))) (Tree.leaf (Sum.inr (Exit.exit (0 : Nat), Lay.st L_rCheck_0 noU PUnit.unit))) := by kernel_rfl
def inv_rCheck : Unit × Unit × Int × Int × Int × Int × List V × Int × Int × Int × Unit → Prop := fun (_, _, i, _, _, _, l, _) => 0 ≤ i ∧ i ≤ l.length ∧ l.length ≤ 20
def O_rCheck : Unit × Unit × Int × Int × Int × Int × List V × Int × Int × Int × Unit → Tree (Exit × St) := fun (_, _, i, _, _, _, l, a, b, c, _) => .cond (decide (checkL (a, b, c) (prevOf l i) (l.drop i.toNat) = 0)) (.leaf (.exit 0, L_rCheck_0.st noU ())) (.leaf (.ret, L_rCheck_1.st noU (checkL (a, b, c) (prevOf l i) (l.drop i.toNat), ())))
def R_rCheck : LRun := runOf 63 L_rCheck (fun x => x) (inv_rCheck) (O_rCheck)
theorem K_rCheck : LoopOk P [] 63 none noU C_rCheck (R_rCheck) := by
  refine loop_of hm (cx := [c_rwhole.gc, c_rlong.gc, c_rDot.gc, c_rPlus.gc, c_rplace.gc]) [] (xl := X_rCheck) (α := Unit × Unit × Int × Int × Int × Int × List V × Int × Int × Int × Unit) (fun x => x) (fun (_, _, i, _, _, _, l, _) => (l.length - i).toNat) (fun _ => rfl) (by kernel_rfl) (by kernel_rfl) ?_ (by kernel_rfl) trivial ?_
  · intro e S L' h
    unfold X_rCheck at h
    split at h <;> first | (cases h; done) | (cases h; kernel_rfl) | (rcases bif_some h with h | h <;> cases h <;> kernel_rfl)
  · rintro ⟨⟨⟩, ⟨⟩, i, x, y, z, l, a, b, c, ⟨⟩⟩ hinv Q hQ
    refine hold_of_eq (B_rCheck i x y z l a b c) ?_
    obtain ⟨h0, h1, hlen⟩ := hinv
    rw [W_id (n := i - 1) (by omega) (by omega), W_id (n := i + 1) (by omega) (by omega)]
    unfold O_rCheck at hQ
    dsimp only at hQ
    refine ⟨fun hi => ?_, fun hi => ?_⟩
    · simp only [decide_eq_true_eq] at hi
      have hi' : i.toNat < l.length := by omega
      have hnext : prevOf l (i + 1) = some (l.getD i.toNat (0, 0, 0)) := by
        unfold prevOf
        rw [if_pos (by omega), show i + 1 - 1 = i by omega]
      rw [drop_step (0, 0, 0) h0 hi, checkL_cons, ← hnext] at hQ
      generalize l.getD i.toNat (0, 0, 0) = u at *
      have tail : ∀ {C : Int}, C = (if validS (vadd (a, b, c) u) = false then (2 : Int) else checkL (vadd (a, b, c) u) (prevOf l (i + 1)) (List.drop (i + 1).toNat l)) →
          (Tree.cond (decide (C = 0)) (.leaf (.exit 0, L_rCheck_0.st noU ())) (.leaf (.ret, L_rCheck_1.st noU (C, ())))).holds Q →
          (Tree.cond (!validS (vadd (a, b, c) u)) (Tree.leaf (Sum.inr (Exit.ret, Lay.st L_rCheck_1 noU ((2 : Int), PUnit.unit)))) (Tree.leaf (Sum.inl (PUnit.unit, PUnit.unit, i + 1, x, y, z, l, (vadd (a, b, c) u).fst, (vadd (a, b, c) u).snd.fst, (vadd (a, b, c) u).snd.snd, PUnit.unit)))).holds (roundB inv_rCheck (fun (_, _, i, _, _, _, l, _) => (l.length - i).toNat) O_rCheck Q ((), (), i, x, y, z, l, a, b, c, ())) := by
        intro C hC hQ
        refine ⟨fun hv => ?_, fun hv => ?_⟩
        · simp only [Bool.not_eq_true'] at hv
          rw [if_pos hv] at hC
          subst hC
          exact hQ.2 (by decide)
        · simp only [Bool.not_eq_false'] at hv
          rw [if_neg (by simp [hv])] at hC
          subst hC
          exact ⟨⟨⟨by omega, by omega, hlen⟩, by show ((l.length : Int) - (i + 1)).toNat < ((l.length : Int) - i).toNat; omega⟩, hQ⟩
      refine ⟨⟨h0, hi⟩, fun hw => ?_, fun hw => ?_⟩
      · simp only [Bool.not_eq_true'] at hw
        rw [if_pos hw] at hQ
        exact hQ.2 (by decide)
      simp only [Bool.not_eq_false'] at hw
      obtain ⟨g1, g2⟩ := long_ok hw
      rw [if_neg (by simp [hw])] at hQ
      refine ⟨fun h2 => ?_, fun h2 => ?_⟩
      · simp only [Bool.not_eq_true', g1, decide_eq_false_iff_not] at h2
        rw [if_pos (by omega)] at hQ
        exact hQ.2 (by decide)
      simp only [Bool.not_eq_false'] at h2
      have h2' := h2
      rw [g1] at h2'
      simp only [decide_eq_true_eq] at h2'
      rw [g2 h2]
      refine ⟨fun h3 => ?_, fun h3 => ⟨fun h4 => ⟨by simp at h4; omega, fun h5 => ?_, fun h5 => ?_⟩, fun h4 => ?_⟩⟩
      · simp only [decide_eq_true_eq] at h3
        rw [if_pos (.inl h3)] at hQ
        exact hQ.2 (by decide)
      · simp only [decide_eq_true_eq, decide_eq_false_iff_not] at h3 h4
        have e : prevOf l i = some (l.getD (i - 1).toNat (0, 0, 0)) := if_pos h4
        rw [if_neg (by omega), if_pos (by rw [e]; exact h5)] at hQ
        exact hQ.2 (by decide)
      · simp only [decide_eq_true_eq, decide_eq_false_iff_not] at h3 h4
        have e : prevOf l i = some (l.getD (i - 1).toNat (0, 0, 0)) := if_pos h4
        rw [if_neg (by omega), if_neg (by rw [e]; simp only [clashS, h5]; decide)] at hQ
        exact tail rfl hQ
      · simp only [decide_eq_true_eq, decide_eq_false_iff_not] at h3 h4
        have e : prevOf l i = none := if_neg h4
        rw [if_neg (by omega), if_neg (by rw [e]; simp [clashS])] at hQ
        exact tail rfl hQ
    · simp only [decide_eq_false_iff_not] at hi
      rw [drop_end hi] at hQ
      exact hQ.1 rfl
theorem T_rCheck (x y z : Int) (l : List V) : fnTree (P := P) [c_rplace.gc] (lpOf [(0, R_rCheck)]) Try.f99 (encL 0 [.agg tPath] (((x, y, z), l), ())) =
  Tree.cond (decide ((↑(List.length l) : Int) > (20 : Int))) (Tree.leaf (SV.int IntKind.i64 (5 : Int))) (Tree.cond (!validS (x, y, z)) (Tree.leaf (SV.int IntKind.i64 (2 : Int))) (Tree.need (inv_rCheck ((), (), (0 : Int), x, y, z, l, x, y, z, ())) (Tree.cond (decide (checkL (x, y, z) (prevOf l (0 : Int)) (List.drop (Int.toNat (0 : Int)) l) = (0 : Int))) (Tree.leaf (SV.int IntKind.i64 (0 : Int))) (Tree.leaf (SV.int IntKind.i64 (checkL (x, y, z) (prevOf l (0 : Int)) (List.drop (Int.toNat (0 : Int)) l))))))) := by kernel_rfl
def c_rCheck : PC P := PC.of (α := Pth × Unit) 99 [.agg tPath] (fun x => x) (fun x => x) (fun _ => rfl)
  (fun _ => none)
  (fun x => .int .i64 (checkS x.1)) (by kernel_rfl) (by
    rintro ⟨⟨⟨x, y, z⟩, l⟩, ⟨⟩⟩ hp
    refine fn_of hm (by kernel_rfl) (by kernel_rfl) (T_rCheck x y z l) ⟨K_rCheck, trivial⟩ ?_
    show Tree.holds (fun s => s = SV.int .i64 (checkS ((x, y, z), l))) _
    unfold checkS
    dsimp only
    refine ⟨fun h => ?_, fun h => ⟨fun h2 => ?_, fun h2 => ⟨?_, fun h3 => ?_, fun h3 => ?_⟩⟩⟩
    all_goals simp only [decide_eq_true_eq, decide_eq_false_iff_not, Bool.not_eq_true', Bool.not_eq_false'] at *
    · show SV.int _ _ = _
      rw [if_pos (by omega)]
    · show SV.int _ _ = _
      rw [if_neg (by omega), if_pos h2]
    · exact ⟨by omega, by omega, by omega⟩
    · show SV.int _ _ = _
      rw [if_neg (by omega), if_neg (by simp [h2])]
      exact congrArg _ h3.symm
    · show SV.int _ _ = _
      rw [if_neg (by omega), if_neg (by simp [h2])]
      rfl)
end
end Go.MP
