/- Rigs: the reference's Check. -/
import Derived.Test.YtmolckndbmjgfaaMrC
namespace Go.MR
open Go Go.Sx Go.Proofs
set_option linter.unusedVariables false
set_option linter.unusedSimpArgs false
noncomputable section
theorem anyP_step {l : List Int} {i : Int} (h0 : 0 ≤ i) (h : i < l.length) : (l.drop i.toNat).any badP = (badP (l.getD i.toNat 0) || (l.drop (i + 1).toNat).any badP) := by
  rw [drop_step (0 : Int) h0 h, List.any_cons]
theorem badP_iff (n : Int) : badP n = true ↔ n < 2 ∨ n > 8 := by
  unfold badP wi
  simp only [Bool.not_eq_true', Bool.and_eq_false_iff, decide_eq_false_iff_not]
  omega
def L_rCheckP : Lay := { slots := [(1, .ptr 2113 0), (3, .val tI)], boxes := [(2113, [.val tIs, .val (.sl (.pair tI (.pair tI (.pair tI tV))))])] }
def L_rCheckP_0 : Lay := { slots := [(2, .val tI)] }
def L_rCheckP_1 : Lay := { slots := [(1, .ptr 2113 0)], boxes := [(2113, [.val tIs, .val (.sl (.pair tI (.pair tI (.pair tI tV))))])] }
def X_rCheckP : Exit → St → Option Lay
  | .ret, _ => some L_rCheckP_0
  | .exit 0, _ => some L_rCheckP_1
  | _, _ => none
abbrev C_rCheckP : Code := loopC (bodyOf Try.f30) 0
theorem B_rCheckP (i : Int) (ps : List Int) (bs : List (Int × (Int × (Int × V)))) : loopBodyA (P := P) [] (lpOf []) [] 113 noU (inner C_rCheckP) L_rCheckP X_rCheckP (α := Unit × Int × List Int × List (Int × (Int × (Int × V))) × Unit) (fun x => x) (fun x => x) ((), i, ps, bs, ()) =
  Tree.cond (decide (i < (↑(List.length ps) : Int))) (Tree.need ((0 : Int) ≤ i ∧ i < (↑(List.length ps) : Int)) (Tree.cond (decide (List.getD ps (Int.toNat i) (0 : Int) < (2 : Int))) (Tree.leaf (Sum.inr (Exit.ret, Lay.st L_rCheckP_0 noU ((2 : Int), PUnit.unit)))) (Tree.need ((0 : Int) ≤ i ∧ i < (↑(List.length ps) : Int)) (Tree.cond (decide (List.getD ps (Int.toNat i) (0 : Int) > (8 : Int))) (Tree.leaf (Sum.inr (Exit.ret, Lay.st L_rCheckP_0 noU ((2 : Int), PUnit.unit)))) (Tree.leaf (Sum.inl (PUnit.unit, IntKind.wrap IntKind.i64 (i + (1 : Int)), ps, bs, PUnit.unit))))))) (Tree.leaf (Sum.inr (Exit.exit (0 : Nat), Lay.st L_rCheckP_1 noU (PUnit.unit, ps, bs, PUnit.unit)))) := by kernel_rfl
def inv_rCheckP : Unit × Int × List Int × List (Int × (Int × (Int × V))) × Unit → Prop := fun ((), i, ps, bs, ()) => 0 ≤ i ∧ i ≤ ps.length ∧ (ps.length : Int) ≤ 1000
def O_rCheckP : Unit × Int × List Int × List (Int × (Int × (Int × V))) × Unit → Tree (Exit × St) := fun ((), i, ps, bs, ()) => .cond ((ps.drop i.toNat).any badP) (.leaf (.ret, L_rCheckP_0.st noU (((2 : Int)), ()))) (.leaf (.exit 0, L_rCheckP_1.st noU ((), ps, bs, ())))
def R_rCheckP : LRun := runOf 113 L_rCheckP (fun x => x) (inv_rCheckP) (O_rCheckP)
theorem K_rCheckP : LoopOk P [] 113 none noU C_rCheckP (R_rCheckP) := by
  refine loop_of hm (cx := []) [] (xl := X_rCheckP) (α := Unit × Int × List Int × List (Int × (Int × (Int × V))) × Unit) (fun x => x) (fun ((), i, ps, bs, ()) => (ps.length - i).toNat) (fun _ => rfl) (by kernel_rfl) (by kernel_rfl) ?_ (by kernel_rfl) trivial ?_
  · intro e S L' h
    unfold X_rCheckP at h
    split at h <;> first | (cases h; done) | (cases h; kernel_rfl) | (rcases bif_some h with h | h <;> cases h <;> kernel_rfl)
  · rintro ⟨⟨⟩, i, ps, bs, ⟨⟩⟩ hinv Q hQ
    refine hold_of_eq (B_rCheckP i ps bs) ?_
    obtain ⟨h0, h1, h2⟩ := hinv
    rw [W_id (n := i + 1) (by omega) (by omega)]
    unfold O_rCheckP at hQ
    dsimp only at hQ
    refine ⟨fun c1 => ?_, fun c1 => ?_⟩
    · simp only [decide_eq_true_eq] at c1
      have hm : ((ps.length : Int) - (i + 1)).toNat < ((ps.length : Int) - i).toNat := by omega
      rw [anyP_step h0 c1] at hQ
      have hb := badP_iff (ps.getD i.toNat 0)
      generalize ps.getD i.toNat 0 = p at *
      refine ⟨⟨h0, c1⟩, fun c2 => ?_, fun c2 => ⟨⟨h0, c1⟩, fun c3 => ?_, fun c3 => ?_⟩⟩
      · have d2 := of_decide_eq_true c2
        rw [hb.2 (by omega), Bool.true_or] at hQ
        exact hQ.1 rfl
      · have d3 := of_decide_eq_true c3
        rw [hb.2 (by omega), Bool.true_or] at hQ
        exact hQ.1 rfl
      · have d2 := of_decide_eq_false c2
        have d3 := of_decide_eq_false c3
        have hf : badP p = false := by
          cases h : badP p with
          | false => rfl
          | true => have := hb.1 h; omega
        rw [hf, Bool.false_or] at hQ
        exact ⟨⟨⟨by omega, by omega, h2⟩, hm⟩, hQ⟩
    · simp only [decide_eq_false_iff_not] at c1
      rw [drop_end c1] at hQ
      exact hQ.2 rfl
def L_rCheckB : Lay := { slots := [(1, .ptr 2113 0), (4, .val tI)], boxes := [(2113, [.val tIs, .val (.sl (.pair tI (.pair tI (.pair tI tV))))])] }
def L_rCheckB_0 : Lay := { slots := [(2, .val tI)] }
def L_rCheckB_1 : Lay := { slots := [] }
def X_rCheckB : Exit → St → Option Lay
  | .ret, _ => some L_rCheckB_0
  | .exit 2, _ => some L_rCheckB_1
  | _, _ => none
abbrev C_rCheckB : Code := loopC (bodyOf Try.f30) 2
theorem B_rCheckB (i : Int) (ps : List Int) (bs : List (Int × (Int × (Int × V)))) : loopBodyA (P := P) [] (lpOf []) [] 113 noU (inner C_rCheckB) L_rCheckB X_rCheckB (α := Unit × Int × List Int × List (Int × (Int × (Int × V))) × Unit) (fun x => x) (fun x => x) ((), i, ps, bs, ()) =
  Tree.cond (decide (i < (↑(List.length bs) : Int))) (Tree.need ((0 : Int) ≤ i ∧ i < (↑(List.length bs) : Int)) (Tree.cond (decide ((List.getD bs (Int.toNat i) ((0 : Int), (0 : Int), (0 : Int), (0 : Int), (0 : Int), (0 : Int))).fst < (0 : Int))) (Tree.leaf (Sum.inr (Exit.ret, Lay.st L_rCheckB_0 noU ((11 : Int), PUnit.unit)))) (Tree.cond (decide ((List.getD bs (Int.toNat i) ((0 : Int), (0 : Int), (0 : Int), (0 : Int), (0 : Int), (0 : Int))).fst ≥ (List.getD bs (Int.toNat i) ((0 : Int), (0 : Int), (0 : Int), (0 : Int), (0 : Int), (0 : Int))).snd.snd.snd.fst)) (Tree.leaf (Sum.inr (Exit.ret, Lay.st L_rCheckB_0 noU ((11 : Int), PUnit.unit)))) (Tree.cond (decide ((List.getD bs (Int.toNat i) ((0 : Int), (0 : Int), (0 : Int), (0 : Int), (0 : Int), (0 : Int))).snd.snd.snd.fst ≥ (↑(List.length ps) : Int))) (Tree.leaf (Sum.inr (Exit.ret, Lay.st L_rCheckB_0 noU ((11 : Int), PUnit.unit)))) (Tree.cond (decide ((List.getD bs (Int.toNat i) ((0 : Int), (0 : Int), (0 : Int), (0 : Int), (0 : Int), (0 : Int))).snd.fst < (0 : Int))) (Tree.leaf (Sum.inr (Exit.ret, Lay.st L_rCheckB_0 noU ((2 : Int), PUnit.unit)))) (Tree.cond (decide ((List.getD bs (Int.toNat i) ((0 : Int), (0 : Int), (0 : Int), (0 : Int), (0 : Int), (0 : Int))).snd.fst > (List.getD bs (Int.toNat i) ((0 : Int), (0 : Int), (0 : Int), (0 : Int), (0 : Int), (0 : Int))).snd.snd.fst)) (Tree.leaf (Sum.inr (Exit.ret, Lay.st L_rCheckB_0 noU ((2 : Int), PUnit.unit)))) (Tree.need ((0 : Int) ≤ (List.getD bs (Int.toNat i) ((0 : Int), (0 : Int), (0 : Int), (0 : Int), (0 : Int), (0 : Int))).fst ∧ (List.getD bs (Int.toNat i) ((0 : Int), (0 : Int), (0 : Int), (0 : Int), (0 : Int), (0 : Int))).fst < (↑(List.length ps) : Int)) (Tree.cond (decide ((List.getD bs (Int.toNat i) ((0 : Int), (0 : Int), (0 : Int), (0 : Int), (0 : Int), (0 : Int))).snd.snd.fst ≥ List.getD ps (Int.toNat (List.getD bs (Int.toNat i) ((0 : Int), (0 : Int), (0 : Int), (0 : Int), (0 : Int), (0 : Int))).fst) (0 : Int))) (Tree.leaf (Sum.inr (Exit.ret, Lay.st L_rCheckB_0 noU ((2 : Int), PUnit.unit)))) (Tree.cond (decide ((List.getD bs (Int.toNat i) ((0 : Int), (0 : Int), (0 : Int), (0 : Int), (0 : Int), (0 : Int))).snd.snd.snd.snd.fst < (0 : Int))) (Tree.leaf (Sum.inr (Exit.ret, Lay.st L_rCheckB_0 noU ((2 : Int), PUnit.unit)))) (Tree.cond (decide ((List.getD bs (Int.toNat i) ((0 : Int), (0 : Int), (0 : Int), (0 : Int), (0 : Int), (0 : Int))).snd.snd.snd.snd.fst > (List.getD bs (Int.toNat i) ((0 : Int), (0 : Int), (0 : Int), (0 : Int), (0 : Int), (0 : Int))).snd.snd.snd.snd.snd)) (Tree.leaf (Sum.inr (Exit.ret, Lay.st L_rCheckB_0 noU ((2 : Int), PUnit.unit)))) (Tree.need ((0 : Int) ≤ (List.getD bs (Int.toNat i) ((0 : Int), (0 : Int), (0 : Int), (0 : Int), (0 : Int), (0 : Int))).snd.snd.snd.fst ∧ (List.getD bs (Int.toNat i) ((0 : Int), (0 : Int), (0 : Int), (0 : Int), (0 : Int), (0 : Int))).snd.snd.snd.fst < (↑(List.length ps) : Int)) (Tree.cond (decide ((List.getD bs (Int.toNat i) ((0 : Int), (0 : Int), (0 : Int), (0 : Int), (0 : Int), (0 : Int))).snd.snd.snd.snd.snd ≥ List.getD ps (Int.toNat (List.getD bs (Int.toNat i) ((0 : Int), (0 : Int), (0 : Int), (0 : Int), (0 : Int), (0 : Int))).snd.snd.snd.fst) (0 : Int))) (Tree.leaf (Sum.inr (Exit.ret, Lay.st L_rCheckB_0 noU ((2 : Int), PUnit.unit)))) (Tree.leaf (Sum.inl (PUnit.unit, IntKind.wrap IntKind.i64 (i + (1 : Int)), ps, bs, PUnit.unit))))))))))))))) (Tree.leaf (Sum.inr (Exit.exit (2 : Nat), Lay.st L_rCheckB_1 noU PUnit.unit))) := by kernel_rfl
def inv_rCheckB : Unit × Int × List Int × List (Int × (Int × (Int × V))) × Unit → Prop := fun ((), i, ps, bs, ()) => 0 ≤ i ∧ i ≤ bs.length ∧ (bs.length : Int) ≤ 1000
def O_rCheckB : Unit × Int × List Int × List (Int × (Int × (Int × V))) × Unit → Tree (Exit × St) := fun ((), i, ps, bs, ()) => .cond (decide (banEs ps (bs.drop i.toNat) = 0)) (.leaf (.exit 2, L_rCheckB_1.st noU ())) (.leaf (.ret, L_rCheckB_0.st noU ((banEs ps (bs.drop i.toNat)), ())))
def R_rCheckB : LRun := runOf 113 L_rCheckB (fun x => x) (inv_rCheckB) (O_rCheckB)
theorem K_rCheckB : LoopOk P [] 113 none noU C_rCheckB (R_rCheckB) := by
  refine loop_of hm (cx := []) [] (xl := X_rCheckB) (α := Unit × Int × List Int × List (Int × (Int × (Int × V))) × Unit) (fun x => x) (fun ((), i, ps, bs, ()) => (bs.length - i).toNat) (fun _ => rfl) (by kernel_rfl) (by kernel_rfl) ?_ (by kernel_rfl) trivial ?_
  · intro e S L' h
    unfold X_rCheckB at h
    split at h <;> first | (cases h; done) | (cases h; kernel_rfl) | (rcases bif_some h with h | h <;> cases h <;> kernel_rfl)
  · rintro ⟨⟨⟩, i, ps, bs, ⟨⟩⟩ hinv Q hQ
    refine hold_of_eq (B_rCheckB i ps bs) ?_
    obtain ⟨h0, h1, h2⟩ := hinv
    rw [W_id (n := i + 1) (by omega) (by omega)]
    unfold O_rCheckB at hQ
    dsimp only at hQ
    refine ⟨fun c1 => ?_, fun c1 => ?_⟩
    · simp only [decide_eq_true_eq] at c1
      have hm : ((bs.length : Int) - (i + 1)).toNat < ((bs.length : Int) - i).toNat := by omega
      have e := banEs_step (ps := ps) h0 c1
      generalize bs.getD i.toNat ((0, 0, 0, 0, 0, 0) : Ban) = b at *
      rw [e] at hQ
      have bad : ∀ k : Int, k ≠ 0 → banE ps b = k → Q (.ret, L_rCheckB_0.st noU (k, ())) := fun k hk hb => by
        rw [hb, if_pos hk] at hQ
        exact hQ.2 (decide_eq_false hk)
      refine ⟨⟨h0, c1⟩, fun c2 => ?_, fun c2 => ⟨fun c3 => ?_, fun c3 => ⟨fun c4 => ?_, fun c4 => ?_⟩⟩⟩
      · have := of_decide_eq_true c2
        exact bad 11 (by decide) (by unfold banE; rw [if_pos (by omega)])
      · have := of_decide_eq_true c3
        exact bad 11 (by decide) (by unfold banE; rw [if_pos (by omega)])
      · have := of_decide_eq_true c4
        exact bad 11 (by decide) (by unfold banE; rw [if_pos (by omega)])
      have d2 := of_decide_eq_false c2
      have d3 := of_decide_eq_false c3
      have d4 := of_decide_eq_false c4
      refine ⟨fun c5 => ?_, fun c5 => ⟨fun c6 => ?_, fun c6 => ⟨⟨by omega, by omega⟩, fun c7 => ?_, fun c7 => ⟨fun c8 => ?_, fun c8 => ⟨fun c9 => ?_, fun c9 => ⟨⟨by omega, by omega⟩, fun c10 => ?_, fun c10 => ?_⟩⟩⟩⟩⟩⟩
      · have := of_decide_eq_true c5
        exact bad 2 (by decide) (by unfold banE; rw [if_neg (by omega), if_pos (by omega)])
      · have := of_decide_eq_true c6
        exact bad 2 (by decide) (by unfold banE; rw [if_neg (by omega), if_pos (by omega)])
      · have := of_decide_eq_true c7
        exact bad 2 (by decide) (by unfold banE; rw [if_neg (by omega), if_pos (by omega)])
      · have := of_decide_eq_true c8
        exact bad 2 (by decide) (by unfold banE; rw [if_neg (by omega), if_pos (by omega)])
      · have := of_decide_eq_true c9
        exact bad 2 (by decide) (by unfold banE; rw [if_neg (by omega), if_pos (by omega)])
      · have := of_decide_eq_true c10
        exact bad 2 (by decide) (by unfold banE; rw [if_neg (by omega), if_pos (by omega)])
      · have d5 := of_decide_eq_false c5
        have d6 := of_decide_eq_false c6
        have d7 := of_decide_eq_false c7
        have d8 := of_decide_eq_false c8
        have d9 := of_decide_eq_false c9
        have d10 := of_decide_eq_false c10
        have hb : banE ps b = 0 := by unfold banE; rw [if_neg (by omega), if_neg (by omega)]
        rw [hb, if_neg (by decide)] at hQ
        exact ⟨⟨⟨by omega, by omega, h2⟩, hm⟩, hQ⟩
    · simp only [decide_eq_false_iff_not] at c1
      rw [drop_end c1, banEs_nil] at hQ
      exact hQ.1 rfl
theorem T_rCheck (s0_0 : List Int) (s0_1 : List (Int × (Int × (Int × V)))) : fnTree (P := P) [] (lpOf [(0, R_rCheckP), (2, R_rCheckB)]) Try.f30 (encL 0 [.agg (.pair tIs (.sl (.pair tI (.pair tI (.pair tI tV)))))] ((s0_0, s0_1), ())) =
  Tree.cond (decide ((↑(List.length s0_0) : Int) < (2 : Int))) (Tree.leaf (SV.int IntKind.i64 (6 : Int))) (Tree.cond (decide ((↑(List.length s0_0) : Int) > (4 : Int))) (Tree.leaf (SV.int IntKind.i64 (8 : Int))) (Tree.need (inv_rCheckP ((), (0 : Int), s0_0, s0_1, ())) (Tree.cond (List.any (List.drop (Int.toNat (0 : Int)) s0_0) badP) (Tree.leaf (SV.int IntKind.i64 (2 : Int))) (Tree.cond (decide ((↑(List.length s0_1) : Int) > (24 : Int))) (Tree.leaf (SV.int IntKind.i64 (8 : Int))) (Tree.need (inv_rCheckB ((), (0 : Int), s0_0, s0_1, ())) (Tree.cond (decide (banEs s0_0 (List.drop (Int.toNat (0 : Int)) s0_1) = (0 : Int))) (Tree.leaf (SV.int IntKind.i64 (0 : Int))) (Tree.leaf (SV.int IntKind.i64 (banEs s0_0 (List.drop (Int.toNat (0 : Int)) s0_1)))))))))) := by kernel_rfl
def c_rCheck : PC P := PC.of (α := (List Int × List (Int × (Int × (Int × V)))) × Unit) 30 [.agg (.pair tIs (.sl (.pair tI (.pair tI (.pair tI tV)))))] (fun x => x) (fun x => x) (fun _ => rfl)
  (fun _ => none)
  (fun x => .int .i64 (checkS x.1)) (by kernel_rfl) (by
    rintro ⟨⟨s0_0, s0_1⟩, ⟨⟩⟩ hp
    refine fn_of hm (by kernel_rfl) (by kernel_rfl) (T_rCheck s0_0 s0_1) ⟨K_rCheckP, K_rCheckB, trivial⟩ ?_
    try dsimp only at hp
    try dsimp only
    refine ⟨fun c1 => ?_, fun c1 => ⟨fun c2 => ?_, fun c2 => ⟨?_, fun c3 => ?_, fun c3 => ⟨fun c4 => ?_, fun c4 => ⟨?_, fun c5 => ?_, fun c5 => ?_⟩⟩⟩⟩⟩
    · have d1 := of_decide_eq_true c1
      exact congrArg (SV.int .i64) (by unfold checkS; rw [if_pos d1])
    · have d1 := of_decide_eq_false c1
      have d2 := of_decide_eq_true c2
      exact congrArg (SV.int .i64) (by unfold checkS; rw [if_neg d1, if_pos d2])
    · have d2 := of_decide_eq_false c2
      exact ⟨by decide, by omega, by omega⟩
    · have d1 := of_decide_eq_false c1
      have d2 := of_decide_eq_false c2
      exact congrArg (SV.int .i64) (by unfold checkS; rw [if_neg d1, if_neg d2, if_pos (show s0_0.any badP = true from c3)])
    · have d1 := of_decide_eq_false c1
      have d2 := of_decide_eq_false c2
      have d4 := of_decide_eq_true c4
      exact congrArg (SV.int .i64) (by unfold checkS; rw [if_neg d1, if_neg d2, if_neg (by rw [show s0_0.any badP = false from c3]; simp), if_pos d4])
    · have d4 := of_decide_eq_false c4
      exact ⟨by decide, by omega, by omega⟩
    · have d1 := of_decide_eq_false c1
      have d2 := of_decide_eq_false c2
      have d4 := of_decide_eq_false c4
      have d5 : banEs s0_0 s0_1 = 0 := of_decide_eq_true c5
      exact congrArg (SV.int .i64) (by unfold checkS; rw [if_neg d1, if_neg d2, if_neg (by rw [show s0_0.any badP = false from c3]; simp), if_neg d4]; exact d5.symm)
    · have d1 := of_decide_eq_false c1
      have d2 := of_decide_eq_false c2
      have d4 := of_decide_eq_false c4
      exact congrArg (SV.int .i64) (by unfold checkS; rw [if_neg d1, if_neg d2, if_neg (by rw [show s0_0.any badP = false from c3]; simp), if_neg d4]; rfl))
end
end Go.MR
