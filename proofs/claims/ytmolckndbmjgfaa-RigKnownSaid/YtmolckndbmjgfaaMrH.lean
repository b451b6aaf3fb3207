/- Rigs: the reference's banned. -/
import Derived.Test.YtmolckndbmjgfaaMrG
namespace Go.MR
open Go Go.Sx Go.Proofs
set_option linter.unusedVariables false
set_option linter.unusedSimpArgs false
noncomputable section
def hitP (s t : List Int) (b : Ban) : Bool := hitS b s t
def L_bannedL : Lay := { slots := [(1, .val tIs), (2, .val tIs), (3, .ptr 4024 0), (7, .val tI)], boxes := [(4024, [.val tIs, .val (.sl (.pair tI (.pair tI (.pair tI tV))))])] }
def L_bannedL_0 : Lay := { slots := [(6, .val tI)] }
def L_bannedL_1 : Lay := { slots := [] }
def X_bannedL : Exit → St → Option Lay
  | .ret, _ => some L_bannedL_0
  | .exit 0, _ => some L_bannedL_1
  | _, _ => none
abbrev C_bannedL : Code := loopC (bodyOf Try.f79) 0
theorem B_bannedL (s t : List Int) (i : Int) (ps : List Int) (bs : List (Int × (Int × (Int × V)))) : loopBodyA (P := P) [c_hits.gc] (lpOf []) [] 24 noU (inner C_bannedL) L_bannedL X_bannedL (α := List Int × List Int × Unit × Int × List Int × List (Int × (Int × (Int × V))) × Unit) (fun x => x) (fun x => x) (s, t, (), i, ps, bs, ()) =
  Tree.cond (decide (i < (↑(List.length bs) : Int))) (Tree.need ((0 : Int) ≤ i ∧ i < (↑(List.length bs) : Int)) (Tree.need (okB (List.length s) (List.getD bs (Int.toNat i) ((0 : Int), (0 : Int), (0 : Int), (0 : Int), (0 : Int), (0 : Int))) ∧ okB (List.length t) (List.getD bs (Int.toNat i) ((0 : Int), (0 : Int), (0 : Int), (0 : Int), (0 : Int), (0 : Int)))) (Tree.cond (hitS (List.getD bs (Int.toNat i) ((0 : Int), (0 : Int), (0 : Int), (0 : Int), (0 : Int), (0 : Int))) s t) (Tree.leaf (Sum.inr (Exit.ret, Lay.st L_bannedL_0 noU (i, PUnit.unit)))) (Tree.leaf (Sum.inl (s, t, PUnit.unit, IntKind.wrap IntKind.i64 (i + (1 : Int)), ps, bs, PUnit.unit)))))) (Tree.leaf (Sum.inr (Exit.exit (0 : Nat), Lay.st L_bannedL_1 noU PUnit.unit))) := by kernel_rfl
def inv_bannedL : List Int × List Int × Unit × Int × List Int × List (Int × (Int × (Int × V))) × Unit → Prop := fun (s, t, (), i, ps, bs, ()) => 0 ≤ i ∧ i ≤ bs.length ∧ (bs.length : Int) ≤ 1000 ∧ ∀ b ∈ bs, okB s.length b ∧ okB t.length b
def O_bannedL : List Int × List Int × Unit × Int × List Int × List (Int × (Int × (Int × V))) × Unit → Tree (Exit × St) := fun (s, t, (), i, ps, bs, ()) => .cond ((bs.drop i.toNat).any (hitP s t)) (.leaf (.ret, L_bannedL_0.st noU ((ixR (hitP s t) bs i), ()))) (.leaf (.exit 0, L_bannedL_1.st noU ()))
def R_bannedL : LRun := runOf 24 L_bannedL (fun x => x) (inv_bannedL) (O_bannedL)
theorem K_bannedL : LoopOk P [] 24 none noU C_bannedL (R_bannedL) := by
  refine loop_of hm (cx := [c_hits.gc]) [] (xl := X_bannedL) (α := List Int × List Int × Unit × Int × List Int × List (Int × (Int × (Int × V))) × Unit) (fun x => x) (fun (s, t, (), i, ps, bs, ()) => (bs.length - i).toNat) (fun _ => rfl) (by kernel_rfl) (by kernel_rfl) ?_ (by kernel_rfl) trivial ?_
  · intro e S L' h
    unfold X_bannedL at h
    split at h <;> first | (cases h; done) | (cases h; kernel_rfl) | (rcases bif_some h with h | h <;> cases h <;> kernel_rfl)
  · rintro ⟨s, t, ⟨⟩, i, ps, bs, ⟨⟩⟩ hinv Q hQ
    refine hold_of_eq (B_bannedL s t i ps bs) ?_
    obtain ⟨h0, h1, h2, h9⟩ := hinv
    rw [W_id (n := i + 1) (by omega) (by omega)]
    unfold O_bannedL at hQ
    dsimp only at hQ
    refine ⟨fun hi => ?_, fun hi => ?_⟩
    · simp only [decide_eq_true_eq] at hi
      have hm : ((bs.length : Int) - (i + 1)).toNat < ((bs.length : Int) - i).toNat := by omega
      obtain ⟨e1, e2, e3⟩ := ix_step (p := hitP s t) ((0, 0, 0, 0, 0, 0) : Ban) h0 hi
      rw [e1] at hQ
      refine ⟨⟨h0, hi⟩, h9 _ (getD_mem (d := ((0, 0, 0, 0, 0, 0) : Ban)) (show i.toNat < bs.length by omega)), fun hp => ?_, fun hp => ?_⟩
      · replace hp : hitP s t (bs.getD i.toNat ((0, 0, 0, 0, 0, 0) : Ban)) = true := hp
        rw [hp, Bool.true_or, e2 hp] at hQ
        exact hQ.1 rfl
      · replace hp : hitP s t (bs.getD i.toNat ((0, 0, 0, 0, 0, 0) : Ban)) = false := hp
        rw [hp, Bool.false_or, e3 hp] at hQ
        exact ⟨⟨⟨by omega, by omega, h2, h9⟩, hm⟩, hQ⟩
    · simp only [decide_eq_false_iff_not] at hi
      rw [drop_end hi] at hQ
      exact hQ.2 rfl
theorem T_banned (s0_0 : List Int) (s0_1 : List (Int × (Int × (Int × V)))) (s t : List Int) : fnTree (P := P) [] (lpOf [(0, R_bannedL)]) Try.f79 (encL 0 [.agg (.pair tIs (.sl (.pair tI (.pair tI (.pair tI tV))))), .val tIs, .val tIs] ((s0_0, s0_1), s, t, ())) =
  Tree.need (inv_bannedL (s, t, (), (0 : Int), s0_0, s0_1, ())) (Tree.cond (List.any (List.drop (Int.toNat (0 : Int)) s0_1) (hitP s t)) (Tree.leaf (SV.int IntKind.i64 (ixR (hitP s t) s0_1 (0 : Int)))) (Tree.leaf (SV.int IntKind.i64 (-1 : Int)))) := by kernel_rfl
def c_banned : PC P := PC.of (α := (List Int × List (Int × (Int × (Int × V)))) × List Int × List Int × Unit) 79 [.agg (.pair tIs (.sl (.pair tI (.pair tI (.pair tI tV))))), .val tIs, .val tIs] (fun x => x) (fun x => x) (fun _ => rfl)
  (fun x => some ((x.1.2.length : Int) ≤ 1000 ∧ ∀ b ∈ x.1.2, okB x.2.1.length b ∧ okB x.2.2.1.length b))
  (fun x => .int .i64 (ixS (hitP x.2.1 x.2.2.1) x.1.2)) (by kernel_rfl) (by
    rintro ⟨⟨s0_0, s0_1⟩, s, t, ⟨⟩⟩ hp
    refine fn_of hm (by kernel_rfl) (by kernel_rfl) (T_banned s0_0 s0_1 s t) ⟨K_bannedL, trivial⟩ ?_
    try dsimp only at hp
    try dsimp only
    obtain ⟨p1, p2⟩ := hp
    refine ⟨⟨by decide, by omega, p1, p2⟩, fun h => ?_, fun h => ?_⟩
    · simp only [Int.toNat_zero, List.drop_zero] at h
      have e : ixR (hitP s t) s0_1 0 = ixS (hitP s t) s0_1 := by
        unfold ixS ixR
        rw [if_pos h]
        simp only [Int.toNat_zero, List.drop_zero, Int.zero_add]
      exact congrArg (SV.int .i64) e
    · simp only [Int.toNat_zero, List.drop_zero] at h
      have e : -1 = ixS (hitP s t) s0_1 := by
        unfold ixS
        rw [if_neg (by simp only [h]; decide)]
      exact congrArg (SV.int .i64) e)
end
end Go.MR
