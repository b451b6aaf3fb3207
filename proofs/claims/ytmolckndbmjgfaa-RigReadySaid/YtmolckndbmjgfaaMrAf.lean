/- Rigs: the reference's goals, numbers and states. -/
import Derived.Test.YtmolckndbmjgfaaMrM
import Derived.Test.YtmolckndbmjgfaaMrQ
namespace Go.MR
open Go Go.Sx Go.Proofs
set_option linter.unusedVariables false
set_option linter.unusedSimpArgs false
noncomputable section
def L_rcg0 : Lay := { slots := [(1, .val (.sl tPart)), (2, .ptr 3056 0), (6, .val tI)], boxes := [(3056, [.val tIs, .val (.sl (.pair tI (.pair tI (.pair tI tV))))])] }
def L_rcg0_0 : Lay := { slots := [(4, .val tI)] }
def L_rcg0_1 : Lay := { slots := [] }
def X_rcg0 : Exit → St → Option Lay
  | .ret, _ => some L_rcg0_0
  | .exit 0, _ => some L_rcg0_1
  | _, _ => none
abbrev C_rcg0 : Code := loopC (bodyOf Try.f47) 0
theorem B_rcg0 (g : List (Int × Int)) (i : Int) (ps : List Int) (bs : List (Int × (Int × (Int × V)))) : loopBodyA (P := P) [] (lpOf []) [] 56 noU (inner C_rcg0) L_rcg0 X_rcg0 (α := List (Int × Int) × Unit × Int × List Int × List (Int × (Int × (Int × V))) × Unit) (fun x => x) (fun x => x) (g, (), i, ps, bs, ()) =
  Tree.cond (decide (i < (↑(List.length g) : Int))) (Tree.need ((0 : Int) ≤ i ∧ i < (↑(List.length g) : Int)) (Tree.cond (decide ((List.getD g (Int.toNat i) ((0 : Int), (0 : Int))).fst < (0 : Int))) (Tree.leaf (Sum.inr (Exit.ret, Lay.st L_rcg0_0 noU ((2 : Int), PUnit.unit)))) (Tree.need ((0 : Int) ≤ i ∧ i < (↑(List.length g) : Int)) (Tree.need ((0 : Int) ≤ i ∧ i < (↑(List.length g) : Int)) (Tree.cond (decide ((List.getD g (Int.toNat i) ((0 : Int), (0 : Int))).fst > (List.getD g (Int.toNat i) ((0 : Int), (0 : Int))).snd)) (Tree.leaf (Sum.inr (Exit.ret, Lay.st L_rcg0_0 noU ((2 : Int), PUnit.unit)))) (Tree.need ((0 : Int) ≤ i ∧ i < (↑(List.length g) : Int)) (Tree.need ((0 : Int) ≤ i ∧ i < (↑(List.length ps) : Int)) (Tree.cond (decide ((List.getD g (Int.toNat i) ((0 : Int), (0 : Int))).snd ≥ List.getD ps (Int.toNat i) (0 : Int))) (Tree.leaf (Sum.inr (Exit.ret, Lay.st L_rcg0_0 noU ((2 : Int), PUnit.unit)))) (Tree.leaf (Sum.inl (g, PUnit.unit, IntKind.wrap IntKind.i64 (i + (1 : Int)), ps, bs, PUnit.unit))))))))))) (Tree.leaf (Sum.inr (Exit.exit (0 : Nat), Lay.st L_rcg0_1 noU PUnit.unit))) := by kernel_rfl
def inv_rcg0 : List (Int × Int) × Unit × Int × List Int × List (Int × (Int × (Int × V))) × Unit → Prop := fun (g, (), i, ps, bs, ()) => 0 ≤ i ∧ i ≤ g.length ∧ (g.length : Int) ≤ 1000 ∧ g.length ≤ ps.length
def O_rcg0 : List (Int × Int) × Unit × Int × List Int × List (Int × (Int × (Int × V))) × Unit → Tree (Exit × St) := fun (g, (), i, ps, bs, ()) => .cond (spansE (ps.drop i.toNat) (g.drop i.toNat)) (.leaf (.ret, L_rcg0_0.st noU (((2 : Int)), ()))) (.leaf (.exit 0, L_rcg0_1.st noU ()))
def R_rcg0 : LRun := runOf 56 L_rcg0 (fun x => x) (inv_rcg0) (O_rcg0)
theorem K_rcg0 : LoopOk P [] 56 none noU C_rcg0 (R_rcg0) := by
  refine loop_of hm (cx := []) [] (xl := X_rcg0) (α := List (Int × Int) × Unit × Int × List Int × List (Int × (Int × (Int × V))) × Unit) (fun x => x) (fun (g, (), i, ps, bs, ()) => ((g.length : Int) - i).toNat) (fun _ => rfl) (by kernel_rfl) (by kernel_rfl) ?_ (by kernel_rfl) trivial ?_
  · intro e S L' h
    unfold X_rcg0 at h
    split at h <;> first | (cases h; done) | (cases h; kernel_rfl) | (rcases bif_some h with h | h <;> cases h <;> kernel_rfl)
  · rintro ⟨g, ⟨⟩, i, ps, bs, ⟨⟩⟩ hinv Q hQ
    refine hold_of_eq (B_rcg0 g i ps bs) ?_
    obtain ⟨h0, h1, h2, h3⟩ := hinv
    rw [W_id (n := i + 1) (by omega) (by omega)]
    unfold O_rcg0 at hQ
    dsimp only at hQ
    refine ⟨fun c1 => ?_, fun c1 => ?_⟩
    · have d1 := of_decide_eq_true c1
      have hm : ((g.length : Int) - (i + 1)).toNat < ((g.length : Int) - i).toNat := by omega
      have b1 : i < ps.length := by omega
      rw [spansE_step h0 d1 b1] at hQ
      unfold spanBad at hQ
      refine ⟨⟨h0, d1⟩, fun c2 => ?_, fun c2 => ⟨⟨h0, d1⟩, ⟨h0, d1⟩, fun c3 => ?_, fun c3 => ⟨⟨h0, d1⟩, ⟨h0, b1⟩, fun c4 => ?_, fun c4 => ?_⟩⟩⟩
      · rw [show decide ((g.getD i.toNat (0, 0)).1 < 0) = true from c2, Bool.true_or, Bool.true_or, Bool.true_or] at hQ
        exact hQ.1 rfl
      · rw [show decide ((g.getD i.toNat (0, 0)).1 > (g.getD i.toNat (0, 0)).2) = true from c3, Bool.or_true, Bool.true_or, Bool.true_or] at hQ
        exact hQ.1 rfl
      · rw [show decide ((g.getD i.toNat (0, 0)).2 ≥ ps.getD i.toNat 0) = true from c4, Bool.or_true, Bool.true_or] at hQ
        exact hQ.1 rfl
      · rw [show decide ((g.getD i.toNat (0, 0)).1 < 0) = false from c2, show decide ((g.getD i.toNat (0, 0)).1 > (g.getD i.toNat (0, 0)).2) = false from c3, show decide ((g.getD i.toNat (0, 0)).2 ≥ ps.getD i.toNat 0) = false from c4, Bool.false_or, Bool.false_or, Bool.false_or] at hQ
        exact ⟨⟨⟨by omega, by omega, h2, h3⟩, hm⟩, hQ⟩
    · have d1 := of_decide_eq_false c1
      rw [drop_end d1, spansE_nil] at hQ
      exact hQ.2 rfl
theorem T_rCheckGoal (s0_0 : List Int) (s0_1 : List (Int × (Int × (Int × V)))) (g : List (Int × Int)) : fnTree (P := P) [c_rCheck.gc] (lpOf [(0, R_rcg0)]) Try.f47 (encL 0 [.agg (.pair tIs (.sl (.pair tI (.pair tI (.pair tI tV))))), .val (.sl tPart)] ((s0_0, s0_1), g, ())) =
  Tree.cond (checkS (s0_0, s0_1) != (0 : Int)) (Tree.leaf (SV.int IntKind.i64 (checkS (s0_0, s0_1)))) (Tree.cond ((↑(List.length g) : Int) != (↑(List.length s0_0) : Int)) (Tree.leaf (SV.int IntKind.i64 (3 : Int))) (Tree.need (inv_rcg0 (g, (), (0 : Int), s0_0, s0_1, ())) (Tree.cond (spansE (List.drop (Int.toNat (0 : Int)) s0_0) (List.drop (Int.toNat (0 : Int)) g)) (Tree.leaf (SV.int IntKind.i64 (2 : Int))) (Tree.leaf (SV.int IntKind.i64 (0 : Int)))))) := by kernel_rfl
def c_rCheckGoal : PC P := PC.of (α := (List Int × List (Int × (Int × (Int × V)))) × List (Int × Int) × Unit) 47 [.agg (.pair tIs (.sl (.pair tI (.pair tI (.pair tI tV))))), .val (.sl tPart)] (fun x => x) (fun x => x) (fun _ => rfl)
  (fun _ => none)
  (fun x => .int .i64 (goalS x.1 x.2.1)) (by kernel_rfl) (by
    rintro ⟨⟨s0_0, s0_1⟩, g, ⟨⟩⟩ hp
    refine fn_of hm (by kernel_rfl) (by kernel_rfl) (T_rCheckGoal s0_0 s0_1 g) ⟨K_rcg0, trivial⟩ ?_
    try dsimp only at hp
    try dsimp only
    have fin : ∀ k : Int, goalS (s0_0, s0_1) g = k → SV.int .i64 k = SV.int .i64 (goalS (s0_0, s0_1) g) := fun k h => by rw [h]
    refine ⟨fun c1 => ?_, fun c1 => ⟨fun c2 => ?_, fun c2 => ⟨?_, fun c3 => ?_, fun c3 => ?_⟩⟩⟩
    · have d1 : checkS (s0_0, s0_1) ≠ 0 := by simpa using c1
      exact fin _ (by unfold goalS; rw [if_pos d1])
    all_goals
      have d1 : checkS (s0_0, s0_1) = 0 := by simpa using c1
      obtain ⟨k1, k2, k3, k4, k5⟩ := checkS_ok d1
      dsimp only at k1 k2 k3 k4 k5
    · have d2 : (g.length : Int) ≠ s0_0.length := by simpa using c2
      exact fin _ (by unfold goalS; rw [if_neg (by rw [d1]; simp), if_pos d2])
    all_goals
      have d2 : (g.length : Int) = s0_0.length := by simpa using c2
    · exact ⟨by decide, by omega, by omega, by omega⟩
    · have d3 : spansE s0_0 g = true := c3
      exact fin _ (by unfold goalS; rw [if_neg (by rw [d1]; simp), if_neg (by rw [d2]; simp), if_pos d3])
    · have d3 : spansE s0_0 g = false := c3
      exact fin _ (by unfold goalS; rw [if_neg (by rw [d1]; simp), if_neg (by rw [d2]; simp), if_neg (by rw [d3]; simp)]))
def L_rmn0 : Lay := { slots := [(1, .ptr 2020 0), (3, .val tI), (4, .val tI)], boxes := [(2020, [.val tIs, .val (.sl (.pair tI (.pair tI (.pair tI tV))))])] }
def L_rmn0_0 : Lay := { slots := [(3, .val tI)] }
def X_rmn0 : Exit → St → Option Lay
  | .exit 0, _ => some L_rmn0_0
  | _, _ => none
abbrev C_rmn0 : Code := loopC (bodyOf Try.f92) 0
theorem B_rmn0 (n i : Int) (ps : List Int) (bs : List (Int × (Int × (Int × V)))) : loopBodyA (P := P) [] (lpOf []) [] 20 noU (inner C_rmn0) L_rmn0 X_rmn0 (α := Unit × Int × Int × List Int × List (Int × (Int × (Int × V))) × Unit) (fun x => x) (fun x => x) ((), n, i, ps, bs, ()) =
  Tree.cond (decide (i < (↑(List.length ps) : Int))) (Tree.need ((0 : Int) ≤ i ∧ i < (↑(List.length ps) : Int)) (Tree.leaf (Sum.inl (PUnit.unit, IntKind.wrap IntKind.i64 (n * List.getD ps (Int.toNat i) (0 : Int)), IntKind.wrap IntKind.i64 (i + (1 : Int)), ps, bs, PUnit.unit)))) (Tree.leaf (Sum.inr (Exit.exit (0 : Nat), Lay.st L_rmn0_0 noU (n, PUnit.unit)))) := by kernel_rfl
def inv_rmn0 : Unit × Int × Int × List Int × List (Int × (Int × (Int × V))) × Unit → Prop := fun ((), n, i, ps, bs, ()) => 0 ≤ i ∧ i ≤ ps.length ∧ (ps.length : Int) ≤ 1000
def O_rmn0 : Unit × Int × Int × List Int × List (Int × (Int × (Int × V))) × Unit → Tree (Exit × St) := fun ((), n, i, ps, bs, ()) => (.leaf (.exit 0, L_rmn0_0.st noU ((manyW (ps.drop i.toNat) n), ())))
def R_rmn0 : LRun := runOf 20 L_rmn0 (fun x => x) (inv_rmn0) (O_rmn0)
theorem K_rmn0 : LoopOk P [] 20 none noU C_rmn0 (R_rmn0) := by
  refine loop_of hm (cx := []) [] (xl := X_rmn0) (α := Unit × Int × Int × List Int × List (Int × (Int × (Int × V))) × Unit) (fun x => x) (fun ((), n, i, ps, bs, ()) => ((ps.length : Int) - i).toNat) (fun _ => rfl) (by kernel_rfl) (by kernel_rfl) ?_ (by kernel_rfl) trivial ?_
  · intro e S L' h
    unfold X_rmn0 at h
    split at h <;> first | (cases h; done) | (cases h; kernel_rfl) | (rcases bif_some h with h | h <;> cases h <;> kernel_rfl)
  · rintro ⟨⟨⟩, n, i, ps, bs, ⟨⟩⟩ hinv Q hQ
    refine hold_of_eq (B_rmn0 n i ps bs) ?_
    obtain ⟨h0, h1, h2⟩ := hinv
    rw [W_id (n := i + 1) (by omega) (by omega)]
    have hQ' : Q (.exit 0, L_rmn0_0.st noU (manyW (ps.drop i.toNat) n, ())) := hQ
    refine ⟨fun c1 => ?_, fun c1 => ?_⟩
    · have d1 : i < ps.length := of_decide_eq_true c1
      have hm : ((ps.length : Int) - (i + 1)).toNat < ((ps.length : Int) - i).toNat := by omega
      rw [manyW_step h0 d1] at hQ'
      exact ⟨⟨h0, d1⟩, ⟨⟨by omega, by omega, h2⟩, hm⟩, hQ'⟩
    · rw [drop_end (of_decide_eq_false c1), manyW_nil] at hQ'
      exact hQ'
theorem T_rmany (s0_0 : List Int) (s0_1 : List (Int × (Int × (Int × V)))) : fnTree (P := P) [] (lpOf [(0, R_rmn0)]) Try.f92 (encL 0 [.agg (.pair tIs (.sl (.pair tI (.pair tI (.pair tI tV)))))] ((s0_0, s0_1), ())) =
  Tree.need (inv_rmn0 ((), (1 : Int), (0 : Int), s0_0, s0_1, ())) (Tree.leaf (SV.int IntKind.i64 (manyW (List.drop (Int.toNat (0 : Int)) s0_0) (1 : Int)))) := by kernel_rfl
def c_rmany : PC P := PC.of (α := (List Int × List (Int × (Int × (Int × V)))) × Unit) 92 [.agg (.pair tIs (.sl (.pair tI (.pair tI (.pair tI tV)))))] (fun x => x) (fun x => x) (fun _ => rfl)
  (fun x => some (x.1.1.length ≤ 1000))
  (fun x => .int .i64 (manyW x.1.1 1)) (by kernel_rfl) (by
    rintro ⟨⟨s0_0, s0_1⟩, ⟨⟩⟩ hp
    refine fn_of hm (by kernel_rfl) (by kernel_rfl) (T_rmany s0_0 s0_1) ⟨K_rmn0, trivial⟩ ?_
    try dsimp only at hp
    try dsimp only
    have hp' : s0_0.length ≤ 1000 := hp
    exact ⟨⟨by decide, by omega, by omega⟩, rfl⟩)
def L_rnm0 : Lay := { slots := [(1, .val tIs), (2, .ptr 3026 0), (5, .val tI), (6, .val tI)], boxes := [(3026, [.val tIs, .val (.sl (.pair tI (.pair tI (.pair tI tV))))])] }
def L_rnm0_0 : Lay := { slots := [(5, .val tI)] }
def X_rnm0 : Exit → St → Option Lay
  | .exit 0, _ => some L_rnm0_0
  | _, _ => none
abbrev C_rnm0 : Code := loopC (bodyOf Try.f89) 0
theorem B_rnm0 (s : List Int) (n i : Int) (ps : List Int) (bs : List (Int × (Int × (Int × V)))) : loopBodyA (P := P) [] (lpOf []) [] 26 noU (inner C_rnm0) L_rnm0 X_rnm0 (α := List Int × Unit × Int × Int × List Int × List (Int × (Int × (Int × V))) × Unit) (fun x => x) (fun x => x) (s, (), n, i, ps, bs, ()) =
  Tree.cond (decide (i < (↑(List.length s) : Int))) (Tree.need ((0 : Int) ≤ i ∧ i < (↑(List.length ps) : Int)) (Tree.need ((0 : Int) ≤ i ∧ i < (↑(List.length s) : Int)) (Tree.leaf (Sum.inl (s, PUnit.unit, IntKind.wrap IntKind.i64 (IntKind.wrap IntKind.i64 (n * List.getD ps (Int.toNat i) (0 : Int)) + List.getD s (Int.toNat i) (0 : Int)), IntKind.wrap IntKind.i64 (i + (1 : Int)), ps, bs, PUnit.unit))))) (Tree.leaf (Sum.inr (Exit.exit (0 : Nat), Lay.st L_rnm0_0 noU (n, PUnit.unit)))) := by kernel_rfl
def inv_rnm0 : List Int × Unit × Int × Int × List Int × List (Int × (Int × (Int × V))) × Unit → Prop := fun (s, (), n, i, ps, bs, ()) => 0 ≤ i ∧ i ≤ s.length ∧ (s.length : Int) ≤ 1000 ∧ s.length ≤ ps.length
def O_rnm0 : List Int × Unit × Int × Int × List Int × List (Int × (Int × (Int × V))) × Unit → Tree (Exit × St) := fun (s, (), n, i, ps, bs, ()) => (.leaf (.exit 0, L_rnm0_0.st noU ((numW (ps.drop i.toNat) (s.drop i.toNat) n), ())))
def R_rnm0 : LRun := runOf 26 L_rnm0 (fun x => x) (inv_rnm0) (O_rnm0)
theorem K_rnm0 : LoopOk P [] 26 none noU C_rnm0 (R_rnm0) := by
  refine loop_of hm (cx := []) [] (xl := X_rnm0) (α := List Int × Unit × Int × Int × List Int × List (Int × (Int × (Int × V))) × Unit) (fun x => x) (fun (s, (), n, i, ps, bs, ()) => ((s.length : Int) - i).toNat) (fun _ => rfl) (by kernel_rfl) (by kernel_rfl) ?_ (by kernel_rfl) trivial ?_
  · intro e S L' h
    unfold X_rnm0 at h
    split at h <;> first | (cases h; done) | (cases h; kernel_rfl) | (rcases bif_some h with h | h <;> cases h <;> kernel_rfl)
  · rintro ⟨s, ⟨⟩, n, i, ps, bs, ⟨⟩⟩ hinv Q hQ
    refine hold_of_eq (B_rnm0 s n i ps bs) ?_
    obtain ⟨h0, h1, h2, h3⟩ := hinv
    rw [W_id (n := i + 1) (by omega) (by omega)]
    have hQ' : Q (.exit 0, L_rnm0_0.st noU (numW (ps.drop i.toNat) (s.drop i.toNat) n, ())) := hQ
    refine ⟨fun c1 => ?_, fun c1 => ?_⟩
    · have d1 : i < s.length := of_decide_eq_true c1
      have hm : ((s.length : Int) - (i + 1)).toNat < ((s.length : Int) - i).toNat := by omega
      have b1 : i < ps.length := by omega
      rw [numW_step h0 d1 b1] at hQ'
      exact ⟨⟨h0, b1⟩, ⟨h0, d1⟩, ⟨⟨by omega, by omega, h2, h3⟩, hm⟩, hQ'⟩
    · rw [drop_end (of_decide_eq_false c1), numW_nil] at hQ'
      exact hQ'
theorem T_rnumber (s0_0 : List Int) (s0_1 : List (Int × (Int × (Int × V)))) (s : List Int) : fnTree (P := P) [] (lpOf [(0, R_rnm0)]) Try.f89 (encL 0 [.agg (.pair tIs (.sl (.pair tI (.pair tI (.pair tI tV))))), .val tIs] ((s0_0, s0_1), s, ())) =
  Tree.need (inv_rnm0 (s, (), (0 : Int), (0 : Int), s0_0, s0_1, ())) (Tree.leaf (SV.int IntKind.i64 (numW (List.drop (Int.toNat (0 : Int)) s0_0) (List.drop (Int.toNat (0 : Int)) s) (0 : Int)))) := by kernel_rfl
def c_rnumber : PC P := PC.of (α := (List Int × List (Int × (Int × (Int × V)))) × List Int × Unit) 89 [.agg (.pair tIs (.sl (.pair tI (.pair tI (.pair tI tV))))), .val tIs] (fun x => x) (fun x => x) (fun _ => rfl)
  (fun x => some (x.2.1.length ≤ 1000 ∧ x.2.1.length ≤ x.1.1.length))
  (fun x => .int .i64 (numW x.1.1 x.2.1 0)) (by kernel_rfl) (by
    rintro ⟨⟨s0_0, s0_1⟩, s, ⟨⟩⟩ hp
    refine fn_of hm (by kernel_rfl) (by kernel_rfl) (T_rnumber s0_0 s0_1 s) ⟨K_rnm0, trivial⟩ ?_
    try dsimp only at hp
    try dsimp only
    obtain ⟨p1, p2⟩ : s.length ≤ 1000 ∧ s.length ≤ s0_0.length := hp
    exact ⟨⟨by decide, by omega, by omega, p2⟩, rfl⟩)
def L_rstL : Lay := { slots := [(1, .val tI), (2, .ptr 3036 0), (5, .row 3 tI), (6, .val tI)], boxes := [(3036, [.val tIs, .val (.sl (.pair tI (.pair tI (.pair tI tV))))])] }
def L_rstL_0 : Lay := { slots := [(5, .row 3 tI)] }
def X_rstL : Exit → St → Option Lay
  | .exit 0, _ => some L_rstL_0
  | _, _ => none
abbrev C_rstL : Code := loopC (bodyOf Try.f93) 0
theorem B_rstL (n : Int) (r : List Int) (i : Int) (ps : List Int) (bs : List (Int × (Int × (Int × V)))) : loopBodyA (P := P) [] (lpOf []) [] 36 noU (inner C_rstL) L_rstL X_rstL (α := Int × Unit × List Int × Int × List Int × List (Int × (Int × (Int × V))) × Unit) (fun x => x) (fun x => x) (n, (), r, i, ps, bs, ()) =
  Tree.cond (decide (i ≥ (0 : Int))) (Tree.need ((0 : Int) ≤ i ∧ i < (↑(List.length ps) : Int)) (Tree.need (List.getD ps (Int.toNat i) (0 : Int) ≠ (0 : Int)) (Tree.need ((0 : Int) ≤ i ∧ i < (↑(List.length r) : Int)) (Tree.need (Int.toNat i < List.length r) (Tree.need ((0 : Int) ≤ i ∧ i < (↑(List.length ps) : Int)) (Tree.need (List.getD ps (Int.toNat i) (0 : Int) ≠ (0 : Int)) (Tree.leaf (Sum.inl (IntKind.wrap IntKind.i64 (Int.tdiv n (List.getD ps (Int.toNat i) (0 : Int))), PUnit.unit, List.set r (Int.toNat i) (Int.tmod n (List.getD ps (Int.toNat i) (0 : Int))), IntKind.wrap IntKind.i64 (i - (1 : Int)), ps, bs, PUnit.unit))))))))) (Tree.leaf (Sum.inr (Exit.exit (0 : Nat), Lay.st L_rstL_0 noU (r, PUnit.unit)))) := by kernel_rfl
def inv_rstL : Int × Unit × List Int × Int × List Int × List (Int × (Int × (Int × V))) × Unit → Prop := fun (n, (), r, i, ps, bs, ()) => -1 ≤ i ∧ i < ps.length ∧ (ps.length : Int) ≤ 1000 ∧ r.length = ps.length ∧ ps.any badP = false
def O_rstL : Int × Unit × List Int × Int × List Int × List (Int × (Int × (Int × V))) × Unit → Tree (Exit × St) := fun (n, (), r, i, ps, bs, ()) => (.leaf (.exit 0, L_rstL_0.st noU ((stR ps (i + 1).toNat n r), ())))
def R_rstL : LRun := runOf 36 L_rstL (fun x => x) (inv_rstL) (O_rstL)
theorem K_rstL : LoopOk P [] 36 none noU C_rstL (R_rstL) := by
  refine loop_of hm (cx := []) [] (xl := X_rstL) (α := Int × Unit × List Int × Int × List Int × List (Int × (Int × (Int × V))) × Unit) (fun x => x) (fun (n, (), r, i, ps, bs, ()) => (i + 1).toNat) (fun _ => rfl) (by kernel_rfl) (by kernel_rfl) ?_ (by kernel_rfl) trivial ?_
  · intro e S L' h
    unfold X_rstL at h
    split at h <;> first | (cases h; done) | (cases h; kernel_rfl) | (rcases bif_some h with h | h <;> cases h <;> kernel_rfl)
  · rintro ⟨n, ⟨⟩, r, i, ps, bs, ⟨⟩⟩ hinv Q hQ
    refine hold_of_eq (B_rstL n r i ps bs) ?_
    obtain ⟨h0, h1, h2, h3, h4⟩ := hinv
    have hQ' : Q (.exit 0, L_rstL_0.st noU (stR ps (i + 1).toNat n r, ())) := hQ
    refine ⟨fun c1 => ?_, fun c1 => ?_⟩
    · have d1 : 0 ≤ i := of_decide_eq_true c1
      have hm : (i - 1 + 1).toNat < (i + 1).toNat := by omega
      have b1 := (place_ne (i := i.toNat) h4 (by omega)).1
      have b2 : ps.getD i.toNat 0 ≠ 0 := by omega
      rw [W_id (n := i - 1) (by omega) (by omega)]
      rw [stR_step d1, show i.toNat = (i - 1 + 1).toNat by omega] at hQ'
      refine ⟨⟨d1, h1⟩, b2, ⟨d1, by omega⟩, by omega, ⟨d1, h1⟩, b2, ⟨⟨by omega, by omega, h2, by rw [List.length_set]; exact h3, h4⟩, hm⟩, ?_⟩
      have e : i.toNat = (i - 1 + 1).toNat := by omega
      rw [e]
      exact hQ'
    · have d1 : ¬ i ≥ 0 := of_decide_eq_false c1
      rw [show (i + 1).toNat = 0 by omega] at hQ'
      exact hQ'
def L_rstate : Lay := { slots := [(0, .agg (.pair tIs (.sl (.pair tI (.pair tI (.pair tI tV)))))), (1, .val tI)] }
theorem T_rstate (s0_0 : List Int) (s0_1 : List (Int × (Int × (Int × V)))) (n : Int) : mTree (P := P) [] (lpOf [(0, R_rstL)]) Try.f93 L_rstate true ((s0_0, s0_1), n, ()) =
  Tree.need ((0 : Int) ≤ (↑(List.length s0_0) : Int) ∧ (↑(List.length s0_0) : Int) = (↑(List.length s0_0) : Int) ∧ (↑(List.length s0_0) : Int) ≤ (70368744177664 : Int) ∧ (↑(8 : Nat) : Int) * (↑(List.length s0_0) : Int) ≤ (140737488355328 : Int)) (Tree.need (inv_rstL (n, (), List.replicate (Int.toNat (↑(List.length s0_0) : Int)) (0 : Int), IntKind.wrap IntKind.i64 ((↑(List.length (List.replicate (Int.toNat (↑(List.length s0_0) : Int)) (0 : Int))) : Int) - (1 : Int)), s0_0, s0_1, ())) (Tree.leaf { res := SV.own (nat_lit 100), boxes := [], news := [Ob.row (3 : TypeId) tI (stR s0_0 (Int.toNat (IntKind.wrap IntKind.i64 ((↑(List.length (List.replicate (Int.toNat (↑(List.length s0_0) : Int)) (0 : Int))) : Int) - (1 : Int)) + (1 : Int))) n (List.replicate (Int.toNat (↑(List.length s0_0) : Int)) (0 : Int)))] })) := by kernel_rfl
def c_rstate : XC P := XC.of (α := (List Int × List (Int × (Int × (Int × V)))) × Int × Unit) 93 L_rstate (fun x => x) (fun x => x) (fun _ => rfl)
  (fun x => some (x.1.1.length ≤ 1000 ∧ x.1.1.any badP = false))
  (fun x => ⟨.own 100, [], [.row 3 tI (stS x.1.1 x.2.1)]⟩) (by kernel_rfl) (by kernel_rfl) (by
    rintro ⟨⟨s0_0, s0_1⟩, n, ⟨⟩⟩ hp
    refine m_of hm (own := true) (by kernel_rfl) (by kernel_rfl) (by kernel_rfl) (T_rstate s0_0 s0_1 n) ⟨K_rstL, trivial⟩ ?_
    try dsimp only at hp
    try dsimp only
    obtain ⟨p1, p2⟩ : s0_0.length ≤ 1000 ∧ s0_0.any badP = false := hp
    simp only [List.length_replicate, Int.toNat_natCast]
    rw [W_id (n := (s0_0.length : Int) - 1) (by omega) (by omega)]
    refine ⟨⟨by omega, trivial, by omega, by omega⟩, ⟨by omega, by omega, by omega, List.length_replicate, p2⟩, ?_⟩
    have e : ((s0_0.length : Int) - 1 + 1).toNat = s0_0.length := by omega
    rw [e]
    rfl)
def L_rin0 : Lay := { slots := [(0, .val tIs), (1, .val (.sl tPart)), (5, .val tI)] }
def L_rin0_0 : Lay := { slots := [(4, .val .bool)] }
def L_rin0_1 : Lay := { slots := [] }
def X_rin0 : Exit → St → Option Lay
  | .ret, _ => some L_rin0_0
  | .exit 0, _ => some L_rin0_1
  | _, _ => none
abbrev C_rin0 : Code := loopC (bodyOf Try.f121) 0
theorem B_rin0 (s : List Int) (g : List (Int × Int)) (i : Int) : loopBodyA (P := P) [] (lpOf []) [] 34 noU (inner C_rin0) L_rin0 X_rin0 (α := List Int × List (Int × Int) × Int × Unit) (fun x => x) (fun x => x) (s, g, i, ()) =
  Tree.cond (decide (i < (↑(List.length s) : Int))) (Tree.need ((0 : Int) ≤ i ∧ i < (↑(List.length s) : Int)) (Tree.need ((0 : Int) ≤ i ∧ i < (↑(List.length g) : Int)) (Tree.cond (decide (List.getD s (Int.toNat i) (0 : Int) < (List.getD g (Int.toNat i) ((0 : Int), (0 : Int))).fst)) (Tree.leaf (Sum.inr (Exit.ret, Lay.st L_rin0_0 noU (false, PUnit.unit)))) (Tree.need ((0 : Int) ≤ i ∧ i < (↑(List.length s) : Int)) (Tree.need ((0 : Int) ≤ i ∧ i < (↑(List.length g) : Int)) (Tree.cond (decide (List.getD s (Int.toNat i) (0 : Int) > (List.getD g (Int.toNat i) ((0 : Int), (0 : Int))).snd)) (Tree.leaf (Sum.inr (Exit.ret, Lay.st L_rin0_0 noU (false, PUnit.unit)))) (Tree.leaf (Sum.inl (s, g, IntKind.wrap IntKind.i64 (i + (1 : Int)), PUnit.unit))))))))) (Tree.leaf (Sum.inr (Exit.exit (0 : Nat), Lay.st L_rin0_1 noU PUnit.unit))) := by kernel_rfl
def inv_rin0 : List Int × List (Int × Int) × Int × Unit → Prop := fun (s, g, i, ()) => 0 ≤ i ∧ i ≤ s.length ∧ (s.length : Int) ≤ 1000 ∧ s.length ≤ g.length
def O_rin0 : List Int × List (Int × Int) × Int × Unit → Tree (Exit × St) := fun (s, g, i, ()) => .cond (inG (s.drop i.toNat) (g.drop i.toNat)) (.leaf (.exit 0, L_rin0_1.st noU ())) (.leaf (.ret, L_rin0_0.st noU ((false), ())))
def R_rin0 : LRun := runOf 34 L_rin0 (fun x => x) (inv_rin0) (O_rin0)
theorem K_rin0 : LoopOk P [] 34 none noU C_rin0 (R_rin0) := by
  refine loop_of hm (cx := []) [] (xl := X_rin0) (α := List Int × List (Int × Int) × Int × Unit) (fun x => x) (fun (s, g, i, ()) => ((s.length : Int) - i).toNat) (fun _ => rfl) (by kernel_rfl) (by kernel_rfl) ?_ (by kernel_rfl) trivial ?_
  · intro e S L' h
    unfold X_rin0 at h
    split at h <;> first | (cases h; done) | (cases h; kernel_rfl) | (rcases bif_some h with h | h <;> cases h <;> kernel_rfl)
  · rintro ⟨s, g, i, ⟨⟩⟩ hinv Q hQ
    refine hold_of_eq (B_rin0 s g i) ?_
    obtain ⟨h0, h1, h2, h3⟩ := hinv
    rw [W_id (n := i + 1) (by omega) (by omega)]
    unfold O_rin0 at hQ
    dsimp only at hQ
    refine ⟨fun c1 => ?_, fun c1 => ?_⟩
    · have d1 := of_decide_eq_true c1
      have hm : ((s.length : Int) - (i + 1)).toNat < ((s.length : Int) - i).toNat := by omega
      have b1 : i < g.length := by omega
      rw [inG_step h0 d1 b1] at hQ
      unfold wi at hQ
      refine ⟨⟨h0, d1⟩, ⟨h0, b1⟩, fun c2 => ?_, fun c2 => ⟨⟨h0, d1⟩, ⟨h0, b1⟩, fun c3 => ?_, fun c3 => ?_⟩⟩
      · have d2 := of_decide_eq_true c2
        rw [decide_eq_false (show ¬ (g.getD i.toNat (0, 0)).1 ≤ s.getD i.toNat 0 by omega), Bool.false_and, Bool.false_and] at hQ
        exact hQ.2 rfl
      · have d3 := of_decide_eq_true c3
        rw [decide_eq_false (show ¬ s.getD i.toNat 0 ≤ (g.getD i.toNat (0, 0)).2 by omega), Bool.and_false, Bool.false_and] at hQ
        exact hQ.2 rfl
      · have d2 := of_decide_eq_false c2
        have d3 := of_decide_eq_false c3
        rw [decide_eq_true (show (g.getD i.toNat (0, 0)).1 ≤ s.getD i.toNat 0 by omega), decide_eq_true (show s.getD i.toNat 0 ≤ (g.getD i.toNat (0, 0)).2 by omega), Bool.true_and, Bool.true_and] at hQ
        exact ⟨⟨⟨by omega, by omega, h2, h3⟩, hm⟩, hQ⟩
    · have d1 := of_decide_eq_false c1
      rw [drop_end d1, inG_nil] at hQ
      exact hQ.1 rfl
theorem T_rin (s : List Int) (g : List (Int × Int)) : fnTree (P := P) [] (lpOf [(0, R_rin0)]) Try.f121 (encL 0 [.val tIs, .val (.sl tPart)] (s, g, ())) =
  Tree.need (inv_rin0 (s, g, (0 : Int), ())) (Tree.cond (inG (List.drop (Int.toNat (0 : Int)) s) (List.drop (Int.toNat (0 : Int)) g)) (Tree.leaf (SV.bool true)) (Tree.leaf (SV.bool false))) := by kernel_rfl
def c_rin : PC P := PC.of (α := List Int × List (Int × Int) × Unit) 121 [.val tIs, .val (.sl tPart)] (fun x => x) (fun x => x) (fun _ => rfl)
  (fun x => some (x.1.length ≤ 1000 ∧ x.1.length ≤ x.2.1.length))
  (fun x => .bool (inG x.1 x.2.1)) (by kernel_rfl) (by
    rintro ⟨s, g, ⟨⟩⟩ hp
    refine fn_of hm (by kernel_rfl) (by kernel_rfl) (T_rin s g) ⟨K_rin0, trivial⟩ ?_
    try dsimp only at hp
    try dsimp only
    obtain ⟨p1, p2⟩ : s.length ≤ 1000 ∧ s.length ≤ g.length := hp
    refine ⟨⟨by decide, by omega, by omega, p2⟩, fun c1 => ?_, fun c1 => ?_⟩
    · exact congrArg SV.bool (show inG s g = true from c1).symm
    · exact congrArg SV.bool (show inG s g = false from c1).symm)
end
end Go.MR
