/- The reference's Merge. -/
import Derived.Test.YtmolckndbmjgfaaMrBc
namespace Go.MR
open Go Go.Sx Go.Proofs
set_option linter.unusedVariables false
set_option linter.unusedSimpArgs false
noncomputable section
theorem T_rAllowedX (s0_0 : List Int) (s0_1 : List (Int × (Int × (Int × V)))) (s1 s2 : List Int) : frTree (P := P) [c_rState.gc, c_rmove.gc, c_moved.gc, c_are.gc, c_banned.gc] (lpOf []) Try.f38 (encL 0 [.agg (.pair tIs (.sl (.pair tI (.pair tI (.pair tI tV))))), .val tIs, .val tIs] ((s0_0, s0_1), s1, s2, ())) =
  Tree.need ((↑(List.length s1) : Int) < (2 : Int) ^ (62 : Nat)) (Tree.cond (stateS (s0_0, s0_1) s1 != (0 : Int)) (Tree.leaf (SV.tup [SV.bool false, SV.int IntKind.i64 (-1 : Int)])) (Tree.need ((↑(List.length s2) : Int) < (2 : Int) ^ (62 : Nat)) (Tree.cond (!moveS (s0_0, s0_1) s2) (Tree.leaf (SV.tup [SV.bool false, SV.int IntKind.i64 (-1 : Int)])) (Tree.need (List.length s1 ≤ List.length s2 ∧ List.length s1 ≤ (1000 : Nat)) (Tree.need ((↑(List.length (movedS s1 s2)) : Int) < (2 : Int) ^ (62 : Nat)) (Tree.cond (!areS (s0_0, s0_1) (movedS s1 s2)) (Tree.leaf (SV.tup [SV.bool false, SV.int IntKind.i64 (-1 : Int)])) (Tree.need (List.length s1 ≤ List.length s2 ∧ List.length s1 ≤ (1000 : Nat)) (Tree.need ((↑(List.length s0_1) : Int) ≤ (1000 : Int) ∧ ∀ (b : Int × Int × Int × V), b ∈ s0_1 → okB (List.length s1) b ∧ okB (List.length (movedS s1 s2)) b) (Tree.leaf (SV.tup [SV.bool (decide (ixS (hitP s1 (movedS s1 s2)) s0_1 < (0 : Int))), SV.int IntKind.i64 (ixS (hitP s1 (movedS s1 s2)) s0_1)])))))))))) := by kernel_rfl
def c_rAllowedX : XF P := XF.of (α := (List Int × List (Int × (Int × (Int × V)))) × List Int × List Int × Unit) 38 [.agg (.pair tIs (.sl (.pair tI (.pair tI (.pair tI tV))))), .val tIs, .val tIs] (fun x => x) (fun x => x) (fun _ => rfl)
  (fun x => some ((x.2.1.length : Int) < 2 ^ 62 ∧ (x.2.2.1.length : Int) < 2 ^ 62))
  (fun x => .tup [.bool (allowS x.1 x.2.1 x.2.2.1).1, .int .i64 (allowS x.1 x.2.1 x.2.2.1).2]) (by kernel_rfl) (by
    rintro ⟨⟨s0_0, s0_1⟩, s1, s2, ⟨⟩⟩ hp
    refine fr_of hm (by kernel_rfl) (by kernel_rfl) (T_rAllowedX s0_0 s0_1 s1 s2) trivial ?_
    try dsimp only at hp
    try dsimp only
    obtain ⟨hp1, hp2⟩ : (s1.length : Int) < 2 ^ 62 ∧ (s2.length : Int) < 2 ^ 62 := hp
    have fin : ∀ k : Bool × Int, allowS (s0_0, s0_1) s1 s2 = k → SV.tup [.bool k.1, .int .i64 k.2] = SV.tup [.bool (allowS (s0_0, s0_1) s1 s2).1, .int .i64 (allowS (s0_0, s0_1) s1 s2).2] := fun k h => by rw [h]
    refine ⟨hp1, fun c1 => ?_, fun c1 => ⟨hp2, fun c2 => ?_, fun c2 => ?_⟩⟩
    · have d1 : stateS (s0_0, s0_1) s1 ≠ 0 := by simpa using c1
      exact fin (false, -1) (by unfold allowS; rw [if_pos (.inl d1)])
    · have d2 : moveS (s0_0, s0_1) s2 = false := by simpa using c2
      exact fin (false, -1) (by unfold allowS; rw [if_pos (.inr d2)])
    have d1 : stateS (s0_0, s0_1) s1 = 0 := by simpa using c1
    have d2 : moveS (s0_0, s0_1) s2 = true := by simpa using c2
    obtain ⟨a1, a2, a3⟩ := stateS_in (.inl d1)
    obtain ⟨k1, k2, k3, k4, k5⟩ := checkS_ok a1
    have b1 := moveS_len d2
    dsimp only at a2 k1 k2 k3 k4 k5 b1
    have hb := banEs_all k5
    have hn : ¬ (stateS (s0_0, s0_1) s1 ≠ 0 ∨ moveS (s0_0, s0_1) s2 = false) := by rw [d1, d2]; simp
    have hml := movedS_len (s := s1) (m := s2) (by omega)
    have ea : areS (s0_0, s0_1) (movedS s1 s2) = wayOk s1 s2 s0_0 := by
      unfold areS
      rw [decide_eq_true (show ((movedS s1 s2).length : Int) = s0_0.length by omega), Bool.and_true]
      exact inR_moved k3 a2 b1
    have ew : (waysS s1 s2 s0_0).2 = wayOk s1 s2 s0_0 := by
      unfold waysS
      cases h : wayOk s1 s2 s0_0 <;> simp
    refine ⟨⟨by omega, by omega⟩, by omega, fun c3 => ?_, fun c3 => ⟨⟨by omega, by omega⟩, ⟨by omega, fun b hb' => ?_⟩, ?_⟩⟩
    · have d3 : (waysS s1 s2 s0_0).2 = false := by rw [ew, ← ea]; simpa using c3
      exact fin (false, -1) (by unfold allowS; rw [if_neg hn, if_pos d3])
    · rw [hml, a2]
      exact ⟨hb b hb', hb b hb'⟩
    · have d3 : (waysS s1 s2 s0_0).2 = true := by rw [ew, ← ea]; simpa using c3
      have e1 : (waysS s1 s2 s0_0).1 = wayL s1 s2 := by
        rw [ew] at d3
        unfold waysS
        rw [if_pos d3]
      have ex : ixS (hitP s1 (movedS s1 s2)) s0_1 = ixS (banS (waysS s1 s2 s0_0).1) s0_1 := ixS_congr fun b hb' => by
        rw [e1]
        exact hit_way (by rw [a2]; exact hb b hb') (by omega)
      rw [ex]
      exact fin (decide (ixS (banS (waysS s1 s2 s0_0).1) s0_1 < 0), ixS (banS (waysS s1 s2 s0_0).1) s0_1) (by unfold allowS; rw [if_neg hn, if_neg (by rw [d3]; simp)]))
abbrev St3 := List Int × List Bool × List Bool
def mgI1 (r : Rig) (s : List Int) (q : List Req) (rank i : Int) (x : St3) : St3 :=
  if (q.getD i.toNat zReq).2.2 ≠ rank ∨ x.2.1.getD (q.getD i.toNat zReq).1.toNat false = true then x
  else if (allowS r s (x.1.set (q.getD i.toNat zReq).1.toNat (q.getD i.toNat zReq).2.1)).1 = true then (x.1.set (q.getD i.toNat zReq).1.toNat (q.getD i.toNat zReq).2.1, x.2.1.set (q.getD i.toNat zReq).1.toNat true, x.2.2.set i.toNat true)
  else (x.1.set (q.getD i.toNat zReq).1.toNat 0, x.2.1, x.2.2)
def mgI (r : Rig) (s : List Int) (q : List Req) (rank : Int) : Nat → Int → St3 → St3
  | 0, _, x => x
  | k + 1, i, x => mgI r s q rank k (i + 1) (mgI1 r s q rank i x)
def mgK (r : Rig) (s : List Int) (q : List Req) : Nat → Int → St3 → St3
  | 0, _, x => x
  | k + 1, rank, x => mgK r s q k (rank + 1) (mgI r s q rank q.length 0 x)
def whR (tb : List Bool) : Nat → Int → List Int → List Int
  | 0, _, w => w
  | k + 1, i, w => whR tb k (i + 1) (if tb.getD i.toNat false = true then w ++ [i] else w)
def rmg0 (r : Rig) (s : List Int) (q : List Req) : St3 := mgK r s q 100 0 (List.replicate s.length 0, List.replicate s.length false, List.replicate q.length false)
def rmrgS (r : Rig) (s : List Int) (q : List Req) : List Int × List Int × Int :=
  if mrgErr r s q ≠ 0 then ([], [], mrgErr r s q)
  else ((rmg0 r s q).1, whR (rmg0 r s q).2.2 q.length 0 [], 0)
theorem mgI1_len (r : Rig) (s : List Int) (q : List Req) (rank i : Int) (x : St3) : (mgI1 r s q rank i x).1.length = x.1.length ∧ (mgI1 r s q rank i x).2.1.length = x.2.1.length ∧ (mgI1 r s q rank i x).2.2.length = x.2.2.length := by
  unfold mgI1
  split
  · exact ⟨rfl, rfl, rfl⟩
  split
  · exact ⟨List.length_set, List.length_set, List.length_set⟩
  · exact ⟨List.length_set, rfl, rfl⟩
theorem mgI_len (r : Rig) (s : List Int) (q : List Req) (rank : Int) : ∀ (k : Nat) (i : Int) (x : St3), (mgI r s q rank k i x).1.length = x.1.length ∧ (mgI r s q rank k i x).2.1.length = x.2.1.length ∧ (mgI r s q rank k i x).2.2.length = x.2.2.length
  | 0, _, _ => ⟨rfl, rfl, rfl⟩
  | k + 1, i, x => by
    rw [mgI]
    obtain ⟨h1, h2, h3⟩ := mgI_len r s q rank k (i + 1) (mgI1 r s q rank i x)
    obtain ⟨g1, g2, g3⟩ := mgI1_len r s q rank i x
    exact ⟨h1.trans g1, h2.trans g2, h3.trans g3⟩
theorem mgK_len (r : Rig) (s : List Int) (q : List Req) : ∀ (k : Nat) (rank : Int) (x : St3), (mgK r s q k rank x).1.length = x.1.length ∧ (mgK r s q k rank x).2.1.length = x.2.1.length ∧ (mgK r s q k rank x).2.2.length = x.2.2.length
  | 0, _, _ => ⟨rfl, rfl, rfl⟩
  | k + 1, rank, x => by
    rw [mgK]
    obtain ⟨h1, h2, h3⟩ := mgK_len r s q k (rank + 1) (mgI r s q rank q.length 0 x)
    obtain ⟨g1, g2, g3⟩ := mgI_len r s q rank q.length 0 x
    exact ⟨h1.trans g1, h2.trans g2, h3.trans g3⟩
def L_rmgL : Lay := { slots := [(1, .val tIs), (2, .val tVs), (3, .ptr 4160 0), (10, .val tI)], boxes := [(4160, [.val tIs, .val (.sl (.pair tI (.pair tI (.pair tI tV))))])] }
def L_rmgL_0 : Lay := { slots := [(6, .nils), (7, .nils), (8, .val tI)] }
def L_rmgL_1 : Lay := { slots := [(1, .val tIs), (2, .val tVs), (3, .ptr 4160 0)], boxes := [(4160, [.val tIs, .val (.sl (.pair tI (.pair tI (.pair tI tV))))])] }
def X_rmgL : Exit → St → Option Lay
  | .ret, _ => some L_rmgL_0
  | .exit 0, _ => some L_rmgL_1
  | _, _ => none
abbrev C_rmgL : Code := loopC (bodyOf Try.f65) 0
theorem B_rmgL (s : List Int) (q : List V) (i : Int) (ps : List Int) (bs : List (Int × (Int × (Int × V)))) : loopBodyA (P := P) [] (lpOf []) [] 160 noU (inner C_rmgL) L_rmgL X_rmgL (α := List Int × List V × Unit × Int × List Int × List (Int × (Int × (Int × V))) × Unit) (fun x => x) (fun x => x) (s, q, (), i, ps, bs, ()) =
  Tree.cond (decide (i < (↑(List.length q) : Int))) (Tree.need ((0 : Int) ≤ i ∧ i < (↑(List.length q) : Int)) (Tree.cond (decide ((List.getD q (Int.toNat i) ((0 : Int), (0 : Int), (0 : Int))).fst < (0 : Int))) (Tree.leaf (Sum.inr (Exit.ret, Lay.st L_rmgL_0 noU (PUnit.unit, PUnit.unit, (7 : Int), PUnit.unit)))) (Tree.need ((0 : Int) ≤ i ∧ i < (↑(List.length q) : Int)) (Tree.cond (decide ((List.getD q (Int.toNat i) ((0 : Int), (0 : Int), (0 : Int))).fst ≥ (↑(List.length s) : Int))) (Tree.leaf (Sum.inr (Exit.ret, Lay.st L_rmgL_0 noU (PUnit.unit, PUnit.unit, (7 : Int), PUnit.unit)))) (Tree.need ((0 : Int) ≤ i ∧ i < (↑(List.length q) : Int)) (Tree.cond (decide ((List.getD q (Int.toNat i) ((0 : Int), (0 : Int), (0 : Int))).snd.fst < (-1 : Int))) (Tree.leaf (Sum.inr (Exit.ret, Lay.st L_rmgL_0 noU (PUnit.unit, PUnit.unit, (2 : Int), PUnit.unit)))) (Tree.need ((0 : Int) ≤ i ∧ i < (↑(List.length q) : Int)) (Tree.cond (decide ((List.getD q (Int.toNat i) ((0 : Int), (0 : Int), (0 : Int))).snd.fst > (1 : Int))) (Tree.leaf (Sum.inr (Exit.ret, Lay.st L_rmgL_0 noU (PUnit.unit, PUnit.unit, (2 : Int), PUnit.unit)))) (Tree.need ((0 : Int) ≤ i ∧ i < (↑(List.length q) : Int)) (Tree.cond (decide ((List.getD q (Int.toNat i) ((0 : Int), (0 : Int), (0 : Int))).snd.snd < (0 : Int))) (Tree.leaf (Sum.inr (Exit.ret, Lay.st L_rmgL_0 noU (PUnit.unit, PUnit.unit, (2 : Int), PUnit.unit)))) (Tree.need ((0 : Int) ≤ i ∧ i < (↑(List.length q) : Int)) (Tree.cond (decide ((List.getD q (Int.toNat i) ((0 : Int), (0 : Int), (0 : Int))).snd.snd > (99 : Int))) (Tree.leaf (Sum.inr (Exit.ret, Lay.st L_rmgL_0 noU (PUnit.unit, PUnit.unit, (2 : Int), PUnit.unit)))) (Tree.leaf (Sum.inl (s, q, PUnit.unit, IntKind.wrap IntKind.i64 (i + (1 : Int)), ps, bs, PUnit.unit))))))))))))))) (Tree.leaf (Sum.inr (Exit.exit (0 : Nat), Lay.st L_rmgL_1 noU (s, q, PUnit.unit, ps, bs, PUnit.unit)))) := by kernel_rfl
def inv_rmgL : List Int × List V × Unit × Int × List Int × List (Int × (Int × (Int × V))) × Unit → Prop := fun (s, q, (), i, ps, bs, ()) => 0 ≤ i ∧ i ≤ q.length ∧ (q.length : Int) ≤ 12
def O_rmgL : List Int × List V × Unit × Int × List Int × List (Int × (Int × (Int × V))) × Unit → Tree (Exit × St) := fun (s, q, (), i, ps, bs, ()) => .cond (decide (mrgE s.length (q.drop i.toNat) = 0)) (.leaf (.exit 0, L_rmgL_1.st noU (s, q, (), ps, bs, ()))) (.leaf (.ret, L_rmgL_0.st noU ((), (), (mrgE s.length (q.drop i.toNat)), ())))
def R_rmgL : LRun := runOf 160 L_rmgL (fun x => x) (inv_rmgL) (O_rmgL)
theorem K_rmgL : LoopOk P [] 160 none noU C_rmgL (R_rmgL) := by
  refine loop_of hm (cx := []) [] (xl := X_rmgL) (α := List Int × List V × Unit × Int × List Int × List (Int × (Int × (Int × V))) × Unit) (fun x => x) (fun (s, q, (), i, ps, bs, ()) => ((q.length : Int) - i).toNat) (fun _ => rfl) (by kernel_rfl) (by kernel_rfl) ?_ (by kernel_rfl) trivial ?_
  · intro e S L' h
    unfold X_rmgL at h
    split at h <;> first | (cases h; done) | (cases h; kernel_rfl) | (rcases bif_some h with h | h <;> cases h <;> kernel_rfl)
  · rintro ⟨s, q, ⟨⟩, i, ps, bs, ⟨⟩⟩ hinv Q hQ
    refine hold_of_eq (B_rmgL s q i ps bs) ?_
    obtain ⟨h0, h1, h2⟩ := hinv
    rw [W_id (n := i + 1) (by omega) (by omega)]
    unfold O_rmgL at hQ
    dsimp only at hQ
    refine ⟨fun c1 => ?_, fun c1 => ?_⟩
    · have d1 : i < q.length := of_decide_eq_true c1
      have hm : ((q.length : Int) - (i + 1)).toNat < ((q.length : Int) - i).toNat := by omega
      have b : 0 ≤ i ∧ i < (q.length : Int) := ⟨h0, d1⟩
      rw [mrgE_step h0 d1] at hQ
      generalize q.getD i.toNat zReq = x at *
      have e7 : (x.1 < 0 ∨ x.1 ≥ s.length) → Q (.ret, L_rmgL_0.st noU ((), (), (7 : Int), ())) := fun h => by
        have : wi x.1 0 ((s.length : Int) - 1) = false := by
          unfold wi
          by_cases c : 0 ≤ x.1
          · rw [decide_eq_false (show ¬ x.1 ≤ (s.length : Int) - 1 by omega), Bool.and_false]
          · rw [decide_eq_false c, Bool.false_and]
        rw [if_pos this] at hQ
        exact hQ.2 rfl
      have w1 : ¬ x.1 < 0 → ¬ x.1 ≥ s.length → wi x.1 0 ((s.length : Int) - 1) = true := fun g1 g2 => by
        unfold wi
        rw [decide_eq_true (show 0 ≤ x.1 by omega), decide_eq_true (show x.1 ≤ (s.length : Int) - 1 by omega)]; rfl
      have e2 : ¬ x.1 < 0 → ¬ x.1 ≥ s.length → (x.2.1 < -1 ∨ x.2.1 > 1 ∨ x.2.2 < 0 ∨ x.2.2 > 99) → Q (.ret, L_rmgL_0.st noU ((), (), (2 : Int), ())) := fun g1 g2 h => by
        have : (wi x.2.1 (-1) 1 && wi x.2.2 0 99) = false := by
          cases hh : (wi x.2.1 (-1) 1 && wi x.2.2 0 99) with
          | false => rfl
          | true =>
            exfalso
            rw [Bool.and_eq_true] at hh
            obtain ⟨a1, a2⟩ := hh
            unfold wi at a1 a2
            rw [Bool.and_eq_true, decide_eq_true_eq, decide_eq_true_eq] at a1 a2
            omega
        rw [if_neg (by rw [w1 g1 g2]; decide), if_pos this] at hQ
        exact hQ.2 rfl
      refine ⟨b, fun c2 => e7 (.inl (of_decide_eq_true c2)), fun c2 => ⟨b, fun c3 => e7 (.inr (of_decide_eq_true c3)), fun c3 => ?_⟩⟩
      have d2 := of_decide_eq_false c2
      have d3 := of_decide_eq_false c3
      refine ⟨b, fun c4 => e2 d2 d3 (.inl (of_decide_eq_true c4)), fun c4 => ⟨b, fun c5 => e2 d2 d3 (.inr (.inl (of_decide_eq_true c5))), fun c5 => ⟨b, fun c6 => e2 d2 d3 (.inr (.inr (.inl (of_decide_eq_true c6)))), fun c6 => ⟨b, fun c7 => e2 d2 d3 (.inr (.inr (.inr (of_decide_eq_true c7)))), fun c7 => ?_⟩⟩⟩⟩
      have d4 := of_decide_eq_false c4
      have d5 := of_decide_eq_false c5
      have d6 := of_decide_eq_false c6
      have d7 := of_decide_eq_false c7
      have w2 : (wi x.2.1 (-1) 1 && wi x.2.2 0 99) = true := by
        unfold wi
        rw [decide_eq_true (show -1 ≤ x.2.1 by omega), decide_eq_true (show x.2.1 ≤ 1 by omega), decide_eq_true (show 0 ≤ x.2.2 by omega), decide_eq_true (show x.2.2 ≤ 99 by omega)]; rfl
      rw [if_neg (by rw [w1 d2 d3]; decide), if_neg (by rw [w2]; decide)] at hQ
      exact ⟨⟨⟨by omega, by omega, h2⟩, hm⟩, hQ⟩
    · rw [drop_end (of_decide_eq_false c1), mrgE_nil] at hQ
      exact hQ.1 rfl
def L_rmg4 : Lay := { slots := [(1, .val tIs), (2, .val tVs), (3, .ptr 4160 0), (11, .row 3 tI), (12, .row 4 .bool), (13, .row 4 .bool), (14, .val tI), (15, .val tI)], boxes := [(4160, [.val tIs, .val (.sl (.pair tI (.pair tI (.pair tI tV))))])] }
def L_rmg4_0 : Lay := { slots := [(1, .val tIs), (2, .val tVs), (3, .ptr 4160 0), (11, .row 3 tI), (12, .row 4 .bool), (13, .row 4 .bool), (14, .val tI)], boxes := [(4160, [.val tIs, .val (.sl (.pair tI (.pair tI (.pair tI tV))))])] }
def X_rmg4 : Exit → St → Option Lay
  | .exit 4, _ => some L_rmg4_0
  | _, _ => none
abbrev C_rmg4 : Code := loopC (inner (loopC (bodyOf Try.f65) 2)) 4
theorem B_rmg4 (s : List Int) (q : List V) (m : List Int) (g tb : List Bool) (rank i : Int) (ps : List Int) (bs : List (Int × (Int × (Int × V)))) : loopBodyA (P := P) [c_rAllowedX.gc] (lpOf []) [] 160 noU (inner C_rmg4) L_rmg4 X_rmg4 (α := List Int × List V × Unit × List Int × List Bool × List Bool × Int × Int × List Int × List (Int × (Int × (Int × V))) × Unit) (fun x => x) (fun x => x) (s, q, (), m, g, tb, rank, i, ps, bs, ()) =
  Tree.cond (decide (i < (↑(List.length q) : Int))) (Tree.need ((0 : Int) ≤ i ∧ i < (↑(List.length q) : Int)) (Tree.need ((0 : Int) ≤ i ∧ i < (↑(List.length q) : Int)) (Tree.cond ((List.getD q (Int.toNat i) ((0 : Int), (0 : Int), (0 : Int))).snd.snd != rank) (Tree.leaf (Sum.inl (s, q, PUnit.unit, m, g, tb, rank, IntKind.wrap IntKind.i64 (i + (1 : Int)), ps, bs, PUnit.unit))) (Tree.need ((0 : Int) ≤ (List.getD q (Int.toNat i) ((0 : Int), (0 : Int), (0 : Int))).fst ∧ (List.getD q (Int.toNat i) ((0 : Int), (0 : Int), (0 : Int))).fst < (↑(List.length g) : Int)) (Tree.need (Int.toNat (List.getD q (Int.toNat i) ((0 : Int), (0 : Int), (0 : Int))).fst < List.length g) (Tree.cond (List.getD g (Int.toNat (List.getD q (Int.toNat i) ((0 : Int), (0 : Int), (0 : Int))).fst) false) (Tree.leaf (Sum.inl (s, q, PUnit.unit, m, g, tb, rank, IntKind.wrap IntKind.i64 (i + (1 : Int)), ps, bs, PUnit.unit))) (Tree.need ((0 : Int) ≤ i ∧ i < (↑(List.length q) : Int)) (Tree.need ((0 : Int) ≤ (List.getD q (Int.toNat i) ((0 : Int), (0 : Int), (0 : Int))).fst ∧ (List.getD q (Int.toNat i) ((0 : Int), (0 : Int), (0 : Int))).fst < (↑(List.length m) : Int)) (Tree.need (Int.toNat (List.getD q (Int.toNat i) ((0 : Int), (0 : Int), (0 : Int))).fst < List.length m) (Tree.need ((↑(List.length s) : Int) < (2 : Int) ^ (62 : Nat) ∧ (↑(List.length (List.set m (Int.toNat (List.getD q (Int.toNat i) ((0 : Int), (0 : Int), (0 : Int))).fst) (List.getD q (Int.toNat i) ((0 : Int), (0 : Int), (0 : Int))).snd.fst)) : Int) < (2 : Int) ^ (62 : Nat)) (Tree.cond (allowS (ps, bs) s (List.set m (Int.toNat (List.getD q (Int.toNat i) ((0 : Int), (0 : Int), (0 : Int))).fst) (List.getD q (Int.toNat i) ((0 : Int), (0 : Int), (0 : Int))).snd.fst)).fst (Tree.need ((0 : Int) ≤ (List.getD q (Int.toNat i) ((0 : Int), (0 : Int), (0 : Int))).fst ∧ (List.getD q (Int.toNat i) ((0 : Int), (0 : Int), (0 : Int))).fst < (↑(List.length g) : Int)) (Tree.need (Int.toNat (List.getD q (Int.toNat i) ((0 : Int), (0 : Int), (0 : Int))).fst < List.length g) (Tree.need ((0 : Int) ≤ i ∧ i < (↑(List.length tb) : Int)) (Tree.need (Int.toNat i < List.length tb) (Tree.leaf (Sum.inl (s, q, PUnit.unit, List.set m (Int.toNat (List.getD q (Int.toNat i) ((0 : Int), (0 : Int), (0 : Int))).fst) (List.getD q (Int.toNat i) ((0 : Int), (0 : Int), (0 : Int))).snd.fst, List.set g (Int.toNat (List.getD q (Int.toNat i) ((0 : Int), (0 : Int), (0 : Int))).fst) true, List.set tb (Int.toNat i) true, rank, IntKind.wrap IntKind.i64 (i + (1 : Int)), ps, bs, PUnit.unit))))))) (Tree.need ((0 : Int) ≤ (List.getD q (Int.toNat i) ((0 : Int), (0 : Int), (0 : Int))).fst ∧ (List.getD q (Int.toNat i) ((0 : Int), (0 : Int), (0 : Int))).fst < (↑(List.length (List.set m (Int.toNat (List.getD q (Int.toNat i) ((0 : Int), (0 : Int), (0 : Int))).fst) (List.getD q (Int.toNat i) ((0 : Int), (0 : Int), (0 : Int))).snd.fst)) : Int)) (Tree.need (Int.toNat (List.getD q (Int.toNat i) ((0 : Int), (0 : Int), (0 : Int))).fst < List.length (List.set m (Int.toNat (List.getD q (Int.toNat i) ((0 : Int), (0 : Int), (0 : Int))).fst) (List.getD q (Int.toNat i) ((0 : Int), (0 : Int), (0 : Int))).snd.fst)) (Tree.leaf (Sum.inl (s, q, PUnit.unit, List.set (List.set m (Int.toNat (List.getD q (Int.toNat i) ((0 : Int), (0 : Int), (0 : Int))).fst) (List.getD q (Int.toNat i) ((0 : Int), (0 : Int), (0 : Int))).snd.fst) (Int.toNat (List.getD q (Int.toNat i) ((0 : Int), (0 : Int), (0 : Int))).fst) (0 : Int), g, tb, rank, IntKind.wrap IntKind.i64 (i + (1 : Int)), ps, bs, PUnit.unit)))))))))))))))) (Tree.leaf (Sum.inr (Exit.exit (4 : Nat), Lay.st L_rmg4_0 noU (s, q, PUnit.unit, m, g, tb, rank, ps, bs, PUnit.unit)))) := by kernel_rfl
def inv_rmg4 : List Int × List V × Unit × List Int × List Bool × List Bool × Int × Int × List Int × List (Int × (Int × (Int × V))) × Unit → Prop := fun (s, q, (), m, g, tb, rank, i, ps, bs, ()) => 0 ≤ i ∧ i ≤ q.length ∧ (q.length : Int) ≤ 12 ∧ (∀ x ∈ q, 0 ≤ x.1 ∧ x.1 < s.length) ∧ m.length = s.length ∧ g.length = s.length ∧ (s.length : Int) ≤ 4 ∧ tb.length = q.length
def O_rmg4 : List Int × List V × Unit × List Int × List Bool × List Bool × Int × Int × List Int × List (Int × (Int × (Int × V))) × Unit → Tree (Exit × St) := fun (s, q, (), m, g, tb, rank, i, ps, bs, ()) => (.leaf (.exit 4, L_rmg4_0.st noU (s, q, (), ((mgI (ps, bs) s q rank ((q.length : Int) - i).toNat i (m, g, tb)).1), ((mgI (ps, bs) s q rank ((q.length : Int) - i).toNat i (m, g, tb)).2.1), ((mgI (ps, bs) s q rank ((q.length : Int) - i).toNat i (m, g, tb)).2.2), rank, ps, bs, ())))
def R_rmg4 : LRun := runOf 160 L_rmg4 (fun x => x) (inv_rmg4) (O_rmg4)
theorem K_rmg4 : LoopOk P [] 160 none noU C_rmg4 (R_rmg4) := by
  refine loop_of hm (cx := [c_rAllowedX.gc]) [] (xl := X_rmg4) (α := List Int × List V × Unit × List Int × List Bool × List Bool × Int × Int × List Int × List (Int × (Int × (Int × V))) × Unit) (fun x => x) (fun (s, q, (), m, g, tb, rank, i, ps, bs, ()) => ((q.length : Int) - i).toNat) (fun _ => rfl) (by kernel_rfl) (by kernel_rfl) ?_ (by kernel_rfl) trivial ?_
  · intro e S L' h
    unfold X_rmg4 at h
    split at h <;> first | (cases h; done) | (cases h; kernel_rfl) | (rcases bif_some h with h | h <;> cases h <;> kernel_rfl)
  · rintro ⟨s, q, ⟨⟩, m, g, tb, rank, i, ps, bs, ⟨⟩⟩ hinv Q hQ
    refine hold_of_eq (B_rmg4 s q m g tb rank i ps bs) ?_
    obtain ⟨h0, h1, h2, h4, h5, h6, h7, h8⟩ := hinv
    rw [W_id (n := i + 1) (by omega) (by omega)]
    have hQ' : Q (.exit 4, L_rmg4_0.st noU (s, q, (), (mgI (ps, bs) s q rank ((q.length : Int) - i).toNat i (m, g, tb)).1, (mgI (ps, bs) s q rank ((q.length : Int) - i).toNat i (m, g, tb)).2.1, (mgI (ps, bs) s q rank ((q.length : Int) - i).toNat i (m, g, tb)).2.2, rank, ps, bs, ())) := hQ
    refine ⟨fun c1 => ?_, fun c1 => ?_⟩
    · have d1 : i < q.length := of_decide_eq_true c1
      have hm : ((q.length : Int) - (i + 1)).toNat < ((q.length : Int) - i).toNat := by omega
      have b : 0 ≤ i ∧ i < (q.length : Int) := ⟨h0, d1⟩
      obtain ⟨y0, y1⟩ := h4 _ (getD_mem (d := zReq) (show i.toNat < q.length by omega))
      rw [show ((q.length : Int) - i).toNat = ((q.length : Int) - (i + 1)).toNat + 1 by omega, mgI] at hQ'
      unfold mgI1 at hQ'
      dsimp only at hQ'
      generalize q.getD i.toNat zReq = x at *
      have b1 : x.1.toNat < g.length := by omega
      have b2 : x.1.toNat < m.length := by omega
      refine ⟨b, b, fun c2 => ?_, fun c2 => ⟨⟨y0, by omega⟩, b1, fun c3 => ?_, fun c3 => ⟨b, ⟨y0, by omega⟩, b2, ⟨by omega, by rw [List.length_set]; omega⟩, fun c4 => ⟨⟨y0, by omega⟩, b1, ⟨h0, by omega⟩, by omega, ?_⟩, fun c4 => ⟨⟨y0, by rw [List.length_set]; omega⟩, by rw [List.length_set]; exact b2, ?_⟩⟩⟩⟩
      · have d2 : x.2.2 ≠ rank := by simpa using c2
        rw [if_pos (.inl d2)] at hQ'
        exact ⟨⟨⟨by omega, by omega, h2, h4, h5, h6, h7, h8⟩, hm⟩, hQ'⟩
      · rw [if_pos (.inr (show g.getD x.1.toNat false = true from c3))] at hQ'
        exact ⟨⟨⟨by omega, by omega, h2, h4, h5, h6, h7, h8⟩, hm⟩, hQ'⟩
      all_goals
        have d2 : ¬ x.2.2 ≠ rank := by simpa using c2
        rw [if_neg (fun h => h.elim d2 (fun h => by rw [show g.getD x.1.toNat false = false from c3] at h; cases h))] at hQ'
      · rw [if_pos (show (allowS (ps, bs) s (m.set x.1.toNat x.2.1)).1 = true from c4)] at hQ'
        exact ⟨⟨⟨by omega, by omega, h2, h4, by rw [List.length_set]; exact h5, by rw [List.length_set]; exact h6, h7, by rw [List.length_set]; exact h8⟩, hm⟩, hQ'⟩
      · rw [if_neg (by rw [show (allowS (ps, bs) s (m.set x.1.toNat x.2.1)).1 = false from c4]; decide)] at hQ'
        rw [List.set_set]
        exact ⟨⟨⟨by omega, by omega, h2, h4, by rw [List.length_set]; exact h5, h6, h7, h8⟩, hm⟩, hQ'⟩
    · have d1 : ¬ i < q.length := of_decide_eq_false c1
      rw [show ((q.length : Int) - i).toNat = 0 by omega] at hQ'
      exact hQ'
def L_rmg2 : Lay := { slots := [(1, .val tIs), (2, .val tVs), (3, .ptr 4160 0), (11, .row 3 tI), (12, .row 4 .bool), (13, .row 4 .bool), (14, .val tI)], boxes := [(4160, [.val tIs, .val (.sl (.pair tI (.pair tI (.pair tI tV))))])] }
def L_rmg2_0 : Lay := { slots := [(2, .val tVs), (11, .row 3 tI), (13, .row 4 .bool)] }
def X_rmg2 : Exit → St → Option Lay
  | .exit 2, _ => some L_rmg2_0
  | _, _ => none
abbrev C_rmg2 : Code := loopC (bodyOf Try.f65) 2
theorem B_rmg2 (s : List Int) (q : List V) (m : List Int) (g tb : List Bool) (rank : Int) (ps : List Int) (bs : List (Int × (Int × (Int × V)))) : loopBodyA (P := P) [] (lpOf [(4, R_rmg4)]) [] 160 noU (inner C_rmg2) L_rmg2 X_rmg2 (α := List Int × List V × Unit × List Int × List Bool × List Bool × Int × List Int × List (Int × (Int × (Int × V))) × Unit) (fun x => x) (fun x => x) (s, q, (), m, g, tb, rank, ps, bs, ()) =
  Tree.cond (decide (rank ≤ (99 : Int))) (Tree.need (inv_rmg4 (s, q, (), m, g, tb, rank, (0 : Int), ps, bs, ())) (Tree.leaf (Sum.inl (s, q, PUnit.unit, (mgI (ps, bs) s q rank (Int.toNat ((↑(List.length q) : Int) - (0 : Int))) (0 : Int) (m, g, tb)).fst, (mgI (ps, bs) s q rank (Int.toNat ((↑(List.length q) : Int) - (0 : Int))) (0 : Int) (m, g, tb)).snd.fst, (mgI (ps, bs) s q rank (Int.toNat ((↑(List.length q) : Int) - (0 : Int))) (0 : Int) (m, g, tb)).snd.snd, IntKind.wrap IntKind.i64 (rank + (1 : Int)), ps, bs, PUnit.unit)))) (Tree.leaf (Sum.inr (Exit.exit (2 : Nat), Lay.st L_rmg2_0 noU (q, m, tb, PUnit.unit)))) := by kernel_rfl
def inv_rmg2 : List Int × List V × Unit × List Int × List Bool × List Bool × Int × List Int × List (Int × (Int × (Int × V))) × Unit → Prop := fun (s, q, (), m, g, tb, rank, ps, bs, ()) => 0 ≤ rank ∧ rank ≤ 100 ∧ (q.length : Int) ≤ 12 ∧ (∀ x ∈ q, 0 ≤ x.1 ∧ x.1 < s.length) ∧ m.length = s.length ∧ g.length = s.length ∧ (s.length : Int) ≤ 4 ∧ tb.length = q.length
def O_rmg2 : List Int × List V × Unit × List Int × List Bool × List Bool × Int × List Int × List (Int × (Int × (Int × V))) × Unit → Tree (Exit × St) := fun (s, q, (), m, g, tb, rank, ps, bs, ()) => (.leaf (.exit 2, L_rmg2_0.st noU (q, ((mgK (ps, bs) s q (100 - rank).toNat rank (m, g, tb)).1), ((mgK (ps, bs) s q (100 - rank).toNat rank (m, g, tb)).2.2), ())))
def R_rmg2 : LRun := runOf 160 L_rmg2 (fun x => x) (inv_rmg2) (O_rmg2)
theorem K_rmg2 : LoopOk P [] 160 none noU C_rmg2 (R_rmg2) := by
  refine loop_of hm (cx := []) [(4, R_rmg4)] (xl := X_rmg2) (α := List Int × List V × Unit × List Int × List Bool × List Bool × Int × List Int × List (Int × (Int × (Int × V))) × Unit) (fun x => x) (fun (s, q, (), m, g, tb, rank, ps, bs, ()) => (100 - rank).toNat) (fun _ => rfl) (by kernel_rfl) (by kernel_rfl) ?_ (by kernel_rfl) ⟨K_rmg4, trivial⟩ ?_
  · intro e S L' h
    unfold X_rmg2 at h
    split at h <;> first | (cases h; done) | (cases h; kernel_rfl) | (rcases bif_some h with h | h <;> cases h <;> kernel_rfl)
  · rintro ⟨s, q, ⟨⟩, m, g, tb, rank, ps, bs, ⟨⟩⟩ hinv Q hQ
    refine hold_of_eq (B_rmg2 s q m g tb rank ps bs) ?_
    obtain ⟨h0, h1, h2, h4, h5, h6, h7, h8⟩ := hinv
    rw [W_id (n := rank + 1) (by omega) (by omega), Int.sub_zero, Int.toNat_natCast]
    have hQ' : Q (.exit 2, L_rmg2_0.st noU (q, (mgK (ps, bs) s q (100 - rank).toNat rank (m, g, tb)).1, (mgK (ps, bs) s q (100 - rank).toNat rank (m, g, tb)).2.2, ())) := hQ
    refine ⟨fun c1 => ?_, fun c1 => ?_⟩
    · have d1 : rank ≤ 99 := of_decide_eq_true c1
      obtain ⟨g1, g2, g3⟩ := mgI_len (ps, bs) s q rank q.length 0 (m, g, tb)
      rw [show (100 - rank).toNat = (100 - (rank + 1)).toNat + 1 by omega, mgK] at hQ'
      exact ⟨⟨by decide, by omega, h2, h4, h5, h6, h7, h8⟩, ⟨⟨by omega, by omega, h2, h4, by rw [g1]; exact h5, by rw [g2]; exact h6, h7, by rw [g3]; exact h8⟩, by show (100 - (rank + 1)).toNat < (100 - rank).toNat; omega⟩, hQ'⟩
    · have d1 : ¬ rank ≤ 99 := of_decide_eq_false c1
      rw [show (100 - rank).toNat = 0 by omega] at hQ'
      exact hQ'
def L_rmg6 : Lay := { slots := [(2, .val tVs), (11, .row 3 tI), (13, .row 4 .bool), (19, .row 3 tI), (20, .val tI)] }
def L_rmg6_0 : Lay := { slots := [(11, .row 3 tI), (19, .row 3 tI)] }
def X_rmg6 : Exit → St → Option Lay
  | .exit 6, _ => some L_rmg6_0
  | _, _ => none
abbrev C_rmg6 : Code := loopC (bodyOf Try.f65) 6
theorem B_rmg6 (q : List V) (m : List Int) (tb : List Bool) (w : List Int) (i : Int) : loopBodyA (P := P) [] (lpOf []) [] 160 noU (inner C_rmg6) L_rmg6 X_rmg6 (α := List V × List Int × List Bool × List Int × Int × Unit) (fun x => x) (fun x => x) (q, m, tb, w, i, ()) =
  Tree.cond (decide (i < (↑(List.length q) : Int))) (Tree.need ((0 : Int) ≤ i ∧ i < (↑(List.length tb) : Int)) (Tree.need (Int.toNat i < List.length tb) (Tree.cond (List.getD tb (Int.toNat i) false) (Tree.need ((List.length w + List.length [i]) * (8 : Nat) ≤ (140737488355328 : Nat)) (Tree.leaf (Sum.inl (q, m, tb, w ++ [i], IntKind.wrap IntKind.i64 (i + (1 : Int)), PUnit.unit)))) (Tree.leaf (Sum.inl (q, m, tb, w, IntKind.wrap IntKind.i64 (i + (1 : Int)), PUnit.unit)))))) (Tree.leaf (Sum.inr (Exit.exit (6 : Nat), Lay.st L_rmg6_0 noU (m, w, PUnit.unit)))) := by kernel_rfl
def inv_rmg6 : List V × List Int × List Bool × List Int × Int × Unit → Prop := fun (q, m, tb, w, i, ()) => 0 ≤ i ∧ i ≤ q.length ∧ (q.length : Int) ≤ 12 ∧ tb.length = q.length ∧ (w.length : Int) ≤ i
def O_rmg6 : List V × List Int × List Bool × List Int × Int × Unit → Tree (Exit × St) := fun (q, m, tb, w, i, ()) => (.leaf (.exit 6, L_rmg6_0.st noU (m, (whR tb ((q.length : Int) - i).toNat i w), ())))
def R_rmg6 : LRun := runOf 160 L_rmg6 (fun x => x) (inv_rmg6) (O_rmg6)
theorem K_rmg6 : LoopOk P [] 160 none noU C_rmg6 (R_rmg6) := by
  refine loop_of hm (cx := []) [] (xl := X_rmg6) (α := List V × List Int × List Bool × List Int × Int × Unit) (fun x => x) (fun (q, m, tb, w, i, ()) => ((q.length : Int) - i).toNat) (fun _ => rfl) (by kernel_rfl) (by kernel_rfl) ?_ (by kernel_rfl) trivial ?_
  · intro e S L' h
    unfold X_rmg6 at h
    split at h <;> first | (cases h; done) | (cases h; kernel_rfl) | (rcases bif_some h with h | h <;> cases h <;> kernel_rfl)
  · rintro ⟨q, m, tb, w, i, ⟨⟩⟩ hinv Q hQ
    refine hold_of_eq (B_rmg6 q m tb w i) ?_
    obtain ⟨h0, h1, h2, h3, h4⟩ := hinv
    rw [W_id (n := i + 1) (by omega) (by omega)]
    have hQ' : Q (.exit 6, L_rmg6_0.st noU (m, whR tb ((q.length : Int) - i).toNat i w, ())) := hQ
    refine ⟨fun c1 => ?_, fun c1 => ?_⟩
    · have d1 : i < q.length := of_decide_eq_true c1
      have hm : ((q.length : Int) - (i + 1)).toNat < ((q.length : Int) - i).toNat := by omega
      rw [show ((q.length : Int) - i).toNat = ((q.length : Int) - (i + 1)).toNat + 1 by omega, whR] at hQ'
      refine ⟨⟨h0, by omega⟩, by omega, fun c2 => ⟨by show (w.length + 1) * 8 ≤ 140737488355328; omega, ?_⟩, fun c2 => ?_⟩
      · rw [if_pos (show tb.getD i.toNat false = true from c2)] at hQ'
        exact ⟨⟨⟨by omega, by omega, h2, h3, by rw [List.length_append, List.length_singleton]; omega⟩, hm⟩, hQ'⟩
      · rw [if_neg (by rw [show tb.getD i.toNat false = false from c2]; decide)] at hQ'
        exact ⟨⟨⟨by omega, by omega, h2, h3, by omega⟩, hm⟩, hQ'⟩
    · have d1 : ¬ i < q.length := of_decide_eq_false c1
      rw [show ((q.length : Int) - i).toNat = 0 by omega] at hQ'
      exact hQ'
theorem T_rMerge (ps : List Int) (bs : List (Int × (Int × (Int × V)))) (s : List Int) (q : List V) : fnTree (P := P) [c_rState.gc] (lpOf [(0, R_rmgL), (2, R_rmg2), (6, R_rmg6)]) Try.f65 (encL 0 [.agg (.pair tIs (.sl (.pair tI (.pair tI (.pair tI tV))))), .val tIs, .val tVs] ((ps, bs), s, q, ())) =
  Tree.need ((↑(List.length s) : Int) < (2 : Int) ^ (62 : Nat)) (Tree.cond (stateS (ps, bs) s != (0 : Int)) (Tree.leaf (SV.tup [SV.nils, SV.nils, SV.int IntKind.i64 (stateS (ps, bs) s)])) (Tree.cond (decide ((↑(List.length q) : Int) > (12 : Int))) (Tree.leaf (SV.tup [SV.nils, SV.nils, SV.int IntKind.i64 (8 : Int)])) (Tree.need (inv_rmgL (s, q, (), (0 : Int), ps, bs, ())) (Tree.cond (decide (mrgE (↑(List.length s) : Int) (List.drop (Int.toNat (0 : Int)) q) = (0 : Int))) (Tree.need ((0 : Int) ≤ (↑(List.length s) : Int) ∧ (↑(List.length s) : Int) = (↑(List.length s) : Int) ∧ (↑(List.length s) : Int) ≤ (70368744177664 : Int) ∧ (↑(8 : Nat) : Int) * (↑(List.length s) : Int) ≤ (140737488355328 : Int)) (Tree.need ((0 : Int) ≤ (↑(List.length s) : Int) ∧ (↑(List.length s) : Int) = (↑(List.length s) : Int) ∧ (↑(List.length s) : Int) ≤ (70368744177664 : Int) ∧ (↑(1 : Nat) : Int) * (↑(List.length s) : Int) ≤ (140737488355328 : Int)) (Tree.need ((0 : Int) ≤ (↑(List.length q) : Int) ∧ (↑(List.length q) : Int) = (↑(List.length q) : Int) ∧ (↑(List.length q) : Int) ≤ (70368744177664 : Int) ∧ (↑(1 : Nat) : Int) * (↑(List.length q) : Int) ≤ (140737488355328 : Int)) (Tree.need (inv_rmg2 (s, q, (), List.replicate (Int.toNat (↑(List.length s) : Int)) (0 : Int), List.replicate (Int.toNat (↑(List.length s) : Int)) false, List.replicate (Int.toNat (↑(List.length q) : Int)) false, (0 : Int), ps, bs, ())) (Tree.need (inv_rmg6 (q, (mgK (ps, bs) s q (Int.toNat ((100 : Int) - (0 : Int))) (0 : Int) (List.replicate (Int.toNat (↑(List.length s) : Int)) (0 : Int), List.replicate (Int.toNat (↑(List.length s) : Int)) false, List.replicate (Int.toNat (↑(List.length q) : Int)) false)).fst, (mgK (ps, bs) s q (Int.toNat ((100 : Int) - (0 : Int))) (0 : Int) (List.replicate (Int.toNat (↑(List.length s) : Int)) (0 : Int), List.replicate (Int.toNat (↑(List.length s) : Int)) false, List.replicate (Int.toNat (↑(List.length q) : Int)) false)).snd.snd, [], (0 : Int), ())) (Tree.leaf (SV.tup [SV.sl (Ty.int IntKind.i64) (mgK (ps, bs) s q (Int.toNat ((100 : Int) - (0 : Int))) (0 : Int) (List.replicate (Int.toNat (↑(List.length s) : Int)) (0 : Int), List.replicate (Int.toNat (↑(List.length s) : Int)) false, List.replicate (Int.toNat (↑(List.length q) : Int)) false)).fst, SV.sl (Ty.int IntKind.i64) (whR (mgK (ps, bs) s q (Int.toNat ((100 : Int) - (0 : Int))) (0 : Int) (List.replicate (Int.toNat (↑(List.length s) : Int)) (0 : Int), List.replicate (Int.toNat (↑(List.length s) : Int)) false, List.replicate (Int.toNat (↑(List.length q) : Int)) false)).snd.snd (Int.toNat ((↑(List.length q) : Int) - (0 : Int))) (0 : Int) []), SV.int IntKind.i64 (0 : Int)]))))))) (Tree.leaf (SV.tup [SV.nils, SV.nils, SV.int IntKind.i64 (mrgE (↑(List.length s) : Int) (List.drop (Int.toNat (0 : Int)) q))])))))) := by kernel_rfl
def c_rMerge : PC P := PC.of (α := (List Int × List (Int × (Int × (Int × V)))) × List Int × List V × Unit) 65 [.agg (.pair tIs (.sl (.pair tI (.pair tI (.pair tI tV))))), .val tIs, .val tVs] (fun x => x) (fun x => x) (fun _ => rfl)
  (fun x => some ((x.2.2.1.length : Int) < 2 ^ 62 ∧ (x.2.1.length : Int) < 2 ^ 62))
  (fun x => .tup [.sl tI (rmrgS (x.1.1, x.1.2) x.2.1 x.2.2.1).1, .sl tI (rmrgS (x.1.1, x.1.2) x.2.1 x.2.2.1).2.1, .int .i64 (rmrgS (x.1.1, x.1.2) x.2.1 x.2.2.1).2.2]) (by kernel_rfl) (by
    rintro ⟨⟨ps, bs⟩, s, q, ⟨⟩⟩ hp
    refine fn_le hm (by kernel_rfl) (by kernel_rfl) (T_rMerge ps bs s q) ⟨K_rmgL, K_rmg2, K_rmg6, trivial⟩ (by kernel_rfl) ?_
    try dsimp only at hp
    try dsimp only
    obtain ⟨hp1, hp2⟩ : (q.length : Int) < 2 ^ 62 ∧ (s.length : Int) < 2 ^ 62 := hp
    have bad : ∀ e : Int, mrgErr (ps, bs) s q = e → e ≠ 0 → LeS (.tup [.nils, .nils, .int .i64 e]) (.tup [.sl tI (rmrgS (ps, bs) s q).1, .sl tI (rmrgS (ps, bs) s q).2.1, .int .i64 (rmrgS (ps, bs) s q).2.2]) := fun e q1 q2 => by
      unfold rmrgS
      rw [q1, if_pos q2]
      exact leS_n3 e
    refine ⟨hp2, fun c1 => ?_, fun c1 => ?_⟩
    · have d1 : stateS (ps, bs) s ≠ 0 := by simpa using c1
      exact bad _ (by unfold mrgErr; rw [if_pos d1]) d1
    have d1 : stateS (ps, bs) s = 0 := by simpa using c1
    obtain ⟨a1, a2, a3⟩ := stateS_in (r := (ps, bs)) (.inl d1)
    obtain ⟨k1, k2, k3, k4, k5⟩ := checkS_ok a1
    dsimp only at a2 k1 k2
    simp only [Int.toNat_zero, List.drop_zero, Int.sub_zero, Int.toNat_natCast]
    refine ⟨fun c2 => ?_, fun c2 => ?_⟩
    · have d2 := of_decide_eq_true c2
      exact bad 8 (by unfold mrgErr; rw [if_neg (by rw [d1]; simp), if_pos (by omega)]) (by decide)
    have d2 := of_decide_eq_false c2
    have n2 : ¬ q.length > 12 := by omega
    refine ⟨⟨by decide, by omega, by omega⟩, fun c3 => ?_, fun c3 => ?_⟩
    · have d3 : mrgE s.length q = 0 := of_decide_eq_true c3
      have hE : mrgErr (ps, bs) s q = 0 := by unfold mrgErr; rw [if_neg (by rw [d1]; simp), if_neg n2, d3]
      have hok := mrgE_ok d3
      have er : rmrgS (ps, bs) s q = ((rmg0 (ps, bs) s q).1, whR (rmg0 (ps, bs) s q).2.2 q.length 0 [], 0) := by
        unfold rmrgS
        rw [hE, if_neg (by decide)]
      obtain ⟨g1, g2, g3⟩ := mgK_len (ps, bs) s q 100 0 (List.replicate s.length 0, List.replicate s.length false, List.replicate q.length false)
      rw [er]
      exact ⟨⟨by omega, trivial, by omega, by omega⟩, ⟨by omega, trivial, by omega, by omega⟩, ⟨by omega, trivial, by omega, by omega⟩, ⟨by decide, by decide, by omega, fun x hx => (hok x hx).1, List.length_replicate, List.length_replicate, by omega, List.length_replicate⟩, ⟨by decide, by omega, by omega, by show (mgK (ps, bs) s q (100 : Int).toNat 0 _).2.2.length = q.length; rw [show (100 : Int).toNat = 100 from rfl, g3]; exact List.length_replicate, by decide⟩, leS_t3 _ _ 0⟩
    · have d3 : ¬ mrgE s.length q = 0 := of_decide_eq_false c3
      exact bad _ (by unfold mrgErr; rw [if_neg (by rw [d1]; simp), if_neg n2]) d3)
end
end Go.MR
