/- Lengths dropped, in general: the program's Drop and the reference's. -/
import Derived.Test.YtoockflaeaknbaaMsP
namespace Go.MP
open Go Go.Sx Go.Proofs
set_option linter.unusedVariables false
set_option linter.unusedSimpArgs false
noncomputable section
def dropS (l : List Tb) (n : Int) : List Tb × Int := if checkT l ≠ 0 then ([], checkT l) else if wi n 1 (cntL l) = false then ([], 7) else (dropE l n, 0)
theorem dropE_last {r : List Tb} {n : Int} (h : r ≠ []) (h0 : 0 < n) : dropE r n = if (r.getD (r.length - 1) zT).1 > n then r.set (r.length - 1) ((r.getD (r.length - 1) zT).1 - n, (r.getD (r.length - 1) zT).2) else dropE (r.take (r.length - 1)) (n - (r.getD (r.length - 1) zT).1) := by
  have e := snoc_of h
  conv => lhs; rw [e]
  rw [dropE_snoc _ _ h0, set_last h]
theorem cnt_take {r : List Tb} (h : r ≠ []) : cntL r = cntL (r.take (r.length - 1)) + (r.getD (r.length - 1) zT).1 := by
  have e := snoc_of h
  have : cntL r = cntL (r.take (r.length - 1)) + cntL [r.getD (r.length - 1) zT] := by rw [← cntL_append, ← e]
  rw [this, cntL, cntL, Int.add_zero]
theorem nilS_dr (e : Int) : NilS (.tup [.agg [.nils], .int .i64 e]) (.tup [.agg [.own 100], .int .i64 e]) := by simp [NilS, NilL, isData, newBase]
def L_DropC : Lay := { slots := [(1, .val tI), (4, .ptr 5072 0), (10, .row 50 tT)], boxes := [(5072, [.val tTs])] }
def L_DropC_0 : Lay := { slots := [(4, .ptr 5072 0), (10, .row 50 tT)], boxes := [(5072, [.val tTs])] }
def X_DropC : Exit → St → Option Lay
  | .exit 2, _ => some L_DropC_0
  | _, _ => none
abbrev C_DropC : Code := loopC (bodyOf Try.f52) 2
theorem B_DropC (n : Int) (r z_0 : List Tb) : loopBodyA (P := P) [] (lpOf []) [] 72 noU (inner C_DropC) L_DropC X_DropC (α := Int × Unit × List Tb × List Tb × Unit) (fun x => x) (fun x => x) (n, (), r, z_0, ()) =
  Tree.cond (decide (n > (0 : Int))) (Tree.need ((0 : Int) ≤ IntKind.wrap IntKind.i64 ((↑(List.length r) : Int) - (1 : Int)) ∧ IntKind.wrap IntKind.i64 ((↑(List.length r) : Int) - (1 : Int)) < (↑(List.length r) : Int)) (Tree.need (Int.toNat (IntKind.wrap IntKind.i64 ((↑(List.length r) : Int) - (1 : Int))) < List.length r) (Tree.cond (decide ((List.getD r (Int.toNat (IntKind.wrap IntKind.i64 ((↑(List.length r) : Int) - (1 : Int)))) ((0 : Int), (0 : Int), (0 : Int), (0 : Int), (0 : Int), (0 : Int), (0 : Int), (0 : Int), (0 : Int))).fst > n)) (Tree.need (Int.toNat (IntKind.wrap IntKind.i64 ((↑(List.length r) : Int) - (1 : Int))) < List.length r) (Tree.need (Int.toNat (IntKind.wrap IntKind.i64 ((↑(List.length r) : Int) - (1 : Int))) < List.length r) (Tree.leaf (Sum.inr (Exit.exit (2 : Nat), Lay.st L_DropC_0 noU (PUnit.unit, List.set r (Int.toNat (IntKind.wrap IntKind.i64 ((↑(List.length r) : Int) - (1 : Int)))) (IntKind.wrap IntKind.i64 ((List.getD r (Int.toNat (IntKind.wrap IntKind.i64 ((↑(List.length r) : Int) - (1 : Int)))) ((0 : Int), (0 : Int), (0 : Int), (0 : Int), (0 : Int), (0 : Int), (0 : Int), (0 : Int), (0 : Int))).fst - n), (List.getD r (Int.toNat (IntKind.wrap IntKind.i64 ((↑(List.length r) : Int) - (1 : Int)))) ((0 : Int), (0 : Int), (0 : Int), (0 : Int), (0 : Int), (0 : Int), (0 : Int), (0 : Int), (0 : Int))).snd), z_0, PUnit.unit)))))) (Tree.need (Int.toNat (IntKind.wrap IntKind.i64 ((↑(List.length r) : Int) - (1 : Int))) < List.length r) (Tree.need ((0 : Int) ≤ IntKind.wrap IntKind.i64 ((↑(List.length r) : Int) - (1 : Int)) ∧ IntKind.wrap IntKind.i64 ((↑(List.length r) : Int) - (1 : Int)) ≤ (↑(List.length r) : Int)) (Tree.leaf (Sum.inl (IntKind.wrap IntKind.i64 (n - (List.getD r (Int.toNat (IntKind.wrap IntKind.i64 ((↑(List.length r) : Int) - (1 : Int)))) ((0 : Int), (0 : Int), (0 : Int), (0 : Int), (0 : Int), (0 : Int), (0 : Int), (0 : Int), (0 : Int))).fst), PUnit.unit, List.take (Int.toNat (IntKind.wrap IntKind.i64 ((↑(List.length r) : Int) - (1 : Int)))) r, z_0, PUnit.unit)))))))) (Tree.leaf (Sum.inr (Exit.exit (2 : Nat), Lay.st L_DropC_0 noU (PUnit.unit, r, z_0, PUnit.unit)))) := by kernel_rfl
def inv_DropC : Int × Unit × List Tb × List Tb × Unit → Prop := fun (n, (), r, z_0, ()) => AllF r ∧ r.length ≤ 8 ∧ 0 ≤ n ∧ n ≤ cntL r
def O_DropC : Int × Unit × List Tb × List Tb × Unit → Tree (Exit × St) := fun (n, (), r, z_0, ()) => (.leaf (.exit 2, L_DropC_0.st noU ((), (dropE r n), z_0, ())))
def R_DropC : LRun := runOf 72 L_DropC (fun x => x) (inv_DropC) (O_DropC)
theorem K_DropC : LoopOk P [] 72 none noU C_DropC (R_DropC) := by
  refine loop_of hm (cx := []) [] (xl := X_DropC) (α := Int × Unit × List Tb × List Tb × Unit) (fun x => x) (fun (n, (), r, z_0, ()) => r.length) (fun _ => rfl) (by kernel_rfl) (by kernel_rfl) ?_ (by kernel_rfl) trivial ?_
  · intro e S L' h
    unfold X_DropC at h
    split at h <;> first | (cases h; done) | (cases h; kernel_rfl) | (rcases bif_some h with h | h <;> cases h <;> kernel_rfl)
  · rintro ⟨n, ⟨⟩, r, z_0, ⟨⟩⟩ hinv Q hQ
    refine hold_of_eq (B_DropC n r z_0) ?_
    obtain ⟨h1, h2, h3, h4⟩ := hinv
    unfold O_DropC at hQ
    dsimp only at hQ
    refine ⟨fun c1 => ?_, fun c1 => ?_⟩
    · have c1 := of_decide_eq_true c1
      have hne : r ≠ [] := fun e => by rw [e] at h4; have : cntL [] = 0 := rfl; omega
      have hpos : 0 < r.length := List.length_pos_iff.2 hne
      obtain ⟨k1, k2⟩ := cnt_last hne h1
      have k3 := k2.cnt
      have k4 := cnt_take hne
      rw [W_id (n := (r.length : Int) - 1) (by omega) (by omega)]
      have e1 : ((r.length : Int) - 1).toNat = r.length - 1 := by omega
      rw [e1]
      rw [dropE_last hne c1] at hQ
      have k5 := cntL_rng r h1
      have w1 : r.length - 1 < r.length := by omega
      rw [show r.getD (r.length - 1) (0, 0, 0, 0, 0, 0, 0, 0, 0) = r.getD (r.length - 1) zT from rfl]
      generalize r.getD (r.length - 1) zT = u at *
      rw [W_id (n := u.1 - n) (by omega) (by omega), W_id (n := n - u.1) (by omega) (by omega)]
      refine ⟨by omega, w1, fun c2 => ⟨w1, w1, ?_⟩, fun c2 => ⟨w1, by omega, ?_⟩⟩
      · rw [if_pos (of_decide_eq_true c2)] at hQ
        exact hQ
      · have c2 := of_decide_eq_false c2
        rw [if_neg c2] at hQ
        exact ⟨⟨⟨fun t ht => h1 t (List.mem_of_mem_take ht), by show (r.take (r.length - 1)).length ≤ 8; rw [List.length_take]; omega, by omega, by omega⟩, by show (r.take (r.length - 1)).length < r.length; rw [List.length_take]; omega⟩, hQ⟩
    · have c1 := of_decide_eq_false c1
      rw [dropE_nil _ (by omega)] at hQ
      exact hQ
def L_Dropg : Lay := { slots := [(0, .agg tTs), (1, .val tI)] }
theorem T_Dropg (l_0 : List Tb) (n : Int) : mTree (P := P) [c_TCheck.gc, c_twithin.gc, c_cloneT.gc] (lpOf [(0, R_DropA), (2, R_DropC)]) Try.f52 L_Dropg true (l_0, n, ()) =
  Tree.need ((↑(List.length l_0) : Int) < (2 : Int) ^ (62 : Nat)) (Tree.cond (checkT l_0 != (0 : Int)) (Tree.leaf { res := SV.tup [SV.agg [SV.nils], SV.int IntKind.i64 (checkT l_0)], boxes := [] }) (Tree.need (inv_DropA (n, (), (), (0 : Int), l_0, (↑(List.length l_0) : Int), (0 : Int), l_0, [], ())) (Tree.cond (!wi n (1 : Int) ((0 : Int) + cntL (List.drop (Int.toNat (0 : Int)) l_0))) (Tree.leaf { res := SV.tup [SV.agg [SV.nils], SV.int IntKind.i64 (7 : Int)], boxes := [] }) (Tree.need (l_0 ≠ [] ∧ List.length l_0 ≤ (1000 : Nat)) (Tree.need (inv_DropC (n, (), l_0, [], ())) (Tree.leaf { res := SV.tup [SV.agg [SV.own (nat_lit 100)], SV.int IntKind.i64 (0 : Int)], boxes := [], news := [Ob.row (50 : TypeId) tT (dropE l_0 n)] })))))) := by kernel_rfl
def c_Dropg : MC P := MC.of (α := List Tb × Int × Unit) 52 L_Dropg (fun x => x) (fun x => x) (fun _ => rfl)
  (fun x => some ((x.1.length : Int) < 2 ^ 62))
  (fun x => ⟨.tup [.agg [.own 100], .int .i64 (dropS x.1 x.2.1).2], [], [.row 50 tT (dropS x.1 x.2.1).1]⟩) (by kernel_rfl) (by kernel_rfl) (by kernel_rfl) (by
    rintro ⟨l_0, n, ⟨⟩⟩ hp
    refine m_nil hm (own := true) (by kernel_rfl) (by kernel_rfl) (by kernel_rfl) (T_Dropg l_0 n) ⟨K_DropA, K_DropC, trivial⟩ (by kernel_rfl) (by kernel_rfl) ?_
    try dsimp only at hp
    try dsimp only
    have h62 : (l_0.length : Int) < 2 ^ 62 := hp
    refine ⟨h62, fun c1 => ?_, fun c1 => ?_⟩
    · have e : dropS l_0 n = ([], checkT l_0) := by unfold dropS; rw [if_pos (by simpa using c1)]
      rw [e]
      exact .inr ⟨rfl, rfl, rfl, nilS_dr _⟩
    · have c1 : checkT l_0 = 0 := by simpa using c1
      obtain ⟨g1, g2, g3, g4⟩ := checkT_ok c1
      have hne : l_0 ≠ [] := fun e => g1 (by rw [e]; rfl)
      refine ⟨⟨rfl, by decide, by omega, g2, g3, by decide, by decide⟩, fun c2 => ?_, fun c2 => ?_⟩
      · have c2 : wi n 1 (cntL l_0) = false := by
          have h : (!wi n 1 (0 + cntL l_0)) = true := c2
          rw [Int.zero_add] at h
          simpa using h
        have e : dropS l_0 n = ([], 7) := by unfold dropS; rw [if_neg (by simp [c1]), if_pos c2]
        rw [e]
        exact .inr ⟨rfl, rfl, rfl, nilS_dr _⟩
      · have c2 : wi n 1 (cntL l_0) = true := by
          have h : (!wi n 1 (0 + cntL l_0)) = false := c2
          rw [Int.zero_add] at h
          simpa using h
        have e : dropS l_0 n = (dropE l_0 n, 0) := by unfold dropS; rw [if_neg (by simp [c1]), if_neg (by simp [c2])]
        rw [wi_iff] at c2
        rw [e]
        exact ⟨⟨hne, by omega⟩, ⟨g3, g2, by omega, by omega⟩, .inl rfl⟩)
def L_rDropA : Lay := { slots := [(1, .val tI), (2, .ptr 3082 0), (4, .ptr 5082 0), (7, .val tI), (8, .val tI)], boxes := [(3082, [.val tTs]), (5082, [.val tTs])] }
def L_rDropA_0 : Lay := { slots := [(1, .val tI), (2, .ptr 3082 0), (4, .ptr 5082 0), (7, .val tI)], boxes := [(3082, [.val tTs]), (5082, [.val tTs])] }
def X_rDropA : Exit → St → Option Lay
  | .exit 0, _ => some L_rDropA_0
  | _, _ => none
abbrev C_rDropA : Code := loopC (bodyOf Try.f53) 0
theorem B_rDropA (n all i : Int) (q_0 z_0 : List Tb) : loopBodyA (P := P) [] (lpOf []) [] 82 noU (inner C_rDropA) L_rDropA X_rDropA (α := Int × Unit × Unit × Int × Int × List Tb × List Tb × Unit) (fun x => x) (fun x => x) (n, (), (), all, i, q_0, z_0, ()) =
  Tree.cond (decide (i < (↑(List.length q_0) : Int))) (Tree.need ((0 : Int) ≤ i ∧ i < (↑(List.length q_0) : Int)) (Tree.leaf (Sum.inl (n, PUnit.unit, PUnit.unit, IntKind.wrap IntKind.i64 (all + (List.getD q_0 (Int.toNat i) ((0 : Int), (0 : Int), (0 : Int), (0 : Int), (0 : Int), (0 : Int), (0 : Int), (0 : Int), (0 : Int))).fst), IntKind.wrap IntKind.i64 (i + (1 : Int)), q_0, z_0, PUnit.unit)))) (Tree.leaf (Sum.inr (Exit.exit (0 : Nat), Lay.st L_rDropA_0 noU (n, PUnit.unit, PUnit.unit, all, q_0, z_0, PUnit.unit)))) := by kernel_rfl
def inv_rDropA : Int × Unit × Unit × Int × Int × List Tb × List Tb × Unit → Prop := fun (n, (), (), all, i, q_0, z_0, ()) => 0 ≤ i ∧ i ≤ q_0.length ∧ q_0.length ≤ 8 ∧ AllF q_0 ∧ 0 ≤ all ∧ all ≤ 400 * i
def O_rDropA : Int × Unit × Unit × Int × Int × List Tb × List Tb × Unit → Tree (Exit × St) := fun (n, (), (), all, i, q_0, z_0, ()) => (.leaf (.exit 0, L_rDropA_0.st noU (n, (), (), (all + cntL (q_0.drop i.toNat)), q_0, z_0, ())))
def R_rDropA : LRun := runOf 82 L_rDropA (fun x => x) (inv_rDropA) (O_rDropA)
theorem K_rDropA : LoopOk P [] 82 none noU C_rDropA (R_rDropA) := by
  refine loop_of hm (cx := []) [] (xl := X_rDropA) (α := Int × Unit × Unit × Int × Int × List Tb × List Tb × Unit) (fun x => x) (fun (n, (), (), all, i, q_0, z_0, ()) => (q_0.length - i).toNat) (fun _ => rfl) (by kernel_rfl) (by kernel_rfl) ?_ (by kernel_rfl) trivial ?_
  · intro e S L' h
    unfold X_rDropA at h
    split at h <;> first | (cases h; done) | (cases h; kernel_rfl) | (rcases bif_some h with h | h <;> cases h <;> kernel_rfl)
  · rintro ⟨n, ⟨⟩, ⟨⟩, all, i, q_0, z_0, ⟨⟩⟩ hinv Q hQ
    refine hold_of_eq (B_rDropA n all i q_0 z_0) ?_
    obtain ⟨h0, h1, h2, h3, h4, h5⟩ := hinv
    rw [W_id (n := i + 1) (by omega) (by omega)]
    unfold O_rDropA at hQ
    dsimp only at hQ
    refine ⟨fun c1 => ?_, fun c1 => ?_⟩
    · have c1 := of_decide_eq_true c1
      have hf := (h3 _ (mem_getD (d := zT) h0 c1)).cnt
      rw [cntL_step h0 c1, ← Int.add_assoc] at hQ
      generalize q_0.getD i.toNat zT = u at *
      rw [W_id (n := all + u.1) (by omega) (by omega)]
      exact ⟨⟨h0, c1⟩, ⟨⟨by omega, by omega, h2, h3, by omega, by omega⟩, by show ((q_0.length : Int) - (i + 1)).toNat < ((q_0.length : Int) - i).toNat; omega⟩, hQ⟩
    · have c1 := of_decide_eq_false c1
      rw [drop_end c1, show cntL [] = 0 from rfl, Int.add_zero] at hQ
      exact hQ
def L_rDropC : Lay := { slots := [(1, .val tI), (4, .ptr 5082 0), (9, .row 50 tT)], boxes := [(5082, [.val tTs])] }
def L_rDropC_0 : Lay := { slots := [(4, .ptr 5082 0), (9, .row 50 tT)], boxes := [(5082, [.val tTs])] }
def X_rDropC : Exit → St → Option Lay
  | .exit 2, _ => some L_rDropC_0
  | _, _ => none
abbrev C_rDropC : Code := loopC (bodyOf Try.f53) 2
theorem B_rDropC (n : Int) (r z_0 : List Tb) : loopBodyA (P := P) [] (lpOf []) [] 82 noU (inner C_rDropC) L_rDropC X_rDropC (α := Int × Unit × List Tb × List Tb × Unit) (fun x => x) (fun x => x) (n, (), r, z_0, ()) =
  Tree.cond (decide (n > (0 : Int))) (Tree.need ((0 : Int) ≤ IntKind.wrap IntKind.i64 ((↑(List.length r) : Int) - (1 : Int)) ∧ IntKind.wrap IntKind.i64 ((↑(List.length r) : Int) - (1 : Int)) < (↑(List.length r) : Int)) (Tree.need (Int.toNat (IntKind.wrap IntKind.i64 ((↑(List.length r) : Int) - (1 : Int))) < List.length r) (Tree.need ((0 : Int) ≤ IntKind.wrap IntKind.i64 ((↑(List.length r) : Int) - (1 : Int)) ∧ IntKind.wrap IntKind.i64 ((↑(List.length r) : Int) - (1 : Int)) < (↑(List.length r) : Int)) (Tree.need (Int.toNat (IntKind.wrap IntKind.i64 ((↑(List.length r) : Int) - (1 : Int))) < List.length r) (Tree.need ((0 : Int) ≤ IntKind.wrap IntKind.i64 ((↑(List.length r) : Int) - (1 : Int)) ∧ IntKind.wrap IntKind.i64 ((↑(List.length r) : Int) - (1 : Int)) < (↑(List.length r) : Int)) (Tree.need (Int.toNat (IntKind.wrap IntKind.i64 ((↑(List.length r) : Int) - (1 : Int))) < List.length r) (Tree.need ((0 : Int) ≤ IntKind.wrap IntKind.i64 ((↑(List.length r) : Int) - (1 : Int)) ∧ IntKind.wrap IntKind.i64 ((↑(List.length r) : Int) - (1 : Int)) < (↑(List.length (List.set r (Int.toNat (IntKind.wrap IntKind.i64 ((↑(List.length r) : Int) - (1 : Int)))) (IntKind.wrap IntKind.i64 ((List.getD r (Int.toNat (IntKind.wrap IntKind.i64 ((↑(List.length r) : Int) - (1 : Int)))) ((0 : Int), (0 : Int), (0 : Int), (0 : Int), (0 : Int), (0 : Int), (0 : Int), (0 : Int), (0 : Int))).fst - minI n (List.getD r (Int.toNat (IntKind.wrap IntKind.i64 ((↑(List.length r) : Int) - (1 : Int)))) ((0 : Int), (0 : Int), (0 : Int), (0 : Int), (0 : Int), (0 : Int), (0 : Int), (0 : Int), (0 : Int))).fst), (List.getD r (Int.toNat (IntKind.wrap IntKind.i64 ((↑(List.length r) : Int) - (1 : Int)))) ((0 : Int), (0 : Int), (0 : Int), (0 : Int), (0 : Int), (0 : Int), (0 : Int), (0 : Int), (0 : Int))).snd))) : Int)) (Tree.need (Int.toNat (IntKind.wrap IntKind.i64 ((↑(List.length r) : Int) - (1 : Int))) < List.length (List.set r (Int.toNat (IntKind.wrap IntKind.i64 ((↑(List.length r) : Int) - (1 : Int)))) (IntKind.wrap IntKind.i64 ((List.getD r (Int.toNat (IntKind.wrap IntKind.i64 ((↑(List.length r) : Int) - (1 : Int)))) ((0 : Int), (0 : Int), (0 : Int), (0 : Int), (0 : Int), (0 : Int), (0 : Int), (0 : Int), (0 : Int))).fst - minI n (List.getD r (Int.toNat (IntKind.wrap IntKind.i64 ((↑(List.length r) : Int) - (1 : Int)))) ((0 : Int), (0 : Int), (0 : Int), (0 : Int), (0 : Int), (0 : Int), (0 : Int), (0 : Int), (0 : Int))).fst), (List.getD r (Int.toNat (IntKind.wrap IntKind.i64 ((↑(List.length r) : Int) - (1 : Int)))) ((0 : Int), (0 : Int), (0 : Int), (0 : Int), (0 : Int), (0 : Int), (0 : Int), (0 : Int), (0 : Int))).snd))) (Tree.cond ((List.getD (List.set r (Int.toNat (IntKind.wrap IntKind.i64 ((↑(List.length r) : Int) - (1 : Int)))) (IntKind.wrap IntKind.i64 ((List.getD r (Int.toNat (IntKind.wrap IntKind.i64 ((↑(List.length r) : Int) - (1 : Int)))) ((0 : Int), (0 : Int), (0 : Int), (0 : Int), (0 : Int), (0 : Int), (0 : Int), (0 : Int), (0 : Int))).fst - minI n (List.getD r (Int.toNat (IntKind.wrap IntKind.i64 ((↑(List.length r) : Int) - (1 : Int)))) ((0 : Int), (0 : Int), (0 : Int), (0 : Int), (0 : Int), (0 : Int), (0 : Int), (0 : Int), (0 : Int))).fst), (List.getD r (Int.toNat (IntKind.wrap IntKind.i64 ((↑(List.length r) : Int) - (1 : Int)))) ((0 : Int), (0 : Int), (0 : Int), (0 : Int), (0 : Int), (0 : Int), (0 : Int), (0 : Int), (0 : Int))).snd)) (Int.toNat (IntKind.wrap IntKind.i64 ((↑(List.length r) : Int) - (1 : Int)))) ((0 : Int), (0 : Int), (0 : Int), (0 : Int), (0 : Int), (0 : Int), (0 : Int), (0 : Int), (0 : Int))).fst == (0 : Int)) (Tree.need ((0 : Int) ≤ IntKind.wrap IntKind.i64 ((↑(List.length r) : Int) - (1 : Int)) ∧ IntKind.wrap IntKind.i64 ((↑(List.length r) : Int) - (1 : Int)) ≤ (↑(List.length (List.set r (Int.toNat (IntKind.wrap IntKind.i64 ((↑(List.length r) : Int) - (1 : Int)))) (IntKind.wrap IntKind.i64 ((List.getD r (Int.toNat (IntKind.wrap IntKind.i64 ((↑(List.length r) : Int) - (1 : Int)))) ((0 : Int), (0 : Int), (0 : Int), (0 : Int), (0 : Int), (0 : Int), (0 : Int), (0 : Int), (0 : Int))).fst - minI n (List.getD r (Int.toNat (IntKind.wrap IntKind.i64 ((↑(List.length r) : Int) - (1 : Int)))) ((0 : Int), (0 : Int), (0 : Int), (0 : Int), (0 : Int), (0 : Int), (0 : Int), (0 : Int), (0 : Int))).fst), (List.getD r (Int.toNat (IntKind.wrap IntKind.i64 ((↑(List.length r) : Int) - (1 : Int)))) ((0 : Int), (0 : Int), (0 : Int), (0 : Int), (0 : Int), (0 : Int), (0 : Int), (0 : Int), (0 : Int))).snd))) : Int)) (Tree.leaf (Sum.inl (IntKind.wrap IntKind.i64 (n - minI n (List.getD r (Int.toNat (IntKind.wrap IntKind.i64 ((↑(List.length r) : Int) - (1 : Int)))) ((0 : Int), (0 : Int), (0 : Int), (0 : Int), (0 : Int), (0 : Int), (0 : Int), (0 : Int), (0 : Int))).fst), PUnit.unit, List.take (Int.toNat (IntKind.wrap IntKind.i64 ((↑(List.length r) : Int) - (1 : Int)))) (List.set r (Int.toNat (IntKind.wrap IntKind.i64 ((↑(List.length r) : Int) - (1 : Int)))) (IntKind.wrap IntKind.i64 ((List.getD r (Int.toNat (IntKind.wrap IntKind.i64 ((↑(List.length r) : Int) - (1 : Int)))) ((0 : Int), (0 : Int), (0 : Int), (0 : Int), (0 : Int), (0 : Int), (0 : Int), (0 : Int), (0 : Int))).fst - minI n (List.getD r (Int.toNat (IntKind.wrap IntKind.i64 ((↑(List.length r) : Int) - (1 : Int)))) ((0 : Int), (0 : Int), (0 : Int), (0 : Int), (0 : Int), (0 : Int), (0 : Int), (0 : Int), (0 : Int))).fst), (List.getD r (Int.toNat (IntKind.wrap IntKind.i64 ((↑(List.length r) : Int) - (1 : Int)))) ((0 : Int), (0 : Int), (0 : Int), (0 : Int), (0 : Int), (0 : Int), (0 : Int), (0 : Int), (0 : Int))).snd)), z_0, PUnit.unit)))) (Tree.leaf (Sum.inl (IntKind.wrap IntKind.i64 (n - minI n (List.getD r (Int.toNat (IntKind.wrap IntKind.i64 ((↑(List.length r) : Int) - (1 : Int)))) ((0 : Int), (0 : Int), (0 : Int), (0 : Int), (0 : Int), (0 : Int), (0 : Int), (0 : Int), (0 : Int))).fst), PUnit.unit, List.set r (Int.toNat (IntKind.wrap IntKind.i64 ((↑(List.length r) : Int) - (1 : Int)))) (IntKind.wrap IntKind.i64 ((List.getD r (Int.toNat (IntKind.wrap IntKind.i64 ((↑(List.length r) : Int) - (1 : Int)))) ((0 : Int), (0 : Int), (0 : Int), (0 : Int), (0 : Int), (0 : Int), (0 : Int), (0 : Int), (0 : Int))).fst - minI n (List.getD r (Int.toNat (IntKind.wrap IntKind.i64 ((↑(List.length r) : Int) - (1 : Int)))) ((0 : Int), (0 : Int), (0 : Int), (0 : Int), (0 : Int), (0 : Int), (0 : Int), (0 : Int), (0 : Int))).fst), (List.getD r (Int.toNat (IntKind.wrap IntKind.i64 ((↑(List.length r) : Int) - (1 : Int)))) ((0 : Int), (0 : Int), (0 : Int), (0 : Int), (0 : Int), (0 : Int), (0 : Int), (0 : Int), (0 : Int))).snd), z_0, PUnit.unit)))))))))))) (Tree.leaf (Sum.inr (Exit.exit (2 : Nat), Lay.st L_rDropC_0 noU (PUnit.unit, r, z_0, PUnit.unit)))) := by kernel_rfl
def inv_rDropC : Int × Unit × List Tb × List Tb × Unit → Prop := fun (n, (), r, z_0, ()) => AllF r ∧ r.length ≤ 8 ∧ 0 ≤ n ∧ n ≤ cntL r
def O_rDropC : Int × Unit × List Tb × List Tb × Unit → Tree (Exit × St) := fun (n, (), r, z_0, ()) => (.leaf (.exit 2, L_rDropC_0.st noU ((), (dropE r n), z_0, ())))
def R_rDropC : LRun := runOf 82 L_rDropC (fun x => x) (inv_rDropC) (O_rDropC)
theorem K_rDropC : LoopOk P [] 82 none noU C_rDropC (R_rDropC) := by
  refine loop_of hm (cx := []) [] (xl := X_rDropC) (α := Int × Unit × List Tb × List Tb × Unit) (fun x => x) (fun (n, (), r, z_0, ()) => r.length + n.toNat) (fun _ => rfl) (by kernel_rfl) (by kernel_rfl) ?_ (by kernel_rfl) trivial ?_
  · intro e S L' h
    unfold X_rDropC at h
    split at h <;> first | (cases h; done) | (cases h; kernel_rfl) | (rcases bif_some h with h | h <;> cases h <;> kernel_rfl)
  · rintro ⟨n, ⟨⟩, r, z_0, ⟨⟩⟩ hinv Q hQ
    refine hold_of_eq (B_rDropC n r z_0) ?_
    obtain ⟨h1, h2, h3, h4⟩ := hinv
    unfold O_rDropC at hQ
    dsimp only at hQ
    refine ⟨fun c1 => ?_, fun c1 => ?_⟩
    · have c1 := of_decide_eq_true c1
      have hne : r ≠ [] := fun e => by rw [e] at h4; have : cntL [] = 0 := rfl; omega
      have hpos : 0 < r.length := List.length_pos_iff.2 hne
      obtain ⟨k1, k2⟩ := cnt_last hne h1
      have k3 := k2.cnt
      have k4 := cnt_take hne
      have k5 := cntL_rng r h1
      rw [W_id (n := (r.length : Int) - 1) (by omega) (by omega)]
      have e1 : ((r.length : Int) - 1).toNat = r.length - 1 := by omega
      rw [e1]
      rw [dropE_last hne c1] at hQ
      have w1 : r.length - 1 < r.length := by omega
      rw [show r.getD (r.length - 1) (0, 0, 0, 0, 0, 0, 0, 0, 0) = r.getD (r.length - 1) zT from rfl]
      have hmin : (0 ≤ minI n (r.getD (r.length - 1) zT).1 ∧ minI n (r.getD (r.length - 1) zT).1 ≤ (r.getD (r.length - 1) zT).1) ∧ minI n (r.getD (r.length - 1) zT).1 ≤ n := by unfold minI; split <;> omega
      have hg : ∀ v : Tb, (r.set (r.length - 1) v).getD (r.length - 1) (0, 0, 0, 0, 0, 0, 0, 0, 0) = v := by intro v; simp [List.getD_eq_getElem?_getD, w1]
      rw [W_id (n := (r.getD (r.length - 1) zT).1 - minI n (r.getD (r.length - 1) zT).1) (by omega) (by omega), W_id (n := n - minI n (r.getD (r.length - 1) zT).1) (by omega) (by omega), List.length_set, hg]
      generalize r.getD (r.length - 1) zT = u at *
      have i1 : 0 ≤ (r.length : Int) - 1 ∧ (r.length : Int) - 1 < r.length := by omega
      have hmm : minI n u.1 = u.1 ∨ minI n u.1 = n := by
        unfold minI
        split
        · exact .inl rfl
        · exact .inr rfl
      refine ⟨i1, w1, i1, w1, i1, w1, i1, w1, fun c2 => ⟨by omega, ?_⟩, fun c2 => ?_⟩
      · have c2 : u.1 - minI n u.1 = 0 := eq_of_beq c2
        have hm : minI n u.1 = u.1 := by omega
        rw [if_neg (show ¬ u.1 > n by omega)] at hQ
        have et : List.take (r.length - 1) (r.set (r.length - 1) (u.1 - minI n u.1, u.2)) = r.take (r.length - 1) := by
          rw [set_last hne, List.take_left' (by rw [List.length_take]; omega)]
        rw [et, hm]
        exact ⟨⟨⟨fun t ht => h1 t (List.mem_of_mem_take ht), by show (r.take (r.length - 1)).length ≤ 8; rw [List.length_take]; omega, by omega, by omega⟩, by show (r.take (r.length - 1)).length + (n - u.1).toNat < r.length + n.toNat; rw [List.length_take]; omega⟩, hQ⟩
      · have c2 : u.1 - minI n u.1 ≠ 0 := by simpa using c2
        have hm : minI n u.1 = n := by omega
        rw [if_pos (show u.1 > n by omega)] at hQ
        rw [hm, show n - n = 0 by omega]
        have hv : Fair (u.1 - n, u.2) := by
          obtain ⟨a1, a2, a3, a4, a5, a6, a7, a8, a9⟩ := k2
          exact ⟨⟨by dsimp only; omega, by dsimp only; omega⟩, a2, a3, a4, a5, a6, a7, a8, a9⟩
        have hA : AllF (r.set (r.length - 1) (u.1 - n, u.2)) := by
          intro t ht
          rw [set_last hne] at ht
          rcases List.mem_append.1 ht with h | h
          · exact h1 t (List.mem_of_mem_take h)
          · rw [List.mem_singleton.1 h]; exact hv
        have k6 := (cntL_rng _ hA).1
        rw [← dropE_nil (r.set (r.length - 1) (u.1 - n, u.2)) (Int.le_refl 0)] at hQ
        exact ⟨⟨⟨hA, by rw [List.length_set]; exact h2, Int.le_refl _, k6⟩, by show (r.set (r.length - 1) (u.1 - n, u.2)).length + (0 : Int).toNat < r.length + n.toNat; rw [List.length_set]; omega⟩, hQ⟩
    · have c1 := of_decide_eq_false c1
      rw [dropE_nil _ (by omega)] at hQ
      exact hQ
def L_rDropg : Lay := { slots := [(0, .agg tTs), (1, .val tI)] }
theorem T_rDropg (l_0 : List Tb) (n : Int) : mTree (P := P) [c_rTCheck.gc] (lpOf [(0, R_rDropA), (2, R_rDropC)]) Try.f53 L_rDropg true (l_0, n, ()) =
  Tree.cond (checkT l_0 != (0 : Int)) (Tree.leaf { res := SV.tup [SV.agg [SV.nils], SV.int IntKind.i64 (checkT l_0)], boxes := [] }) (Tree.need (inv_rDropA (n, (), (), (0 : Int), (0 : Int), l_0, [], ())) (Tree.cond (decide (n < (1 : Int))) (Tree.leaf { res := SV.tup [SV.agg [SV.nils], SV.int IntKind.i64 (7 : Int)], boxes := [] }) (Tree.cond (decide (n > (0 : Int) + cntL (List.drop (Int.toNat (0 : Int)) l_0))) (Tree.leaf { res := SV.tup [SV.agg [SV.nils], SV.int IntKind.i64 (7 : Int)], boxes := [] }) (Tree.need (((0 : Nat) + List.length l_0) * (72 : Nat) ≤ (140737488355328 : Nat)) (Tree.need (inv_rDropC (n, (), l_0, [], ())) (Tree.leaf { res := SV.tup [SV.agg [SV.own (nat_lit 100)], SV.int IntKind.i64 (0 : Int)], boxes := [], news := [Ob.row (50 : TypeId) tT (dropE l_0 n)] })))))) := by kernel_rfl
def c_rDropg : MC P := MC.of (α := List Tb × Int × Unit) 53 L_rDropg (fun x => x) (fun x => x) (fun _ => rfl)
  (fun x => some ((x.1.length : Int) < 2 ^ 62))
  (fun x => ⟨.tup [.agg [.own 100], .int .i64 (dropS x.1 x.2.1).2], [], [.row 50 tT (dropS x.1 x.2.1).1]⟩) (by kernel_rfl) (by kernel_rfl) (by kernel_rfl) (by
    rintro ⟨l_0, n, ⟨⟩⟩ hp
    refine m_nil hm (own := true) (by kernel_rfl) (by kernel_rfl) (by kernel_rfl) (T_rDropg l_0 n) ⟨K_rDropA, K_rDropC, trivial⟩ (by kernel_rfl) (by kernel_rfl) ?_
    try dsimp only at hp
    try dsimp only
    have h62 : (l_0.length : Int) < 2 ^ 62 := hp
    refine ⟨fun c1 => ?_, fun c1 => ?_⟩
    · have e : dropS l_0 n = ([], checkT l_0) := by unfold dropS; rw [if_pos (by simpa using c1)]
      rw [e]
      exact .inr ⟨rfl, rfl, rfl, nilS_dr _⟩
    · have c1 : checkT l_0 = 0 := by simpa using c1
      obtain ⟨g1, g2, g3, g4⟩ := checkT_ok c1
      have hne : l_0 ≠ [] := fun e => g1 (by rw [e]; rfl)
      have hb : ∀ b : Bool, wi n 1 (cntL l_0) = b → dropS l_0 n = if b = true then (dropE l_0 n, 0) else ([], 7) := by
        intro b hb
        unfold dropS
        rw [if_neg (by simp [c1]), hb]
        cases b <;> rfl
      refine ⟨⟨by decide, by omega, g2, g3, by decide, by decide⟩, fun c2 => ?_, fun c2 => ⟨fun c3 => ?_, fun c3 => ?_⟩⟩
      · have c2 := of_decide_eq_true c2
        have hw : wi n 1 (cntL l_0) = false := by
          rw [← Bool.not_eq_true, wi_iff]; omega
        rw [hb _ hw]
        exact .inr ⟨rfl, rfl, rfl, nilS_dr _⟩
      · have c3 : n > 0 + cntL l_0 := of_decide_eq_true c3
        have hw : wi n 1 (cntL l_0) = false := by
          rw [← Bool.not_eq_true, wi_iff]; omega
        rw [hb _ hw]
        exact .inr ⟨rfl, rfl, rfl, nilS_dr _⟩
      · have c2 := of_decide_eq_false c2
        have c3 : ¬ n > 0 + cntL l_0 := of_decide_eq_false c3
        have hw : wi n 1 (cntL l_0) = true := by
          rw [wi_iff]; omega
        rw [hb _ hw]
        exact ⟨by omega, ⟨g3, g2, by omega, by omega⟩, .inl rfl⟩)
end
end Go.MP
