/- The laws PipeBends, PipeWeighs, PipeChecks, PipePieces. -/
import Derived.Test.YtoockflaeaknbaaMsK
import Derived.Test.YtoockflaeaknbaaFw4
namespace Go.MP
open Go Go.Sx Go.Proofs
set_option linter.unusedVariables false
set_option linter.unusedSimpArgs false
noncomputable section
theorem T_big (l_0 : List Tb) (p_0 p_1 p_2 : Int) (p_3 : List V) : fnTree (P := P) [c_BigPath.gc] (lpOf []) Try.f23 (encL 0 [.agg tTs, .agg (.pair tV tVs)] (l_0, ((p_0, (p_1, p_2)), p_3), ())) =
  Tree.cond (decide ((↑(List.length l_0) : Int) > (10 : Int))) (Tree.leaf (SV.bool true)) (Tree.leaf (SV.bool (decide ((↑(List.length p_3) : Int) > (24 : Int))))) := by kernel_rfl
def c_big : PC P := PC.of (α := List Tb × (V × List V) × Unit) 23 [.agg tTs, .agg (.pair tV tVs)] (fun x => x) (fun x => x) (fun _ => rfl)
  (fun _ => none)
  (fun x => .bool (decide ((x.1.length : Int) > 10) || decide ((x.2.1.2.length : Int) > 24))) (by kernel_rfl) (by
    rintro ⟨l_0, ⟨⟨p_0, ⟨p_1, p_2⟩⟩, p_3⟩, ⟨⟩⟩ hp
    refine fn_of hm (by kernel_rfl) (by kernel_rfl) (T_big l_0 p_0 p_1 p_2 p_3) trivial ?_
    try dsimp only at hp
    try dsimp only
    refine ⟨fun h => ?_, fun h => ?_⟩
    · rw [h, Bool.true_or]; exact rfl
    · rw [h, Bool.false_or]; exact rfl)
def L_SamePcL : Lay := { slots := [(0, .val (.sl (.pair tI tV))), (1, .val (.sl (.pair tI tV))), (5, .val tI)] }
def L_SamePcL_0 : Lay := { slots := [(4, .val .bool)] }
def L_SamePcL_1 : Lay := { slots := [] }
def X_SamePcL : Exit → St → Option Lay
  | .ret, _ => some L_SamePcL_0
  | .exit 0, _ => some L_SamePcL_1
  | _, _ => none
abbrev C_SamePcL : Code := loopC (bodyOf Try.f29) 0
theorem B_SamePcL (a b : List (Int × V)) (i : Int) : loopBodyA (P := P) [] (lpOf []) [] 26 noU (inner C_SamePcL) L_SamePcL X_SamePcL (α := List (Int × V) × List (Int × V) × Int × Unit) (fun x => x) (fun x => x) (a, b, i, ()) =
  Tree.cond (decide (i < (↑(List.length a) : Int))) (Tree.need ((0 : Int) ≤ i ∧ i < (↑(List.length a) : Int)) (Tree.need ((0 : Int) ≤ i ∧ i < (↑(List.length b) : Int)) (Tree.cond (!((List.getD a (Int.toNat i) ((0 : Int), (0 : Int), (0 : Int), (0 : Int))).fst == (List.getD b (Int.toNat i) ((0 : Int), (0 : Int), (0 : Int), (0 : Int))).fst && ((List.getD a (Int.toNat i) ((0 : Int), (0 : Int), (0 : Int), (0 : Int))).snd.fst == (List.getD b (Int.toNat i) ((0 : Int), (0 : Int), (0 : Int), (0 : Int))).snd.fst && ((List.getD a (Int.toNat i) ((0 : Int), (0 : Int), (0 : Int), (0 : Int))).snd.snd.fst == (List.getD b (Int.toNat i) ((0 : Int), (0 : Int), (0 : Int), (0 : Int))).snd.snd.fst && ((List.getD a (Int.toNat i) ((0 : Int), (0 : Int), (0 : Int), (0 : Int))).snd.snd.snd == (List.getD b (Int.toNat i) ((0 : Int), (0 : Int), (0 : Int), (0 : Int))).snd.snd.snd && true))))) (Tree.leaf (Sum.inr (Exit.ret, Lay.st L_SamePcL_0 noU (false, PUnit.unit)))) (Tree.leaf (Sum.inl (a, b, IntKind.wrap IntKind.i64 (i + (1 : Int)), PUnit.unit)))))) (Tree.leaf (Sum.inr (Exit.exit (0 : Nat), Lay.st L_SamePcL_1 noU PUnit.unit))) := by kernel_rfl
def inv_SamePcL : List (Int × V) × List (Int × V) × Int × Unit → Prop := fun (a, b, i, ()) => 0 ≤ i ∧ i ≤ a.length ∧ a = b ∧ (a.length : Int) < 2 ^ 62
def O_SamePcL : List (Int × V) × List (Int × V) × Int × Unit → Tree (Exit × St) := fun (a, b, i, ()) => (.leaf (.exit 0, L_SamePcL_1.st noU ()))
def R_SamePcL : LRun := runOf 26 L_SamePcL (fun x => x) (inv_SamePcL) (O_SamePcL)
theorem K_SamePcL : LoopOk P [] 26 none noU C_SamePcL (R_SamePcL) := by
  refine loop_of hm (cx := []) [] (xl := X_SamePcL) (α := List (Int × V) × List (Int × V) × Int × Unit) (fun x => x) (fun (a, b, i, ()) => (a.length - i).toNat) (fun _ => rfl) (by kernel_rfl) (by kernel_rfl) ?_ (by kernel_rfl) trivial ?_
  · intro e S L' h
    unfold X_SamePcL at h
    split at h <;> first | (cases h; done) | (cases h; kernel_rfl) | (rcases bif_some h with h | h <;> cases h <;> kernel_rfl)
  · rintro ⟨a, b, i, ⟨⟩⟩ hinv Q hQ
    refine hold_of_eq (B_SamePcL a b i) ?_
    obtain ⟨h0, h1, rfl, h2⟩ := hinv
    rw [W_id (n := i + 1) (by omega) (by omega)]
    refine ⟨fun c1 => ?_, fun c1 => hQ⟩
    have c1 := of_decide_eq_true c1
    exact ⟨⟨h0, c1⟩, ⟨h0, c1⟩, fun c2 => absurd c2 (by simp), fun c2 => ⟨⟨⟨by omega, by omega, rfl, h2⟩, by show ((a.length : Int) - (i + 1)).toNat < ((a.length : Int) - i).toNat; omega⟩, hQ⟩⟩
theorem T_SamePieces (a b : List (Int × V)) : fnTree (P := P) [] (lpOf [(0, R_SamePcL)]) Try.f29 (encL 0 [.val (.sl (.pair tI tV)), .val (.sl (.pair tI tV))] (a, b, ())) =
  Tree.cond ((↑(List.length a) : Int) != (↑(List.length b) : Int)) (Tree.leaf (SV.bool false)) (Tree.need (inv_SamePcL (a, b, (0 : Int), ())) (Tree.leaf (SV.bool true))) := by kernel_rfl
def c_SamePieces : PC P := PC.of (α := List (Int × V) × List (Int × V) × Unit) 29 [.val (.sl (.pair tI tV)), .val (.sl (.pair tI tV))] (fun x => x) (fun x => x) (fun _ => rfl)
  (fun x => some (x.1 = x.2.1 ∧ (x.1.length : Int) < 2 ^ 62))
  (fun x => .bool true) (by kernel_rfl) (by
    rintro ⟨a, b, ⟨⟩⟩ hp
    refine fn_of hm (by kernel_rfl) (by kernel_rfl) (T_SamePieces a b) ⟨K_SamePcL, trivial⟩ ?_
    try dsimp only at hp
    try dsimp only
    obtain ⟨rfl, h1⟩ : a = b ∧ (a.length : Int) < 2 ^ 62 := hp
    exact ⟨fun c => absurd c (by simp), fun _ => ⟨⟨by decide, by omega, rfl, h1⟩, rfl⟩⟩)
theorem tubeS_few {ks : List K2} {L : Int} (hd : Down ks L) (i : Int) {top to : Int} (h0 : 0 ≤ top) (hL : to ≤ L) (ht : top ≤ to) : ((tubeS ks i top to).length : Int) ≤ to - top := tubeS_len hd i h0 _ to (Nat.le_refl _) hL ht
theorem pcsL_len {ks : List K2} {L : Int} (hd : Down ks L) (l : List Tb) : AllF l → ∀ i to : Int, sumT l ≤ to → to ≤ L → ((pcsL ks i to l).length : Int) ≤ to := by
  induction l with
  | nil => intro _ i to h _; simp [pcsL, sumT] at *; exact h
  | cons t r ih =>
    intro h i to h1 h2
    have hp := (h t (by simp)).prod
    have hr := (sumT_rng r fun u hu => h u (by simp [hu])).1
    rw [sumT] at h1
    have h3 := ih (fun u hu => h u (by simp [hu])) (i + 1) (to - t.1 * t.2.1) (by omega) (by omega)
    have h4 := tubeS_few hd i (show 0 ≤ to - t.1 * t.2.1 by omega) h2 (by omega)
    rw [pcsL, List.length_append]
    omega
theorem pcsS_len (l : List Tb) (p : Pth) : ((pcsS l p).length : Int) < 2 ^ 62 := by
  unfold pcsS
  split
  · rename_i h
    obtain ⟨h1, h2, h3⟩ := fitsS_ok h
    obtain ⟨_, _, h4, h5⟩ := checkT_ok h1
    have := pcsL_len (fits_down h) l h4 0 (sumT l) (Int.le_refl _) h3
    omega
  · decide
def L_PipePiecesL : Lay := { slots := [(11, .row 36 tTs), (12, .row 33 (.pair tV tVs)), (13, .val tI)] }
def L_PipePiecesL_0 : Lay := { slots := [(6, .val .bool)] }
def L_PipePiecesL_1 : Lay := { slots := [] }
def X_PipePiecesL : Exit → St → Option Lay
  | .ret, _ => some L_PipePiecesL_0
  | .exit 0, _ => some L_PipePiecesL_1
  | _, _ => none
abbrev C_PipePiecesL : Code := loopC (bodyOf Try.f7) 0
theorem B_PipePiecesL (ss : List (List Tb)) (pp : List (V × List V)) (k : Int) : loopBodyA (P := P) [c_Fits.gc, c_rFits.gc, c_Pieces.gc, c_rPieces.gc, c_SamePieces.gc] (lpOf []) [] 80 noU (inner C_PipePiecesL) L_PipePiecesL X_PipePiecesL (α := List (List Tb) × List (V × List V) × Int × Unit) (fun x => x) (fun x => x) (ss, pp, k, ()) =
  Tree.cond (decide (k < (2 : Int))) (Tree.need ((0 : Int) ≤ k ∧ k < (↑(List.length ss) : Int)) (Tree.need (Int.toNat k < List.length ss) (Tree.need ((0 : Int) ≤ k ∧ k < (↑(List.length pp) : Int)) (Tree.need (Int.toNat k < List.length pp) (Tree.need ((↑(List.length (List.getD ss (Int.toNat k) [])) : Int) < (2 : Int) ^ (62 : Nat)) (Tree.need ((0 : Int) ≤ k ∧ k < (↑(List.length ss) : Int)) (Tree.need (Int.toNat k < List.length ss) (Tree.need ((0 : Int) ≤ k ∧ k < (↑(List.length pp) : Int)) (Tree.need (Int.toNat k < List.length pp) (Tree.cond (fitsS (List.getD ss (Int.toNat k) []) (List.getD pp (Int.toNat k) (((0 : Int), (0 : Int), (0 : Int)), [])) != fitsS (List.getD ss (Int.toNat k) []) (List.getD pp (Int.toNat k) (((0 : Int), (0 : Int), (0 : Int)), []))) (Tree.leaf (Sum.inr (Exit.ret, Lay.st L_PipePiecesL_0 noU (false, PUnit.unit)))) (Tree.need ((0 : Int) ≤ k ∧ k < (↑(List.length ss) : Int)) (Tree.need (Int.toNat k < List.length ss) (Tree.need ((0 : Int) ≤ k ∧ k < (↑(List.length pp) : Int)) (Tree.need (Int.toNat k < List.length pp) (Tree.need ((↑(List.length (List.getD ss (Int.toNat k) [])) : Int) < (2 : Int) ^ (62 : Nat)) (Tree.need ((0 : Int) ≤ k ∧ k < (↑(List.length ss) : Int)) (Tree.need (Int.toNat k < List.length ss) (Tree.need ((0 : Int) ≤ k ∧ k < (↑(List.length pp) : Int)) (Tree.need (Int.toNat k < List.length pp) (Tree.need (pcsS (List.getD ss (Int.toNat k) []) (List.getD pp (Int.toNat k) (((0 : Int), (0 : Int), (0 : Int)), [])) = pcsS (List.getD ss (Int.toNat k) []) (List.getD pp (Int.toNat k) (((0 : Int), (0 : Int), (0 : Int)), [])) ∧ (↑(List.length (pcsS (List.getD ss (Int.toNat k) []) (List.getD pp (Int.toNat k) (((0 : Int), (0 : Int), (0 : Int)), [])))) : Int) < (2 : Int) ^ (62 : Nat)) (Tree.cond false (Tree.leaf (Sum.inr (Exit.ret, Lay.st L_PipePiecesL_0 noU (false, PUnit.unit)))) (Tree.leaf (Sum.inl (ss, pp, IntKind.wrap IntKind.i64 (k + (1 : Int)), PUnit.unit)))))))))))))))))))))))) (Tree.leaf (Sum.inr (Exit.exit (0 : Nat), Lay.st L_PipePiecesL_1 noU PUnit.unit))) := by kernel_rfl
def inv_PipePiecesL : List (List Tb) × List (V × List V) × Int × Unit → Prop := fun (ss, pp, k, ()) => 0 ≤ k ∧ k ≤ 2 ∧ ss.length = 2 ∧ pp.length = 2 ∧ ∀ x ∈ ss, (x.length : Int) < 2 ^ 62
def O_PipePiecesL : List (List Tb) × List (V × List V) × Int × Unit → Tree (Exit × St) := fun (ss, pp, k, ()) => (.leaf (.exit 0, L_PipePiecesL_1.st noU ()))
def R_PipePiecesL : LRun := runOf 80 L_PipePiecesL (fun x => x) (inv_PipePiecesL) (O_PipePiecesL)
theorem K_PipePiecesL : LoopOk P [] 80 none noU C_PipePiecesL (R_PipePiecesL) := by
  refine loop_of hm (cx := [c_Fits.gc, c_rFits.gc, c_Pieces.gc, c_rPieces.gc, c_SamePieces.gc]) [] (xl := X_PipePiecesL) (α := List (List Tb) × List (V × List V) × Int × Unit) (fun x => x) (fun (ss, pp, k, ()) => (2 - k).toNat) (fun _ => rfl) (by kernel_rfl) (by kernel_rfl) ?_ (by kernel_rfl) trivial ?_
  · intro e S L' h
    unfold X_PipePiecesL at h
    split at h <;> first | (cases h; done) | (cases h; kernel_rfl) | (rcases bif_some h with h | h <;> cases h <;> kernel_rfl)
  · rintro ⟨ss, pp, k, ⟨⟩⟩ hinv Q hQ
    refine hold_of_eq (B_PipePiecesL ss pp k) ?_
    obtain ⟨h0, h1, h2, h3, h4⟩ := hinv
    rw [W_id (n := k + 1) (by omega) (by omega)]
    refine ⟨fun c1 => ?_, fun c1 => hQ⟩
    have c1 := of_decide_eq_true c1
    have i1 : 0 ≤ k ∧ k < (ss.length : Int) := by omega
    have i2 : k.toNat < ss.length := by omega
    have i3 : 0 ≤ k ∧ k < (pp.length : Int) := by omega
    have i4 : k.toNat < pp.length := by omega
    have i5 : ((ss.getD k.toNat []).length : Int) < 2 ^ 62 := h4 _ (mem_getD h0 (by omega))
    have e1 : ∀ z : Int, (z != z) = false := fun z => by simp
    rw [e1]
    exact ⟨i1, i2, i3, i4, i5, i1, i2, i3, i4, fun h => (by cases h), fun _ => ⟨i1, i2, i3, i4, i5, i1, i2, i3, i4, ⟨rfl, pcsS_len _ _⟩, fun h => (by cases h), fun _ => ⟨⟨⟨by omega, by omega, h2, h3, h4⟩, by show (2 - (k + 1)).toNat < (2 - k).toNat; omega⟩, hQ⟩⟩⟩
theorem T_PipePieces (l_0 : List Tb) (p_0 p_1 p_2 : Int) (p_3 : List V) (nums : List Int) : fnTree (P := P) [c_big.gc, c_awake.gc, c_NewRing.gc, c_kPath.gc, c_kStr.gc] (lpOf [(0, R_PipePiecesL)]) Try.f7 (encL 0 [.agg tTs, .agg (.pair tV tVs), .val tIs] (l_0, ((p_0, (p_1, p_2)), p_3), nums, ())) =
  Tree.cond (decide ((↑(List.length l_0) : Int) > (10 : Int)) || decide ((↑(List.length p_3) : Int) > (24 : Int))) (Tree.leaf (SV.bool true)) (Tree.need (pr_kPath ((), (6 : Int), nums, (0 : Int), ())) (Tree.need ((0 : Int) ≤ (V_kPath ((), (6 : Int), nums, (0 : Int), ())).snd ∧ (V_kPath ((), (6 : Int), nums, (0 : Int), ())).snd ≤ (400000000 : Int)) (Tree.need (inv_PipePiecesL ([l_0, (strK nums (lenS (V_kPath ((), (6 : Int), nums, (0 : Int), ())).fst) (Int.toNat ((1 : Int) + nextS nums (V_kPath ((), (6 : Int), nums, (0 : Int), ())).snd (4 : Int))) ((V_kPath ((), (6 : Int), nums, (0 : Int), ())).snd + (1 : Int)) []).fst], [((p_0, p_1, p_2), p_3), (V_kPath ((), (6 : Int), nums, (0 : Int), ())).fst], (0 : Int), ())) (Tree.leaf (SV.bool true))))) := by kernel_rfl
def c_PipePieces : PC P := PC.of (α := List Tb × (V × List V) × List Int × Unit) 7 [.agg tTs, .agg (.pair tV tVs), .val tIs] (fun x => x) (fun x => x) (fun _ => rfl)
  (fun _ => none)
  (fun x => .bool true) (by kernel_rfl) (by
    rintro ⟨l_0, ⟨⟨p_0, ⟨p_1, p_2⟩⟩, p_3⟩, nums, ⟨⟩⟩ hp
    refine fn_of hm (by kernel_rfl) (by kernel_rfl) (T_PipePieces l_0 p_0 p_1 p_2 p_3 nums) ⟨K_PipePiecesL, trivial⟩ ?_
    try dsimp only at hp
    try dsimp only
    have hpr : pr_kPath ((), (6 : Int), nums, (0 : Int), ()) := ⟨by decide, by decide, by decide, by decide⟩
    have hS := S_kPath _ hpr
    generalize V_kPath ((), (6 : Int), nums, (0 : Int), ()) = b at *
    obtain ⟨⟨⟨x, y, z⟩, pl⟩, k1⟩ := b
    obtain ⟨hc, h1, h2, _⟩ := hS
    dsimp only at hc h1 h2 ⊢
    have n0 := nextS_rng (l := nums) (k := k1) (n := 4) (by omega) (by decide)
    have hstr := strK_ok (l := nums) (n := lenS ((x, y, z), pl)) (1 + nextS nums k1 4).toNat (k1 + 1) [] (by omega) ⟨fun t ht => (by cases ht), lenS_nn _, by decide, fun t ht => (by cases ht)⟩
    generalize strK nums (lenS ((x, y, z), pl)) (1 + nextS nums k1 4).toNat (k1 + 1) [] = st at *
    obtain ⟨s, k2⟩ := st
    obtain ⟨_, b, _, _⟩ := hstr
    dsimp only at b ⊢
    rw [List.length_nil] at b
    refine ⟨fun _ => rfl, fun d => ⟨hpr, ⟨by omega, by omega⟩, ⟨by decide, by decide, rfl, rfl, ?_⟩, rfl⟩⟩
    simp only [Bool.or_eq_false_iff, decide_eq_false_iff_not] at d
    intro w hw
    rcases List.mem_cons.1 hw with rfl | hw
    · omega
    · rw [List.mem_singleton.1 hw]; omega)
end
end Go.MP
