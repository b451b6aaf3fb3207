/- The laws PipeBends, PipeWeighs, PipeChecks, PipePieces. -/
import Derived.Test.YtoockflaeaknbaaMsK
import Derived.Test.YtoockflaeaknbaaFw4
namespace Go.MP
open Go Go.Sx Go.Proofs
set_option linter.unusedVariables false
set_option linter.unusedSimpArgs false
noncomputable section
def L_SameLgL : Lay := { slots := [(0, .val tIs), (1, .val tIs), (5, .val tI)] }
def L_SameLgL_0 : Lay := { slots := [(4, .val .bool)] }
def L_SameLgL_1 : Lay := { slots := [(0, .val tIs), (1, .val tIs)] }
def X_SameLgL : Exit → St → Option Lay
  | .ret, _ => some L_SameLgL_0
  | .exit 0, _ => some L_SameLgL_1
  | _, _ => none
abbrev C_SameLgL : Code := loopC (bodyOf Try.f41) 0
theorem B_SameLgL (a b : List Int) (i : Int) : loopBodyA (P := P) [] (lpOf []) [] 32 noU (inner C_SameLgL) L_SameLgL X_SameLgL (α := List Int × List Int × Int × Unit) (fun x => x) (fun x => x) (a, b, i, ()) =
  Tree.cond (decide (i < (↑(List.length a) : Int))) (Tree.cond (decide (i < (↑(List.length b) : Int))) (Tree.need ((0 : Int) ≤ i ∧ i < (↑(List.length a) : Int)) (Tree.need ((0 : Int) ≤ i ∧ i < (↑(List.length b) : Int)) (Tree.cond (List.getD a (Int.toNat i) (0 : Int) != List.getD b (Int.toNat i) (0 : Int)) (Tree.leaf (Sum.inr (Exit.ret, Lay.st L_SameLgL_0 noU (false, PUnit.unit)))) (Tree.leaf (Sum.inl (a, b, IntKind.wrap IntKind.i64 (i + (1 : Int)), PUnit.unit)))))) (Tree.leaf (Sum.inr (Exit.exit (0 : Nat), Lay.st L_SameLgL_1 noU (a, b, PUnit.unit))))) (Tree.leaf (Sum.inr (Exit.exit (0 : Nat), Lay.st L_SameLgL_1 noU (a, b, PUnit.unit)))) := by kernel_rfl
def inv_SameLgL : List Int × List Int × Int × Unit → Prop := fun (a, b, i, ()) => 0 ≤ i ∧ i ≤ a.length ∧ a = b ∧ (a.length : Int) < 2 ^ 62
def O_SameLgL : List Int × List Int × Int × Unit → Tree (Exit × St) := fun (a, b, i, ()) => (.leaf (.exit 0, L_SameLgL_1.st noU (a, b, ())))
def R_SameLgL : LRun := runOf 32 L_SameLgL (fun x => x) (inv_SameLgL) (O_SameLgL)
theorem K_SameLgL : LoopOk P [] 32 none noU C_SameLgL (R_SameLgL) := by
  refine loop_of hm (cx := []) [] (xl := X_SameLgL) (α := List Int × List Int × Int × Unit) (fun x => x) (fun (a, b, i, ()) => (a.length - i).toNat) (fun _ => rfl) (by kernel_rfl) (by kernel_rfl) ?_ (by kernel_rfl) trivial ?_
  · intro e S L' h
    unfold X_SameLgL at h
    split at h <;> first | (cases h; done) | (cases h; kernel_rfl) | (rcases bif_some h with h | h <;> cases h <;> kernel_rfl)
  · rintro ⟨a, b, i, ⟨⟩⟩ hinv Q hQ
    refine hold_of_eq (B_SameLgL a b i) ?_
    obtain ⟨h0, h1, rfl, h2⟩ := hinv
    rw [W_id (n := i + 1) (by omega) (by omega)]
    refine ⟨fun c1 => ⟨fun c1 => ?_, fun c1 => hQ⟩, fun c1 => hQ⟩
    have c1 := of_decide_eq_true c1
    exact ⟨⟨h0, c1⟩, ⟨h0, c1⟩, fun c2 => absurd c2 (by simp), fun c2 => ⟨⟨⟨by omega, by omega, rfl, h2⟩, by show ((a.length : Int) - (i + 1)).toNat < ((a.length : Int) - i).toNat; omega⟩, hQ⟩⟩
theorem T_SameLongs (a b : List Int) : fnTree (P := P) [] (lpOf [(0, R_SameLgL)]) Try.f41 (encL 0 [.val tIs, .val tIs] (a, b, ())) =
  Tree.need (inv_SameLgL (a, b, (0 : Int), ())) (Tree.leaf (SV.bool ((↑(List.length a) : Int) == (↑(List.length b) : Int)))) := by kernel_rfl
def c_SameLongs : PC P := PC.of (α := List Int × List Int × Unit) 41 [.val tIs, .val tIs] (fun x => x) (fun x => x) (fun _ => rfl)
  (fun x => some (x.1 = x.2.1 ∧ (x.1.length : Int) < 2 ^ 62))
  (fun x => .bool true) (by kernel_rfl) (by
    rintro ⟨a, b, ⟨⟩⟩ hp
    refine fn_of hm (by kernel_rfl) (by kernel_rfl) (T_SameLongs a b) ⟨K_SameLgL, trivial⟩ ?_
    try dsimp only at hp
    try dsimp only
    obtain ⟨rfl, h1⟩ : a = b ∧ (a.length : Int) < 2 ^ 62 := hp
    refine ⟨⟨by decide, by omega, rfl, h1⟩, ?_⟩
    show SV.bool _ = SV.bool true
    simp)
def L_OwnString : Lay := { slots := [(0, .agg tTs)] }
theorem T_OwnString (l_0 : List Tb) : mTree (P := P) [] (lpOf []) Try.f34 L_OwnString true (l_0, ()) =
  Tree.need (((0 : Nat) + List.length l_0) * (72 : Nat) ≤ (140737488355328 : Nat)) (Tree.leaf { res := SV.agg [SV.own (nat_lit 100)], boxes := [], news := [Ob.row (50 : Nat) (Ty.pair (Ty.int IntKind.i64) (Ty.pair (Ty.int IntKind.i64) (Ty.pair (Ty.int IntKind.i64) (Ty.pair (Ty.int IntKind.i64) (Ty.pair (Ty.int IntKind.i64) (Ty.pair (Ty.int IntKind.i64) (Ty.pair (Ty.int IntKind.i64) (Ty.pair (Ty.int IntKind.i64) (Ty.int IntKind.i64))))))))) l_0] }) := by kernel_rfl
def c_OwnString : XC P := XC.of (α := List Tb × Unit) 34 L_OwnString (fun x => x) (fun x => x) (fun _ => rfl)
  (fun x => some ((x.1.length : Int) < 1000000))
  (fun x => ⟨.agg [.own 100], [], [.row 50 tT x.1]⟩) (by kernel_rfl) (by kernel_rfl) (by
    rintro ⟨l_0, ⟨⟩⟩ hp
    refine m_of hm (own := true) (by kernel_rfl) (by kernel_rfl) (by kernel_rfl) (T_OwnString l_0) trivial ?_
    try dsimp only at hp
    try dsimp only
    have hp' : (l_0.length : Int) < 1000000 := hp
    exact ⟨by omega, rfl⟩)
def L_rSameL : Lay := { slots := [(2, .ptr 3031 0), (3, .ptr 4031 0), (5, .val tI)], boxes := [(3031, [.val tTs]), (4031, [.val tTs])] }
def L_rSameL_0 : Lay := { slots := [(4, .val .bool)] }
def L_rSameL_1 : Lay := { slots := [] }
def X_rSameL : Exit → St → Option Lay
  | .ret, _ => some L_rSameL_0
  | .exit 0, _ => some L_rSameL_1
  | _, _ => none
abbrev C_rSameL : Code := loopC (bodyOf Try.f46) 0
theorem B_rSameL (i : Int) (a_0 b_0 : List Tb) : loopBodyA (P := P) [] (lpOf []) [] 31 noU (inner C_rSameL) L_rSameL X_rSameL (α := Unit × Unit × Int × List Tb × List Tb × Unit) (fun x => x) (fun x => x) ((), (), i, a_0, b_0, ()) =
  Tree.cond (decide (i < (↑(List.length a_0) : Int))) (Tree.need ((0 : Int) ≤ i ∧ i < (↑(List.length a_0) : Int)) (Tree.need ((0 : Int) ≤ i ∧ i < (↑(List.length b_0) : Int)) (Tree.cond (!((List.getD a_0 (Int.toNat i) ((0 : Int), (0 : Int), (0 : Int), (0 : Int), (0 : Int), (0 : Int), (0 : Int), (0 : Int), (0 : Int))).fst == (List.getD b_0 (Int.toNat i) ((0 : Int), (0 : Int), (0 : Int), (0 : Int), (0 : Int), (0 : Int), (0 : Int), (0 : Int), (0 : Int))).fst && ((List.getD a_0 (Int.toNat i) ((0 : Int), (0 : Int), (0 : Int), (0 : Int), (0 : Int), (0 : Int), (0 : Int), (0 : Int), (0 : Int))).snd.fst == (List.getD b_0 (Int.toNat i) ((0 : Int), (0 : Int), (0 : Int), (0 : Int), (0 : Int), (0 : Int), (0 : Int), (0 : Int), (0 : Int))).snd.fst && ((List.getD a_0 (Int.toNat i) ((0 : Int), (0 : Int), (0 : Int), (0 : Int), (0 : Int), (0 : Int), (0 : Int), (0 : Int), (0 : Int))).snd.snd.fst == (List.getD b_0 (Int.toNat i) ((0 : Int), (0 : Int), (0 : Int), (0 : Int), (0 : Int), (0 : Int), (0 : Int), (0 : Int), (0 : Int))).snd.snd.fst && ((List.getD a_0 (Int.toNat i) ((0 : Int), (0 : Int), (0 : Int), (0 : Int), (0 : Int), (0 : Int), (0 : Int), (0 : Int), (0 : Int))).snd.snd.snd.fst == (List.getD b_0 (Int.toNat i) ((0 : Int), (0 : Int), (0 : Int), (0 : Int), (0 : Int), (0 : Int), (0 : Int), (0 : Int), (0 : Int))).snd.snd.snd.fst && ((List.getD a_0 (Int.toNat i) ((0 : Int), (0 : Int), (0 : Int), (0 : Int), (0 : Int), (0 : Int), (0 : Int), (0 : Int), (0 : Int))).snd.snd.snd.snd.fst == (List.getD b_0 (Int.toNat i) ((0 : Int), (0 : Int), (0 : Int), (0 : Int), (0 : Int), (0 : Int), (0 : Int), (0 : Int), (0 : Int))).snd.snd.snd.snd.fst && ((List.getD a_0 (Int.toNat i) ((0 : Int), (0 : Int), (0 : Int), (0 : Int), (0 : Int), (0 : Int), (0 : Int), (0 : Int), (0 : Int))).snd.snd.snd.snd.snd.fst == (List.getD b_0 (Int.toNat i) ((0 : Int), (0 : Int), (0 : Int), (0 : Int), (0 : Int), (0 : Int), (0 : Int), (0 : Int), (0 : Int))).snd.snd.snd.snd.snd.fst && ((List.getD a_0 (Int.toNat i) ((0 : Int), (0 : Int), (0 : Int), (0 : Int), (0 : Int), (0 : Int), (0 : Int), (0 : Int), (0 : Int))).snd.snd.snd.snd.snd.snd.fst == (List.getD b_0 (Int.toNat i) ((0 : Int), (0 : Int), (0 : Int), (0 : Int), (0 : Int), (0 : Int), (0 : Int), (0 : Int), (0 : Int))).snd.snd.snd.snd.snd.snd.fst && ((List.getD a_0 (Int.toNat i) ((0 : Int), (0 : Int), (0 : Int), (0 : Int), (0 : Int), (0 : Int), (0 : Int), (0 : Int), (0 : Int))).snd.snd.snd.snd.snd.snd.snd.fst == (List.getD b_0 (Int.toNat i) ((0 : Int), (0 : Int), (0 : Int), (0 : Int), (0 : Int), (0 : Int), (0 : Int), (0 : Int), (0 : Int))).snd.snd.snd.snd.snd.snd.snd.fst && ((List.getD a_0 (Int.toNat i) ((0 : Int), (0 : Int), (0 : Int), (0 : Int), (0 : Int), (0 : Int), (0 : Int), (0 : Int), (0 : Int))).snd.snd.snd.snd.snd.snd.snd.snd == (List.getD b_0 (Int.toNat i) ((0 : Int), (0 : Int), (0 : Int), (0 : Int), (0 : Int), (0 : Int), (0 : Int), (0 : Int), (0 : Int))).snd.snd.snd.snd.snd.snd.snd.snd && true)))))))))) (Tree.leaf (Sum.inr (Exit.ret, Lay.st L_rSameL_0 noU (false, PUnit.unit)))) (Tree.leaf (Sum.inl (PUnit.unit, PUnit.unit, IntKind.wrap IntKind.i64 (i + (1 : Int)), a_0, b_0, PUnit.unit)))))) (Tree.leaf (Sum.inr (Exit.exit (0 : Nat), Lay.st L_rSameL_1 noU PUnit.unit))) := by kernel_rfl
def inv_rSameL : Unit × Unit × Int × List Tb × List Tb × Unit → Prop := fun ((), (), i, a_0, b_0, ()) => 0 ≤ i ∧ i ≤ a_0.length ∧ a_0 = b_0 ∧ (a_0.length : Int) < 2 ^ 62
def O_rSameL : Unit × Unit × Int × List Tb × List Tb × Unit → Tree (Exit × St) := fun ((), (), i, a_0, b_0, ()) => (.leaf (.exit 0, L_rSameL_1.st noU ()))
def R_rSameL : LRun := runOf 31 L_rSameL (fun x => x) (inv_rSameL) (O_rSameL)
theorem K_rSameL : LoopOk P [] 31 none noU C_rSameL (R_rSameL) := by
  refine loop_of hm (cx := []) [] (xl := X_rSameL) (α := Unit × Unit × Int × List Tb × List Tb × Unit) (fun x => x) (fun ((), (), i, a_0, b_0, ()) => (a_0.length - i).toNat) (fun _ => rfl) (by kernel_rfl) (by kernel_rfl) ?_ (by kernel_rfl) trivial ?_
  · intro e S L' h
    unfold X_rSameL at h
    split at h <;> first | (cases h; done) | (cases h; kernel_rfl) | (rcases bif_some h with h | h <;> cases h <;> kernel_rfl)
  · rintro ⟨⟨⟩, ⟨⟩, i, a_0, b_0, ⟨⟩⟩ hinv Q hQ
    refine hold_of_eq (B_rSameL i a_0 b_0) ?_
    obtain ⟨h0, h1, rfl, h2⟩ := hinv
    rw [W_id (n := i + 1) (by omega) (by omega)]
    refine ⟨fun c1 => ?_, fun c1 => hQ⟩
    have c1 := of_decide_eq_true c1
    exact ⟨⟨h0, c1⟩, ⟨h0, c1⟩, fun c2 => absurd c2 (by simp), fun c2 => ⟨⟨⟨by omega, by omega, rfl, h2⟩, by show ((a_0.length : Int) - (i + 1)).toNat < ((a_0.length : Int) - i).toNat; omega⟩, hQ⟩⟩
theorem T_rSame (a_0 b_0 : List Tb) : fnTree (P := P) [] (lpOf [(0, R_rSameL)]) Try.f46 (encL 0 [.agg tTs, .agg tTs] (a_0, b_0, ())) =
  Tree.cond ((↑(List.length a_0) : Int) != (↑(List.length b_0) : Int)) (Tree.leaf (SV.bool false)) (Tree.need (inv_rSameL ((), (), (0 : Int), a_0, b_0, ())) (Tree.leaf (SV.bool true))) := by kernel_rfl
def c_rSame : PC P := PC.of (α := List Tb × List Tb × Unit) 46 [.agg tTs, .agg tTs] (fun x => x) (fun x => x) (fun _ => rfl)
  (fun x => some (x.1 = x.2.1 ∧ (x.1.length : Int) < 2 ^ 62))
  (fun x => .bool true) (by kernel_rfl) (by
    rintro ⟨a_0, b_0, ⟨⟩⟩ hp
    refine fn_of hm (by kernel_rfl) (by kernel_rfl) (T_rSame a_0 b_0) ⟨K_rSameL, trivial⟩ ?_
    try dsimp only at hp
    try dsimp only
    obtain ⟨rfl, h1⟩ : a_0 = b_0 ∧ (a_0.length : Int) < 2 ^ 62 := hp
    exact ⟨fun c => absurd c (by simp), fun _ => ⟨⟨by decide, by omega, rfl, h1⟩, rfl⟩⟩)
theorem T_PipeChecks (l_0 : List Tb) (t_0 t_1 t_2 t_3 t_4 t_5 t_6 t_7 t_8 m a b : Int) : fnTree (P := P) [c_OwnString.gc, c_TCheck.gc, c_rTCheck.gc, c_TLength.gc, c_rTLength.gc, c_Weight.gc, c_rWeight.gc, c_Wet.gc, c_rWet.gc, c_TJoints.gc, c_rTJoints.gc, c_SameLongs.gc, c_Near.gc, c_rNear.gc, c_rSame.gc, c_awake.gc] (lpOf []) Try.f9 (encL 0 [.agg tTs, .agg tT, .val tI, .val tI, .val tI] (l_0, (t_0, (t_1, (t_2, (t_3, (t_4, (t_5, (t_6, (t_7, t_8)))))))), m, a, b, ())) =
  Tree.cond (decide ((↑(List.length l_0) : Int) > (10 : Int))) (Tree.leaf (SV.bool true)) (Tree.need ((↑(List.length l_0) : Int) < (1000000 : Int)) (Tree.need ((↑(List.length l_0) : Int) < (2 : Int) ^ (62 : Nat)) (Tree.cond (checkT l_0 != checkT l_0) (Tree.leaf (SV.bool false)) (Tree.need ((↑(List.length l_0) : Int) < (2 : Int) ^ (62 : Nat)) (Tree.cond (lenT l_0 != lenT l_0) (Tree.leaf (SV.bool false)) (Tree.need ((↑(List.length l_0) : Int) < (2 : Int) ^ (62 : Nat)) (Tree.cond (wghS l_0 m != wghS l_0 m) (Tree.leaf (SV.bool false)) (Tree.cond (wetS (t_0, t_1, t_2, t_3, t_4, t_5, t_6, t_7, t_8) m != wetS (t_0, t_1, t_2, t_3, t_4, t_5, t_6, t_7, t_8) m) (Tree.leaf (SV.bool false)) (Tree.need ((↑(List.length l_0) : Int) < (2 : Int) ^ (62 : Nat)) (Tree.need (jntT l_0 = jntT l_0 ∧ (↑(List.length (jntT l_0)) : Int) < (2 : Int) ^ (62 : Nat)) (Tree.cond true (Tree.need ((↑(List.length l_0) : Int) < (2 : Int) ^ (62 : Nat)) (Tree.cond (nearS l_0 a b == nearS l_0 a b) (Tree.need (l_0 = l_0 ∧ (↑(List.length l_0) : Int) < (2 : Int) ^ (62 : Nat)) (Tree.cond true (Tree.leaf (SV.bool true)) (Tree.leaf (SV.bool false)))) (Tree.leaf (SV.bool false)))) (Tree.leaf (SV.bool false))))))))))))) := by kernel_rfl
def c_PipeChecks : PC P := PC.of (α := List Tb × Tb × Int × Int × Int × Unit) 9 [.agg tTs, .agg tT, .val tI, .val tI, .val tI] (fun x => x) (fun x => x) (fun _ => rfl)
  (fun _ => none)
  (fun x => .bool true) (by kernel_rfl) (by
    rintro ⟨l_0, ⟨t_0, ⟨t_1, ⟨t_2, ⟨t_3, ⟨t_4, ⟨t_5, ⟨t_6, ⟨t_7, t_8⟩⟩⟩⟩⟩⟩⟩⟩, m, a, b, ⟨⟩⟩ hp
    refine fn_of hm (by kernel_rfl) (by kernel_rfl) (T_PipeChecks l_0 t_0 t_1 t_2 t_3 t_4 t_5 t_6 t_7 t_8 m a b) trivial ?_
    try dsimp only at hp
    try dsimp only
    have e1 : ∀ z : Int, (z != z) = false := fun z => by simp
    have e2 : ∀ z : Bool, (z == z) = true := fun z => by simp
    rw [e1, e1, e1, e1, e2]
    have hj := jntT_len l_0
    refine ⟨fun _ => rfl, fun c1 => ?_⟩
    have c1 := of_decide_eq_false c1
    have hl : (l_0.length : Int) < 2 ^ 62 := by omega
    exact ⟨by omega, hl, fun h => (by cases h), fun _ => ⟨hl, fun h => (by cases h), fun _ => ⟨hl, fun h => (by cases h), fun _ => ⟨fun h => (by cases h), fun _ => ⟨hl, ⟨rfl, by omega⟩, fun _ => ⟨hl, fun _ => ⟨⟨rfl, hl⟩, fun _ => rfl, fun h => (by cases h)⟩, fun h => (by cases h)⟩, fun h => (by cases h)⟩⟩⟩⟩⟩)
end
end Go.MP
