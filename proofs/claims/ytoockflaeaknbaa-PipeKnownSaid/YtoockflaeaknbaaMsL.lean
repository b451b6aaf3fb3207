/- The laws PipeBends, PipeWeighs, PipeChecks, PipePieces. -/
import Derived.Test.YtoockflaeaknbaaMsK
import Derived.Test.YtoockflaeaknbaaFw4
namespace Go.MP
open Go Go.Sx Go.Proofs
set_option linter.unusedVariables false
set_option linter.unusedSimpArgs false
noncomputable section
def L_SamePcL : Lay := { slots := [(0, .val (.sl (.pair tI tV))), (1, .val (.sl (.pair tI tV))), (5, .val tI)] }
def L_SamePcL_0 : Lay := { slots := [(4, .val .bool)] }
def L_SamePcL_1 : Lay := { slots := [] }
def X_SamePcL : Exit → St → Option Lay
  | .ret, _ => some L_SamePcL_0
  | .exit 0, _ => some L_SamePcL_1
  | _, _ => none
abbrev C_SamePcL : Code := loopC (bodyOf Try.f29) 0
theorem B_SamePcL (a b : List (Int × V)) (i : Int) : loopBodyA (P := P) [] (lpOf []) [] 26 noU (inner C_SamePcL) L_SamePcL X_SamePcL (α := List (Int × V) × List (Int × V) × Int × Unit) (fun x => x) (fun x => x) (a, b, i, ()) =
  Tree.cond (decide (i < (↑(List.length a) : Int))) (Tree.need ((0 : Int) ≤ i ∧ i < (↑(List.length a) : Int)) (Tree.need ((0 : Int) ≤ i ∧ i < (↑(List.length b) : Int)) (Tree.cond (!((List.getD a (Int.toNat i) ((0 : Int), (0 : Int), (0 : Int), (0 : Int))).fst == (List.getD b (Int.toNat i) ((0 : Int), (0 : Int), (0 : Int), (0 : Int))).fst && ((List.getD a (Int.toNat i) ((0 : Int), (0 : Int), (0 : Int), (0 : Int))).snd.fst == (List.getD b (Int.toNat i) ((0 : Int), (0 : Int), (0 : Int), (0 : Int))).snd.fst && ((List.getD a (Int.toNat i) ((0 : Int), (0 : Int), (0 : Int), (0 : Int))).snd.snd.fst == (List.getD b (Int.toNat i) ((0 : Int), (0 : Int), (0 : Int), (0 : Int))).snd.snd.fst && ((List.getD a (Int.toNat i) ((0 : Int), (0 : Int), (0 : Int), (0 : Int))).snd.snd.snd == (List.getD b (Int.toNat i) ((0 : Int), (0 : Int), (0 : Int), (0 : Int))).snd.snd.snd && true))))) (Tree.leaf (Sum.inr (Exit.ret, Lay.st L_SamePcL_0 noU (false, PUnit.unit)))) (Tree.leaf (Sum.inl (a, b, IntKind.wrap IntKind.i64 (i + (1 : Int)), PUnit.unit)))))) (Tree.leaf (Sum.inr (Exit.exit (0 : Nat), Lay.st L_SamePcL_1 noU PUnit.unit))) := by kernel_rfl
def inv_SamePcL : List (Int × V) × List (Int × V) × Int × Unit → Prop := fun (a, b, i, ()) => 0 ≤ i ∧ i ≤ a.length ∧ a = b ∧ (a.length : Int) < 2 ^ 62
def O_SamePcL : List (Int × V) × List (Int × V) × Int × Unit → Tree (Exit × St) := fun (a, b, i, ()) => (.leaf (.exit 0, L_SamePcL_1.st noU ()))
def R_SamePcL : LRun := runOf 26 L_SamePcL (fun x => x) (inv_SamePcL) (O_SamePcL)
theorem K_SamePcL : LoopOk P [] 26 none noU C_SamePcL (R_SamePcL) := by
  refine loop_of hm (cx := []) [] (xl := X_SamePcL) (α := List (Int × V) × List (Int × V) × Int × Unit) (fun x => x) (fun (a, b, i, ()) => (a.length - i).toNat) (fun _ => rfl) (by kernel_rfl) (by kernel_rfl) ?_ (by kernel_rfl) trivial ?_
  · intro e S L' h
    unfold X_SamePcL at h
    split at h <;> first | (cases h; done) | (cases h; kernel_rfl) | (rcases bif_some h with h | h <;> cases h <;> kernel_rfl)
  · rintro ⟨a, b, i, ⟨⟩⟩ hinv Q hQ
    refine hold_of_eq (B_SamePcL a b i) ?_
    obtain ⟨h0, h1, rfl, h2⟩ := hinv
    rw [W_id (n := i + 1) (by omega) (by omega)]
    refine ⟨fun c1 => ?_, fun c1 => hQ⟩
    have c1 := of_decide_eq_true c1
    exact ⟨⟨h0, c1⟩, ⟨h0, c1⟩, fun c2 => absurd c2 (by simp), fun c2 => ⟨⟨⟨by omega, by omega, rfl, h2⟩, by show ((a.length : Int) - (i + 1)).toNat < ((a.length : Int) - i).toNat; omega⟩, hQ⟩⟩
theorem T_SamePieces (a b : List (Int × V)) : fnTree (P := P) [] (lpOf [(0, R_SamePcL)]) Try.f29 (encL 0 [.val (.sl (.pair tI tV)), .val (.sl (.pair tI tV))] (a, b, ())) =
  Tree.cond ((↑(List.length a) : Int) != (↑(List.length b) : Int)) (Tree.leaf (SV.bool false)) (Tree.need (inv_SamePcL (a, b, (0 : Int), ())) (Tree.leaf (SV.bool true))) := by kernel_rfl
def c_SamePieces : PC P := PC.of (α := List (Int × V) × List (Int × V) × Unit) 29 [.val (.sl (.pair tI tV)), .val (.sl (.pair tI tV))] (fun x => x) (fun x => x) (fun _ => rfl)
  (fun x => some (x.1 = x.2.1 ∧ (x.1.length : Int) < 2 ^ 62))
  (fun x => .bool true) (by kernel_rfl) (by
    rintro ⟨a, b, ⟨⟩⟩ hp
    refine fn_of hm (by kernel_rfl) (by kernel_rfl) (T_SamePieces a b) ⟨K_SamePcL, trivial⟩ ?_
    try dsimp only at hp
    try dsimp only
    obtain ⟨rfl, h1⟩ : a = b ∧ (a.length : Int) < 2 ^ 62 := hp
    exact ⟨fun c => absurd c (by simp), fun _ => ⟨⟨by decide, by omega, rfl, h1⟩, rfl⟩⟩)
def L_SameLgL : Lay := { slots := [(0, .val tIs), (1, .val tIs), (5, .val tI)] }
def L_SameLgL_0 : Lay := { slots := [(4, .val .bool)] }
def L_SameLgL_1 : Lay := { slots := [(0, .val tIs), (1, .val tIs)] }
def X_SameLgL : Exit → St → Option Lay
  | .ret, _ => some L_SameLgL_0
  | .exit 0, _ => some L_SameLgL_1
  | _, _ => none
abbrev C_SameLgL : Code := loopC (bodyOf Try.f41) 0
theorem B_SameLgL (a b : List Int) (i : Int) : loopBodyA (P := P) [] (lpOf []) [] 32 noU (inner C_SameLgL) L_SameLgL X_SameLgL (α := List Int × List Int × Int × Unit) (fun x => x) (fun x => x) (a, b, i, ()) =
  Tree.cond (decide (i < (↑(List.length a) : Int))) (Tree.cond (decide (i < (↑(List.length b) : Int))) (Tree.need ((0 : Int) ≤ i ∧ i < (↑(List.length a) : Int)) (Tree.need ((0 : Int) ≤ i ∧ i < (↑(List.length b) : Int)) (Tree.cond (List.getD a (Int.toNat i) (0 : Int) != List.getD b (Int.toNat i) (0 : Int)) (Tree.leaf (Sum.inr (Exit.ret, Lay.st L_SameLgL_0 noU (false, PUnit.unit)))) (Tree.leaf (Sum.inl (a, b, IntKind.wrap IntKind.i64 (i + (1 : Int)), PUnit.unit)))))) (Tree.leaf (Sum.inr (Exit.exit (0 : Nat), Lay.st L_SameLgL_1 noU (a, b, PUnit.unit))))) (Tree.leaf (Sum.inr (Exit.exit (0 : Nat), Lay.st L_SameLgL_1 noU (a, b, PUnit.unit)))) := by kernel_rfl
def inv_SameLgL : List Int × List Int × Int × Unit → Prop := fun (a, b, i, ()) => 0 ≤ i ∧ i ≤ a.length ∧ a = b ∧ (a.length : Int) < 2 ^ 62
def O_SameLgL : List Int × List Int × Int × Unit → Tree (Exit × St) := fun (a, b, i, ()) => (.leaf (.exit 0, L_SameLgL_1.st noU (a, b, ())))
def R_SameLgL : LRun := runOf 32 L_SameLgL (fun x => x) (inv_SameLgL) (O_SameLgL)
theorem K_SameLgL : LoopOk P [] 32 none noU C_SameLgL (R_SameLgL) := by
  refine loop_of hm (cx := []) [] (xl := X_SameLgL) (α := List Int × List Int × Int × Unit) (fun x => x) (fun (a, b, i, ()) => (a.length - i).toNat) (fun _ => rfl) (by kernel_rfl) (by kernel_rfl) ?_ (by kernel_rfl) trivial ?_
  · intro e S L' h
    unfold X_SameLgL at h
    split at h <;> first | (cases h; done) | (cases h; kernel_rfl) | (rcases bif_some h with h | h <;> cases h <;> kernel_rfl)
  · rintro ⟨a, b, i, ⟨⟩⟩ hinv Q hQ
    refine hold_of_eq (B_SameLgL a b i) ?_
    obtain ⟨h0, h1, rfl, h2⟩ := hinv
    rw [W_id (n := i + 1) (by omega) (by omega)]
    refine ⟨fun c1 => ⟨fun c1 => ?_, fun c1 => hQ⟩, fun c1 => hQ⟩
    have c1 := of_decide_eq_true c1
    exact ⟨⟨h0, c1⟩, ⟨h0, c1⟩, fun c2 => absurd c2 (by simp), fun c2 => ⟨⟨⟨by omega, by omega, rfl, h2⟩, by show ((a.length : Int) - (i + 1)).toNat < ((a.length : Int) - i).toNat; omega⟩, hQ⟩⟩
theorem T_SameLongs (a b : List Int) : fnTree (P := P) [] (lpOf [(0, R_SameLgL)]) Try.f41 (encL 0 [.val tIs, .val tIs] (a, b, ())) =
  Tree.need (inv_SameLgL (a, b, (0 : Int), ())) (Tree.leaf (SV.bool ((↑(List.length a) : Int) == (↑(List.length b) : Int)))) := by kernel_rfl
def c_SameLongs : PC P := PC.of (α := List Int × List Int × Unit) 41 [.val tIs, .val tIs] (fun x => x) (fun x => x) (fun _ => rfl)
  (fun x => some (x.1 = x.2.1 ∧ (x.1.length : Int) < 2 ^ 62))
  (fun x => .bool true) (by kernel_rfl) (by
    rintro ⟨a, b, ⟨⟩⟩ hp
    refine fn_of hm (by kernel_rfl) (by kernel_rfl) (T_SameLongs a b) ⟨K_SameLgL, trivial⟩ ?_
    try dsimp only at hp
    try dsimp only
    obtain ⟨rfl, h1⟩ : a = b ∧ (a.length : Int) < 2 ^ 62 := hp
    refine ⟨⟨by decide, by omega, rfl, h1⟩, ?_⟩
    show SV.bool _ = SV.bool true
    simp)
def L_OwnString : Lay := { slots := [(0, .agg tTs)] }
theorem T_OwnString (l_0 : List Tb) : mTree (P := P) [] (lpOf []) Try.f34 L_OwnString true (l_0, ()) =
  Tree.need (((0 : Nat) + List.length l_0) * (72 : Nat) ≤ (140737488355328 : Nat)) (Tree.leaf { res := SV.agg [SV.own (nat_lit 100)], boxes := [], news := [Ob.row (50 : Nat) (Ty.pair (Ty.int IntKind.i64) (Ty.pair (Ty.int IntKind.i64) (Ty.pair (Ty.int IntKind.i64) (Ty.pair (Ty.int IntKind.i64) (Ty.pair (Ty.int IntKind.i64) (Ty.pair (Ty.int IntKind.i64) (Ty.pair (Ty.int IntKind.i64) (Ty.pair (Ty.int IntKind.i64) (Ty.int IntKind.i64))))))))) l_0] }) := by kernel_rfl
def c_OwnString : XC P := XC.of (α := List Tb × Unit) 34 L_OwnString (fun x => x) (fun x => x) (fun _ => rfl)
  (fun x => some ((x.1.length : Int) < 1000000))
  (fun x => ⟨.agg [.own 100], [], [.row 50 tT x.1]⟩) (by kernel_rfl) (by kernel_rfl) (by
    rintro ⟨l_0, ⟨⟩⟩ hp
    refine m_of hm (own := true) (by kernel_rfl) (by kernel_rfl) (by kernel_rfl) (T_OwnString l_0) trivial ?_
    try dsimp only at hp
    try dsimp only
    have hp' : (l_0.length : Int) < 1000000 := hp
    exact ⟨by omega, rfl⟩)
end
end Go.MP
