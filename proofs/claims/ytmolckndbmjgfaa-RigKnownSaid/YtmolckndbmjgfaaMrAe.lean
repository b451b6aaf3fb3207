/- RigChecks. -/
import Derived.Test.YtmolckndbmjgfaaMrV
import Derived.Test.YtmolckndbmjgfaaFw4
namespace Go.MR
open Go Go.Sx Go.Proofs
set_option linter.unusedVariables false
set_option linter.unusedSimpArgs false
noncomputable section
def L_OwnIntsC : Lay := { slots := [(0, .val tIs)] }
theorem T_OwnIntsC (s0 : List Int) : mTree (P := P) [] (lpOf []) Try.f28 L_OwnIntsC true (s0, ()) =
  Tree.need (((0 : Nat) + List.length s0) * (8 : Nat) ≤ (140737488355328 : Nat)) (Tree.leaf { res := SV.own (nat_lit 100), boxes := [], news := [Ob.row (3 : Nat) (Ty.int IntKind.i64) s0] }) := by kernel_rfl
def c_OwnIntsC : XC P := XC.of (α := List Int × Unit) 28 L_OwnIntsC (fun x => x) (fun x => x) (fun _ => rfl)
  (fun x => some (x.1.length ≤ 1000))
  (fun x => ⟨.own 100, [], [.row 3 tI x.1]⟩) (by kernel_rfl) (by kernel_rfl) (by
    rintro ⟨s0, ⟨⟩⟩ hp
    refine m_of hm (own := true) (by kernel_rfl) (by kernel_rfl) (by kernel_rfl) (T_OwnIntsC s0) trivial ?_
    try dsimp only at hp
    try dsimp only
    have hp' : s0.length ≤ 1000 := hp
    refine ⟨by show (0 + s0.length) * 8 ≤ 140737488355328; omega, ?_⟩
    rfl)
def eqBn : List Ban → List Ban → Bool
  | x :: a, y :: b => decide (x = y) && eqBn a b
  | _, _ => true
theorem eqBn_nil (b : List Ban) : eqBn [] b = true := by cases b <;> rfl
abbrev zBan : Ban := (0, 0, 0, 0, 0, 0)
theorem eqBn_step {a b : List Ban} {i : Int} (h0 : 0 ≤ i) (h : i < a.length) (h2 : i < b.length) : eqBn (a.drop i.toNat) (b.drop i.toNat) = (decide (a.getD i.toNat zBan = b.getD i.toNat zBan) && eqBn (a.drop (i + 1).toNat) (b.drop (i + 1).toNat)) := by
  rw [drop_step zBan h0 h, drop_step zBan h0 h2, eqBn]
theorem eqBn_eq : ∀ {a b : List Ban}, a.length = b.length → eqBn a b = decide (a = b)
  | [], [], _ => rfl
  | [], _ :: _, h => by simp at h
  | _ :: _, [], h => by simp at h
  | x :: a, y :: b, h => by
    rw [eqBn, eqBn_eq (by simpa using h)]
    by_cases c : x = y <;> by_cases d : a = b <;> simp [c, d]
def eqBn1 (x y : Ban) : Bool := x.1 == y.1 && (x.2.1 == y.2.1 && (x.2.2.1 == y.2.2.1 && (x.2.2.2.1 == y.2.2.2.1 && (x.2.2.2.2.1 == y.2.2.2.2.1 && (x.2.2.2.2.2 == y.2.2.2.2.2 && true)))))
theorem eqBn1_eq (x y : Ban) : eqBn1 x y = decide (x = y) := by
  obtain ⟨a, b, c, d, e, f⟩ := x
  obtain ⟨a', b', c', d', e', f'⟩ := y
  rw [Bool.eq_iff_iff, decide_eq_true_eq]
  unfold eqBn1
  dsimp only
  simp only [Bool.and_true, Bool.and_eq_true, beq_iff_eq, Prod.mk.injEq]
def L_sameB : Lay := { slots := [(0, .val (.sl (.pair tI (.pair tI (.pair tI tV))))), (1, .val (.sl (.pair tI (.pair tI (.pair tI tV))))), (5, .val tI)] }
def L_sameB_0 : Lay := { slots := [(4, .val .bool)] }
def L_sameB_1 : Lay := { slots := [] }
def X_sameB : Exit → St → Option Lay
  | .ret, _ => some L_sameB_0
  | .exit 0, _ => some L_sameB_1
  | _, _ => none
abbrev C_sameB : Code := loopC (bodyOf Try.f60) 0
theorem B_sameB (a b : List (Int × (Int × (Int × V)))) (i : Int) : loopBodyA (P := P) [] (lpOf []) [] 26 noU (inner C_sameB) L_sameB X_sameB (α := List (Int × (Int × (Int × V))) × List (Int × (Int × (Int × V))) × Int × Unit) (fun x => x) (fun x => x) (a, b, i, ()) =
  Tree.cond (decide (i < (↑(List.length a) : Int))) (Tree.need ((0 : Int) ≤ i ∧ i < (↑(List.length a) : Int)) (Tree.need ((0 : Int) ≤ i ∧ i < (↑(List.length b) : Int)) (Tree.cond (!((List.getD a (Int.toNat i) ((0 : Int), (0 : Int), (0 : Int), (0 : Int), (0 : Int), (0 : Int))).fst == (List.getD b (Int.toNat i) ((0 : Int), (0 : Int), (0 : Int), (0 : Int), (0 : Int), (0 : Int))).fst && ((List.getD a (Int.toNat i) ((0 : Int), (0 : Int), (0 : Int), (0 : Int), (0 : Int), (0 : Int))).snd.fst == (List.getD b (Int.toNat i) ((0 : Int), (0 : Int), (0 : Int), (0 : Int), (0 : Int), (0 : Int))).snd.fst && ((List.getD a (Int.toNat i) ((0 : Int), (0 : Int), (0 : Int), (0 : Int), (0 : Int), (0 : Int))).snd.snd.fst == (List.getD b (Int.toNat i) ((0 : Int), (0 : Int), (0 : Int), (0 : Int), (0 : Int), (0 : Int))).snd.snd.fst && ((List.getD a (Int.toNat i) ((0 : Int), (0 : Int), (0 : Int), (0 : Int), (0 : Int), (0 : Int))).snd.snd.snd.fst == (List.getD b (Int.toNat i) ((0 : Int), (0 : Int), (0 : Int), (0 : Int), (0 : Int), (0 : Int))).snd.snd.snd.fst && ((List.getD a (Int.toNat i) ((0 : Int), (0 : Int), (0 : Int), (0 : Int), (0 : Int), (0 : Int))).snd.snd.snd.snd.fst == (List.getD b (Int.toNat i) ((0 : Int), (0 : Int), (0 : Int), (0 : Int), (0 : Int), (0 : Int))).snd.snd.snd.snd.fst && ((List.getD a (Int.toNat i) ((0 : Int), (0 : Int), (0 : Int), (0 : Int), (0 : Int), (0 : Int))).snd.snd.snd.snd.snd == (List.getD b (Int.toNat i) ((0 : Int), (0 : Int), (0 : Int), (0 : Int), (0 : Int), (0 : Int))).snd.snd.snd.snd.snd && true))))))) (Tree.leaf (Sum.inr (Exit.ret, Lay.st L_sameB_0 noU (false, PUnit.unit)))) (Tree.leaf (Sum.inl (a, b, IntKind.wrap IntKind.i64 (i + (1 : Int)), PUnit.unit)))))) (Tree.leaf (Sum.inr (Exit.exit (0 : Nat), Lay.st L_sameB_1 noU PUnit.unit))) := by kernel_rfl
def inv_sameB : List (Int × (Int × (Int × V))) × List (Int × (Int × (Int × V))) × Int × Unit → Prop := fun (a, b, i, ()) => 0 ≤ i ∧ i ≤ a.length ∧ a.length = b.length ∧ (a.length : Int) < 2 ^ 62
def O_sameB : List (Int × (Int × (Int × V))) × List (Int × (Int × (Int × V))) × Int × Unit → Tree (Exit × St) := fun (a, b, i, ()) => .cond (eqBn (a.drop i.toNat) (b.drop i.toNat)) (.leaf (.exit 0, L_sameB_1.st noU ())) (.leaf (.ret, L_sameB_0.st noU ((false), ())))
def R_sameB : LRun := runOf 26 L_sameB (fun x => x) (inv_sameB) (O_sameB)
theorem K_sameB : LoopOk P [] 26 none noU C_sameB (R_sameB) := by
  refine loop_of hm (cx := []) [] (xl := X_sameB) (α := List (Int × (Int × (Int × V))) × List (Int × (Int × (Int × V))) × Int × Unit) (fun x => x) (fun (a, b, i, ()) => ((a.length : Int) - i).toNat) (fun _ => rfl) (by kernel_rfl) (by kernel_rfl) ?_ (by kernel_rfl) trivial ?_
  · intro e S L' h
    unfold X_sameB at h
    split at h <;> first | (cases h; done) | (cases h; kernel_rfl) | (rcases bif_some h with h | h <;> cases h <;> kernel_rfl)
  · rintro ⟨a, b, i, ⟨⟩⟩ hinv Q hQ
    refine hold_of_eq (B_sameB a b i) ?_
    obtain ⟨h0, h1, h2, h3⟩ := hinv
    rw [W_id (n := i + 1) (by omega) (by omega)]
    unfold O_sameB at hQ
    dsimp only at hQ
    refine ⟨fun c1 => ?_, fun c1 => ?_⟩
    · have d1 := of_decide_eq_true c1
      have hm : ((a.length : Int) - (i + 1)).toNat < ((a.length : Int) - i).toNat := by omega
      have d2 : i < b.length := by omega
      rw [eqBn_step h0 d1 d2, ← eqBn1_eq] at hQ
      refine ⟨⟨h0, d1⟩, ⟨h0, d2⟩, fun c2 => ?_, fun c2 => ?_⟩
      · rw [show eqBn1 (a.getD i.toNat zBan) (b.getD i.toNat zBan) = false by
          have c3 : (!eqBn1 (a.getD i.toNat zBan) (b.getD i.toNat zBan)) = true := c2
          simpa using c3, Bool.false_and] at hQ
        exact hQ.2 rfl
      · rw [show eqBn1 (a.getD i.toNat zBan) (b.getD i.toNat zBan) = true by
          have c3 : (!eqBn1 (a.getD i.toNat zBan) (b.getD i.toNat zBan)) = false := c2
          simpa using c3, Bool.true_and] at hQ
        exact ⟨⟨⟨by omega, by omega, h2, h3⟩, hm⟩, hQ⟩
    · have d1 := of_decide_eq_false c1
      rw [drop_end d1, eqBn_nil] at hQ
      exact hQ.1 rfl
theorem T_SameBans (a b : List (Int × (Int × (Int × V)))) : fnTree (P := P) [] (lpOf [(0, R_sameB)]) Try.f60 (encL 0 [.val (.sl (.pair tI (.pair tI (.pair tI tV)))), .val (.sl (.pair tI (.pair tI (.pair tI tV))))] (a, b, ())) =
  Tree.cond ((↑(List.length a) : Int) != (↑(List.length b) : Int)) (Tree.leaf (SV.bool false)) (Tree.need (inv_sameB (a, b, (0 : Int), ())) (Tree.cond (eqBn (List.drop (Int.toNat (0 : Int)) a) (List.drop (Int.toNat (0 : Int)) b)) (Tree.leaf (SV.bool true)) (Tree.leaf (SV.bool false)))) := by kernel_rfl
def c_SameBans : PC P := PC.of (α := List (Int × (Int × (Int × V))) × List (Int × (Int × (Int × V))) × Unit) 60 [.val (.sl (.pair tI (.pair tI (.pair tI tV)))), .val (.sl (.pair tI (.pair tI (.pair tI tV))))] (fun x => x) (fun x => x) (fun _ => rfl)
  (fun x => some ((x.1.length : Int) < 2 ^ 62))
  (fun x => .bool (decide (x.1 = x.2.1))) (by kernel_rfl) (by
    rintro ⟨a, b, ⟨⟩⟩ hp
    refine fn_of hm (by kernel_rfl) (by kernel_rfl) (T_SameBans a b) ⟨K_sameB, trivial⟩ ?_
    try dsimp only at hp
    try dsimp only
    have hp' : (a.length : Int) < 2 ^ 62 := hp
    refine ⟨fun c1 => ?_, fun c1 => ?_⟩
    · have d1 : (a.length : Int) ≠ b.length := by simpa using c1
      exact congrArg SV.bool (decide_eq_false (fun e => d1 (by rw [e]))).symm
    · have d1 : (a.length : Int) = b.length := by simpa using c1
      rw [← eqBn_eq (a := a) (b := b) (by omega)]
      refine ⟨⟨by decide, by omega, by omega, hp'⟩, fun c2 => ?_, fun c2 => ?_⟩
      · exact congrArg SV.bool (show eqBn a b = true from c2).symm
      · exact congrArg SV.bool (show eqBn a b = false from c2).symm)
end
end Go.MR
