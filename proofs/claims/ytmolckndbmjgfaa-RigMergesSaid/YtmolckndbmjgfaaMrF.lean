/- Rigs: the reference's moved, move. -/
import Derived.Test.YtmolckndbmjgfaaMrE
namespace Go.MR
open Go Go.Sx Go.Proofs
set_option linter.unusedVariables false
set_option linter.unusedSimpArgs false
noncomputable section
def movedS : List Int → List Int → List Int
  | p :: s, x :: m => IntKind.wrap IntKind.i64 (p + x) :: movedS s m
  | _, _ => []
theorem movedS_nil (m : List Int) : movedS [] m = [] := by unfold movedS; rfl
theorem movedS_step {s m : List Int} {i : Int} (h0 : 0 ≤ i) (h : i < s.length) (h2 : i < m.length) : movedS (s.drop i.toNat) (m.drop i.toNat) = IntKind.wrap IntKind.i64 (s.getD i.toNat 0 + m.getD i.toNat 0) :: movedS (s.drop (i + 1).toNat) (m.drop (i + 1).toNat) := by
  rw [drop_step (0 : Int) h0 h, drop_step (0 : Int) h0 h2, movedS]
def L_movedL : Lay := { slots := [(0, .val tIs), (1, .val tIs), (5, .row 3 tI), (6, .val tI)] }
def L_movedL_0 : Lay := { slots := [(5, .row 3 tI)] }
def X_movedL : Exit → St → Option Lay
  | .exit 0, _ => some L_movedL_0
  | _, _ => none
abbrev C_movedL : Code := loopC (bodyOf Try.f83) 0
theorem B_movedL (s m r : List Int) (i : Int) : loopBodyA (P := P) [] (lpOf []) [] 26 noU (inner C_movedL) L_movedL X_movedL (α := List Int × List Int × List Int × Int × Unit) (fun x => x) (fun x => x) (s, m, r, i, ()) =
  Tree.cond (decide (i < (↑(List.length s) : Int))) (Tree.need ((0 : Int) ≤ i ∧ i < (↑(List.length s) : Int)) (Tree.need ((0 : Int) ≤ i ∧ i < (↑(List.length m) : Int)) (Tree.need ((List.length r + List.length [IntKind.wrap IntKind.i64 (List.getD s (Int.toNat i) (0 : Int) + List.getD m (Int.toNat i) (0 : Int))]) * (8 : Nat) ≤ (140737488355328 : Nat)) (Tree.leaf (Sum.inl (s, m, r ++ [IntKind.wrap IntKind.i64 (List.getD s (Int.toNat i) (0 : Int) + List.getD m (Int.toNat i) (0 : Int))], IntKind.wrap IntKind.i64 (i + (1 : Int)), PUnit.unit)))))) (Tree.leaf (Sum.inr (Exit.exit (0 : Nat), Lay.st L_movedL_0 noU (r, PUnit.unit)))) := by kernel_rfl
def inv_movedL : List Int × List Int × List Int × Int × Unit → Prop := fun (s, m, r, i, ()) => 0 ≤ i ∧ i ≤ s.length ∧ s.length ≤ m.length ∧ (s.length : Int) ≤ 1000 ∧ (r.length : Int) = i
def O_movedL : List Int × List Int × List Int × Int × Unit → Tree (Exit × St) := fun (s, m, r, i, ()) => (.leaf (.exit 0, L_movedL_0.st noU ((r ++ movedS (s.drop i.toNat) (m.drop i.toNat)), ())))
def R_movedL : LRun := runOf 26 L_movedL (fun x => x) (inv_movedL) (O_movedL)
theorem K_movedL : LoopOk P [] 26 none noU C_movedL (R_movedL) := by
  refine loop_of hm (cx := []) [] (xl := X_movedL) (α := List Int × List Int × List Int × Int × Unit) (fun x => x) (fun (s, m, r, i, ()) => (s.length - i).toNat) (fun _ => rfl) (by kernel_rfl) (by kernel_rfl) ?_ (by kernel_rfl) trivial ?_
  · intro e S L' h
    unfold X_movedL at h
    split at h <;> first | (cases h; done) | (cases h; kernel_rfl) | (rcases bif_some h with h | h <;> cases h <;> kernel_rfl)
  · rintro ⟨s, m, r, i, ⟨⟩⟩ hinv Q hQ
    refine hold_of_eq (B_movedL s m r i) ?_
    obtain ⟨h0, h1, h2, h3, h4⟩ := hinv
    rw [W_id (n := i + 1) (by omega) (by omega)]
    have hQ' : Q (.exit 0, L_movedL_0.st noU (r ++ movedS (s.drop i.toNat) (m.drop i.toNat), ())) := hQ
    refine ⟨fun c1 => ?_, fun c1 => ?_⟩
    · have d1 := of_decide_eq_true c1
      have b1 : i < m.length := by omega
      have hm : ((s.length : Int) - (i + 1)).toNat < ((s.length : Int) - i).toNat := by omega
      rw [movedS_step h0 d1 b1, List.append_cons] at hQ'
      refine ⟨⟨h0, d1⟩, ⟨h0, b1⟩, ?_, ⟨⟨by omega, by omega, h2, h3, ?_⟩, hm⟩, hQ'⟩
      · show (r.length + 1) * 8 ≤ 140737488355328; omega
      · rw [List.length_append]; show ((r.length + 1 : Nat) : Int) = i + 1; omega
    · have d1 := of_decide_eq_false c1
      rw [drop_end d1, movedS_nil, List.append_nil] at hQ'
      exact hQ'
theorem T_moved (s m : List Int) : frTree (P := P) [] (lpOf [(0, R_movedL)]) Try.f83 (encL 0 [.val tIs, .val tIs] (s, m, ())) =
  Tree.need (inv_movedL (s, m, [], (0 : Int), ())) (Tree.leaf (SV.sl (Ty.int IntKind.i64) (movedS (List.drop (Int.toNat (0 : Int)) s) (List.drop (Int.toNat (0 : Int)) m)))) := by kernel_rfl
def c_moved : FC P := FC.of (α := List Int × List Int × Unit) 83 [.val tIs, .val tIs] (fun x => x) (fun x => x) (fun _ => rfl)
  (fun x => some (x.1.length ≤ x.2.1.length ∧ x.1.length ≤ 1000))
  (fun x => .sl tI (movedS x.1 x.2.1)) (by kernel_rfl) (by
    rintro ⟨s, m, ⟨⟩⟩ hp
    refine fr_le hm (by kernel_rfl) (by kernel_rfl) (T_moved s m) ⟨K_movedL, trivial⟩ (by kernel_rfl) ?_
    try dsimp only at hp
    try dsimp only
    obtain ⟨p1, p2⟩ : s.length ≤ m.length ∧ s.length ≤ 1000 := hp
    exact ⟨⟨by decide, by omega, p1, by omega, rfl⟩, rfl⟩)
end
end Go.MR
