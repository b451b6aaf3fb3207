/- Rigs: what is made of numbers. -/
import Derived.Test.YtmolckndbmjgfaaMrP
import Derived.Test.YtmolckndbmjgfaaMrQ
namespace Go.MR
open Go Go.Sx Go.Proofs
set_option linter.unusedVariables false
set_option linter.unusedSimpArgs false
noncomputable section
def R64 (n : Int) : Prop := -9223372036854775808 ≤ n ∧ n ≤ 9223372036854775807
theorem tmod_pos {a b : Int} (hb : 0 < b) : Int.tmod a b = a % b ∨ (Int.tmod a b = a % b - b ∧ a < 0) := by
  rw [Int.tmod_eq_emod]
  split
  · left; omega
  · right
    have : (b.natAbs : Int) = b := by omega
    exact ⟨by omega, by omega⟩
theorem T_Mod (a b : Int) : fnTree (P := P) [] (lpOf []) Try.f25 (encL 0 [.val tI, .val tI] (a, b, ())) =
  Tree.need (b ≠ (0 : Int)) (Tree.cond (decide (Int.tmod a b < (0 : Int))) (Tree.leaf (SV.int IntKind.i64 (IntKind.wrap IntKind.i64 (Int.tmod a b + b)))) (Tree.leaf (SV.int IntKind.i64 (Int.tmod a b)))) := by kernel_rfl
def c_Mod : PC P := PC.of (α := Int × Int × Unit) 25 [.val tI, .val tI] (fun x => x) (fun x => x) (fun _ => rfl)
  (fun x => some (0 < x.2.1 ∧ R64 x.2.1))
  (fun x => .int .i64 (x.1 % x.2.1)) (by kernel_rfl) (by
    rintro ⟨a, b, ⟨⟩⟩ hp
    refine fn_of hm (by kernel_rfl) (by kernel_rfl) (T_Mod a b) trivial ?_
    obtain ⟨h0, h1, h2⟩ : 0 < b ∧ R64 b := hp
    have h3 := Int.emod_nonneg a (show b ≠ 0 by omega)
    have h4 := Int.emod_lt_of_pos a h0
    refine ⟨by omega, fun h => ?_, fun h => ?_⟩
    · simp only [decide_eq_true_eq] at h
      show SV.int .i64 _ = SV.int .i64 (a % b)
      rcases tmod_pos (a := a) h0 with e | ⟨e, _⟩
      · omega
      · rw [e, W_id (by omega) (by omega)]; congr 1; omega
    · simp only [decide_eq_false_iff_not] at h
      show SV.int .i64 _ = SV.int .i64 (a % b)
      rcases tmod_pos (a := a) h0 with e | ⟨e, _⟩
      · rw [e]
      · omega)
def L_NewRing : Lay := { slots := [(0, .val tIs)] }
theorem T_NewRing (l : List Int) : mTree (P := P) [] (lpOf []) Try.f18 L_NewRing true (l, ()) =
  Tree.leaf { res := SV.ptr (nat_lit 100) (0 : Nat), boxes := [], news := [Ob.box [SV.sl tI l, SV.int IntKind.i64 (0 : Int)]] } := by kernel_rfl
def c_NewRing : MC P := MC.of (α := List Int × Unit) 18 L_NewRing (fun x => x) (fun x => x) (fun _ => rfl)
  (fun _ => none)
  (fun (l, _) => ⟨.ptr 100 0, [], [.box [.sl tI l, .int .i64 0]]⟩) (by kernel_rfl) (by kernel_rfl) (by kernel_rfl) (by
    rintro ⟨l, ⟨⟩⟩ hp
    refine m_of hm (own := true) (by kernel_rfl) (by kernel_rfl) (by kernel_rfl) (T_NewRing l) trivial ?_
    exact rfl)
def smallP (ps : List Int) : Prop := ∀ p ∈ ps, 2 ≤ p ∧ p ≤ 4
end
end Go.MR
