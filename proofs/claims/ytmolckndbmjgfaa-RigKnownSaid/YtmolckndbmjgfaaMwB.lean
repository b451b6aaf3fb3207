/- Lengths of vectors, turns, quotients. -/
import Derived.Test.YtmolckndbmjgfaaMwA
namespace Go.MP
open Go Go.Sx Go.Proofs
noncomputable section
def dotZ (v w : V) : Int := v.1 * w.1 + v.2.1 * w.2.1 + v.2.2 * w.2.2
theorem absB {a A : Int} (ha : -A ≤ a ∧ a ≤ A) : a.natAbs ≤ A.natAbs := by omega
theorem mulB {a b A B : Int} (ha : -A ≤ a ∧ a ≤ A) (hb : -B ≤ b ∧ b ≤ B) : -(A * B) ≤ a * b ∧ a * b ≤ A * B := by
  have h : (a * b).natAbs ≤ (A * B).natAbs := by
    rw [Int.natAbs_mul, Int.natAbs_mul]
    exact Nat.mul_le_mul (absB ha) (absB hb)
  have h2 : 0 ≤ A * B := Int.mul_nonneg (by omega) (by omega)
  omega
theorem inB_iff {v : V} {n : Int} : inB v n = true ↔ (-n ≤ v.1 ∧ v.1 ≤ n) ∧ (-n ≤ v.2.1 ∧ v.2.1 ≤ n) ∧ (-n ≤ v.2.2 ∧ v.2.2 ≤ n) := by
  unfold inB
  simp only [decide_eq_true_eq]
  omega
theorem inB_mono {v : V} {m n : Int} (h : inB v m = true) (hmn : m ≤ n) : inB v n = true := by
  rw [inB_iff] at *
  omega
theorem vdot_eq {v w : V} (hv : inB v 16777216 = true) (hw : inB w 16777216 = true) : vdot v w = dotZ v w := by
  rw [inB_iff] at hv hw
  have h1 := mulB hv.1 hw.1
  have h2 := mulB hv.2.1 hw.2.1
  have h3 := mulB hv.2.2 hw.2.2
  unfold vdot dotZ
  rw [W_id (n := v.1 * w.1) (by omega) (by omega), W_id (n := v.2.1 * w.2.1) (by omega) (by omega), W_id (n := v.2.2 * w.2.2) (by omega) (by omega), W_id (n := v.1 * w.1 + v.2.1 * w.2.1) (by omega) (by omega), W_id (by omega) (by omega)]
theorem sq_nonneg (a : Int) : 0 ≤ a * a := by
  rcases Int.le_total 0 a with h | h
  · exact Int.mul_nonneg h h
  · exact Int.mul_nonneg_of_nonpos_of_nonpos h h
def wholeS (v : V) : Int × Bool := if inB v 16777216 = true then rootS (dotZ v v) else (0, false)
def legS (v : V) : Int × Bool := ((wholeS v).1, (wholeS v).2 && (decide ((wholeS v).1 ≥ 1) && decide ((wholeS v).1 ≤ 131072)))
def validS (v : V) : Bool := inB v 1048576 && decide (v.2.2 ≥ 0)
theorem sq_le {a b : Int} (h0 : 0 ≤ b) (h : a * a ≤ b * b) : -b ≤ a ∧ a ≤ b := by
  have h1 : (a * a).natAbs ≤ (b * b).natAbs := by have := sq_nonneg a; omega
  rw [Int.natAbs_mul, Int.natAbs_mul] at h1
  have h2 : a.natAbs ≤ b.natAbs := by
    rcases Nat.lt_or_ge b.natAbs a.natAbs with h | h
    · have := Nat.mul_lt_mul_of_lt_of_lt h h; omega
    · exact h
  omega
theorem wholeS_true {v : V} (h : (wholeS v).2 = true) : inB v 16777216 = true ∧ 0 ≤ (wholeS v).1 ∧ (wholeS v).1 * (wholeS v).1 = dotZ v v ∧ inB v (wholeS v).1 = true ∧ (wholeS v).1 ≤ 33554432 := by
  unfold wholeS at *
  split at h
  · rename_i hi
    rw [if_pos hi]
    obtain ⟨h1, h2, h3, h4⟩ := rootS_true h
    refine ⟨hi, h1, h2, ?_, ?_⟩
    · rw [inB_iff]
      have e1 := sq_nonneg v.1
      have e2 := sq_nonneg v.2.1
      have e3 := sq_nonneg v.2.2
      unfold dotZ at h2
      exact ⟨sq_le h1 (by unfold dotZ; omega), sq_le h1 (by unfold dotZ; omega), sq_le h1 (by unfold dotZ; omega)⟩
    · exact (sq_le (a := (rootS (dotZ v v)).1) (b := 33554432) (by decide) (by rw [h2]; omega)).2
  · cases h
theorem tmod_pos {a b : Int} (hb : 0 < b) : Int.tmod a b = a % b ∨ (Int.tmod a b = a % b - b ∧ a < 0) := by
  rw [Int.tmod_eq_emod]
  split
  · left; omega
  · right
    have : (b.natAbs : Int) = b := by omega
    exact ⟨by omega, by omega⟩
theorem T_Mod (a b : Int) : fnTree (P := P) [] (lpOf []) Try.f25 (encL 0 [.val tI, .val tI] (a, b, ())) =
  Tree.need (b ≠ (0 : Int)) (Tree.cond (decide (Int.tmod a b < (0 : Int))) (Tree.leaf (SV.int IntKind.i64 (IntKind.wrap IntKind.i64 (Int.tmod a b + b)))) (Tree.leaf (SV.int IntKind.i64 (Int.tmod a b)))) := by kernel_rfl
def c_Mod : PC P := PC.of (α := Int × Int × Unit) 25 [.val tI, .val tI] (fun x => x) (fun x => x) (fun _ => rfl)
  (fun x => some (0 < x.2.1 ∧ R64 x.2.1))
  (fun x => .int .i64 (x.1 % x.2.1)) (by kernel_rfl) (by
    rintro ⟨a, b, ⟨⟩⟩ hp
    refine fn_of hm (by kernel_rfl) (by kernel_rfl) (T_Mod a b) trivial ?_
    obtain ⟨h0, h1, h2⟩ : 0 < b ∧ R64 b := hp
    have h3 := Int.emod_nonneg a (show b ≠ 0 by omega)
    have h4 := Int.emod_lt_of_pos a h0
    refine ⟨by omega, fun h => ?_, fun h => ?_⟩
    · simp only [decide_eq_true_eq] at h
      show SV.int .i64 _ = SV.int .i64 (a % b)
      rcases tmod_pos (a := a) h0 with e | ⟨e, _⟩
      · omega
      · rw [e, W_id (by omega) (by omega)]; congr 1; omega
    · simp only [decide_eq_false_iff_not] at h
      show SV.int .i64 _ = SV.int .i64 (a % b)
      rcases tmod_pos (a := a) h0 with e | ⟨e, _⟩
      · rw [e]
      · omega)
end
end Go.MP
