/- Paths made of numbers. -/
import Derived.Test.YtmolckndbmjgfaaMwH
import Derived.Test.YtmolckndbmjgfaaMwE
namespace Go.MP
open Go Go.Sx Go.Proofs
set_option linter.unusedVariables false
set_option linter.unusedSimpArgs false
noncomputable section
abbrev tIs : Ty := .sl tI
def nextX (l : List Int) (k : Int) : Int := (k * 7919) % 10007 + (if 0 < (l.length : Int) then (l.getD (k % l.length).toNat 0 % 1048576) / (1 + k / l.length) else 0)
def nextS (l : List Int) (at' n : Int) : Int := nextX l (at' + 1) % n
def L_Next : Lay := { slots := [(0, .ptr 1 0), (1, .val tI)], boxes := [(1, [.val tIs, .val tI])] }
theorem T_Next (n : Int) (l : List Int) (k : Int) : mTree (P := P) [c_Mod.gc] (lpOf []) Try.f50 L_Next true ((), n, l, k, ()) =
  Tree.need ((10007 : Int) ≠ (0 : Int)) (Tree.cond (decide ((↑(List.length l) : Int) > (0 : Int))) (Tree.need ((↑(List.length l) : Int) ≠ (0 : Int)) (Tree.need ((0 : Int) ≤ Int.tmod (IntKind.wrap IntKind.i64 (k + (1 : Int))) (↑(List.length l) : Int) ∧ Int.tmod (IntKind.wrap IntKind.i64 (k + (1 : Int))) (↑(List.length l) : Int) < (↑(List.length l) : Int)) (Tree.need ((0 : Int) < (1048576 : Int) ∧ R64 (1048576 : Int)) (Tree.need ((↑(List.length l) : Int) ≠ (0 : Int)) (Tree.need (IntKind.wrap IntKind.i64 ((1 : Int) + IntKind.wrap IntKind.i64 (Int.tdiv (IntKind.wrap IntKind.i64 (k + (1 : Int))) (↑(List.length l) : Int))) ≠ (0 : Int)) (Tree.need (n ≠ (0 : Int)) (Tree.leaf { res := SV.int IntKind.i64 (Int.tmod (IntKind.wrap IntKind.i64 (Int.tmod (IntKind.wrap IntKind.i64 (IntKind.wrap IntKind.i64 (k + (1 : Int)) * (7919 : Int))) (10007 : Int) + IntKind.wrap IntKind.i64 (Int.tdiv (List.getD l (Int.toNat (Int.tmod (IntKind.wrap IntKind.i64 (k + (1 : Int))) (↑(List.length l) : Int))) (0 : Int) % (1048576 : Int)) (IntKind.wrap IntKind.i64 ((1 : Int) + IntKind.wrap IntKind.i64 (Int.tdiv (IntKind.wrap IntKind.i64 (k + (1 : Int))) (↑(List.length l) : Int))))))) n), boxes := [[SV.sl tI l, SV.int IntKind.i64 (IntKind.wrap IntKind.i64 (k + (1 : Int)))]] }))))))) (Tree.need (n ≠ (0 : Int)) (Tree.leaf { res := SV.int IntKind.i64 (Int.tmod (Int.tmod (IntKind.wrap IntKind.i64 (IntKind.wrap IntKind.i64 (k + (1 : Int)) * (7919 : Int))) (10007 : Int)) n), boxes := [[SV.sl tI l, SV.int IntKind.i64 (IntKind.wrap IntKind.i64 (k + (1 : Int)))]] }))) := by kernel_rfl
def c_Next : MC P := MC.of (α := Unit × Int × List Int × Int × Unit) 50 L_Next (fun x => x) (fun x => x) (fun _ => rfl)
  (fun (_, n, l, k, _) => some (0 ≤ k ∧ k < 1099511627776 ∧ 0 < n))
  (fun (_, n, l, k, _) => ⟨.int .i64 (nextS l k n), [[.sl tI l, .int .i64 (k + 1)]], []⟩) (by kernel_rfl) (by kernel_rfl) (by kernel_rfl) (by
    rintro ⟨⟨⟩, n, l, k, ⟨⟩⟩ hp
    refine m_of hm (own := true) (by kernel_rfl) (by kernel_rfl) (by kernel_rfl) (T_Next n l k) trivial ?_
    obtain ⟨h0, h1, h2⟩ : 0 ≤ k ∧ k < 1099511627776 ∧ 0 < n := hp
    show Tree.holds (fun s => s = (⟨.int .i64 (nextS l k n), [[.sl tI l, .int .i64 (k + 1)]], []⟩ : MOut)) _
    have e0 := Int.tmod_eq_emod_of_nonneg (show 0 ≤ (k + 1) * 7919 by omega) (b := 10007)
    have r1 := Int.emod_nonneg ((k + 1) * 7919) (show (10007 : Int) ≠ 0 by decide)
    have r2 := Int.emod_lt_of_pos ((k + 1) * 7919) (show (0 : Int) < 10007 by decide)
    rw [W_id (n := k + 1) (by omega) (by omega), W_id (n := (k + 1) * 7919) (by omega) (by omega), e0]
    refine ⟨by decide, fun hl => ?_, fun hl => ?_⟩
    · simp only [gt_iff_lt, decide_eq_true_eq] at hl
      have e1 := Int.tmod_eq_emod_of_nonneg (show 0 ≤ k + 1 by omega) (b := (l.length : Int))
      have e2 := Int.tdiv_eq_ediv_of_nonneg (show 0 ≤ k + 1 by omega) (b := (l.length : Int))
      have q1 : 0 ≤ (k + 1) / (l.length : Int) := Int.ediv_nonneg (by omega) (by omega)
      have q2 := Int.ediv_le_self (l.length : Int) (show 0 ≤ k + 1 by omega)
      have m1 := Int.emod_nonneg (k + 1) (show (l.length : Int) ≠ 0 by omega)
      have m2 := Int.emod_lt_of_pos (k + 1) hl
      rw [e1, e2]
      generalize hg : l.getD ((k + 1) % (l.length : Int)).toNat 0 = g at *
      have x1 := Int.emod_nonneg g (show (1048576 : Int) ≠ 0 by decide)
      have x2 := Int.emod_lt_of_pos g (show (0 : Int) < 1048576 by decide)
      have e3 := Int.tdiv_eq_ediv_of_nonneg x1 (b := 1 + (k + 1) / (l.length : Int))
      have y1 := Int.ediv_nonneg x1 (show 0 ≤ 1 + (k + 1) / (l.length : Int) by omega)
      have y2 := Int.ediv_le_self (1 + (k + 1) / (l.length : Int)) x1
      rw [W_id (n := (k + 1) / (l.length : Int)) (by omega) (by omega), W_id (n := 1 + (k + 1) / (l.length : Int)) (by omega) (by omega), e3, W_id (n := g % 1048576 / (1 + (k + 1) / (l.length : Int))) (by omega) (by omega),
        W_id (n := (k + 1) * 7919 % 10007 + g % 1048576 / (1 + (k + 1) / (l.length : Int))) (by omega) (by omega), Int.tmod_eq_emod_of_nonneg (by omega)]
      refine ⟨by omega, ⟨m1, m2⟩, ⟨by decide, by decide, by decide⟩, by omega, by omega, by omega, ?_⟩
      show MOut.mk _ _ _ = _
      unfold nextS nextX
      rw [if_pos hl, hg]
    · simp only [gt_iff_lt, decide_eq_false_iff_not] at hl
      rw [Int.tmod_eq_emod_of_nonneg (by omega)]
      refine ⟨by omega, ?_⟩
      show MOut.mk _ _ _ = _
      unfold nextS nextX
      rw [if_neg hl, Int.add_zero])
def L_NewRing : Lay := { slots := [(0, .val tIs)] }
theorem T_NewRing (l : List Int) : mTree (P := P) [] (lpOf []) Try.f18 L_NewRing true (l, ()) =
  Tree.leaf { res := SV.ptr (nat_lit 100) (0 : Nat), boxes := [], news := [Ob.box [SV.sl tI l, SV.int IntKind.i64 (0 : Int)]] } := by kernel_rfl
def c_NewRing : MC P := MC.of (α := List Int × Unit) 18 L_NewRing (fun x => x) (fun x => x) (fun _ => rfl)
  (fun _ => none)
  (fun (l, _) => ⟨.ptr 100 0, [], [.box [.sl tI l, .int .i64 0]]⟩) (by kernel_rfl) (by kernel_rfl) (by kernel_rfl) (by
    rintro ⟨l, ⟨⟩⟩ hp
    refine m_of hm (own := true) (by kernel_rfl) (by kernel_rfl) (by kernel_rfl) (T_NewRing l) trivial ?_
    exact rfl)
end
end Go.MP
