/- The chapter's examples; directions made of numbers. -/
import Derived.Test.YtnlflnbbgklalaaMpD
namespace Go.MP
open Go Go.Sx Go.Proofs
set_option linter.unusedVariables false
set_option linter.unusedSimpArgs false
noncomputable section

def pP : Pth := ((0, 0, 0), [(0, 0, 50000), (0, 30000, 40000)])

theorem T_p (_ : Unit) : fnTree (P := P) [] (lpOf []) Try.f77 (encL 0 [] ()) =
  Tree.leaf (SV.agg [SV.int IntKind.i64 (0 : Int), SV.int IntKind.i64 (0 : Int), SV.int IntKind.i64 (0 : Int), SV.sl (Ty.pair (Ty.int IntKind.i64) (Ty.pair (Ty.int IntKind.i64) (Ty.int IntKind.i64))) [((0 : Int), (0 : Int), (50000 : Int)), ((0 : Int), (30000 : Int), (40000 : Int))]]) := by kernel_rfl

def c_p : PC P := PC.of (α := Unit) 77 [] (fun x => x) (fun x => x) (fun _ => rfl)
  (fun _ => none)
  (fun _ => .agg [.int .i64 0, .int .i64 0, .int .i64 0, .sl tV pP.2]) (by kernel_rfl) (by
    rintro ⟨⟩ hp
    refine fn_of hm (by kernel_rfl) (by kernel_rfl) (T_p ()) trivial ?_
    exact rfl)

theorem ex_turn : TurnS (0, 0, 50000) (0, 30000, 40000) = ((1, 5), 0) := by kernel_rfl
theorem ex_at : atS pP 75001 = ((0, 15000, 70000), true) := by kernel_rfl
theorem ex_len : lenS pP = 100000 := by kernel_rfl

theorem T_awake (_ : Unit) : fnTree (P := P) [c_Turn.gc, c_p.gc, c_At.gc, c_Length.gc] (lpOf []) Try.f19 (encL 0 [] ()) =
  Tree.cond true (Tree.cond true (Tree.cond true (Tree.cond true (Tree.leaf (SV.bool true)) (Tree.leaf (SV.bool false))) (Tree.leaf (SV.bool false))) (Tree.leaf (SV.bool false))) (Tree.leaf (SV.bool false)) := by kernel_rfl

def c_awake : PC P := PC.of (α := Unit) 19 [] (fun x => x) (fun x => x) (fun _ => rfl)
  (fun _ => none)
  (fun _ => .bool true) (by kernel_rfl) (by
    rintro ⟨⟩ hp
    refine fn_of hm (by kernel_rfl) (by kernel_rfl) (T_awake ()) trivial ?_

    exact ⟨fun _ => ⟨fun _ => ⟨fun _ => ⟨fun _ => rfl, fun h => nomatch h⟩, fun h => nomatch h⟩, fun h => nomatch h⟩, fun h => nomatch h⟩)

def dirT : List V := [(0, 0, 1), (0, 3, 4), (3, 0, 4), (1, 2, 2), (2, 3, 6), (1, 4, 8), (4, 4, 7), (2, 6, 9), (0, 5, 12), (0, 7, 24), (6, 6, 7), (1, 0, 0), (0, 4, -3)]
def dirS (n : Int) : V :=
  if IntKind.wrap IntKind.i64 (Int.tdiv (n % 52) 13) = 1 then (IntKind.wrap IntKind.i64 (0 - (dirT.getD (n % 13).toNat (0, 0, 0)).1), (dirT.getD (n % 13).toNat (0, 0, 0)).2.1, (dirT.getD (n % 13).toNat (0, 0, 0)).2.2)
  else if IntKind.wrap IntKind.i64 (Int.tdiv (n % 52) 13) = 2 then ((dirT.getD (n % 13).toNat (0, 0, 0)).1, IntKind.wrap IntKind.i64 (0 - (dirT.getD (n % 13).toNat (0, 0, 0)).2.1), (dirT.getD (n % 13).toNat (0, 0, 0)).2.2)
  else if IntKind.wrap IntKind.i64 (Int.tdiv (n % 52) 13) = 3 then ((dirT.getD (n % 13).toNat (0, 0, 0)).2.1, (dirT.getD (n % 13).toNat (0, 0, 0)).1, (dirT.getD (n % 13).toNat (0, 0, 0)).2.2)
  else dirT.getD (n % 13).toNat (0, 0, 0)

theorem T_Dir (n : Int) : fnTree (P := P) [c_Mod.gc] (lpOf []) Try.f26 (encL 0 [.val tI] (n, ())) =
  Tree.need ((0 : Int) < (13 : Int) ∧ R64 (13 : Int))
  (Tree.need ((0 : Int) ≤ n % (13 : Int) ∧ n % (13 : Int) < (↑(List.length [((0 : Int), (0 : Int), (1 : Int)), ((0 : Int), (3 : Int), (4 : Int)), ((3 : Int), (0 : Int), (4 : Int)), ((1 : Int), (2 : Int), (2 : Int)), ((2 : Int), (3 : Int), (6 : Int)), ((1 : Int), (4 : Int), (8 : Int)), ((4 : Int), (4 : Int), (7 : Int)), ((2 : Int), (6 : Int), (9 : Int)), ((0 : Int), (5 : Int), (12 : Int)), ((0 : Int), (7 : Int), (24 : Int)), ((6 : Int), (6 : Int), (7 : Int)), ((1 : Int), (0 : Int), (0 : Int)), ((0 : Int), (4 : Int), (-3 : Int))]) : Int))
    (Tree.need (Int.toNat (n % (13 : Int)) < List.length [((0 : Int), (0 : Int), (1 : Int)), ((0 : Int), (3 : Int), (4 : Int)), ((3 : Int), (0 : Int), (4 : Int)), ((1 : Int), (2 : Int), (2 : Int)), ((2 : Int), (3 : Int), (6 : Int)), ((1 : Int), (4 : Int), (8 : Int)), ((4 : Int), (4 : Int), (7 : Int)), ((2 : Int), (6 : Int), (9 : Int)), ((0 : Int), (5 : Int), (12 : Int)), ((0 : Int), (7 : Int), (24 : Int)), ((6 : Int), (6 : Int), (7 : Int)), ((1 : Int), (0 : Int), (0 : Int)), ((0 : Int), (4 : Int), (-3 : Int))])
      (Tree.need ((0 : Int) < (52 : Int) ∧ R64 (52 : Int))
        (Tree.need ((13 : Int) ≠ (0 : Int))
          (Tree.cond (IntKind.wrap IntKind.i64 (Int.tdiv (n % (52 : Int)) (13 : Int)) == (1 : Int)) (Tree.leaf (SV.agg [SV.int IntKind.i64 (IntKind.wrap IntKind.i64 ((0 : Int) - (List.getD [((0 : Int), (0 : Int), (1 : Int)), ((0 : Int), (3 : Int), (4 : Int)), ((3 : Int), (0 : Int), (4 : Int)), ((1 : Int), (2 : Int), (2 : Int)), ((2 : Int), (3 : Int), (6 : Int)), ((1 : Int), (4 : Int), (8 : Int)), ((4 : Int), (4 : Int), (7 : Int)), ((2 : Int), (6 : Int), (9 : Int)), ((0 : Int), (5 : Int), (12 : Int)), ((0 : Int), (7 : Int), (24 : Int)), ((6 : Int), (6 : Int), (7 : Int)), ((1 : Int), (0 : Int), (0 : Int)), ((0 : Int), (4 : Int), (-3 : Int))] (Int.toNat (n % (13 : Int))) ((0 : Int), (0 : Int), (0 : Int))).fst)), SV.int IntKind.i64 (List.getD [((0 : Int), (0 : Int), (1 : Int)), ((0 : Int), (3 : Int), (4 : Int)), ((3 : Int), (0 : Int), (4 : Int)), ((1 : Int), (2 : Int), (2 : Int)), ((2 : Int), (3 : Int), (6 : Int)), ((1 : Int), (4 : Int), (8 : Int)), ((4 : Int), (4 : Int), (7 : Int)), ((2 : Int), (6 : Int), (9 : Int)), ((0 : Int), (5 : Int), (12 : Int)), ((0 : Int), (7 : Int), (24 : Int)), ((6 : Int), (6 : Int), (7 : Int)), ((1 : Int), (0 : Int), (0 : Int)), ((0 : Int), (4 : Int), (-3 : Int))] (Int.toNat (n % (13 : Int))) ((0 : Int), (0 : Int), (0 : Int))).snd.fst, SV.int IntKind.i64 (List.getD [((0 : Int), (0 : Int), (1 : Int)), ((0 : Int), (3 : Int), (4 : Int)), ((3 : Int), (0 : Int), (4 : Int)), ((1 : Int), (2 : Int), (2 : Int)), ((2 : Int), (3 : Int), (6 : Int)), ((1 : Int), (4 : Int), (8 : Int)), ((4 : Int), (4 : Int), (7 : Int)), ((2 : Int), (6 : Int), (9 : Int)), ((0 : Int), (5 : Int), (12 : Int)), ((0 : Int), (7 : Int), (24 : Int)), ((6 : Int), (6 : Int), (7 : Int)), ((1 : Int), (0 : Int), (0 : Int)), ((0 : Int), (4 : Int), (-3 : Int))] (Int.toNat (n % (13 : Int))) ((0 : Int), (0 : Int), (0 : Int))).snd.snd]))
            (Tree.cond (IntKind.wrap IntKind.i64 (Int.tdiv (n % (52 : Int)) (13 : Int)) == (2 : Int)) (Tree.leaf (SV.agg [SV.int IntKind.i64 (List.getD [((0 : Int), (0 : Int), (1 : Int)), ((0 : Int), (3 : Int), (4 : Int)), ((3 : Int), (0 : Int), (4 : Int)), ((1 : Int), (2 : Int), (2 : Int)), ((2 : Int), (3 : Int), (6 : Int)), ((1 : Int), (4 : Int), (8 : Int)), ((4 : Int), (4 : Int), (7 : Int)), ((2 : Int), (6 : Int), (9 : Int)), ((0 : Int), (5 : Int), (12 : Int)), ((0 : Int), (7 : Int), (24 : Int)), ((6 : Int), (6 : Int), (7 : Int)), ((1 : Int), (0 : Int), (0 : Int)), ((0 : Int), (4 : Int), (-3 : Int))] (Int.toNat (n % (13 : Int))) ((0 : Int), (0 : Int), (0 : Int))).fst, SV.int IntKind.i64 (IntKind.wrap IntKind.i64 ((0 : Int) - (List.getD [((0 : Int), (0 : Int), (1 : Int)), ((0 : Int), (3 : Int), (4 : Int)), ((3 : Int), (0 : Int), (4 : Int)), ((1 : Int), (2 : Int), (2 : Int)), ((2 : Int), (3 : Int), (6 : Int)), ((1 : Int), (4 : Int), (8 : Int)), ((4 : Int), (4 : Int), (7 : Int)), ((2 : Int), (6 : Int), (9 : Int)), ((0 : Int), (5 : Int), (12 : Int)), ((0 : Int), (7 : Int), (24 : Int)), ((6 : Int), (6 : Int), (7 : Int)), ((1 : Int), (0 : Int), (0 : Int)), ((0 : Int), (4 : Int), (-3 : Int))] (Int.toNat (n % (13 : Int))) ((0 : Int), (0 : Int), (0 : Int))).snd.fst)), SV.int IntKind.i64 (List.getD [((0 : Int), (0 : Int), (1 : Int)), ((0 : Int), (3 : Int), (4 : Int)), ((3 : Int), (0 : Int), (4 : Int)), ((1 : Int), (2 : Int), (2 : Int)), ((2 : Int), (3 : Int), (6 : Int)), ((1 : Int), (4 : Int), (8 : Int)), ((4 : Int), (4 : Int), (7 : Int)), ((2 : Int), (6 : Int), (9 : Int)), ((0 : Int), (5 : Int), (12 : Int)), ((0 : Int), (7 : Int), (24 : Int)), ((6 : Int), (6 : Int), (7 : Int)), ((1 : Int), (0 : Int), (0 : Int)), ((0 : Int), (4 : Int), (-3 : Int))] (Int.toNat (n % (13 : Int))) ((0 : Int), (0 : Int), (0 : Int))).snd.snd]))
              (Tree.cond (IntKind.wrap IntKind.i64 (Int.tdiv (n % (52 : Int)) (13 : Int)) == (3 : Int)) (Tree.leaf (SV.agg [SV.int IntKind.i64 (List.getD [((0 : Int), (0 : Int), (1 : Int)), ((0 : Int), (3 : Int), (4 : Int)), ((3 : Int), (0 : Int), (4 : Int)), ((1 : Int), (2 : Int), (2 : Int)), ((2 : Int), (3 : Int), (6 : Int)), ((1 : Int), (4 : Int), (8 : Int)), ((4 : Int), (4 : Int), (7 : Int)), ((2 : Int), (6 : Int), (9 : Int)), ((0 : Int), (5 : Int), (12 : Int)), ((0 : Int), (7 : Int), (24 : Int)), ((6 : Int), (6 : Int), (7 : Int)), ((1 : Int), (0 : Int), (0 : Int)), ((0 : Int), (4 : Int), (-3 : Int))] (Int.toNat (n % (13 : Int))) ((0 : Int), (0 : Int), (0 : Int))).snd.fst, SV.int IntKind.i64 (List.getD [((0 : Int), (0 : Int), (1 : Int)), ((0 : Int), (3 : Int), (4 : Int)), ((3 : Int), (0 : Int), (4 : Int)), ((1 : Int), (2 : Int), (2 : Int)), ((2 : Int), (3 : Int), (6 : Int)), ((1 : Int), (4 : Int), (8 : Int)), ((4 : Int), (4 : Int), (7 : Int)), ((2 : Int), (6 : Int), (9 : Int)), ((0 : Int), (5 : Int), (12 : Int)), ((0 : Int), (7 : Int), (24 : Int)), ((6 : Int), (6 : Int), (7 : Int)), ((1 : Int), (0 : Int), (0 : Int)), ((0 : Int), (4 : Int), (-3 : Int))] (Int.toNat (n % (13 : Int))) ((0 : Int), (0 : Int), (0 : Int))).fst, SV.int IntKind.i64 (List.getD [((0 : Int), (0 : Int), (1 : Int)), ((0 : Int), (3 : Int), (4 : Int)), ((3 : Int), (0 : Int), (4 : Int)), ((1 : Int), (2 : Int), (2 : Int)), ((2 : Int), (3 : Int), (6 : Int)), ((1 : Int), (4 : Int), (8 : Int)), ((4 : Int), (4 : Int), (7 : Int)), ((2 : Int), (6 : Int), (9 : Int)), ((0 : Int), (5 : Int), (12 : Int)), ((0 : Int), (7 : Int), (24 : Int)), ((6 : Int), (6 : Int), (7 : Int)), ((1 : Int), (0 : Int), (0 : Int)), ((0 : Int), (4 : Int), (-3 : Int))] (Int.toNat (n % (13 : Int))) ((0 : Int), (0 : Int), (0 : Int))).snd.snd])) (Tree.leaf (SV.agg [SV.int IntKind.i64 (List.getD [((0 : Int), (0 : Int), (1 : Int)), ((0 : Int), (3 : Int), (4 : Int)), ((3 : Int), (0 : Int), (4 : Int)), ((1 : Int), (2 : Int), (2 : Int)), ((2 : Int), (3 : Int), (6 : Int)), ((1 : Int), (4 : Int), (8 : Int)), ((4 : Int), (4 : Int), (7 : Int)), ((2 : Int), (6 : Int), (9 : Int)), ((0 : Int), (5 : Int), (12 : Int)), ((0 : Int), (7 : Int), (24 : Int)), ((6 : Int), (6 : Int), (7 : Int)), ((1 : Int), (0 : Int), (0 : Int)), ((0 : Int), (4 : Int), (-3 : Int))] (Int.toNat (n % (13 : Int))) ((0 : Int), (0 : Int), (0 : Int))).fst, SV.int IntKind.i64 (List.getD [((0 : Int), (0 : Int), (1 : Int)), ((0 : Int), (3 : Int), (4 : Int)), ((3 : Int), (0 : Int), (4 : Int)), ((1 : Int), (2 : Int), (2 : Int)), ((2 : Int), (3 : Int), (6 : Int)), ((1 : Int), (4 : Int), (8 : Int)), ((4 : Int), (4 : Int), (7 : Int)), ((2 : Int), (6 : Int), (9 : Int)), ((0 : Int), (5 : Int), (12 : Int)), ((0 : Int), (7 : Int), (24 : Int)), ((6 : Int), (6 : Int), (7 : Int)), ((1 : Int), (0 : Int), (0 : Int)), ((0 : Int), (4 : Int), (-3 : Int))] (Int.toNat (n % (13 : Int))) ((0 : Int), (0 : Int), (0 : Int))).snd.fst, SV.int IntKind.i64 (List.getD [((0 : Int), (0 : Int), (1 : Int)), ((0 : Int), (3 : Int), (4 : Int)), ((3 : Int), (0 : Int), (4 : Int)), ((1 : Int), (2 : Int), (2 : Int)), ((2 : Int), (3 : Int), (6 : Int)), ((1 : Int), (4 : Int), (8 : Int)), ((4 : Int), (4 : Int), (7 : Int)), ((2 : Int), (6 : Int), (9 : Int)), ((0 : Int), (5 : Int), (12 : Int)), ((0 : Int), (7 : Int), (24 : Int)), ((6 : Int), (6 : Int), (7 : Int)), ((1 : Int), (0 : Int), (0 : Int)), ((0 : Int), (4 : Int), (-3 : Int))] (Int.toNat (n % (13 : Int))) ((0 : Int), (0 : Int), (0 : Int))).snd.snd]))))))))) := by kernel_rfl

def c_Dir : PC P := PC.of (α := Int × Unit) 26 [.val tI] (fun x => x) (fun x => x) (fun _ => rfl)
  (fun _ => none)
  (fun x => svV (dirS x.1)) (by kernel_rfl) (by
    rintro ⟨n, ⟨⟩⟩ hp
    refine fn_of hm (by kernel_rfl) (by kernel_rfl) (T_Dir n) trivial ?_

    have h1 := Int.emod_nonneg n (show (13 : Int) ≠ 0 by decide)
    have h2 := Int.emod_lt_of_pos n (show (0 : Int) < 13 by decide)
    show Tree.holds (fun s => s = svV (dirS n)) _
    refine ⟨⟨by decide, by decide, by decide⟩, ⟨h1, h2⟩, ?_, ⟨by decide, by decide, by decide⟩, by decide, ?_⟩
    · show (n % 13).toNat < 13
      omega
    unfold dirS
    refine ⟨fun h3 => ?_, fun h3 => ⟨fun h4 => ?_, fun h4 => ⟨fun h5 => ?_, fun h5 => ?_⟩⟩⟩
    all_goals simp only [beq_iff_eq, beq_eq_false_iff_ne, ne_eq] at *
    · rw [if_pos h3]; exact rfl
    · rw [if_neg h3, if_pos h4]; exact rfl
    · rw [if_neg h3, if_neg h4, if_pos h5]; exact rfl
    · rw [if_neg h3, if_neg h4, if_neg h5]; exact rfl)

theorem dirS_mod (n : Int) : dirS (n % 52) = dirS n := by
  unfold dirS
  rw [show n % 52 % 13 = n % 13 by omega, show n % 52 % 52 = n % 52 by omega]
def dirOk (v : V) : Bool := (wholeS v).2 && decide (1 ≤ (wholeS v).1 ∧ (wholeS v).1 ≤ 25)
theorem dir_all : ∀ k : Fin 52, dirOk (dirS (k.val : Int)) = true := by decide +kernel
/-- A direction made of a number has a whole length from 1 to 25. -/
theorem dirS_ok (n : Int) : (wholeS (dirS n)).2 = true ∧ 1 ≤ (wholeS (dirS n)).1 ∧ (wholeS (dirS n)).1 ≤ 25 := by
  have h1 := Int.emod_nonneg n (show (52 : Int) ≠ 0 by decide)
  have h2 := Int.emod_lt_of_pos n (show (0 : Int) < 52 by decide)
  have h := dir_all ⟨(n % 52).toNat, by omega⟩
  have e : (((n % 52).toNat : Nat) : Int) = n % 52 := by omega
  dsimp only at h
  rw [e, dirS_mod] at h
  simpa [dirOk] using h

end
end Go.MP
