/- The place at a depth. -/
import Derived.Test.YtnlflnbbgklalaaMpC
namespace Go.MP
open Go Go.Sx Go.Proofs
set_option linter.unusedVariables false
set_option linter.unusedSimpArgs false
noncomputable section

/-- A leg of a valid path. -/
def legOk (v : V) : Prop := (wholeS v).2 = true ∧ 100 ≤ (wholeS v).1 ∧ (wholeS v).1 ≤ 131072
theorem checkL_zero {a : V} {prev : Option V} {v : V} {r : List V} (h : checkL a prev (v :: r) = 0) :
    legOk v ∧ (∀ u, prev = some u → 0 < vdot u v) ∧ validS (vadd a v) = true ∧ checkL (vadd a v) (some v) r = 0 := by
  rw [checkL_cons] at h
  by_cases h1 : (wholeS v).2 = false
  · rw [if_pos h1] at h; cases h
  rw [if_neg h1] at h
  by_cases h2 : (wholeS v).1 < 100 ∨ (wholeS v).1 > 131072
  · rw [if_pos h2] at h; cases h
  rw [if_neg h2] at h
  by_cases h3 : clashS prev v = true
  · rw [if_pos h3] at h; cases h
  rw [if_neg h3] at h
  by_cases h4 : validS (vadd a v) = false
  · rw [if_pos h4] at h; cases h
  rw [if_neg h4] at h
  refine ⟨⟨by simpa using h1, by omega, by omega⟩, ?_, by simpa using h4, h⟩
  rintro u rfl
  simp only [clashS, decide_eq_true_eq] at h3
  omega
theorem checkL_legs : ∀ {l : List V} {a : V} {prev : Option V}, checkL a prev l = 0 → ∀ v ∈ l, legOk v
  | [], _, _, _, v, h => by cases h
  | u :: r, a, prev, h, v, hv => by
    obtain ⟨h1, _, _, h2⟩ := checkL_zero h
    rcases List.mem_cons.1 hv with rfl | hv
    · exact h1
    · exact checkL_legs h2 v hv
theorem checkS_legs {p : Pth} (h : checkS p = 0) : ∀ v ∈ p.2, legOk v := by
  unfold checkS at h
  split at h
  · cases h
  · split at h
    · cases h
    · exact checkL_legs h

/-- Where one is on a leg. -/
def atLeg (d : Int) (a : V) (dep : Int) (v : V) : V :=
  vadd a (floorW (IntKind.wrap IntKind.i64 (v.1 * minI (IntKind.wrap IntKind.i64 (d - dep)) (wholeS v).1)) (wholeS v).1, floorW (IntKind.wrap IntKind.i64 (v.2.1 * minI (IntKind.wrap IntKind.i64 (d - dep)) (wholeS v).1)) (wholeS v).1, floorW (IntKind.wrap IntKind.i64 (v.2.2 * minI (IntKind.wrap IntKind.i64 (d - dep)) (wholeS v).1)) (wholeS v).1)
def atL (d : Int) : V → Int → V → List V → V × Bool
  | _, _, acc, [] => (acc, false)
  | a, dep, acc, v :: r => if dep > d then (acc, true) else atL d (vadd a v) (IntKind.wrap IntKind.i64 (dep + (wholeS v).1)) (atLeg d a dep v) r

def L_At : Lay := { slots := [(3, .ptr 4068 0), (4, .ptr 5068 0), (6, .ptr 7068 0), (26, .clo 130 [(27068, 0)])], boxes := [(4068, [.val tI]), (5068, [.val tI, .val tI, .val tI]), (7068, [.val tI, .val tI, .val tI]), (27068, [.val tI, .val tI, .val tI, .val tVs])] }
def L_At_0 : Lay := { slots := [(4, .ptr 5068 0), (6, .ptr 7068 0)], boxes := [(5068, [.val tI, .val tI, .val tI]), (7068, [.val tI, .val tI, .val tI])] }
def L_At_1 : Lay := { slots := [(4, .ptr 5068 0), (6, .ptr 7068 0)], boxes := [(5068, [.val tI, .val tI, .val tI]), (7068, [.val tI, .val tI, .val tI])] }
def X_At : Exit → Option Lay
  | .normal => some L_At_0
  | .exit 0 => some L_At_1
  | _ => none
abbrev C_At : Code := loopC (bodyOf Try.f24) 0
abbrev A_At : Type := Unit × Unit × Unit × Unit × Int × Int × Int × Int × Int × Int × Int × Int × Int × Int × List V × Unit
abbrev Y_At (a : A_At) : List YH := [⟨990, roundRun (P := P) [c_floor.gc, c_plus.gc] [] 68 990 (L_At.st noU a).tmps (rgPs C_At).toList (rgAssign C_At) (rgBody C_At)⟩]
abbrev U_At (a : A_At) : Nat → Bool := apU (L_At.st noU a).used [990]

def L_At_it : Lay := { slots := [(0, .yld 990), (1, .ptr 27068 0), (3, .ptr 4042 0), (10, .val tVs), (11, .val tI), (12, .val tI)], boxes := [(4068, [.val tI]), (5068, [.val tI, .val tI, .val tI]), (7068, [.val tI, .val tI, .val tI]), (27068, [.val tI, .val tI, .val tI, .val tVs]), (4042, [.val tI, .val tI, .val tI, .val tI, .val tI, .val tI, .val tI, .val tI])], recs := [(990, .ready)] }
def L_At_it_0 : Lay := { slots := [], boxes := [(5068, [.val tI, .val tI, .val tI]), (7068, [.val tI, .val tI, .val tI])], recs := [(990, .ready)] }
def L_At_it_1 : Lay := { slots := [], boxes := [(5068, [.val tI, .val tI, .val tI]), (7068, [.val tI, .val tI, .val tI])], recs := [(990, .done (.exit 0))] }
def X_At_it : Exit → Option Lay
  | .exit 0 => some L_At_it_0
  | .ret => some L_At_it_1
  | _ => none
abbrev C_At_it : Code := loopC (bodyOf Try.f130) 0
theorem B_At_it (o : A_At) (l : List V) (n i dd r1 r2 r3 o1 o2 o3 x y z : Int) (l' : List V) (a b c d e f g h : Int) : loopBodyA (P := P) [c_whole.gc, c_plus.gc] (lpOf []) (Y_At o) 42 (U_At o) (inner C_At_it) L_At_it X_At_it (α := Unit × Unit × Unit × List V × Int × Int × Int × Int × Int × Int × Int × Int × Int × Int × Int × Int × List V × Int × Int × Int × Int × Int × Int × Int × Int × Unit) (fun x => x) (fun x => x) ((), (), (), l, n, i, dd, r1, r2, r3, o1, o2, o3, x, y, z, l', a, b, c, d, e, f, g, h, ()) =
  Tree.cond (decide (i < n))
  (Tree.need ((0 : Int) ≤ i ∧ i < (↑(List.length l) : Int))
    (Tree.cond (decide (d > dd)) (Tree.leaf (Sum.inr (Exit.ret, Lay.st L_At_it_1 (U_At o) (r1, r2, r3, o1, o2, o3, PUnit.unit)))) (Tree.need ((wholeS (List.getD l (Int.toNat i) ((0 : Int), (0 : Int), (0 : Int)))).fst ≠ (0 : Int)) (Tree.need ((wholeS (List.getD l (Int.toNat i) ((0 : Int), (0 : Int), (0 : Int)))).fst ≠ (0 : Int)) (Tree.need ((wholeS (List.getD l (Int.toNat i) ((0 : Int), (0 : Int), (0 : Int)))).fst ≠ (0 : Int)) (Tree.leaf (Sum.inl (PUnit.unit, PUnit.unit, PUnit.unit, l, n, IntKind.wrap IntKind.i64 (i + (1 : Int)), dd, r1, r2, r3, (vadd (a, b, c) (floorW (IntKind.wrap IntKind.i64 ((List.getD l (Int.toNat i) ((0 : Int), (0 : Int), (0 : Int))).fst * minI (IntKind.wrap IntKind.i64 (dd - d)) (wholeS (List.getD l (Int.toNat i) ((0 : Int), (0 : Int), (0 : Int)))).fst)) (wholeS (List.getD l (Int.toNat i) ((0 : Int), (0 : Int), (0 : Int)))).fst, floorW (IntKind.wrap IntKind.i64 ((List.getD l (Int.toNat i) ((0 : Int), (0 : Int), (0 : Int))).snd.fst * minI (IntKind.wrap IntKind.i64 (dd - d)) (wholeS (List.getD l (Int.toNat i) ((0 : Int), (0 : Int), (0 : Int)))).fst)) (wholeS (List.getD l (Int.toNat i) ((0 : Int), (0 : Int), (0 : Int)))).fst, floorW (IntKind.wrap IntKind.i64 ((List.getD l (Int.toNat i) ((0 : Int), (0 : Int), (0 : Int))).snd.snd * minI (IntKind.wrap IntKind.i64 (dd - d)) (wholeS (List.getD l (Int.toNat i) ((0 : Int), (0 : Int), (0 : Int)))).fst)) (wholeS (List.getD l (Int.toNat i) ((0 : Int), (0 : Int), (0 : Int)))).fst)).fst, (vadd (a, b, c) (floorW (IntKind.wrap IntKind.i64 ((List.getD l (Int.toNat i) ((0 : Int), (0 : Int), (0 : Int))).fst * minI (IntKind.wrap IntKind.i64 (dd - d)) (wholeS (List.getD l (Int.toNat i) ((0 : Int), (0 : Int), (0 : Int)))).fst)) (wholeS (List.getD l (Int.toNat i) ((0 : Int), (0 : Int), (0 : Int)))).fst, floorW (IntKind.wrap IntKind.i64 ((List.getD l (Int.toNat i) ((0 : Int), (0 : Int), (0 : Int))).snd.fst * minI (IntKind.wrap IntKind.i64 (dd - d)) (wholeS (List.getD l (Int.toNat i) ((0 : Int), (0 : Int), (0 : Int)))).fst)) (wholeS (List.getD l (Int.toNat i) ((0 : Int), (0 : Int), (0 : Int)))).fst, floorW (IntKind.wrap IntKind.i64 ((List.getD l (Int.toNat i) ((0 : Int), (0 : Int), (0 : Int))).snd.snd * minI (IntKind.wrap IntKind.i64 (dd - d)) (wholeS (List.getD l (Int.toNat i) ((0 : Int), (0 : Int), (0 : Int)))).fst)) (wholeS (List.getD l (Int.toNat i) ((0 : Int), (0 : Int), (0 : Int)))).fst)).snd.fst, (vadd (a, b, c) (floorW (IntKind.wrap IntKind.i64 ((List.getD l (Int.toNat i) ((0 : Int), (0 : Int), (0 : Int))).fst * minI (IntKind.wrap IntKind.i64 (dd - d)) (wholeS (List.getD l (Int.toNat i) ((0 : Int), (0 : Int), (0 : Int)))).fst)) (wholeS (List.getD l (Int.toNat i) ((0 : Int), (0 : Int), (0 : Int)))).fst, floorW (IntKind.wrap IntKind.i64 ((List.getD l (Int.toNat i) ((0 : Int), (0 : Int), (0 : Int))).snd.fst * minI (IntKind.wrap IntKind.i64 (dd - d)) (wholeS (List.getD l (Int.toNat i) ((0 : Int), (0 : Int), (0 : Int)))).fst)) (wholeS (List.getD l (Int.toNat i) ((0 : Int), (0 : Int), (0 : Int)))).fst, floorW (IntKind.wrap IntKind.i64 ((List.getD l (Int.toNat i) ((0 : Int), (0 : Int), (0 : Int))).snd.snd * minI (IntKind.wrap IntKind.i64 (dd - d)) (wholeS (List.getD l (Int.toNat i) ((0 : Int), (0 : Int), (0 : Int)))).fst)) (wholeS (List.getD l (Int.toNat i) ((0 : Int), (0 : Int), (0 : Int)))).fst)).snd.snd, x, y, z, l', (vadd (a, b, c) (List.getD l (Int.toNat i) ((0 : Int), (0 : Int), (0 : Int)))).fst, (vadd (a, b, c) (List.getD l (Int.toNat i) ((0 : Int), (0 : Int), (0 : Int)))).snd.fst, (vadd (a, b, c) (List.getD l (Int.toNat i) ((0 : Int), (0 : Int), (0 : Int)))).snd.snd, IntKind.wrap IntKind.i64 (d + (wholeS (List.getD l (Int.toNat i) ((0 : Int), (0 : Int), (0 : Int)))).fst), (List.getD l (Int.toNat i) ((0 : Int), (0 : Int), (0 : Int))).fst, (List.getD l (Int.toNat i) ((0 : Int), (0 : Int), (0 : Int))).snd.fst, (List.getD l (Int.toNat i) ((0 : Int), (0 : Int), (0 : Int))).snd.snd, (wholeS (List.getD l (Int.toNat i) ((0 : Int), (0 : Int), (0 : Int)))).fst, PUnit.unit))))))))
  (Tree.leaf (Sum.inr (Exit.exit (0 : Nat), Lay.st L_At_it_0 (U_At o) (r1, r2, r3, o1, o2, o3, PUnit.unit)))) := by kernel_rfl

def inv_At_it (o : A_At) : Unit × Unit × Unit × List V × Int × Int × Int × Int × Int × Int × Int × Int × Int × Int × Int × Int × List V × Int × Int × Int × Int × Int × Int × Int × Int × Unit → Prop := fun (_, _, _, l, n, i, _) => n = l.length ∧ 0 ≤ i ∧ i ≤ n ∧ l.length ≤ 20 ∧ ∀ v ∈ l, legOk v
def O_At_it (o : A_At) : Unit × Unit × Unit × List V × Int × Int × Int × Int × Int × Int × Int × Int × Int × Int × Int × Int × List V × Int × Int × Int × Int × Int × Int × Int × Int × Unit → Tree (Exit × St) := fun (_, _, _, l, n, i, dd, r1, r2, r3, o1, o2, o3, x, y, z, l', a, b, c, d, _) => .cond (atL dd (a, b, c) d (o1, o2, o3) (l.drop i.toNat)).2 (.leaf (.ret, L_At_it_1.st (U_At o) (r1, r2, r3, (atL dd (a, b, c) d (o1, o2, o3) (l.drop i.toNat)).1.1, (atL dd (a, b, c) d (o1, o2, o3) (l.drop i.toNat)).1.2.1, (atL dd (a, b, c) d (o1, o2, o3) (l.drop i.toNat)).1.2.2, ()))) (.leaf (.exit 0, L_At_it_0.st (U_At o) (r1, r2, r3, (atL dd (a, b, c) d (o1, o2, o3) (l.drop i.toNat)).1.1, (atL dd (a, b, c) d (o1, o2, o3) (l.drop i.toNat)).1.2.1, (atL dd (a, b, c) d (o1, o2, o3) (l.drop i.toNat)).1.2.2, ())))
def R_At_it (o : A_At) : LRun := runOf 42 L_At_it (fun x => x) (inv_At_it o) (O_At_it o)
theorem K_At_it (o : A_At) : LoopOk P (Y_At o) 42 none (U_At o) C_At_it (R_At_it o) := by
  refine loop_of hm (cx := [c_whole.gc, c_plus.gc]) [] (xl := X_At_it) (α := Unit × Unit × Unit × List V × Int × Int × Int × Int × Int × Int × Int × Int × Int × Int × Int × Int × List V × Int × Int × Int × Int × Int × Int × Int × Int × Unit) (fun x => x) (fun (_, _, _, l, n, i, _) => (n - i).toNat) (fun _ => rfl) (by kernel_rfl) (by kernel_rfl) ?_ (by kernel_rfl) trivial ?_
  · intro e L' h
    unfold X_At_it at h
    split at h <;> cases h <;> kernel_rfl
  · rintro ⟨⟨⟩, ⟨⟩, ⟨⟩, l, n, i, dd, r1, r2, r3, o1, o2, o3, x, y, z, l', a, b, c, d, e, f, g, h, ⟨⟩⟩ hinv Q hQ
    refine hold_of_eq (B_At_it o l n i dd r1 r2 r3 o1 o2 o3 x y z l' a b c d e f g h) ?_

    obtain ⟨rfl, h0, h1, h2, h3⟩ := hinv
    rw [W_id (n := i + 1) (by omega) (by omega)]
    unfold O_At_it at hQ
    dsimp only at hQ
    refine ⟨fun hi => ?_, fun hi => ?_⟩
    · simp only [decide_eq_true_eq] at hi
      have hu : legOk (l.getD i.toNat (0, 0, 0)) := by
        refine h3 _ ?_
        have hlt : i.toNat < l.length := by omega
        simp [List.getD, List.getElem?_eq_getElem hlt]
      rw [drop_step (0, 0, 0) h0 hi, atL] at hQ
      generalize l.getD i.toNat (0, 0, 0) = u at *
      obtain ⟨_, hn, _⟩ := hu
      refine ⟨⟨h0, hi⟩, fun hd => ?_, fun hd => ?_⟩
      · simp only [decide_eq_true_eq] at hd
        rw [if_pos hd] at hQ
        exact hQ.1 rfl
      · simp only [decide_eq_false_iff_not] at hd
        rw [if_neg hd] at hQ
        exact ⟨by omega, by omega, by omega, ⟨⟨rfl, by omega, by omega, h2, h3⟩, by show ((l.length : Int) - (i + 1)).toNat < ((l.length : Int) - i).toNat; omega⟩, hQ⟩
    · simp only [decide_eq_false_iff_not] at hi
      rw [drop_end hi] at hQ
      exact hQ.2 rfl

theorem G_At (dd r1 r2 r3 o1 o2 o3 x y z : Int) (l : List V) : rangeTree (P := P) [c_floor.gc, c_plus.gc] (lpOf [(0, R_At_it ((), (), (), (), dd, r1, r2, r3, o1, o2, o3, x, y, z, l, ()))]) [] 68 noU 990 (rgFn C_At) (rgPs C_At).toList (rgAssign C_At) (rgBody C_At) X_At (L_At.st noU ((), (), (), (), dd, r1, r2, r3, o1, o2, o3, x, y, z, l, ())) =
  Tree.need (inv_At_it ((), (), (), (), dd, r1, r2, r3, o1, o2, o3, x, y, z, l, ()) ((), (), (), l, (↑(List.length l) : Int), (0 : Int), dd, r1, r2, r3, o1, o2, o3, x, y, z, l, x, y, z, (0 : Int), (0 : Int), (0 : Int), (0 : Int), (0 : Int), ())) (Tree.cond (atL dd (x, y, z) (0 : Int) (o1, o2, o3) (List.drop (Int.toNat (0 : Int)) l)).snd (Tree.leaf (Exit.exit (0 : Nat), Lay.st L_At_1 noU (PUnit.unit, PUnit.unit, r1, r2, r3, (atL dd (x, y, z) (0 : Int) (o1, o2, o3) (List.drop (Int.toNat (0 : Int)) l)).fst.fst, (atL dd (x, y, z) (0 : Int) (o1, o2, o3) (List.drop (Int.toNat (0 : Int)) l)).fst.snd.fst, (atL dd (x, y, z) (0 : Int) (o1, o2, o3) (List.drop (Int.toNat (0 : Int)) l)).fst.snd.snd, PUnit.unit))) (Tree.leaf (Exit.normal, Lay.st L_At_0 noU (PUnit.unit, PUnit.unit, r1, r2, r3, (atL dd (x, y, z) (0 : Int) (o1, o2, o3) (List.drop (Int.toNat (0 : Int)) l)).fst.fst, (atL dd (x, y, z) (0 : Int) (o1, o2, o3) (List.drop (Int.toNat (0 : Int)) l)).fst.snd.fst, (atL dd (x, y, z) (0 : Int) (o1, o2, o3) (List.drop (Int.toNat (0 : Int)) l)).fst.snd.snd, PUnit.unit)))) := by kernel_rfl

def inv_At : Unit × Unit × Unit × Unit × Int × Int × Int × Int × Int × Int × Int × Int × Int × Int × List V × Unit → Prop := fun (_, _, _, _, _, _, _, _, _, _, _, x, y, z, l, _) => l.length ≤ 20 ∧ ∀ v ∈ l, legOk v
def O_At : Unit × Unit × Unit × Unit × Int × Int × Int × Int × Int × Int × Int × Int × Int × Int × List V × Unit → Tree (Exit × St) := fun (_, _, _, _, dd, r1, r2, r3, o1, o2, o3, x, y, z, l, _) => .cond (atL dd (x, y, z) 0 (o1, o2, o3) l).2 (.leaf (.exit 0, L_At_1.st noU ((), (), r1, r2, r3, (atL dd (x, y, z) 0 (o1, o2, o3) l).1.1, (atL dd (x, y, z) 0 (o1, o2, o3) l).1.2.1, (atL dd (x, y, z) 0 (o1, o2, o3) l).1.2.2, ()))) (.leaf (.normal, L_At_0.st noU ((), (), r1, r2, r3, (atL dd (x, y, z) 0 (o1, o2, o3) l).1.1, (atL dd (x, y, z) 0 (o1, o2, o3) l).1.2.1, (atL dd (x, y, z) 0 (o1, o2, o3) l).1.2.2, ())))
def R_At : LRun := runOf 68 L_At (fun x => x) inv_At O_At
theorem H_At (dd r1 r2 r3 o1 o2 o3 x y z : Int) (l : List V) (hinv : inv_At ((), (), (), (), dd, r1, r2, r3, o1, o2, o3, x, y, z, l, ())) (Q : Exit × St → Prop) (hQ : (O_At ((), (), (), (), dd, r1, r2, r3, o1, o2, o3, x, y, z, l, ())).holds Q) : Hold Q (rangeTree (P := P) [c_floor.gc, c_plus.gc] (lpOf [(0, R_At_it ((), (), (), (), dd, r1, r2, r3, o1, o2, o3, x, y, z, l, ()))]) [] 68 noU 990 (rgFn C_At) (rgPs C_At).toList (rgAssign C_At) (rgBody C_At) X_At (L_At.st noU ((), (), (), (), dd, r1, r2, r3, o1, o2, o3, x, y, z, l, ()))) := by
    have e := G_At dd r1 r2 r3 o1 o2 o3 x y z l
    generalize rangeTree (P := P) [c_floor.gc, c_plus.gc] (lpOf [(0, R_At_it ((), (), (), (), dd, r1, r2, r3, o1, o2, o3, x, y, z, l, ()))]) [] 68 noU 990 (rgFn C_At) (rgPs C_At).toList (rgAssign C_At) (rgBody C_At) X_At (L_At.st noU ((), (), (), (), dd, r1, r2, r3, o1, o2, o3, x, y, z, l, ())) = t at e ⊢
    subst e
    constructor

    obtain ⟨h1, h2⟩ := hinv
    simp only [Int.toNat_zero, List.drop_zero]
    exact ⟨⟨rfl, by omega, by omega, h1, h2⟩, hQ⟩
theorem J_At (a : A_At) : AllK P (Y_At a) 42 none (U_At a) (bodyOf Try.f130) [(0, R_At_it a)] := ⟨K_At_it a, trivial⟩
theorem K_At : LoopOk P [] 68 none noU C_At R_At := by
  refine range_of hm (cx := [c_floor.gc, c_plus.gc]) (xl := X_At) (α := Unit × Unit × Unit × Unit × Int × Int × Int × Int × Int × Int × Int × Int × Int × Int × List V × Unit) (fun x => x) 990 (gf := 130) (fnI := Try.f130) (fun a => [(0, R_At_it a)]) (fun _ => rfl) (by kernel_rfl) (by kernel_rfl) ?_ (by kernel_rfl) (fun a => ⟨encK [(27068, 0)], by kernel_rfl⟩) (by kernel_rfl) ?_ ?_
  · intro e L' h
    unfold X_At at h
    split at h <;> cases h <;> kernel_rfl
  · intro a; exact J_At a
  · have tup : ∀ Pr : Unit × Unit × Unit × Unit × Int × Int × Int × Int × Int × Int × Int × Int × Int × Int × List V × Unit → Prop, (∀ (dd r1 r2 r3 o1 o2 o3 x y z : Int) (l : List V), Pr ((), (), (), (), dd, r1, r2, r3, o1, o2, o3, x, y, z, l, ())) → ∀ a, Pr a := fun Pr h a => h (a.2.2.2.2.1) (a.2.2.2.2.2.1) (a.2.2.2.2.2.2.1) (a.2.2.2.2.2.2.2.1) (a.2.2.2.2.2.2.2.2.1) (a.2.2.2.2.2.2.2.2.2.1) (a.2.2.2.2.2.2.2.2.2.2.1) (a.2.2.2.2.2.2.2.2.2.2.2.1) (a.2.2.2.2.2.2.2.2.2.2.2.2.1) (a.2.2.2.2.2.2.2.2.2.2.2.2.2.1) (a.2.2.2.2.2.2.2.2.2.2.2.2.2.2.1)
    refine tup _ ?_
    intro dd r1 r2 r3 o1 o2 o3 x y z l hinv Q hQ
    exact H_At dd r1 r2 r3 o1 o2 o3 x y z l hinv Q hQ

def atS (p : Pth) (d : Int) : V × Bool := if checkS p = 0 ∧ 0 ≤ d ∧ d ≤ lenS p then ((atL d p.1 0 p.1 p.2).1, true) else ((0, 0, 0), false)

theorem T_At (x y z : Int) (l : List V) (d : Int) : fnTree (P := P) [c_Check.gc, c_Length.gc, c_parts.gc] (lpOf [(0, R_At)]) Try.f24 (encL 0 [.agg tPath, .val tI] (((x, y, z), l), d, ())) =
  Tree.cond (checkS ((x, y, z), l) != (0 : Int)) (Tree.leaf (SV.tup [SV.agg [SV.int IntKind.i64 (0 : Int), SV.int IntKind.i64 (0 : Int), SV.int IntKind.i64 (0 : Int)], SV.bool false])) (Tree.cond (decide (d < (0 : Int))) (Tree.leaf (SV.tup [SV.agg [SV.int IntKind.i64 (0 : Int), SV.int IntKind.i64 (0 : Int), SV.int IntKind.i64 (0 : Int)], SV.bool false])) (Tree.cond (decide (d > lenS ((x, y, z), l))) (Tree.leaf (SV.tup [SV.agg [SV.int IntKind.i64 (0 : Int), SV.int IntKind.i64 (0 : Int), SV.int IntKind.i64 (0 : Int)], SV.bool false])) (Tree.need (inv_At ((), (), (), (), d, (0 : Int), (0 : Int), (0 : Int), x, y, z, x, y, z, l, ())) (Tree.cond (atL d (x, y, z) (0 : Int) (x, y, z) l).snd (Tree.leaf (SV.tup [SV.agg [SV.int IntKind.i64 (atL d (x, y, z) (0 : Int) (x, y, z) l).fst.fst, SV.int IntKind.i64 (atL d (x, y, z) (0 : Int) (x, y, z) l).fst.snd.fst, SV.int IntKind.i64 (atL d (x, y, z) (0 : Int) (x, y, z) l).fst.snd.snd], SV.bool true])) (Tree.leaf (SV.tup [SV.agg [SV.int IntKind.i64 (atL d (x, y, z) (0 : Int) (x, y, z) l).fst.fst, SV.int IntKind.i64 (atL d (x, y, z) (0 : Int) (x, y, z) l).fst.snd.fst, SV.int IntKind.i64 (atL d (x, y, z) (0 : Int) (x, y, z) l).fst.snd.snd], SV.bool true])))))) := by kernel_rfl

def c_At : PC P := PC.of (α := Pth × Int × Unit) 24 [.agg tPath, .val tI] (fun x => x) (fun x => x) (fun _ => rfl)
  (fun _ => none)
  (fun x => .tup [svV (atS x.1 x.2.1).1, .bool (atS x.1 x.2.1).2]) (by kernel_rfl) (by
    rintro ⟨⟨⟨x, y, z⟩, l⟩, d, ⟨⟩⟩ hp
    refine fn_of hm (by kernel_rfl) (by kernel_rfl) (T_At x y z l d) ⟨K_At, trivial⟩ ?_

    show Tree.holds (fun s => s = SV.tup [svV (atS ((x, y, z), l) d).1, .bool (atS ((x, y, z), l) d).2]) _
    unfold atS
    refine ⟨fun h => ?_, fun h => ⟨fun h2 => ?_, fun h2 => ⟨fun h3 => ?_, fun h3 => ?_⟩⟩⟩
    all_goals simp only [decide_eq_true_eq, decide_eq_false_iff_not, bne_iff_ne, ne_eq, bne_eq_false_iff_eq] at *
    · show SV.tup _ = _
      rw [if_neg (by omega)]
    · show SV.tup _ = _
      rw [if_neg (by omega)]
    · show SV.tup _ = _
      rw [if_neg (by omega)]
    · rw [if_pos (by omega)]
      exact ⟨⟨checkS_len h, checkS_legs h⟩, fun _ => rfl, fun _ => rfl⟩)

end
end Go.MP
