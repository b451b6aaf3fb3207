/- path.Plan: the search of all paths to a goal, each leg of it a call of itself. -/
import Derived.Test.YtnlflnbbgklalaaMpD
import Derived.Test.YtnlflnbbgklalaaFw4
namespace Go.MP
open Go Go.Sx Go.Proofs
set_option linter.unusedVariables false
set_option linter.unusedSimpArgs false
noncomputable section

abbrev tBoxZ : Ty := .pair tV tV
abbrev tGoal : Ty := .pair tVs (.pair tI (.pair tI (.pair tPart tBoxZ)))
abbrev Box := V × V
abbrev Goal := List V × Int × Int × (Int × Int) × Box

def withinS (v : V) (b : Box) : Bool := decide (b.1.1 ≤ v.1 ∧ v.1 ≤ b.2.1 ∧ b.1.2.1 ≤ v.2.1 ∧ v.2.1 ≤ b.2.2.1 ∧ b.1.2.2 ≤ v.2.2 ∧ v.2.2 ≤ b.2.2.2)
theorem T_within (x y z a b c d e f : Int) : fnTree (P := P) [] (lpOf []) Try.f103 (encL 0 [.agg tV, .agg tBoxZ] ((x, y, z), ((a, b, c), (d, e, f)), ())) =
  Tree.cond (decide (x ≥ a)) (Tree.cond (decide (x ≤ d)) (Tree.cond (decide (y ≥ b)) (Tree.cond (decide (y ≤ e)) (Tree.cond (decide (z ≥ c)) (Tree.leaf (SV.bool (decide (z ≤ f)))) (Tree.leaf (SV.bool false))) (Tree.leaf (SV.bool false))) (Tree.leaf (SV.bool false))) (Tree.leaf (SV.bool false))) (Tree.leaf (SV.bool false)) := by kernel_rfl

def c_within : PC P := PC.of (α := V × Box × Unit) 103 [.agg tV, .agg tBoxZ] (fun x => x) (fun x => x) (fun _ => rfl)
  (fun _ => none)
  (fun x => .bool (withinS x.1 x.2.1)) (by kernel_rfl) (by
    rintro ⟨⟨x, y, z⟩, ⟨⟨a, b, c⟩, ⟨d, e, f⟩⟩, ⟨⟩⟩ hp
    refine fn_of hm (by kernel_rfl) (by kernel_rfl) (T_within x y z a b c d e f) trivial ?_

    show Tree.holds (fun s => s = SV.bool (withinS (x, y, z) ((a, b, c), (d, e, f)))) _
    unfold withinS
    refine ⟨fun h1 => ⟨fun h2 => ⟨fun h3 => ⟨fun h4 => ⟨fun h5 => ?_, fun h5 => ?_⟩, fun h4 => ?_⟩, fun h3 => ?_⟩, fun h2 => ?_⟩, fun h1 => ?_⟩
    all_goals simp only [ge_iff_le, decide_eq_true_eq, decide_eq_false_iff_not] at *
    · exact congrArg SV.bool (decide_eq_decide.2 ⟨fun h6 => ⟨h1, h2, h3, h4, h5, h6⟩, fun h => h.2.2.2.2.2⟩)
    · exact congrArg SV.bool (decide_eq_false fun h => h5 h.2.2.2.2.1).symm
    · exact congrArg SV.bool (decide_eq_false fun h => h4 h.2.2.2.1).symm
    · exact congrArg SV.bool (decide_eq_false fun h => h3 h.2.2.1).symm
    · exact congrArg SV.bool (decide_eq_false fun h => h2 h.2.1).symm
    · exact congrArg SV.bool (decide_eq_false fun h => h1 h.1).symm)

/-- A turn that is allowed. -/
def bendsS (v w : V) (t : Int × Int) : Bool := decide (vdot v w > 0) && decide (IntKind.wrap IntKind.i64 (t.2 * IntKind.wrap IntKind.i64 (IntKind.wrap IntKind.i64 ((wholeS v).1 * (wholeS w).1) - vdot v w)) ≤ IntKind.wrap IntKind.i64 (IntKind.wrap IntKind.i64 (t.1 * (wholeS v).1) * (wholeS w).1))
theorem T_bends (x y z a b c n d : Int) : fnTree (P := P) [c_whole.gc, c_dot.gc] (lpOf []) Try.f105 (encL 0 [.agg tV, .agg tV, .agg tPart] ((x, y, z), (a, b, c), (n, d), ())) =
  Tree.cond (decide (vdot (x, y, z) (a, b, c) > (0 : Int))) (Tree.leaf (SV.bool (decide (IntKind.wrap IntKind.i64 (d * IntKind.wrap IntKind.i64 (IntKind.wrap IntKind.i64 ((wholeS (x, y, z)).fst * (wholeS (a, b, c)).fst) - vdot (x, y, z) (a, b, c))) ≤ IntKind.wrap IntKind.i64 (IntKind.wrap IntKind.i64 (n * (wholeS (x, y, z)).fst) * (wholeS (a, b, c)).fst))))) (Tree.leaf (SV.bool false)) := by kernel_rfl

def c_bends : PC P := PC.of (α := V × V × (Int × Int) × Unit) 105 [.agg tV, .agg tV, .agg tPart] (fun x => x) (fun x => x) (fun _ => rfl)
  (fun _ => none)
  (fun x => .bool (bendsS x.1 x.2.1 x.2.2.1)) (by kernel_rfl) (by
    rintro ⟨⟨x, y, z⟩, ⟨a, b, c⟩, ⟨n, d⟩, ⟨⟩⟩ hp
    refine fn_of hm (by kernel_rfl) (by kernel_rfl) (T_bends x y z a b c n d) trivial ?_

    show Tree.holds (fun s => s = SV.bool (bendsS (x, y, z) (a, b, c) (n, d))) _
    unfold bendsS
    refine ⟨fun h => ?_, fun h => ?_⟩
    · rw [h, Bool.true_and]; exact rfl
    · rw [h, Bool.false_and]; exact rfl)

theorem T_clone (l : List V) : frTree (P := P) [] (lpOf []) Try.f104 (encL 0 [.val tVs] (l, ())) =
  Tree.need (l ≠ []) (Tree.cond false (Tree.leaf SV.nils) (Tree.need (((0 : Nat) + List.length l) * (24 : Nat) ≤ (140737488355328 : Nat)) (Tree.leaf (SV.sl (Ty.pair (Ty.int IntKind.i64) (Ty.pair (Ty.int IntKind.i64) (Ty.int IntKind.i64))) l)))) := by kernel_rfl

def c_clone : FC P := FC.of (α := List V × Unit) 104 [.val tVs] (fun x => x) (fun x => x) (fun _ => rfl)
  (fun x => some (x.1 ≠ [] ∧ x.1.length ≤ 1000))
  (fun x => .sl tV x.1) (by kernel_rfl) (by
    rintro ⟨l, ⟨⟩⟩ hp
    refine fr_of hm (by kernel_rfl) (by kernel_rfl) (T_clone l) trivial ?_

    obtain ⟨h1, h2⟩ := hp
    have h3 : l.length ≤ 1000 := h2
    exact ⟨h1, fun h => (by cases h), fun _ => ⟨by omega, rfl⟩⟩)

/-- The best path so far, and its length; less than 0: none yet. -/
abbrev Best := List V × Int
def kR (rec : List V → V → V → Int → Int → Best → Best) (now : List V) (at' D : V) (i len n : Int) : Nat → Int → Best → Best
  | 0, _, b => b
  | m + 1, k, b => kR rec now at' D i len n m (k + 1) (if validS (vadd at' (vmul D k)) = true then rec (now ++ [vmul D k]) (vadd at' (vmul D k)) (vmul D k) i (IntKind.wrap IntKind.i64 (len + IntKind.wrap IntKind.i64 (n * k))) b else b)
def dR (rec : List V → V → V → Int → Int → Best → Best) (g : Goal) (now : List V) (at' before : V) (dir len : Int) : List V → Int → Best → Best
  | [], _, b => b
  | D :: r, i, b => dR rec g now at' before dir len r (i + 1) (if i = dir ∨ bendsS before D g.2.2.2.1 = false then b else kR rec now at' D i len (wholeS D).1 g.2.1.toNat 1 b)
def hereS (g : Goal) (now : List V) (at' : V) (len : Int) (b : Best) : Best :=
  if now ≠ [] ∧ withinS at' g.2.2.2.2 = true ∧ (b.2 < 0 ∨ len < b.2 ∨ (len = b.2 ∧ now.length < b.1.length)) then (now, len) else b
def walkR (g : Goal) : Nat → List V → V → V → Int → Int → Best → Best
  | 0, now, at', before, dir, len, b => hereS g now at' len b
  | m + 1, now, at', before, dir, len, b => dR (walkR g m) g now at' before dir len g.1 0 (hereS g now at' len b)

abbrev bGoal : List Sh := [.val tVs, .val tI, .val tI, .val tI, .val tI, .val tI, .val tI, .val tI, .val tI, .val tI, .val tI]
abbrev svG (g : Goal) : List SV := [.sl tV g.1, .int .i64 g.2.1, .int .i64 g.2.2.1, .int .i64 g.2.2.2.1.1, .int .i64 g.2.2.2.1.2, .int .i64 g.2.2.2.2.1.1, .int .i64 g.2.2.2.2.1.2.1, .int .i64 g.2.2.2.2.1.2.2, .int .i64 g.2.2.2.2.2.1, .int .i64 g.2.2.2.2.2.2.1, .int .i64 g.2.2.2.2.2.2.2]
def gOf (l : List V) (m le n d a b c e f h : Int) : Goal := (l, m, le, (n, d), ((a, b, c), (e, f, h)))
/-- What the search asks of a goal. -/
def okGoal (g : Goal) : Prop := g.1.length ≤ 8 ∧ 1 ≤ g.2.1 ∧ g.2.1 ≤ 8 ∧ 1 ≤ g.2.2.1 ∧ g.2.2.1 ≤ 3

abbrev aWalk := V × V × Int × Int × Unit × Unit × Unit × Unit × Unit × List V × List V × Int × Int × Int × Int × Int × Int × Int × Int × Int × Int × Int × List V × Unit × Unit
def L_walk : Lay := { slots := [(0, .agg tV), (1, .agg tV), (2, .val tI), (3, .val tI), (4, .ptr 1 0), (5, .ptr 2 0), (6, .ptr 3 0), (7, .ptr 4 0), (8, .ptr 5 0)], boxes := [(1, [.row 23 tV]), (2, bGoal), (3, [.val tI]), (4, [.val tVs]), (5, [.clo 102 [(1, 0), (2, 0), (3, 0), (4, 0), (5, 0)]])], rb := 2000000 }
def pre_walk : V × V × Int × Int × Unit × Unit × Unit × Unit × Unit × List V × List V × Int × Int × Int × Int × Int × Int × Int × Int × Int × Int × Int × List V × Unit × Unit → Prop := fun (_, _, _, _, _, _, _, _, _, now, l, m, le, n, d, a, b, c, e, f, h, least, best, _) => okGoal (gOf l m le n d a b c e f h) ∧ (now.length : Int) ≤ le
def mu_walk : V × V × Int × Int × Unit × Unit × Unit × Unit × Unit × List V × List V × Int × Int × Int × Int × Int × Int × Int × Int × Int × Int × Int × List V × Unit × Unit → Nat := fun (_, _, _, _, _, _, _, _, _, now, l, m, le, _) => le.toNat - now.length
def out_walk : V × V × Int × Int × Unit × Unit × Unit × Unit × Unit × List V × List V × Int × Int × Int × Int × Int × Int × Int × Int × Int × Int × Int × List V × Unit × Unit → MOut := fun (at', bf, dir, len, _, _, _, _, _, now, l, m, le, n, d, a, b, c, e, f, h, least, best, _) => ⟨.tup [], [[.own 100], svG (gOf l m le n d a b c e f h), [.int .i64 (walkR (gOf l m le n d a b c e f h) (le.toNat - now.length) now at' bf dir len (best, least)).2], [.sl tV (walkR (gOf l m le n d a b c e f h) (le.toNat - now.length) now at' bf dir len (best, least)).1], [.fn 102 [.ptr 1 0, .ptr 2 0, .ptr 3 0, .ptr 4 0, .ptr 5 0]]], [.row 23 tV now]⟩
def H_walk (n : Nat) : Prop := ∀ a : V × V × Int × Int × Unit × Unit × Unit × Unit × Unit × List V × List V × Int × Int × Int × Int × Int × Int × Int × Int × Int × Int × Int × List V × Unit × Unit, ndP (some (pre_walk a ∧ mu_walk a < n)) → MFnOk P 102 L_walk ((fun x => x) a) (out_walk a)
def r_walk (n : Nat) (hok : H_walk n) : MC P := MC.of (α := V × V × Int × Int × Unit × Unit × Unit × Unit × Unit × List V × List V × Int × Int × Int × Int × Int × Int × Int × Int × Int × Int × Int × List V × Unit × Unit) 102 L_walk (fun x => x) (fun x => x) (fun _ => rfl) (fun a => some (pre_walk a ∧ mu_walk a < n)) out_walk (by kernel_rfl) (by kernel_rfl) (by kernel_rfl) hok

def L_walkK : Lay := { slots := [(2, .val tI), (3, .val tI), (4, .ptr 1 0), (5, .ptr 2 0), (6, .ptr 3 0), (7, .ptr 4 0), (8, .ptr 5 0), (9, .ptr 10116 0), (10, .ptr 11116 0), (13, .val tI), (14, .ptr 15116 0), (15, .val tI), (17, .val tI), (59, .val tVs), (60, .val tI), (61, .val tI)], boxes := [(1, [.row 23 tV]), (2, bGoal), (3, [.val tI]), (4, [.val tVs]), (5, [.clo 102 [(1, 0), (2, 0), (3, 0), (4, 0), (5, 0)]]), (10116, [.val tI, .val tI, .val tI]), (11116, [.val tI, .val tI, .val tI]), (15116, [.val tI, .val tI, .val tI])], rb := 2000000 }
def L_walkK_0 : Lay := { slots := [(2, .val tI), (3, .val tI), (4, .ptr 1 0), (5, .ptr 2 0), (6, .ptr 3 0), (7, .ptr 4 0), (8, .ptr 5 0), (9, .ptr 10116 0), (10, .ptr 11116 0), (59, .val tVs), (60, .val tI), (61, .val tI)], boxes := [(1, [.row 23 tV]), (2, bGoal), (3, [.val tI]), (4, [.val tVs]), (5, [.clo 102 [(1, 0), (2, 0), (3, 0), (4, 0), (5, 0)]]), (10116, [.val tI, .val tI, .val tI]), (11116, [.val tI, .val tI, .val tI])], rb := 2000000 }
def X_walkK : Exit → Option Lay
  | .exit 2 => some L_walkK_0
  | _ => none
abbrev C_walkK : Code := loopC (inner (loopC (bodyOf Try.f102) 0)) 2
theorem B_walkK (n : Nat) (hok : H_walk n) (dir len i nd k : Int) (dl : List V) (dn di : Int) (now l : List V) (m le nn d a b c e f h least : Int) (best : List V) (x y z x2 y2 z2 x3 y3 z3 : Int) : loopBodyA (P := P) [c_times.gc, c_plus.gc, c_valid.gc, (r_walk n hok).gc] (lpOf []) [] 116 (usd noU (L_walk.ids ++ rowIds 2000000 L_walk.shs)) (inner C_walkK) L_walkK X_walkK (α := Int × Int × Unit × Unit × Unit × Unit × Unit × Unit × Unit × Int × Unit × Int × Int × List V × Int × Int × List V × List V × Int × Int × Int × Int × Int × Int × Int × Int × Int × Int × Int × List V × Unit × Int × Int × Int × Int × Int × Int × Int × Int × Int × Unit) (fun x => x) (fun x => x) (dir, len, (), (), (), (), (), (), (), i, (), nd, k, dl, dn, di, now, l, m, le, nn, d, a, b, c, e, f, h, least, best, (), x, y, z, x2, y2, z2, x3, y3, z3, ()) =
  Tree.cond (decide (k ≤ m)) (Tree.cond (validS (vadd (x, y, z) (vmul (x3, y3, z3) k))) (Tree.need ((List.length now + List.length [vmul (x3, y3, z3) k]) * (24 : Nat) ≤ (140737488355328 : Nat)) (Tree.need (pre_walk (vadd (x, y, z) (vmul (x3, y3, z3) k), vmul (x3, y3, z3) k, i, IntKind.wrap IntKind.i64 (len + IntKind.wrap IntKind.i64 (nd * k)), (), (), (), (), (), now ++ [vmul (x3, y3, z3) k], l, m, le, nn, d, a, b, c, e, f, h, least, best, (), ()) ∧ mu_walk (vadd (x, y, z) (vmul (x3, y3, z3) k), vmul (x3, y3, z3) k, i, IntKind.wrap IntKind.i64 (len + IntKind.wrap IntKind.i64 (nd * k)), (), (), (), (), (), now ++ [vmul (x3, y3, z3) k], l, m, le, nn, d, a, b, c, e, f, h, least, best, (), ()) < n) (Tree.need ((0 : Int) ≤ IntKind.wrap IntKind.i64 ((↑(List.length (now ++ [vmul (x3, y3, z3) k])) : Int) - (1 : Int)) ∧ IntKind.wrap IntKind.i64 ((↑(List.length (now ++ [vmul (x3, y3, z3) k])) : Int) - (1 : Int)) ≤ (↑(List.length (now ++ [vmul (x3, y3, z3) k])) : Int)) (Tree.leaf (Sum.inl (dir, len, PUnit.unit, PUnit.unit, PUnit.unit, PUnit.unit, PUnit.unit, PUnit.unit, PUnit.unit, i, PUnit.unit, nd, IntKind.wrap IntKind.i64 (k + (1 : Int)), dl, dn, di, List.take (Int.toNat (IntKind.wrap IntKind.i64 ((↑(List.length (now ++ [vmul (x3, y3, z3) k])) : Int) - (1 : Int)))) (now ++ [vmul (x3, y3, z3) k]), (gOf l m le nn d a b c e f h).fst, (gOf l m le nn d a b c e f h).snd.fst, (gOf l m le nn d a b c e f h).snd.snd.fst, (gOf l m le nn d a b c e f h).snd.snd.snd.fst.fst, (gOf l m le nn d a b c e f h).snd.snd.snd.fst.snd, (gOf l m le nn d a b c e f h).snd.snd.snd.snd.fst.fst, (gOf l m le nn d a b c e f h).snd.snd.snd.snd.fst.snd.fst, (gOf l m le nn d a b c e f h).snd.snd.snd.snd.fst.snd.snd, (gOf l m le nn d a b c e f h).snd.snd.snd.snd.snd.fst, (gOf l m le nn d a b c e f h).snd.snd.snd.snd.snd.snd.fst, (gOf l m le nn d a b c e f h).snd.snd.snd.snd.snd.snd.snd, (walkR (gOf l m le nn d a b c e f h) (Int.toNat le - List.length (now ++ [vmul (x3, y3, z3) k])) (now ++ [vmul (x3, y3, z3) k]) (vadd (x, y, z) (vmul (x3, y3, z3) k)) (vmul (x3, y3, z3) k) i (IntKind.wrap IntKind.i64 (len + IntKind.wrap IntKind.i64 (nd * k))) (best, least)).snd, (walkR (gOf l m le nn d a b c e f h) (Int.toNat le - List.length (now ++ [vmul (x3, y3, z3) k])) (now ++ [vmul (x3, y3, z3) k]) (vadd (x, y, z) (vmul (x3, y3, z3) k)) (vmul (x3, y3, z3) k) i (IntKind.wrap IntKind.i64 (len + IntKind.wrap IntKind.i64 (nd * k))) (best, least)).fst, PUnit.unit, x, y, z, x2, y2, z2, x3, y3, z3, PUnit.unit)))))) (Tree.leaf (Sum.inl (dir, len, PUnit.unit, PUnit.unit, PUnit.unit, PUnit.unit, PUnit.unit, PUnit.unit, PUnit.unit, i, PUnit.unit, nd, IntKind.wrap IntKind.i64 (k + (1 : Int)), dl, dn, di, now, l, m, le, nn, d, a, b, c, e, f, h, least, best, PUnit.unit, x, y, z, x2, y2, z2, x3, y3, z3, PUnit.unit)))) (Tree.leaf (Sum.inr (Exit.exit (2 : Nat), Lay.st L_walkK_0 (usd noU (Lay.ids L_walk ++ rowIds (2000000 : Nat) (Lay.shs L_walk))) (dir, len, PUnit.unit, PUnit.unit, PUnit.unit, PUnit.unit, PUnit.unit, PUnit.unit, PUnit.unit, dl, dn, di, now, l, m, le, nn, d, a, b, c, e, f, h, least, best, PUnit.unit, x, y, z, x2, y2, z2, PUnit.unit)))) := by kernel_rfl

def inv_walkK (n : Nat) (hok : H_walk n) : Int × Int × Unit × Unit × Unit × Unit × Unit × Unit × Unit × Int × Unit × Int × Int × List V × Int × Int × List V × List V × Int × Int × Int × Int × Int × Int × Int × Int × Int × Int × Int × List V × Unit × Int × Int × Int × Int × Int × Int × Int × Int × Int × Unit → Prop := fun (dir, len, _, _, _, _, _, _, _, i, _, nd, k, dl, dn, di, now, l, m, le, nn, d, a, b, c, e, f, h, least, best, _, x, y, z, x2, y2, z2, x3, y3, z3, _) => okGoal (gOf l m le nn d a b c e f h) ∧ (now.length : Int) < le ∧ le.toNat - now.length ≤ n ∧ 1 ≤ k ∧ k ≤ m + 1
def O_walkK (n : Nat) (hok : H_walk n) : Int × Int × Unit × Unit × Unit × Unit × Unit × Unit × Unit × Int × Unit × Int × Int × List V × Int × Int × List V × List V × Int × Int × Int × Int × Int × Int × Int × Int × Int × Int × Int × List V × Unit × Int × Int × Int × Int × Int × Int × Int × Int × Int × Unit → Tree (Exit × St) := fun (dir, len, _, _, _, _, _, _, _, i, _, nd, k, dl, dn, di, now, l, m, le, nn, d, a, b, c, e, f, h, least, best, _, x, y, z, x2, y2, z2, x3, y3, z3, _) => .leaf (.exit 2, L_walkK_0.st (usd noU (L_walk.ids ++ rowIds 2000000 L_walk.shs)) (dir, len, (), (), (), (), (), (), (), dl, dn, di, now, l, m, le, nn, d, a, b, c, e, f, h, (kR (walkR (gOf l m le nn d a b c e f h) (le.toNat - now.length - 1)) now (x, y, z) (x3, y3, z3) i len nd (m + 1 - k).toNat k (best, least)).2, (kR (walkR (gOf l m le nn d a b c e f h) (le.toNat - now.length - 1)) now (x, y, z) (x3, y3, z3) i len nd (m + 1 - k).toNat k (best, least)).1, (), x, y, z, x2, y2, z2, ()))
def R_walkK (n : Nat) (hok : H_walk n) : LRun := runOf 116 L_walkK (fun x => x) (inv_walkK n hok) (O_walkK n hok)
theorem K_walkK (n : Nat) (hok : H_walk n) : LoopOk P [] 116 none (usd noU (L_walk.ids ++ rowIds 2000000 L_walk.shs)) C_walkK (R_walkK n hok) := by
  refine loop_of hm (cx := [c_times.gc, c_plus.gc, c_valid.gc, (r_walk n hok).gc]) [] (xl := X_walkK) (α := Int × Int × Unit × Unit × Unit × Unit × Unit × Unit × Unit × Int × Unit × Int × Int × List V × Int × Int × List V × List V × Int × Int × Int × Int × Int × Int × Int × Int × Int × Int × Int × List V × Unit × Int × Int × Int × Int × Int × Int × Int × Int × Int × Unit) (fun x => x) (fun (dir, len, _, _, _, _, _, _, _, i, _, nd, k, dl, dn, di, now, l, m, _) => (m + 1 - k).toNat) (fun _ => rfl) (by kernel_rfl) (by kernel_rfl) ?_ (by kernel_rfl) trivial ?_
  · intro e L' h
    unfold X_walkK at h
    split at h <;> cases h <;> kernel_rfl
  · rintro ⟨dir, len, ⟨⟩, ⟨⟩, ⟨⟩, ⟨⟩, ⟨⟩, ⟨⟩, ⟨⟩, i, ⟨⟩, nd, k, dl, dn, di, now, l, m, le, nn, d, a, b, c, e, f, h, least, best, ⟨⟩, x, y, z, x2, y2, z2, x3, y3, z3, ⟨⟩⟩ hinv Q hQ
    refine hold_of_eq (B_walkK n hok dir len i nd k dl dn di now l m le nn d a b c e f h least best x y z x2 y2 z2 x3 y3 z3) ?_

    obtain ⟨h0, h1, h2, h3, h4⟩ := hinv
    have hg := h0
    obtain ⟨g1, g2, g3, g4, g5⟩ := hg
    simp only [gOf] at g1 g2 g3 g4 g5
    unfold O_walkK at hQ
    dsimp only at hQ
    rw [W_id (n := k + 1) (by omega) (by omega)]
    refine ⟨fun hk => ?_, fun hk => ?_⟩
    · simp only [decide_eq_true_eq] at hk
      have e : (m + 1 - k).toNat = (m + 1 - (k + 1)).toNat + 1 := by omega
      rw [e, kR] at hQ
      have hm : (m + 1 - (k + 1)).toNat < (m + 1 - k).toNat := by omega
      refine ⟨fun hv => ?_, fun hv => ?_⟩
      · rw [if_pos hv] at hQ
        generalize vmul (x3, y3, z3) k = v at *
        have hlen : (now ++ [v]).length = now.length + 1 := by rw [List.length_append, List.length_singleton]
        rw [W_id (n := ((now ++ [v]).length : Int) - 1) (by omega) (by omega)]
        have ht : List.take (Int.toNat (((now ++ [v]).length : Int) - 1)) (now ++ [v]) = now := by
          rw [hlen, show ((now.length + 1 : Nat) : Int) - 1 = (now.length : Int) by omega, Int.toNat_natCast, List.take_left']
          rfl
        rw [ht]
        have e2 : le.toNat - (now ++ [v]).length = le.toNat - now.length - 1 := by omega
        rw [e2]
        exact ⟨by simp only [List.length_cons, List.length_nil]; omega, ⟨⟨h0, by show (((now ++ [v]).length : Nat) : Int) ≤ le; omega⟩, by show le.toNat - (now ++ [v]).length < n; omega⟩, ⟨by omega, by omega⟩, ⟨⟨h0, h1, h2, by omega, by show k + 1 ≤ m + 1; omega⟩, hm⟩, hQ⟩
      · rw [if_neg (by rw [hv]; decide)] at hQ
        exact ⟨⟨⟨h0, h1, h2, by omega, by show k + 1 ≤ m + 1; omega⟩, hm⟩, hQ⟩
    · simp only [decide_eq_false_iff_not] at hk
      rw [show (m + 1 - k).toNat = 0 by omega, kR] at hQ
      exact hQ
def L_walkD : Lay := { slots := [(2, .val tI), (3, .val tI), (4, .ptr 1 0), (5, .ptr 2 0), (6, .ptr 3 0), (7, .ptr 4 0), (8, .ptr 5 0), (9, .ptr 10116 0), (10, .ptr 11116 0), (59, .val tVs), (60, .val tI), (61, .val tI)], boxes := [(1, [.row 23 tV]), (2, bGoal), (3, [.val tI]), (4, [.val tVs]), (5, [.clo 102 [(1, 0), (2, 0), (3, 0), (4, 0), (5, 0)]]), (10116, [.val tI, .val tI, .val tI]), (11116, [.val tI, .val tI, .val tI])], rb := 2000000 }
def L_walkD_0 : Lay := { slots := [], boxes := [(1, [.row 23 tV]), (2, bGoal), (3, [.val tI]), (4, [.val tVs]), (5, [.clo 102 [(1, 0), (2, 0), (3, 0), (4, 0), (5, 0)]])], rb := 2000000 }
def X_walkD : Exit → Option Lay
  | .exit 0 => some L_walkD_0
  | _ => none
abbrev C_walkD : Code := loopC (bodyOf Try.f102) 0
theorem B_walkD (n : Nat) (hok : H_walk n) (dir len : Int) (dl : List V) (dn di : Int) (now l : List V) (m le nn d a b c e f h least : Int) (best : List V) (x y z x2 y2 z2 : Int) : loopBodyA (P := P) [c_whole.gc, c_bends.gc] (lpOf [(2, R_walkK n hok)]) [] 116 (usd noU (L_walk.ids ++ rowIds 2000000 L_walk.shs)) (inner C_walkD) L_walkD X_walkD (α := Int × Int × Unit × Unit × Unit × Unit × Unit × Unit × Unit × List V × Int × Int × List V × List V × Int × Int × Int × Int × Int × Int × Int × Int × Int × Int × Int × List V × Unit × Int × Int × Int × Int × Int × Int × Unit) (fun x => x) (fun x => x) (dir, len, (), (), (), (), (), (), (), dl, dn, di, now, l, m, le, nn, d, a, b, c, e, f, h, least, best, (), x, y, z, x2, y2, z2, ()) =
  Tree.cond (decide (di < dn)) (Tree.need ((0 : Int) ≤ di ∧ di < (↑(List.length dl) : Int)) (Tree.cond (di == dir) (Tree.leaf (Sum.inl (dir, len, PUnit.unit, PUnit.unit, PUnit.unit, PUnit.unit, PUnit.unit, PUnit.unit, PUnit.unit, dl, dn, IntKind.wrap IntKind.i64 (di + (1 : Int)), now, l, m, le, nn, d, a, b, c, e, f, h, least, best, PUnit.unit, x, y, z, x2, y2, z2, PUnit.unit))) (Tree.cond (!bendsS (x2, y2, z2) (List.getD dl (Int.toNat di) ((0 : Int), (0 : Int), (0 : Int))) (nn, d)) (Tree.leaf (Sum.inl (dir, len, PUnit.unit, PUnit.unit, PUnit.unit, PUnit.unit, PUnit.unit, PUnit.unit, PUnit.unit, dl, dn, IntKind.wrap IntKind.i64 (di + (1 : Int)), now, l, m, le, nn, d, a, b, c, e, f, h, least, best, PUnit.unit, x, y, z, x2, y2, z2, PUnit.unit))) (Tree.need (inv_walkK n hok (dir, len, (), (), (), (), (), (), (), di, (), (wholeS (List.getD dl (Int.toNat di) ((0 : Int), (0 : Int), (0 : Int)))).fst, (1 : Int), dl, dn, di, now, l, m, le, nn, d, a, b, c, e, f, h, least, best, (), x, y, z, x2, y2, z2, (List.getD dl (Int.toNat di) ((0 : Int), (0 : Int), (0 : Int))).fst, (List.getD dl (Int.toNat di) ((0 : Int), (0 : Int), (0 : Int))).snd.fst, (List.getD dl (Int.toNat di) ((0 : Int), (0 : Int), (0 : Int))).snd.snd, ())) (Tree.leaf (Sum.inl (dir, len, PUnit.unit, PUnit.unit, PUnit.unit, PUnit.unit, PUnit.unit, PUnit.unit, PUnit.unit, dl, dn, IntKind.wrap IntKind.i64 (di + (1 : Int)), now, l, m, le, nn, d, a, b, c, e, f, h, (kR (walkR (gOf l m le nn d a b c e f h) (Int.toNat le - List.length now - (1 : Nat))) now (x, y, z) (List.getD dl (Int.toNat di) ((0 : Int), (0 : Int), (0 : Int))) di len (wholeS (List.getD dl (Int.toNat di) ((0 : Int), (0 : Int), (0 : Int)))).fst (Int.toNat (m + (1 : Int) - (1 : Int))) (1 : Int) (best, least)).snd, (kR (walkR (gOf l m le nn d a b c e f h) (Int.toNat le - List.length now - (1 : Nat))) now (x, y, z) (List.getD dl (Int.toNat di) ((0 : Int), (0 : Int), (0 : Int))) di len (wholeS (List.getD dl (Int.toNat di) ((0 : Int), (0 : Int), (0 : Int)))).fst (Int.toNat (m + (1 : Int) - (1 : Int))) (1 : Int) (best, least)).fst, PUnit.unit, x, y, z, x2, y2, z2, PUnit.unit))))))) (Tree.leaf (Sum.inr (Exit.exit (0 : Nat), Lay.st L_walkD_0 (usd noU (Lay.ids L_walk ++ rowIds (2000000 : Nat) (Lay.shs L_walk))) (now, l, m, le, nn, d, a, b, c, e, f, h, least, best, PUnit.unit, PUnit.unit)))) := by kernel_rfl

def inv_walkD (n : Nat) (hok : H_walk n) : Int × Int × Unit × Unit × Unit × Unit × Unit × Unit × Unit × List V × Int × Int × List V × List V × Int × Int × Int × Int × Int × Int × Int × Int × Int × Int × Int × List V × Unit × Int × Int × Int × Int × Int × Int × Unit → Prop := fun (dir, len, _, _, _, _, _, _, _, dl, dn, di, now, l, m, le, nn, d, a, b, c, e, f, h, least, best, _, x, y, z, x2, y2, z2, _) => okGoal (gOf l m le nn d a b c e f h) ∧ (now.length : Int) < le ∧ le.toNat - now.length ≤ n ∧ dl = l ∧ dn = l.length ∧ 0 ≤ di ∧ di ≤ l.length
def O_walkD (n : Nat) (hok : H_walk n) : Int × Int × Unit × Unit × Unit × Unit × Unit × Unit × Unit × List V × Int × Int × List V × List V × Int × Int × Int × Int × Int × Int × Int × Int × Int × Int × Int × List V × Unit × Int × Int × Int × Int × Int × Int × Unit → Tree (Exit × St) := fun (dir, len, _, _, _, _, _, _, _, dl, dn, di, now, l, m, le, nn, d, a, b, c, e, f, h, least, best, _, x, y, z, x2, y2, z2, _) => .leaf (.exit 0, L_walkD_0.st (usd noU (L_walk.ids ++ rowIds 2000000 L_walk.shs)) (now, l, m, le, nn, d, a, b, c, e, f, h, (dR (walkR (gOf l m le nn d a b c e f h) (le.toNat - now.length - 1)) (gOf l m le nn d a b c e f h) now (x, y, z) (x2, y2, z2) dir len (l.drop di.toNat) di (best, least)).2, (dR (walkR (gOf l m le nn d a b c e f h) (le.toNat - now.length - 1)) (gOf l m le nn d a b c e f h) now (x, y, z) (x2, y2, z2) dir len (l.drop di.toNat) di (best, least)).1, (), ()))
def R_walkD (n : Nat) (hok : H_walk n) : LRun := runOf 116 L_walkD (fun x => x) (inv_walkD n hok) (O_walkD n hok)
theorem K_walkD (n : Nat) (hok : H_walk n) : LoopOk P [] 116 none (usd noU (L_walk.ids ++ rowIds 2000000 L_walk.shs)) C_walkD (R_walkD n hok) := by
  refine loop_of hm (cx := [c_whole.gc, c_bends.gc]) [(2, R_walkK n hok)] (xl := X_walkD) (α := Int × Int × Unit × Unit × Unit × Unit × Unit × Unit × Unit × List V × Int × Int × List V × List V × Int × Int × Int × Int × Int × Int × Int × Int × Int × Int × Int × List V × Unit × Int × Int × Int × Int × Int × Int × Unit) (fun x => x) (fun (dir, len, _, _, _, _, _, _, _, dl, dn, di, now, l, m, _) => (l.length - di).toNat) (fun _ => rfl) (by kernel_rfl) (by kernel_rfl) ?_ (by kernel_rfl) ⟨K_walkK n hok, trivial⟩ ?_
  · intro e L' h
    unfold X_walkD at h
    split at h <;> cases h <;> kernel_rfl
  · rintro ⟨dir, len, ⟨⟩, ⟨⟩, ⟨⟩, ⟨⟩, ⟨⟩, ⟨⟩, ⟨⟩, dl, dn, di, now, l, m, le, nn, d, a, b, c, e, f, h, least, best, ⟨⟩, x, y, z, x2, y2, z2, ⟨⟩⟩ hinv Q hQ
    refine hold_of_eq (B_walkD n hok dir len dl dn di now l m le nn d a b c e f h least best x y z x2 y2 z2) ?_

    obtain ⟨h0, h1, h2, h3, h4, h5, h6⟩ := hinv
    subst h3 h4
    have hg := h0
    obtain ⟨g1, g2, g3, g4, g5⟩ := hg
    simp only [gOf] at g1 g2 g3 g4 g5
    unfold O_walkD at hQ
    dsimp only at hQ
    rw [W_id (n := di + 1) (by omega) (by omega)]
    refine ⟨fun hi => ?_, fun hi => ?_⟩
    · simp only [decide_eq_true_eq] at hi
      have hm : ((dl.length : Int) - (di + 1)).toNat < ((dl.length : Int) - di).toNat := by omega
      rw [drop_step (0, 0, 0) h5 hi, dR] at hQ
      generalize dl.getD di.toNat (0, 0, 0) = D at *
      refine ⟨⟨h5, hi⟩, fun hd => ?_, fun hd => ⟨fun hb => ?_, fun hb => ⟨?_, ?_⟩⟩⟩
      · simp only [beq_iff_eq] at hd
        rw [if_pos (Or.inl hd)] at hQ
        exact ⟨⟨⟨h0, h1, h2, rfl, rfl, by omega, by omega⟩, hm⟩, hQ⟩
      · simp only [Bool.not_eq_true'] at hb
        rw [if_pos (show di = dir ∨ bendsS (x2, y2, z2) D (gOf dl m le nn d a b c e f h).2.2.2.1 = false from Or.inr hb)] at hQ
        exact ⟨⟨⟨h0, h1, h2, rfl, rfl, by omega, by omega⟩, hm⟩, hQ⟩
      · exact ⟨h0, h1, h2, by decide, by show (1 : Int) ≤ m + 1; omega⟩
      · simp only [beq_eq_false_iff_ne, ne_eq] at hd
        simp only [Bool.not_eq_false'] at hb
        rw [if_neg (show ¬ (di = dir ∨ bendsS (x2, y2, z2) D (gOf dl m le nn d a b c e f h).2.2.2.1 = false) from fun k => k.elim hd (fun k => Bool.noConfusion (hb.symm.trans k)))] at hQ
        rw [show m + 1 - 1 = m by omega]
        exact ⟨⟨⟨h0, h1, h2, rfl, rfl, by omega, by omega⟩, hm⟩, hQ⟩
    · simp only [decide_eq_false_iff_not] at hi
      rw [drop_end hi, dR] at hQ
      exact hQ

def svL (l : List V) (m le nn d a b c e f h : Int) : List SV := [.sl tV l, .int .i64 m, .int .i64 le, .int .i64 nn, .int .i64 d, .int .i64 a, .int .i64 b, .int .i64 c, .int .i64 e, .int .i64 f, .int .i64 h]
/-- What the search hands back. -/
def mk (sg : List SV) (now : List V) (b : Best) : MOut := ⟨.tup [], [[.own 100], sg, [.int .i64 b.2], [.sl tV b.1], [.fn 102 [.ptr 1 0, .ptr 2 0, .ptr 3 0, .ptr 4 0, .ptr 5 0]]], [.row 23 tV now]⟩
theorem T_walk (n : Nat) (hok : H_walk n) (x y z x2 y2 z2 dir len : Int) (now l : List V) (m le nn d a b c e f h least : Int) (best : List V) : mTree (P := P) [c_within.gc, c_clone.gc, c_bends.gc, c_whole.gc, c_times.gc, c_plus.gc, c_valid.gc, (r_walk n hok).gc] (lpOf [(0, R_walkD n hok)]) Try.f102 L_walk true ((x, y, z), (x2, y2, z2), dir, len, (), (), (), (), (), now, l, m, le, nn, d, a, b, c, e, f, h, least, best, (), ()) =
  Tree.cond (decide ((↑(List.length now) : Int) > (0 : Int)))
  (Tree.cond (withinS (x, y, z) ((a, b, c), e, f, h))
    (Tree.cond (decide (least < (0 : Int))) (Tree.need (now ≠ [] ∧ List.length now ≤ (1000 : Nat)) (Tree.cond ((↑(List.length now) : Int) == le) (Tree.leaf { res := SV.tup [], boxes := [[SV.own (nat_lit 100 + (0 : Nat))], [SV.sl tV l, SV.int IntKind.i64 m, SV.int IntKind.i64 le, SV.int IntKind.i64 nn, SV.int IntKind.i64 d, SV.int IntKind.i64 a, SV.int IntKind.i64 b, SV.int IntKind.i64 c, SV.int IntKind.i64 e, SV.int IntKind.i64 f, SV.int IntKind.i64 h], [SV.int IntKind.i64 len], [SV.sl tV now], [SV.fn (102 : FuncId) [SV.ptr (1 : Nat) (0 : Nat), SV.ptr (2 : Nat) (0 : Nat), SV.ptr (3 : Nat) (0 : Nat), SV.ptr (4 : Nat) (0 : Nat), SV.ptr (5 : Nat) (0 : Nat)]]], news := [Ob.row (23 : TypeId) tV now] }) (Tree.need (inv_walkD n hok (dir, len, (), (), (), (), (), (), (), l, (↑(List.length l) : Int), (0 : Int), now, l, m, le, nn, d, a, b, c, e, f, h, len, now, (), x, y, z, x2, y2, z2, ())) (Tree.leaf { res := SV.tup [], boxes := [[SV.own (nat_lit 100 + (0 : Nat))], [SV.sl tV l, SV.int IntKind.i64 m, SV.int IntKind.i64 le, SV.int IntKind.i64 nn, SV.int IntKind.i64 d, SV.int IntKind.i64 a, SV.int IntKind.i64 b, SV.int IntKind.i64 c, SV.int IntKind.i64 e, SV.int IntKind.i64 f, SV.int IntKind.i64 h], [SV.int IntKind.i64 (dR (walkR (gOf l m le nn d a b c e f h) (Int.toNat le - List.length now - (1 : Nat))) (gOf l m le nn d a b c e f h) now (x, y, z) (x2, y2, z2) dir len (List.drop (Int.toNat (0 : Int)) l) (0 : Int) (now, len)).snd], [SV.sl tV (dR (walkR (gOf l m le nn d a b c e f h) (Int.toNat le - List.length now - (1 : Nat))) (gOf l m le nn d a b c e f h) now (x, y, z) (x2, y2, z2) dir len (List.drop (Int.toNat (0 : Int)) l) (0 : Int) (now, len)).fst], [SV.fn (102 : FuncId) [SV.ptr (1 : Nat) (0 : Nat), SV.ptr (2 : Nat) (0 : Nat), SV.ptr (3 : Nat) (0 : Nat), SV.ptr (4 : Nat) (0 : Nat), SV.ptr (5 : Nat) (0 : Nat)]]], news := [Ob.row (23 : TypeId) tV now] }))))
      (Tree.cond (decide (len < least)) (Tree.need (now ≠ [] ∧ List.length now ≤ (1000 : Nat)) (Tree.cond ((↑(List.length now) : Int) == le) (Tree.leaf { res := SV.tup [], boxes := [[SV.own (nat_lit 100 + (0 : Nat))], [SV.sl tV l, SV.int IntKind.i64 m, SV.int IntKind.i64 le, SV.int IntKind.i64 nn, SV.int IntKind.i64 d, SV.int IntKind.i64 a, SV.int IntKind.i64 b, SV.int IntKind.i64 c, SV.int IntKind.i64 e, SV.int IntKind.i64 f, SV.int IntKind.i64 h], [SV.int IntKind.i64 len], [SV.sl tV now], [SV.fn (102 : FuncId) [SV.ptr (1 : Nat) (0 : Nat), SV.ptr (2 : Nat) (0 : Nat), SV.ptr (3 : Nat) (0 : Nat), SV.ptr (4 : Nat) (0 : Nat), SV.ptr (5 : Nat) (0 : Nat)]]], news := [Ob.row (23 : TypeId) tV now] }) (Tree.need (inv_walkD n hok (dir, len, (), (), (), (), (), (), (), l, (↑(List.length l) : Int), (0 : Int), now, l, m, le, nn, d, a, b, c, e, f, h, len, now, (), x, y, z, x2, y2, z2, ())) (Tree.leaf { res := SV.tup [], boxes := [[SV.own (nat_lit 100 + (0 : Nat))], [SV.sl tV l, SV.int IntKind.i64 m, SV.int IntKind.i64 le, SV.int IntKind.i64 nn, SV.int IntKind.i64 d, SV.int IntKind.i64 a, SV.int IntKind.i64 b, SV.int IntKind.i64 c, SV.int IntKind.i64 e, SV.int IntKind.i64 f, SV.int IntKind.i64 h], [SV.int IntKind.i64 (dR (walkR (gOf l m le nn d a b c e f h) (Int.toNat le - List.length now - (1 : Nat))) (gOf l m le nn d a b c e f h) now (x, y, z) (x2, y2, z2) dir len (List.drop (Int.toNat (0 : Int)) l) (0 : Int) (now, len)).snd], [SV.sl tV (dR (walkR (gOf l m le nn d a b c e f h) (Int.toNat le - List.length now - (1 : Nat))) (gOf l m le nn d a b c e f h) now (x, y, z) (x2, y2, z2) dir len (List.drop (Int.toNat (0 : Int)) l) (0 : Int) (now, len)).fst], [SV.fn (102 : FuncId) [SV.ptr (1 : Nat) (0 : Nat), SV.ptr (2 : Nat) (0 : Nat), SV.ptr (3 : Nat) (0 : Nat), SV.ptr (4 : Nat) (0 : Nat), SV.ptr (5 : Nat) (0 : Nat)]]], news := [Ob.row (23 : TypeId) tV now] }))))
        (Tree.cond (len == least) (Tree.cond (decide ((↑(List.length now) : Int) < (↑(List.length best) : Int))) (Tree.need (now ≠ [] ∧ List.length now ≤ (1000 : Nat)) (Tree.cond ((↑(List.length now) : Int) == le) (Tree.leaf { res := SV.tup [], boxes := [[SV.own (nat_lit 100 + (0 : Nat))], [SV.sl tV l, SV.int IntKind.i64 m, SV.int IntKind.i64 le, SV.int IntKind.i64 nn, SV.int IntKind.i64 d, SV.int IntKind.i64 a, SV.int IntKind.i64 b, SV.int IntKind.i64 c, SV.int IntKind.i64 e, SV.int IntKind.i64 f, SV.int IntKind.i64 h], [SV.int IntKind.i64 len], [SV.sl tV now], [SV.fn (102 : FuncId) [SV.ptr (1 : Nat) (0 : Nat), SV.ptr (2 : Nat) (0 : Nat), SV.ptr (3 : Nat) (0 : Nat), SV.ptr (4 : Nat) (0 : Nat), SV.ptr (5 : Nat) (0 : Nat)]]], news := [Ob.row (23 : TypeId) tV now] }) (Tree.need (inv_walkD n hok (dir, len, (), (), (), (), (), (), (), l, (↑(List.length l) : Int), (0 : Int), now, l, m, le, nn, d, a, b, c, e, f, h, len, now, (), x, y, z, x2, y2, z2, ())) (Tree.leaf { res := SV.tup [], boxes := [[SV.own (nat_lit 100 + (0 : Nat))], [SV.sl tV l, SV.int IntKind.i64 m, SV.int IntKind.i64 le, SV.int IntKind.i64 nn, SV.int IntKind.i64 d, SV.int IntKind.i64 a, SV.int IntKind.i64 b, SV.int IntKind.i64 c, SV.int IntKind.i64 e, SV.int IntKind.i64 f, SV.int IntKind.i64 h], [SV.int IntKind.i64 (dR (walkR (gOf l m le nn d a b c e f h) (Int.toNat le - List.length now - (1 : Nat))) (gOf l m le nn d a b c e f h) now (x, y, z) (x2, y2, z2) dir len (List.drop (Int.toNat (0 : Int)) l) (0 : Int) (now, len)).snd], [SV.sl tV (dR (walkR (gOf l m le nn d a b c e f h) (Int.toNat le - List.length now - (1 : Nat))) (gOf l m le nn d a b c e f h) now (x, y, z) (x2, y2, z2) dir len (List.drop (Int.toNat (0 : Int)) l) (0 : Int) (now, len)).fst], [SV.fn (102 : FuncId) [SV.ptr (1 : Nat) (0 : Nat), SV.ptr (2 : Nat) (0 : Nat), SV.ptr (3 : Nat) (0 : Nat), SV.ptr (4 : Nat) (0 : Nat), SV.ptr (5 : Nat) (0 : Nat)]]], news := [Ob.row (23 : TypeId) tV now] })))) (Tree.cond ((↑(List.length now) : Int) == le) (Tree.leaf { res := SV.tup [], boxes := [[SV.own (nat_lit 100 + (0 : Nat))], [SV.sl tV l, SV.int IntKind.i64 m, SV.int IntKind.i64 le, SV.int IntKind.i64 nn, SV.int IntKind.i64 d, SV.int IntKind.i64 a, SV.int IntKind.i64 b, SV.int IntKind.i64 c, SV.int IntKind.i64 e, SV.int IntKind.i64 f, SV.int IntKind.i64 h], [SV.int IntKind.i64 least], [SV.sl tV best], [SV.fn (102 : FuncId) [SV.ptr (1 : Nat) (0 : Nat), SV.ptr (2 : Nat) (0 : Nat), SV.ptr (3 : Nat) (0 : Nat), SV.ptr (4 : Nat) (0 : Nat), SV.ptr (5 : Nat) (0 : Nat)]]], news := [Ob.row (23 : TypeId) tV now] }) (Tree.need (inv_walkD n hok (dir, len, (), (), (), (), (), (), (), l, (↑(List.length l) : Int), (0 : Int), now, l, m, le, nn, d, a, b, c, e, f, h, least, best, (), x, y, z, x2, y2, z2, ())) (Tree.leaf { res := SV.tup [], boxes := [[SV.own (nat_lit 100 + (0 : Nat))], [SV.sl tV l, SV.int IntKind.i64 m, SV.int IntKind.i64 le, SV.int IntKind.i64 nn, SV.int IntKind.i64 d, SV.int IntKind.i64 a, SV.int IntKind.i64 b, SV.int IntKind.i64 c, SV.int IntKind.i64 e, SV.int IntKind.i64 f, SV.int IntKind.i64 h], [SV.int IntKind.i64 (dR (walkR (gOf l m le nn d a b c e f h) (Int.toNat le - List.length now - (1 : Nat))) (gOf l m le nn d a b c e f h) now (x, y, z) (x2, y2, z2) dir len (List.drop (Int.toNat (0 : Int)) l) (0 : Int) (best, least)).snd], [SV.sl tV (dR (walkR (gOf l m le nn d a b c e f h) (Int.toNat le - List.length now - (1 : Nat))) (gOf l m le nn d a b c e f h) now (x, y, z) (x2, y2, z2) dir len (List.drop (Int.toNat (0 : Int)) l) (0 : Int) (best, least)).fst], [SV.fn (102 : FuncId) [SV.ptr (1 : Nat) (0 : Nat), SV.ptr (2 : Nat) (0 : Nat), SV.ptr (3 : Nat) (0 : Nat), SV.ptr (4 : Nat) (0 : Nat), SV.ptr (5 : Nat) (0 : Nat)]]], news := [Ob.row (23 : TypeId) tV now] }))))
          (Tree.cond ((↑(List.length now) : Int) == le) (Tree.leaf { res := SV.tup [], boxes := [[SV.own (nat_lit 100 + (0 : Nat))], [SV.sl tV l, SV.int IntKind.i64 m, SV.int IntKind.i64 le, SV.int IntKind.i64 nn, SV.int IntKind.i64 d, SV.int IntKind.i64 a, SV.int IntKind.i64 b, SV.int IntKind.i64 c, SV.int IntKind.i64 e, SV.int IntKind.i64 f, SV.int IntKind.i64 h], [SV.int IntKind.i64 least], [SV.sl tV best], [SV.fn (102 : FuncId) [SV.ptr (1 : Nat) (0 : Nat), SV.ptr (2 : Nat) (0 : Nat), SV.ptr (3 : Nat) (0 : Nat), SV.ptr (4 : Nat) (0 : Nat), SV.ptr (5 : Nat) (0 : Nat)]]], news := [Ob.row (23 : TypeId) tV now] }) (Tree.need (inv_walkD n hok (dir, len, (), (), (), (), (), (), (), l, (↑(List.length l) : Int), (0 : Int), now, l, m, le, nn, d, a, b, c, e, f, h, least, best, (), x, y, z, x2, y2, z2, ())) (Tree.leaf { res := SV.tup [], boxes := [[SV.own (nat_lit 100 + (0 : Nat))], [SV.sl tV l, SV.int IntKind.i64 m, SV.int IntKind.i64 le, SV.int IntKind.i64 nn, SV.int IntKind.i64 d, SV.int IntKind.i64 a, SV.int IntKind.i64 b, SV.int IntKind.i64 c, SV.int IntKind.i64 e, SV.int IntKind.i64 f, SV.int IntKind.i64 h], [SV.int IntKind.i64 (dR (walkR (gOf l m le nn d a b c e f h) (Int.toNat le - List.length now - (1 : Nat))) (gOf l m le nn d a b c e f h) now (x, y, z) (x2, y2, z2) dir len (List.drop (Int.toNat (0 : Int)) l) (0 : Int) (best, least)).snd], [SV.sl tV (dR (walkR (gOf l m le nn d a b c e f h) (Int.toNat le - List.length now - (1 : Nat))) (gOf l m le nn d a b c e f h) now (x, y, z) (x2, y2, z2) dir len (List.drop (Int.toNat (0 : Int)) l) (0 : Int) (best, least)).fst], [SV.fn (102 : FuncId) [SV.ptr (1 : Nat) (0 : Nat), SV.ptr (2 : Nat) (0 : Nat), SV.ptr (3 : Nat) (0 : Nat), SV.ptr (4 : Nat) (0 : Nat), SV.ptr (5 : Nat) (0 : Nat)]]], news := [Ob.row (23 : TypeId) tV now] }))))))
    (Tree.cond ((↑(List.length now) : Int) == le) (Tree.leaf { res := SV.tup [], boxes := [[SV.own (nat_lit 100 + (0 : Nat))], [SV.sl tV l, SV.int IntKind.i64 m, SV.int IntKind.i64 le, SV.int IntKind.i64 nn, SV.int IntKind.i64 d, SV.int IntKind.i64 a, SV.int IntKind.i64 b, SV.int IntKind.i64 c, SV.int IntKind.i64 e, SV.int IntKind.i64 f, SV.int IntKind.i64 h], [SV.int IntKind.i64 least], [SV.sl tV best], [SV.fn (102 : FuncId) [SV.ptr (1 : Nat) (0 : Nat), SV.ptr (2 : Nat) (0 : Nat), SV.ptr (3 : Nat) (0 : Nat), SV.ptr (4 : Nat) (0 : Nat), SV.ptr (5 : Nat) (0 : Nat)]]], news := [Ob.row (23 : TypeId) tV now] }) (Tree.need (inv_walkD n hok (dir, len, (), (), (), (), (), (), (), l, (↑(List.length l) : Int), (0 : Int), now, l, m, le, nn, d, a, b, c, e, f, h, least, best, (), x, y, z, x2, y2, z2, ())) (Tree.leaf { res := SV.tup [], boxes := [[SV.own (nat_lit 100 + (0 : Nat))], [SV.sl tV l, SV.int IntKind.i64 m, SV.int IntKind.i64 le, SV.int IntKind.i64 nn, SV.int IntKind.i64 d, SV.int IntKind.i64 a, SV.int IntKind.i64 b, SV.int IntKind.i64 c, SV.int IntKind.i64 e, SV.int IntKind.i64 f, SV.int IntKind.i64 h], [SV.int IntKind.i64 (dR (walkR (gOf l m le nn d a b c e f h) (Int.toNat le - List.length now - (1 : Nat))) (gOf l m le nn d a b c e f h) now (x, y, z) (x2, y2, z2) dir len (List.drop (Int.toNat (0 : Int)) l) (0 : Int) (best, least)).snd], [SV.sl tV (dR (walkR (gOf l m le nn d a b c e f h) (Int.toNat le - List.length now - (1 : Nat))) (gOf l m le nn d a b c e f h) now (x, y, z) (x2, y2, z2) dir len (List.drop (Int.toNat (0 : Int)) l) (0 : Int) (best, least)).fst], [SV.fn (102 : FuncId) [SV.ptr (1 : Nat) (0 : Nat), SV.ptr (2 : Nat) (0 : Nat), SV.ptr (3 : Nat) (0 : Nat), SV.ptr (4 : Nat) (0 : Nat), SV.ptr (5 : Nat) (0 : Nat)]]], news := [Ob.row (23 : TypeId) tV now] }))))
  (Tree.cond ((↑(List.length now) : Int) == le) (Tree.leaf { res := SV.tup [], boxes := [[SV.own (nat_lit 100 + (0 : Nat))], [SV.sl tV l, SV.int IntKind.i64 m, SV.int IntKind.i64 le, SV.int IntKind.i64 nn, SV.int IntKind.i64 d, SV.int IntKind.i64 a, SV.int IntKind.i64 b, SV.int IntKind.i64 c, SV.int IntKind.i64 e, SV.int IntKind.i64 f, SV.int IntKind.i64 h], [SV.int IntKind.i64 least], [SV.sl tV best], [SV.fn (102 : FuncId) [SV.ptr (1 : Nat) (0 : Nat), SV.ptr (2 : Nat) (0 : Nat), SV.ptr (3 : Nat) (0 : Nat), SV.ptr (4 : Nat) (0 : Nat), SV.ptr (5 : Nat) (0 : Nat)]]], news := [Ob.row (23 : TypeId) tV now] }) (Tree.need (inv_walkD n hok (dir, len, (), (), (), (), (), (), (), l, (↑(List.length l) : Int), (0 : Int), now, l, m, le, nn, d, a, b, c, e, f, h, least, best, (), x, y, z, x2, y2, z2, ())) (Tree.leaf { res := SV.tup [], boxes := [[SV.own (nat_lit 100 + (0 : Nat))], [SV.sl tV l, SV.int IntKind.i64 m, SV.int IntKind.i64 le, SV.int IntKind.i64 nn, SV.int IntKind.i64 d, SV.int IntKind.i64 a, SV.int IntKind.i64 b, SV.int IntKind.i64 c, SV.int IntKind.i64 e, SV.int IntKind.i64 f, SV.int IntKind.i64 h], [SV.int IntKind.i64 (dR (walkR (gOf l m le nn d a b c e f h) (Int.toNat le - List.length now - (1 : Nat))) (gOf l m le nn d a b c e f h) now (x, y, z) (x2, y2, z2) dir len (List.drop (Int.toNat (0 : Int)) l) (0 : Int) (best, least)).snd], [SV.sl tV (dR (walkR (gOf l m le nn d a b c e f h) (Int.toNat le - List.length now - (1 : Nat))) (gOf l m le nn d a b c e f h) now (x, y, z) (x2, y2, z2) dir len (List.drop (Int.toNat (0 : Int)) l) (0 : Int) (best, least)).fst], [SV.fn (102 : FuncId) [SV.ptr (1 : Nat) (0 : Nat), SV.ptr (2 : Nat) (0 : Nat), SV.ptr (3 : Nat) (0 : Nat), SV.ptr (4 : Nat) (0 : Nat), SV.ptr (5 : Nat) (0 : Nat)]]], news := [Ob.row (23 : TypeId) tV now] }))) := by kernel_rfl

theorem M_walk : ∀ n, H_walk n := by
  intro n
  induction n with
  | zero => exact fun a h => absurd h.2 (Nat.not_lt_zero _)
  | succ n hok =>
    rintro ⟨⟨x, y, z⟩, ⟨x2, y2, z2⟩, dir, len, ⟨⟩, ⟨⟩, ⟨⟩, ⟨⟩, ⟨⟩, now, l, m, le, nn, d, a, b, c, e, f, h, least, best, ⟨⟩, ⟨⟩⟩ hp
    refine m_of hm (own := true) (by kernel_rfl) (by kernel_rfl) (by kernel_rfl) (T_walk n hok x y z x2 y2 z2 dir len now l m le nn d a b c e f h least best) ⟨K_walkD n hok, trivial⟩ ?_

    obtain ⟨⟨h0, h1⟩, h2⟩ := hp
    have h2' : le.toNat - now.length < n + 1 := h2
    have h1' : (now.length : Int) ≤ le := h1
    have hg := h0
    obtain ⟨g1, g2, g3, g4, g5⟩ := hg
    simp only [gOf] at g1 g2 g3 g4 g5
    show Tree.holds (fun s => s = mk (svL l m le nn d a b c e f h) now (walkR (gOf l m le nn d a b c e f h) (le.toNat - now.length) now (x, y, z) (x2, y2, z2) dir len (best, least))) _
    have hw : withinS (x, y, z) ((a, b, c), e, f, h) = withinS (x, y, z) (gOf l m le nn d a b c e f h).2.2.2.2 := rfl
    rw [hw]
    generalize hG : gOf l m le nn d a b c e f h = g at *
    have tail : ∀ (bb : List V) (bl : Int), hereS g now (x, y, z) len (best, least) = (bb, bl) →
        Tree.holds (fun s => s = mk (svL l m le nn d a b c e f h) now (walkR g (le.toNat - now.length) now (x, y, z) (x2, y2, z2) dir len (best, least))) (Tree.cond ((now.length : Int) == le) (Tree.leaf (mk (svL l m le nn d a b c e f h) now (bb, bl)))
          (Tree.need (inv_walkD n hok (dir, len, (), (), (), (), (), (), (), l, (l.length : Int), 0, now, l, m, le, nn, d, a, b, c, e, f, h, bl, bb, (), x, y, z, x2, y2, z2, ()))
            (Tree.leaf (mk (svL l m le nn d a b c e f h) now (dR (walkR g (le.toNat - now.length - 1)) g now (x, y, z) (x2, y2, z2) dir len (l.drop (Int.toNat 0)) 0 (bb, bl)))))) := by
      intro bb bl hb
      refine ⟨fun hl => ?_, fun hl => ⟨?_, ?_⟩⟩
      · simp only [beq_iff_eq] at hl
        rw [show le.toNat - now.length = 0 by omega, walkR, hb]
        exact rfl
      · simp only [beq_eq_false_iff_ne, ne_eq] at hl
        refine ⟨?_, by omega, by show le.toNat - now.length ≤ n; omega, rfl, rfl, by decide, by omega⟩
        show okGoal (gOf l m le nn d a b c e f h)
        rw [hG]; exact h0
      · simp only [beq_eq_false_iff_ne, ne_eq] at hl
        have e : le.toNat - now.length = le.toNat - now.length - 1 + 1 := by omega
        rw [e, walkR, hb, Nat.add_sub_cancel, Int.toNat_zero, List.drop_zero]
        have e3 : g.1 = l := by rw [← hG]; rfl
        rw [e3]
        exact rfl
    have no : ¬ (now ≠ [] ∧ withinS (x, y, z) g.2.2.2.2 = true ∧ (least < 0 ∨ len < least ∨ (len = least ∧ now.length < best.length))) → hereS g now (x, y, z) len (best, least) = (best, least) := fun h => if_neg h
    have yes : (now ≠ [] ∧ withinS (x, y, z) g.2.2.2.2 = true ∧ (least < 0 ∨ len < least ∨ (len = least ∧ now.length < best.length))) → hereS g now (x, y, z) len (best, least) = (now, len) := fun h => if_pos h
    have hne : (now.length : Int) > 0 → now ≠ [] := fun h e => by rw [e] at h; simp at h
    have hc : (now.length : Int) > 0 → now ≠ [] ∧ now.length ≤ 1000 := fun h => ⟨hne h, by omega⟩
    refine ⟨fun c1 => ⟨fun c2 => ⟨fun c3 => ⟨?_, ?_⟩, fun c3 => ⟨fun c4 => ⟨?_, ?_⟩, fun c4 => ⟨fun c5 => ⟨fun c6 => ⟨?_, ?_⟩, fun c6 => ?_⟩, fun c5 => ?_⟩⟩⟩, fun c2 => ?_⟩, fun c1 => ?_⟩
    all_goals simp only [beq_iff_eq, beq_eq_false_iff_ne, ne_eq, decide_eq_true_eq, decide_eq_false_iff_not] at *
    · exact hc c1
    · exact tail _ _ (yes ⟨hne c1, c2, .inl c3⟩)
    · exact hc c1
    · exact tail _ _ (yes ⟨hne c1, c2, .inr (.inl c4)⟩)
    · exact hc c1
    · exact tail _ _ (yes ⟨hne c1, c2, .inr (.inr ⟨c5, by omega⟩)⟩)
    · exact tail _ _ (no (by omega))
    · exact tail _ _ (no (by omega))
    · exact tail _ _ (no (fun h => by rw [c2] at h; exact Bool.noConfusion h.2.1))
    · exact tail _ _ (no (fun h => h.1 (List.eq_nil_of_length_eq_zero (by omega))))
def c_walk : MC P := MC.of (α := V × V × Int × Int × Unit × Unit × Unit × Unit × Unit × List V × List V × Int × Int × Int × Int × Int × Int × Int × Int × Int × Int × Int × List V × Unit × Unit) 102 L_walk (fun x => x) (fun x => x) (fun _ => rfl) (fun a => some (pre_walk a)) out_walk (by kernel_rfl) (by kernel_rfl) (by kernel_rfl) (fun a h => M_walk (mu_walk a + 1) a ⟨h, Nat.lt_succ_self _⟩)

end
end Go.MP
