/- The reference's search: go1, which calls itself. -/
import Derived.Test.YtnlflnbbgklalaaMpAa
import Derived.Test.YtnlflnbbgklalaaMpK
import Derived.Test.YtnlflnbbgklalaaMpJ
import Derived.Test.YtnlflnbbgklalaaFw4
namespace Go.MP
open Go Go.Sx Go.Proofs
set_option linter.unusedVariables false
set_option linter.unusedSimpArgs false
noncomputable section

theorem T_rin (a b c d e f x y z : Int) : fnTree (P := P) [] (lpOf []) Try.f133 (encL 0 [.agg tBoxZ, .agg tV] (((a, b, c), (d, e, f)), (x, y, z), ())) =
  Tree.cond (decide (x ≥ a)) (Tree.cond (decide (x ≤ d)) (Tree.cond (decide (y ≥ b)) (Tree.cond (decide (y ≤ e)) (Tree.cond (decide (z ≥ c)) (Tree.leaf (SV.bool (decide (z ≤ f)))) (Tree.leaf (SV.bool false))) (Tree.leaf (SV.bool false))) (Tree.leaf (SV.bool false))) (Tree.leaf (SV.bool false))) (Tree.leaf (SV.bool false)) := by kernel_rfl

def c_rin : PC P := PC.of (α := Box × V × Unit) 133 [.agg tBoxZ, .agg tV] (fun x => x) (fun x => x) (fun _ => rfl)
  (fun _ => none)
  (fun x => .bool (withinS x.2.1 x.1)) (by kernel_rfl) (by
    rintro ⟨⟨⟨a, b, c⟩, ⟨d, e, f⟩⟩, ⟨x, y, z⟩, ⟨⟩⟩ hp
    refine fn_of hm (by kernel_rfl) (by kernel_rfl) (T_rin a b c d e f x y z) trivial ?_

    show Tree.holds (fun s => s = SV.bool (withinS (x, y, z) ((a, b, c), (d, e, f)))) _
    unfold withinS
    refine ⟨fun h1 => ⟨fun h2 => ⟨fun h3 => ⟨fun h4 => ⟨fun h5 => ?_, fun h5 => ?_⟩, fun h4 => ?_⟩, fun h3 => ?_⟩, fun h2 => ?_⟩, fun h1 => ?_⟩
    all_goals simp only [ge_iff_le, decide_eq_true_eq, decide_eq_false_iff_not] at *
    · exact congrArg SV.bool (decide_eq_decide.2 ⟨fun h6 => ⟨h1, h2, h3, h4, h5, h6⟩, fun h => h.2.2.2.2.2⟩)
    · exact congrArg SV.bool (decide_eq_false fun h => h5 h.2.2.2.2.1).symm
    · exact congrArg SV.bool (decide_eq_false fun h => h4 h.2.2.2.1).symm
    · exact congrArg SV.bool (decide_eq_false fun h => h3 h.2.2.1).symm
    · exact congrArg SV.bool (decide_eq_false fun h => h2 h.2.1).symm
    · exact congrArg SV.bool (decide_eq_false fun h => h1 h.1).symm)
def rbendsS (v w : V) (t : Int × Int) : Bool := fgt (TurnS v w).1 t
theorem T_rbends (x y z a b c n d : Int) : fnTree (P := P) [c_rTurn.gc, c_Less.gc] (lpOf []) Try.f136 (encL 0 [.agg tV, .agg tV, .agg tPart] ((x, y, z), (a, b, c), (n, d), ())) =
  Tree.need (okF (n, d) ∧ okF (TurnS (x, y, z) (a, b, c)).fst) (Tree.leaf (SV.bool (fgt (TurnS (x, y, z) (a, b, c)).fst (n, d)))) := by kernel_rfl

def c_rbends : PC P := PC.of (α := V × V × (Int × Int) × Unit) 136 [.agg tV, .agg tV, .agg tPart] (fun x => x) (fun x => x) (fun _ => rfl)
  (fun x => some ((legS x.1).2 = true ∧ (legS x.2.1).2 = true ∧ okF x.2.2.1))
  (fun x => .bool (rbendsS x.1 x.2.1 x.2.2.1)) (by kernel_rfl) (by
    rintro ⟨⟨x, y, z⟩, ⟨a, b, c⟩, ⟨n, d⟩, ⟨⟩⟩ hp
    refine fn_of hm (by kernel_rfl) (by kernel_rfl) (T_rbends x y z a b c n d) trivial ?_

    obtain ⟨h1, h2, h3⟩ : (legS (x, y, z)).2 = true ∧ (legS (a, b, c)).2 = true ∧ okF (n, d) := hp
    refine ⟨⟨h3, ?_⟩, rfl⟩
    show okF (TurnS (x, y, z) (a, b, c)).1
    unfold TurnS
    rw [if_pos ⟨h1, h2⟩]
    exact turn_okF h1 h2)

/-- The best path so far, and whether there is one. -/
abbrev Fnd := Pth × Bool
abbrev bS : List Sh := [.val tVs, .val tI, .val tI, .val tI, .val tI, .val tI, .val tI, .val tI, .val tI, .val tI, .val tI, .val tI, .val tI, .val tI, .val tI, .val tI, .val tI, .val tVs, .row 3 tI, .val tI, .val tI, .val tI, .val tVs, .val .bool]
abbrev tSearch : Ty := .pair tGoal (.pair tV (.pair tPath (.pair (.sl tI) (.pair tPath .bool))))
abbrev Search := Goal × V × Pth × List Int × Pth × Bool
def endS (x : V) (l : List V) : V := (jl x l).getD l.length (0, 0, 0)
theorem T_rend (l : List V) (m le nn d a b c e f h p q r x y z : Int) (legs : List V) (dirs : List Int) (x2 y2 z2 : Int) (bl : List V) (fd : Bool) : fnTree (P := P) [c_rjoints.gc] (lpOf []) Try.f134 (encA 1 0 [.agg tSearch] (((l, m, le, (nn, d), ((a, b, c), (e, f, h))), (p, q, r), ((x, y, z), legs), dirs, ((x2, y2, z2), bl), fd), ())) =
  Tree.need (List.length legs ≤ (20 : Nat)) (Tree.need ((0 : Int) ≤ IntKind.wrap IntKind.i64 ((↑(List.length (jl (x, y, z) legs)) : Int) - (1 : Int)) ∧ IntKind.wrap IntKind.i64 ((↑(List.length (jl (x, y, z) legs)) : Int) - (1 : Int)) < (↑(List.length (jl (x, y, z) legs)) : Int)) (Tree.leaf (SV.agg [SV.int IntKind.i64 (List.getD (jl (x, y, z) legs) (Int.toNat (IntKind.wrap IntKind.i64 ((↑(List.length (jl (x, y, z) legs)) : Int) - (1 : Int)))) ((0 : Int), (0 : Int), (0 : Int))).fst, SV.int IntKind.i64 (List.getD (jl (x, y, z) legs) (Int.toNat (IntKind.wrap IntKind.i64 ((↑(List.length (jl (x, y, z) legs)) : Int) - (1 : Int)))) ((0 : Int), (0 : Int), (0 : Int))).snd.fst, SV.int IntKind.i64 (List.getD (jl (x, y, z) legs) (Int.toNat (IntKind.wrap IntKind.i64 ((↑(List.length (jl (x, y, z) legs)) : Int) - (1 : Int)))) ((0 : Int), (0 : Int), (0 : Int))).snd.snd]))) := by kernel_rfl

def c_rend : RC P := RC.of (α := Search × Unit) 134 1 [.agg tSearch] (fun x => x) (fun x => x) (fun _ => rfl)
  (fun x => some (x.1.2.2.1.2.length ≤ 20))
  (fun x => svV (endS x.1.2.2.1.1 x.1.2.2.1.2)) (by kernel_rfl) (by
    rintro ⟨⟨⟨l, m, le, ⟨nn, d⟩, ⟨⟨a, b, c⟩, ⟨e, f, h⟩⟩⟩, ⟨p, q, r⟩, ⟨⟨x, y, z⟩, legs⟩, dirs, ⟨⟨x2, y2, z2⟩, bl⟩, fd⟩, ⟨⟩⟩ hp
    refine fn_of hm (by kernel_rfl) (by kernel_rfl) (T_rend l m le nn d a b c e f h p q r x y z legs dirs x2 y2 z2 bl fd) trivial ?_

    have hp' : legs.length ≤ 20 := hp
    have hj := jl_length legs (x, y, z)
    rw [W_id (n := ((jl (x, y, z) legs).length : Int) - 1) (by omega) (by omega)]
    rw [show (((jl (x, y, z) legs).length : Int) - 1).toNat = legs.length by omega]
    exact ⟨hp, ⟨by omega, by omega⟩, rfl⟩)
def betterS (now : Pth) (s : Fnd) : Bool := !s.2 || (decide (lenS now < lenS s.1) || (decide (lenS now = lenS s.1) && decide (now.2.length < s.1.2.length)))
theorem T_rbetter (l : List V) (m le nn d a b c e f h p q r x y z : Int) (legs : List V) (dirs : List Int) (x2 y2 z2 : Int) (bl : List V) (fd : Bool) : fnTree (P := P) [c_rLength.gc] (lpOf []) Try.f135 (encA 1 0 [.agg tSearch] (((l, m, le, (nn, d), ((a, b, c), (e, f, h))), (p, q, r), ((x, y, z), legs), dirs, ((x2, y2, z2), bl), fd), ())) =
  Tree.cond (!fd) (Tree.leaf (SV.bool true)) (Tree.cond (decide (lenS ((x, y, z), legs) < lenS ((x2, y2, z2), bl))) (Tree.leaf (SV.bool true)) (Tree.cond (lenS ((x, y, z), legs) == lenS ((x2, y2, z2), bl)) (Tree.leaf (SV.bool (decide ((↑(List.length legs) : Int) < (↑(List.length bl) : Int))))) (Tree.leaf (SV.bool false)))) := by kernel_rfl

def c_rbetter : RC P := RC.of (α := Search × Unit) 135 1 [.agg tSearch] (fun x => x) (fun x => x) (fun _ => rfl)
  (fun _ => none)
  (fun x => .bool (betterS x.1.2.2.1 x.1.2.2.2.2)) (by kernel_rfl) (by
    rintro ⟨⟨⟨l, m, le, ⟨nn, d⟩, ⟨⟨a, b, c⟩, ⟨e, f, h⟩⟩⟩, ⟨p, q, r⟩, ⟨⟨x, y, z⟩, legs⟩, dirs, ⟨⟨x2, y2, z2⟩, bl⟩, fd⟩, ⟨⟩⟩ hp
    refine fn_of hm (by kernel_rfl) (by kernel_rfl) (T_rbetter l m le nn d a b c e f h p q r x y z legs dirs x2 y2 z2 bl fd) trivial ?_

    show Tree.holds (fun s => s = SV.bool (betterS ((x, y, z), legs) (((x2, y2, z2), bl), fd))) _
    unfold betterS
    refine ⟨fun h1 => ?_, fun h1 => ⟨fun h2 => ?_, fun h2 => ⟨fun h3 => ?_, fun h3 => ?_⟩⟩⟩
    · rw [h1, Bool.true_or]
      exact rfl
    · rw [h1, h2, Bool.true_or, Bool.or_true]
      exact rfl
    · simp only [beq_iff_eq] at h3
      rw [h1, h2, decide_eq_true h3, Bool.false_or, Bool.false_or, Bool.true_and]
      exact congrArg SV.bool (decide_eq_decide.2 ⟨fun h => by show legs.length < bl.length; omega, fun h => by have h' : legs.length < bl.length := h; omega⟩)
    · simp only [beq_eq_false_iff_ne, ne_eq] at h3
      rw [h1, h2, decide_eq_false h3, Bool.false_or, Bool.false_or, Bool.false_and]
      exact rfl)

/-! ### What go1 does to the legs, their numbers, and the best path -/
abbrev SS := List V × List Int × Fnd
def kG (rec : SS → SS) (x : V) (n : Nat) (D : V) (i : Int) : Nat → Int → SS → SS
  | 0, _, s => s
  | j + 1, k, s => kG rec x n D i j (k + 1) (if checkS (x, s.1.take n ++ [vmul D k]) = 0 then rec (s.1.take n ++ [vmul D k], s.2.1.take n ++ [i], s.2.2) else (s.1.take n ++ [vmul D k], s.2.1.take n ++ [i], s.2.2))
def lastS (first : V) (n : Nat) (legs : List V) : V := if n = 0 then first else legs.getD (n - 1) (0, 0, 0)
def skipS (g : Goal) (first : V) (n : Nat) (D : V) (i : Int) (s : SS) : Prop := (0 < n ∧ s.2.1.getD (n - 1) 0 = i) ∨ vdot (lastS first n s.1) D ≤ 0 ∨ rbendsS (lastS first n s.1) D g.2.2.2.1 = true
instance (g : Goal) (first : V) (n : Nat) (D : V) (i : Int) (s : SS) : Decidable (skipS g first n D i s) := by unfold skipS; infer_instance
def dG (rec : SS → SS) (g : Goal) (x first : V) (n : Nat) : List V → Int → SS → SS
  | [], _, s => s
  | D :: r, i, s => dG rec g x first n r (i + 1) (if skipS g first n D i s then s else kG rec x n D i g.2.1.toNat 1 s)
def hereG (g : Goal) (x : V) (s : SS) : SS := (s.1, s.2.1, if 0 < s.1.length ∧ withinS (endS x s.1) g.2.2.2.2 = true ∧ betterS (x, s.1) s.2.2 = true then ((x, s.1), true) else s.2.2)
def cutG (n : Nat) (s : SS) : SS := (s.1.take n, s.2.1.take n, s.2.2)
def goR (g : Goal) (x first : V) : Nat → SS → SS
  | 0, s => hereG g x s
  | j + 1, s => cutG s.1.length (dG (goR g x first j) g x first s.1.length g.1 0 (hereG g x s))
theorem kG_fix {rec : SS → SS} {x : V} {n : Nat} {D : V} {i : Int} {L : List V} {M : List Int} (hrec : ∀ s : SS, s.2.1.length = s.1.length → (rec s).1 = s.1 ∧ (rec s).2.1 = s.2.1) (hL : L.length = n) (hM : M.length = n) :
    ∀ (j : Nat) (k : Int) (s : SS), s.1.take n = L → s.2.1.take n = M → (kG rec x n D i j k s).1.take n = L ∧ (kG rec x n D i j k s).2.1.take n = M
  | 0, k, s, h1, h2 => ⟨h1, h2⟩
  | j + 1, k, s, h1, h2 => by
    rw [kG, h1, h2]
    have t1 : (L ++ [vmul D k]).take n = L := by rw [← hL, List.take_left']; rfl
    have t2 : (M ++ [i]).take n = M := by rw [← hM, List.take_left']; rfl
    have hr := hrec (L ++ [vmul D k], M ++ [i], s.2.2) (by simp [hL, hM])
    split
    · exact kG_fix hrec hL hM j (k + 1) _ (by rw [hr.1]; exact t1) (by rw [hr.2]; exact t2)
    · exact kG_fix hrec hL hM j (k + 1) _ t1 t2
theorem dG_fix {rec : SS → SS} {g : Goal} {x first : V} {n : Nat} {L : List V} {M : List Int} (hrec : ∀ s : SS, s.2.1.length = s.1.length → (rec s).1 = s.1 ∧ (rec s).2.1 = s.2.1) (hL : L.length = n) (hM : M.length = n) :
    ∀ (l : List V) (i : Int) (s : SS), s.1.take n = L → s.2.1.take n = M → (dG rec g x first n l i s).1.take n = L ∧ (dG rec g x first n l i s).2.1.take n = M
  | [], i, s, h1, h2 => ⟨h1, h2⟩
  | D :: r, i, s, h1, h2 => by
    rw [dG]
    split
    · exact dG_fix hrec hL hM r (i + 1) s h1 h2
    · obtain ⟨k1, k2⟩ := kG_fix (x := x) (D := D) (i := i) hrec hL hM g.2.1.toNat 1 s h1 h2
      exact dG_fix hrec hL hM r (i + 1) _ k1 k2
theorem go_fix {g : Goal} {x first : V} : ∀ (j : Nat) (s : SS), s.2.1.length = s.1.length → (goR g x first j s).1 = s.1 ∧ (goR g x first j s).2.1 = s.2.1
  | 0, s, _ => ⟨rfl, rfl⟩
  | j + 1, s, h => by
    have := dG_fix (g := g) (x := x) (first := first) (n := s.1.length) (L := s.1) (M := s.2.1) (fun s => go_fix (g := g) (x := x) (first := first) j s) rfl h g.1 0 (hereG g x s) (by show s.1.take s.1.length = s.1; rw [List.take_length]) (by show s.2.1.take s.1.length = s.2.1; rw [← h, List.take_length])
    exact this
/-- What go1 asks. -/
def okS (g : Goal) (x first : V) : Prop := okGoal g ∧ (∀ D ∈ g.1, (legS D).2 = true) ∧ okF g.2.2.2.1 ∧ (legS first).2 = true

def goIn (l : List V) (m le nn d a b c e f h p q r x y z : Int) (legs : List V) (dirs : List Int) (x2 y2 z2 : Int) (bl : List V) (fd : Bool) : SS := goR (gOf l m le nn d a b c e f h) (x, y, z) (p, q, r) (le.toNat - legs.length) (legs, dirs, (((x2, y2, z2), bl), fd))
def kO (n0 i k : Int) (l : List V) (m le nn d a b c e f h p q r x y z : Int) (legs : List V) (dirs : List Int) (x2 y2 z2 : Int) (bl : List V) (fd : Bool) : SS := kG (goR (gOf l m le nn d a b c e f h) (x, y, z) (p, q, r) (le.toNat - n0.toNat - 1)) (x, y, z) n0.toNat (l.getD i.toNat (0, 0, 0)) i (m + 1 - k).toNat k (legs, dirs, (((x2, y2, z2), bl), fd))
def dO (n0 i : Int) (l : List V) (m le nn d a b c e f h p q r x y z : Int) (legs : List V) (dirs : List Int) (x2 y2 z2 : Int) (bl : List V) (fd : Bool) : SS := dG (goR (gOf l m le nn d a b c e f h) (x, y, z) (p, q, r) (le.toNat - n0.toNat - 1)) (gOf l m le nn d a b c e f h) (x, y, z) (p, q, r) n0.toNat (l.drop i.toNat) i (legs, dirs, (((x2, y2, z2), bl), fd))
def L_go1 : Lay := { slots := [(0, .ptr 1 0)], boxes := [(1, bS)], rb := 2000000 }
def pre_go1 : Unit × List V × Int × Int × Int × Int × Int × Int × Int × Int × Int × Int × Int × Int × Int × Int × Int × Int × List V × List Int × Int × Int × Int × List V × Bool × Unit → Prop := fun (_, l, m, le, nn, d, a, b, c, e, f, h, p, q, r, x, y, z, legs, dirs, x2, y2, z2, bl, fd, _) => okS (gOf l m le nn d a b c e f h) (x, y, z) (p, q, r) ∧ checkS ((x, y, z), legs) = 0 ∧ (legs.length : Int) ≤ le ∧ dirs.length = legs.length
def mu_go1 : Unit × List V × Int × Int × Int × Int × Int × Int × Int × Int × Int × Int × Int × Int × Int × Int × Int × Int × List V × List Int × Int × Int × Int × List V × Bool × Unit → Nat := fun (_, l, m, le, nn, d, a, b, c, e, f, h, p, q, r, x, y, z, legs, dirs, x2, y2, z2, bl, fd, _) => le.toNat - legs.length
def out_go1 : Unit × List V × Int × Int × Int × Int × Int × Int × Int × Int × Int × Int × Int × Int × Int × Int × Int × Int × List V × List Int × Int × Int × Int × List V × Bool × Unit → MOut := fun (_, l, m, le, nn, d, a, b, c, e, f, h, p, q, r, x, y, z, legs, dirs, x2, y2, z2, bl, fd, _) => ⟨.tup [], [[.sl tV l, .int .i64 m, .int .i64 le, .int .i64 nn, .int .i64 d, .int .i64 a, .int .i64 b, .int .i64 c, .int .i64 e, .int .i64 f, .int .i64 h, .int .i64 p, .int .i64 q, .int .i64 r, .int .i64 x, .int .i64 y, .int .i64 z, .sl tV (goIn l m le nn d a b c e f h p q r x y z legs dirs x2 y2 z2 bl fd).1, .own 100, .int .i64 (goIn l m le nn d a b c e f h p q r x y z legs dirs x2 y2 z2 bl fd).2.2.1.1.1, .int .i64 (goIn l m le nn d a b c e f h p q r x y z legs dirs x2 y2 z2 bl fd).2.2.1.1.2.1, .int .i64 (goIn l m le nn d a b c e f h p q r x y z legs dirs x2 y2 z2 bl fd).2.2.1.1.2.2, .sl tV (goIn l m le nn d a b c e f h p q r x y z legs dirs x2 y2 z2 bl fd).2.2.1.2, .bool (goIn l m le nn d a b c e f h p q r x y z legs dirs x2 y2 z2 bl fd).2.2.2]], [.row 3 tI (goIn l m le nn d a b c e f h p q r x y z legs dirs x2 y2 z2 bl fd).2.1]⟩
def H_go1 (n : Nat) : Prop := ∀ a : Unit × List V × Int × Int × Int × Int × Int × Int × Int × Int × Int × Int × Int × Int × Int × Int × Int × Int × List V × List Int × Int × Int × Int × List V × Bool × Unit, ndP (some (pre_go1 a ∧ mu_go1 a < n)) → MFnOk P 107 L_go1 ((fun x => x) a) (out_go1 a)
def r_go1 (n : Nat) (hok : H_go1 n) : MC P := MC.of (α := Unit × List V × Int × Int × Int × Int × Int × Int × Int × Int × Int × Int × Int × Int × Int × Int × Int × Int × List V × List Int × Int × Int × Int × List V × Bool × Unit) 107 L_go1 (fun x => x) (fun x => x) (fun _ => rfl) (fun a => some (pre_go1 a ∧ mu_go1 a < n)) out_go1 (by kernel_rfl) (by kernel_rfl) (by kernel_rfl) hok

def L_goK : Lay := { slots := [(0, .ptr 1 0), (2, .val tI), (3, .val tI), (5, .val tI)], boxes := [(1, bS)], rb := 2000000 }
def L_goK_0 : Lay := { slots := [(0, .ptr 1 0), (2, .val tI), (3, .val tI)], boxes := [(1, bS)], rb := 2000000 }
def X_goK : Exit → Option Lay
  | .exit 2 => some L_goK_0
  | _ => none
abbrev C_goK : Code := loopC (inner (loopC (bodyOf Try.f107) 0)) 2
theorem B_goK (n : Nat) (hok : H_go1 n) (n0 i k : Int) (l : List V) (m le nn d a b c e f h p q r x y z : Int) (legs : List V) (dirs : List Int) (x2 y2 z2 : Int) (bl : List V) (fd : Bool) : loopBodyA (P := P) [c_rTimes.gc, c_rCheck.gc, (r_go1 n hok).gc] (lpOf []) [] 191 (usd noU (L_go1.ids ++ rowIds 2000000 L_go1.shs)) (inner C_goK) L_goK X_goK (α := Unit × Int × Int × Int × List V × Int × Int × Int × Int × Int × Int × Int × Int × Int × Int × Int × Int × Int × Int × Int × Int × List V × List Int × Int × Int × Int × List V × Bool × Unit) (fun x => x) (fun x => x) ((), n0, i, k, l, m, le, nn, d, a, b, c, e, f, h, p, q, r, x, y, z, legs, dirs, x2, y2, z2, bl, fd, ()) =
  Tree.cond (decide (k ≤ m)) (Tree.need ((0 : Int) ≤ n0 ∧ n0 ≤ (↑(List.length legs) : Int) ∧ n0 = n0) (Tree.need ((0 : Int) ≤ i ∧ i < (↑(List.length l) : Int)) (Tree.need ((0 : Nat) < List.length [vmul (List.getD l (Int.toNat i) ((0 : Int), (0 : Int), (0 : Int))) k] ∧ (List.length (List.take (Int.toNat n0) legs) + List.length [vmul (List.getD l (Int.toNat i) ((0 : Int), (0 : Int), (0 : Int))) k]) * (24 : Nat) ≤ (140737488355328 : Nat)) (Tree.need ((0 : Int) ≤ n0 ∧ n0 ≤ (↑(List.length dirs) : Int) ∧ n0 = n0) (Tree.need ((0 : Nat) < List.length [i] ∧ (List.length (List.take (Int.toNat n0) dirs) + List.length [i]) * (8 : Nat) ≤ (140737488355328 : Nat)) (Tree.cond (checkS ((x, y, z), List.take (Int.toNat n0) legs ++ [vmul (List.getD l (Int.toNat i) ((0 : Int), (0 : Int), (0 : Int))) k]) == (0 : Int)) (Tree.need (pre_go1 ((), l, m, le, nn, d, a, b, c, e, f, h, p, q, r, x, y, z, List.take (Int.toNat n0) legs ++ [vmul (List.getD l (Int.toNat i) ((0 : Int), (0 : Int), (0 : Int))) k], List.take (Int.toNat n0) dirs ++ [i], x2, y2, z2, bl, fd, ()) ∧ mu_go1 ((), l, m, le, nn, d, a, b, c, e, f, h, p, q, r, x, y, z, List.take (Int.toNat n0) legs ++ [vmul (List.getD l (Int.toNat i) ((0 : Int), (0 : Int), (0 : Int))) k], List.take (Int.toNat n0) dirs ++ [i], x2, y2, z2, bl, fd, ()) < n) (Tree.leaf (Sum.inl (PUnit.unit, n0, i, IntKind.wrap IntKind.i64 (k + (1 : Int)), l, m, le, nn, d, a, b, c, e, f, h, p, q, r, x, y, z, (goIn l m le nn d a b c e f h p q r x y z (List.take (Int.toNat n0) legs ++ [vmul (List.getD l (Int.toNat i) ((0 : Int), (0 : Int), (0 : Int))) k]) (List.take (Int.toNat n0) dirs ++ [i]) x2 y2 z2 bl fd).fst, (goIn l m le nn d a b c e f h p q r x y z (List.take (Int.toNat n0) legs ++ [vmul (List.getD l (Int.toNat i) ((0 : Int), (0 : Int), (0 : Int))) k]) (List.take (Int.toNat n0) dirs ++ [i]) x2 y2 z2 bl fd).snd.fst, (goIn l m le nn d a b c e f h p q r x y z (List.take (Int.toNat n0) legs ++ [vmul (List.getD l (Int.toNat i) ((0 : Int), (0 : Int), (0 : Int))) k]) (List.take (Int.toNat n0) dirs ++ [i]) x2 y2 z2 bl fd).snd.snd.fst.fst.fst, (goIn l m le nn d a b c e f h p q r x y z (List.take (Int.toNat n0) legs ++ [vmul (List.getD l (Int.toNat i) ((0 : Int), (0 : Int), (0 : Int))) k]) (List.take (Int.toNat n0) dirs ++ [i]) x2 y2 z2 bl fd).snd.snd.fst.fst.snd.fst, (goIn l m le nn d a b c e f h p q r x y z (List.take (Int.toNat n0) legs ++ [vmul (List.getD l (Int.toNat i) ((0 : Int), (0 : Int), (0 : Int))) k]) (List.take (Int.toNat n0) dirs ++ [i]) x2 y2 z2 bl fd).snd.snd.fst.fst.snd.snd, (goIn l m le nn d a b c e f h p q r x y z (List.take (Int.toNat n0) legs ++ [vmul (List.getD l (Int.toNat i) ((0 : Int), (0 : Int), (0 : Int))) k]) (List.take (Int.toNat n0) dirs ++ [i]) x2 y2 z2 bl fd).snd.snd.fst.snd, (goIn l m le nn d a b c e f h p q r x y z (List.take (Int.toNat n0) legs ++ [vmul (List.getD l (Int.toNat i) ((0 : Int), (0 : Int), (0 : Int))) k]) (List.take (Int.toNat n0) dirs ++ [i]) x2 y2 z2 bl fd).snd.snd.snd, PUnit.unit)))) (Tree.leaf (Sum.inl (PUnit.unit, n0, i, IntKind.wrap IntKind.i64 (k + (1 : Int)), l, m, le, nn, d, a, b, c, e, f, h, p, q, r, x, y, z, List.take (Int.toNat n0) legs ++ [vmul (List.getD l (Int.toNat i) ((0 : Int), (0 : Int), (0 : Int))) k], List.take (Int.toNat n0) dirs ++ [i], x2, y2, z2, bl, fd, PUnit.unit))))))))) (Tree.leaf (Sum.inr (Exit.exit (2 : Nat), Lay.st L_goK_0 (usd noU (Lay.ids L_go1 ++ rowIds (2000000 : Nat) (Lay.shs L_go1))) (PUnit.unit, n0, i, l, m, le, nn, d, a, b, c, e, f, h, p, q, r, x, y, z, legs, dirs, x2, y2, z2, bl, fd, PUnit.unit)))) := by kernel_rfl

def inv_goK (n : Nat) (hok : H_go1 n) : Unit × Int × Int × Int × List V × Int × Int × Int × Int × Int × Int × Int × Int × Int × Int × Int × Int × Int × Int × Int × Int × List V × List Int × Int × Int × Int × List V × Bool × Unit → Prop := fun (_, n0, i, k, l, m, le, nn, d, a, b, c, e, f, h, p, q, r, x, y, z, legs, dirs, x2, y2, z2, bl, fd, _) => okS (gOf l m le nn d a b c e f h) (x, y, z) (p, q, r) ∧ 0 ≤ n0 ∧ n0 < le ∧ le.toNat - n0.toNat ≤ n ∧ n0 ≤ legs.length ∧ n0 ≤ dirs.length ∧ 0 ≤ i ∧ i < l.length ∧ 1 ≤ k ∧ k ≤ m + 1
def O_goK (n : Nat) (hok : H_go1 n) : Unit × Int × Int × Int × List V × Int × Int × Int × Int × Int × Int × Int × Int × Int × Int × Int × Int × Int × Int × Int × Int × List V × List Int × Int × Int × Int × List V × Bool × Unit → Tree (Exit × St) := fun (_, n0, i, k, l, m, le, nn, d, a, b, c, e, f, h, p, q, r, x, y, z, legs, dirs, x2, y2, z2, bl, fd, _) => .leaf (.exit 2, L_goK_0.st (usd noU (L_go1.ids ++ rowIds 2000000 L_go1.shs)) ((), n0, i, l, m, le, nn, d, a, b, c, e, f, h, p, q, r, x, y, z, (kO n0 i k l m le nn d a b c e f h p q r x y z legs dirs x2 y2 z2 bl fd).1, (kO n0 i k l m le nn d a b c e f h p q r x y z legs dirs x2 y2 z2 bl fd).2.1, (kO n0 i k l m le nn d a b c e f h p q r x y z legs dirs x2 y2 z2 bl fd).2.2.1.1.1, (kO n0 i k l m le nn d a b c e f h p q r x y z legs dirs x2 y2 z2 bl fd).2.2.1.1.2.1, (kO n0 i k l m le nn d a b c e f h p q r x y z legs dirs x2 y2 z2 bl fd).2.2.1.1.2.2, (kO n0 i k l m le nn d a b c e f h p q r x y z legs dirs x2 y2 z2 bl fd).2.2.1.2, (kO n0 i k l m le nn d a b c e f h p q r x y z legs dirs x2 y2 z2 bl fd).2.2.2, ()))
def R_goK (n : Nat) (hok : H_go1 n) : LRun := runOf 191 L_goK (fun x => x) (inv_goK n hok) (O_goK n hok)
theorem K_goK (n : Nat) (hok : H_go1 n) : LoopOk P [] 191 none (usd noU (L_go1.ids ++ rowIds 2000000 L_go1.shs)) C_goK (R_goK n hok) := by
  refine loop_of hm (cx := [c_rTimes.gc, c_rCheck.gc, (r_go1 n hok).gc]) [] (xl := X_goK) (α := Unit × Int × Int × Int × List V × Int × Int × Int × Int × Int × Int × Int × Int × Int × Int × Int × Int × Int × Int × Int × Int × List V × List Int × Int × Int × Int × List V × Bool × Unit) (fun x => x) (fun (_, n0, i, k, l, m, _) => (m + 1 - k).toNat) (fun _ => rfl) (by kernel_rfl) (by kernel_rfl) ?_ (by kernel_rfl) trivial ?_
  · intro e L' h
    unfold X_goK at h
    split at h <;> cases h <;> kernel_rfl
  · rintro ⟨⟨⟩, n0, i, k, l, m, le, nn, d, a, b, c, e, f, h, p, q, r, x, y, z, legs, dirs, x2, y2, z2, bl, fd, ⟨⟩⟩ hinv Q hQ
    refine hold_of_eq (B_goK n hok n0 i k l m le nn d a b c e f h p q r x y z legs dirs x2 y2 z2 bl fd) ?_

    obtain ⟨h0, h1, h2, h3, h4, h5, h6, h7, h8, h9⟩ := hinv
    have hg := h0.1
    obtain ⟨g1, g2, g3, g4, g5⟩ := hg
    simp only [gOf] at g1 g2 g3 g4 g5
    unfold O_goK at hQ
    dsimp only at hQ
    rw [W_id (n := k + 1) (by omega) (by omega)]
    refine ⟨fun hk => ?_, fun hk => ?_⟩
    · simp only [decide_eq_true_eq] at hk
      have ek : (m + 1 - k).toNat = (m + 1 - (k + 1)).toNat + 1 := by omega
      have hm : (m + 1 - (k + 1)).toNat < (m + 1 - k).toNat := by omega
      unfold kO at hQ
      rw [ek, kG] at hQ
      have ht : (legs.take n0.toNat).length = n0.toNat := by rw [List.length_take]; omega
      have hd : (dirs.take n0.toNat).length = n0.toNat := by rw [List.length_take]; omega
      have hl1 : (legs.take n0.toNat ++ [vmul (l.getD i.toNat (0, 0, 0)) k]).length = n0.toNat + 1 := by rw [List.length_append, ht]; rfl
      have hl2 : (dirs.take n0.toNat ++ [i]).length = n0.toNat + 1 := by rw [List.length_append, hd]; rfl
      refine ⟨⟨h1, h4, rfl⟩, ⟨h6, h7⟩, ⟨by simp, by rw [ht]; simp only [List.length_cons, List.length_nil]; omega⟩, ⟨h1, h5, rfl⟩, ⟨by simp, by rw [hd]; simp only [List.length_cons, List.length_nil]; omega⟩, fun hc => ?_, fun hc => ?_⟩
      · simp only [beq_iff_eq] at hc
        rw [if_pos hc] at hQ
        have eg : goIn l m le nn d a b c e f h p q r x y z (legs.take n0.toNat ++ [vmul (l.getD i.toNat (0, 0, 0)) k]) (dirs.take n0.toNat ++ [i]) x2 y2 z2 bl fd = goR (gOf l m le nn d a b c e f h) (x, y, z) (p, q, r) (le.toNat - n0.toNat - 1) (legs.take n0.toNat ++ [vmul (l.getD i.toNat (0, 0, 0)) k], dirs.take n0.toNat ++ [i], (((x2, y2, z2), bl), fd)) := by
          unfold goIn
          rw [hl1, Nat.sub_add_eq]
        rw [eg]
        have hfix := go_fix (g := gOf l m le nn d a b c e f h) (x := (x, y, z)) (first := (p, q, r)) (le.toNat - n0.toNat - 1) (legs.take n0.toNat ++ [vmul (l.getD i.toNat (0, 0, 0)) k], dirs.take n0.toNat ++ [i], (((x2, y2, z2), bl), fd)) (by rw [hl1, hl2])
        have f1 := congrArg List.length hfix.1
        have f2 := congrArg List.length hfix.2
        rw [hl1] at f1
        rw [hl2] at f2
        refine ⟨⟨⟨h0, hc, by rw [hl1]; omega, by rw [hl1, hl2]⟩, by show le.toNat - (legs.take n0.toNat ++ [vmul (l.getD i.toNat (0, 0, 0)) k]).length < n; rw [hl1]; omega⟩, ⟨⟨h0, h1, h2, h3, by rw [f1]; omega, by rw [f2]; omega, h6, h7, by omega, by show k + 1 ≤ m + 1; omega⟩, hm⟩, hQ⟩
      · simp only [beq_eq_false_iff_ne, ne_eq] at hc
        rw [if_neg hc] at hQ
        exact ⟨⟨⟨h0, h1, h2, h3, by rw [hl1]; omega, by rw [hl2]; omega, h6, h7, by omega, by show k + 1 ≤ m + 1; omega⟩, hm⟩, hQ⟩
    · simp only [decide_eq_false_iff_not] at hk
      unfold kO at hQ
      rw [show (m + 1 - k).toNat = 0 by omega, kG] at hQ
      exact hQ
def L_goD : Lay := { slots := [(0, .ptr 1 0), (2, .val tI), (3, .val tI)], boxes := [(1, bS)], rb := 2000000 }
def L_goD_0 : Lay := { slots := [(0, .ptr 1 0), (2, .val tI)], boxes := [(1, bS)], rb := 2000000 }
def X_goD : Exit → Option Lay
  | .exit 0 => some L_goD_0
  | _ => none
abbrev C_goD : Code := loopC (bodyOf Try.f107) 0
theorem B_goD (n : Nat) (hok : H_go1 n) (n0 i : Int) (l : List V) (m le nn d a b c e f h p q r x y z : Int) (legs : List V) (dirs : List Int) (x2 y2 z2 : Int) (bl : List V) (fd : Bool) : loopBodyA (P := P) [c_rDot.gc, c_rbends.gc] (lpOf [(2, R_goK n hok)]) [] 191 (usd noU (L_go1.ids ++ rowIds 2000000 L_go1.shs)) (inner C_goD) L_goD X_goD (α := Unit × Int × Int × List V × Int × Int × Int × Int × Int × Int × Int × Int × Int × Int × Int × Int × Int × Int × Int × Int × List V × List Int × Int × Int × Int × List V × Bool × Unit) (fun x => x) (fun x => x) ((), n0, i, l, m, le, nn, d, a, b, c, e, f, h, p, q, r, x, y, z, legs, dirs, x2, y2, z2, bl, fd, ()) =
  Tree.cond (decide (i < (↑(List.length l) : Int)))
  (Tree.cond (decide (n0 > (0 : Int))) (Tree.need ((0 : Int) ≤ IntKind.wrap IntKind.i64 (n0 - (1 : Int)) ∧ IntKind.wrap IntKind.i64 (n0 - (1 : Int)) < (↑(List.length legs) : Int)) (Tree.need ((0 : Int) ≤ IntKind.wrap IntKind.i64 (n0 - (1 : Int)) ∧ IntKind.wrap IntKind.i64 (n0 - (1 : Int)) < (↑(List.length dirs) : Int)) (Tree.need (Int.toNat (IntKind.wrap IntKind.i64 (n0 - (1 : Int))) < List.length dirs) (Tree.cond (List.getD dirs (Int.toNat (IntKind.wrap IntKind.i64 (n0 - (1 : Int)))) (0 : Int) == i) (Tree.leaf (Sum.inl (PUnit.unit, n0, IntKind.wrap IntKind.i64 (i + (1 : Int)), l, m, le, nn, d, a, b, c, e, f, h, p, q, r, x, y, z, legs, dirs, x2, y2, z2, bl, fd, PUnit.unit))) (Tree.need ((0 : Int) ≤ i ∧ i < (↑(List.length l) : Int)) (Tree.cond (decide (vdot (List.getD legs (Int.toNat (IntKind.wrap IntKind.i64 (n0 - (1 : Int)))) ((0 : Int), (0 : Int), (0 : Int))) (List.getD l (Int.toNat i) ((0 : Int), (0 : Int), (0 : Int))) ≤ (0 : Int))) (Tree.leaf (Sum.inl (PUnit.unit, n0, IntKind.wrap IntKind.i64 (i + (1 : Int)), l, m, le, nn, d, a, b, c, e, f, h, p, q, r, x, y, z, legs, dirs, x2, y2, z2, bl, fd, PUnit.unit))) (Tree.need ((0 : Int) ≤ i ∧ i < (↑(List.length l) : Int)) (Tree.need ((legS (List.getD legs (Int.toNat (IntKind.wrap IntKind.i64 (n0 - (1 : Int)))) ((0 : Int), (0 : Int), (0 : Int)))).snd = true ∧ (legS (List.getD l (Int.toNat i) ((0 : Int), (0 : Int), (0 : Int)))).snd = true ∧ okF (nn, d)) (Tree.cond (rbendsS (List.getD legs (Int.toNat (IntKind.wrap IntKind.i64 (n0 - (1 : Int)))) ((0 : Int), (0 : Int), (0 : Int))) (List.getD l (Int.toNat i) ((0 : Int), (0 : Int), (0 : Int))) (nn, d)) (Tree.leaf (Sum.inl (PUnit.unit, n0, IntKind.wrap IntKind.i64 (i + (1 : Int)), l, m, le, nn, d, a, b, c, e, f, h, p, q, r, x, y, z, legs, dirs, x2, y2, z2, bl, fd, PUnit.unit))) (Tree.need (inv_goK n hok ((), n0, i, (1 : Int), l, m, le, nn, d, a, b, c, e, f, h, p, q, r, x, y, z, legs, dirs, x2, y2, z2, bl, fd, ())) (Tree.leaf (Sum.inl (PUnit.unit, n0, IntKind.wrap IntKind.i64 (i + (1 : Int)), l, m, le, nn, d, a, b, c, e, f, h, p, q, r, x, y, z, (kO n0 i (1 : Int) l m le nn d a b c e f h p q r x y z legs dirs x2 y2 z2 bl fd).fst, (kO n0 i (1 : Int) l m le nn d a b c e f h p q r x y z legs dirs x2 y2 z2 bl fd).snd.fst, (kO n0 i (1 : Int) l m le nn d a b c e f h p q r x y z legs dirs x2 y2 z2 bl fd).snd.snd.fst.fst.fst, (kO n0 i (1 : Int) l m le nn d a b c e f h p q r x y z legs dirs x2 y2 z2 bl fd).snd.snd.fst.fst.snd.fst, (kO n0 i (1 : Int) l m le nn d a b c e f h p q r x y z legs dirs x2 y2 z2 bl fd).snd.snd.fst.fst.snd.snd, (kO n0 i (1 : Int) l m le nn d a b c e f h p q r x y z legs dirs x2 y2 z2 bl fd).snd.snd.fst.snd, (kO n0 i (1 : Int) l m le nn d a b c e f h p q r x y z legs dirs x2 y2 z2 bl fd).snd.snd.snd, PUnit.unit)))))))))))))
    (Tree.need ((0 : Int) ≤ i ∧ i < (↑(List.length l) : Int)) (Tree.cond (decide (vdot (p, q, r) (List.getD l (Int.toNat i) ((0 : Int), (0 : Int), (0 : Int))) ≤ (0 : Int))) (Tree.leaf (Sum.inl (PUnit.unit, n0, IntKind.wrap IntKind.i64 (i + (1 : Int)), l, m, le, nn, d, a, b, c, e, f, h, p, q, r, x, y, z, legs, dirs, x2, y2, z2, bl, fd, PUnit.unit))) (Tree.need ((0 : Int) ≤ i ∧ i < (↑(List.length l) : Int)) (Tree.need ((legS (p, q, r)).snd = true ∧ (legS (List.getD l (Int.toNat i) ((0 : Int), (0 : Int), (0 : Int)))).snd = true ∧ okF (nn, d)) (Tree.cond (rbendsS (p, q, r) (List.getD l (Int.toNat i) ((0 : Int), (0 : Int), (0 : Int))) (nn, d)) (Tree.leaf (Sum.inl (PUnit.unit, n0, IntKind.wrap IntKind.i64 (i + (1 : Int)), l, m, le, nn, d, a, b, c, e, f, h, p, q, r, x, y, z, legs, dirs, x2, y2, z2, bl, fd, PUnit.unit))) (Tree.need (inv_goK n hok ((), n0, i, (1 : Int), l, m, le, nn, d, a, b, c, e, f, h, p, q, r, x, y, z, legs, dirs, x2, y2, z2, bl, fd, ())) (Tree.leaf (Sum.inl (PUnit.unit, n0, IntKind.wrap IntKind.i64 (i + (1 : Int)), l, m, le, nn, d, a, b, c, e, f, h, p, q, r, x, y, z, (kO n0 i (1 : Int) l m le nn d a b c e f h p q r x y z legs dirs x2 y2 z2 bl fd).fst, (kO n0 i (1 : Int) l m le nn d a b c e f h p q r x y z legs dirs x2 y2 z2 bl fd).snd.fst, (kO n0 i (1 : Int) l m le nn d a b c e f h p q r x y z legs dirs x2 y2 z2 bl fd).snd.snd.fst.fst.fst, (kO n0 i (1 : Int) l m le nn d a b c e f h p q r x y z legs dirs x2 y2 z2 bl fd).snd.snd.fst.fst.snd.fst, (kO n0 i (1 : Int) l m le nn d a b c e f h p q r x y z legs dirs x2 y2 z2 bl fd).snd.snd.fst.fst.snd.snd, (kO n0 i (1 : Int) l m le nn d a b c e f h p q r x y z legs dirs x2 y2 z2 bl fd).snd.snd.fst.snd, (kO n0 i (1 : Int) l m le nn d a b c e f h p q r x y z legs dirs x2 y2 z2 bl fd).snd.snd.snd, PUnit.unit))))))))))
  (Tree.leaf (Sum.inr (Exit.exit (0 : Nat), Lay.st L_goD_0 (usd noU (Lay.ids L_go1 ++ rowIds (2000000 : Nat) (Lay.shs L_go1))) (PUnit.unit, n0, l, m, le, nn, d, a, b, c, e, f, h, p, q, r, x, y, z, legs, dirs, x2, y2, z2, bl, fd, PUnit.unit)))) := by kernel_rfl

def inv_goD (n : Nat) (hok : H_go1 n) : Unit × Int × Int × List V × Int × Int × Int × Int × Int × Int × Int × Int × Int × Int × Int × Int × Int × Int × Int × Int × List V × List Int × Int × Int × Int × List V × Bool × Unit → Prop := fun (_, n0, i, l, m, le, nn, d, a, b, c, e, f, h, p, q, r, x, y, z, legs, dirs, x2, y2, z2, bl, fd, _) => okS (gOf l m le nn d a b c e f h) (x, y, z) (p, q, r) ∧ 0 ≤ n0 ∧ n0 < le ∧ le.toNat - n0.toNat ≤ n ∧ n0 ≤ legs.length ∧ n0 ≤ dirs.length ∧ 0 ≤ i ∧ i ≤ l.length ∧ ∀ v ∈ legs.take n0.toNat, (legS v).2 = true
def O_goD (n : Nat) (hok : H_go1 n) : Unit × Int × Int × List V × Int × Int × Int × Int × Int × Int × Int × Int × Int × Int × Int × Int × Int × Int × Int × Int × List V × List Int × Int × Int × Int × List V × Bool × Unit → Tree (Exit × St) := fun (_, n0, i, l, m, le, nn, d, a, b, c, e, f, h, p, q, r, x, y, z, legs, dirs, x2, y2, z2, bl, fd, _) => .leaf (.exit 0, L_goD_0.st (usd noU (L_go1.ids ++ rowIds 2000000 L_go1.shs)) ((), n0, l, m, le, nn, d, a, b, c, e, f, h, p, q, r, x, y, z, (dO n0 i l m le nn d a b c e f h p q r x y z legs dirs x2 y2 z2 bl fd).1, (dO n0 i l m le nn d a b c e f h p q r x y z legs dirs x2 y2 z2 bl fd).2.1, (dO n0 i l m le nn d a b c e f h p q r x y z legs dirs x2 y2 z2 bl fd).2.2.1.1.1, (dO n0 i l m le nn d a b c e f h p q r x y z legs dirs x2 y2 z2 bl fd).2.2.1.1.2.1, (dO n0 i l m le nn d a b c e f h p q r x y z legs dirs x2 y2 z2 bl fd).2.2.1.1.2.2, (dO n0 i l m le nn d a b c e f h p q r x y z legs dirs x2 y2 z2 bl fd).2.2.1.2, (dO n0 i l m le nn d a b c e f h p q r x y z legs dirs x2 y2 z2 bl fd).2.2.2, ()))
def R_goD (n : Nat) (hok : H_go1 n) : LRun := runOf 191 L_goD (fun x => x) (inv_goD n hok) (O_goD n hok)
theorem K_goD (n : Nat) (hok : H_go1 n) : LoopOk P [] 191 none (usd noU (L_go1.ids ++ rowIds 2000000 L_go1.shs)) C_goD (R_goD n hok) := by
  refine loop_of hm (cx := [c_rDot.gc, c_rbends.gc]) [(2, R_goK n hok)] (xl := X_goD) (α := Unit × Int × Int × List V × Int × Int × Int × Int × Int × Int × Int × Int × Int × Int × Int × Int × Int × Int × Int × Int × List V × List Int × Int × Int × Int × List V × Bool × Unit) (fun x => x) (fun (_, n0, i, l, _) => (l.length - i).toNat) (fun _ => rfl) (by kernel_rfl) (by kernel_rfl) ?_ (by kernel_rfl) ⟨K_goK n hok, trivial⟩ ?_
  · intro e L' h
    unfold X_goD at h
    split at h <;> cases h <;> kernel_rfl
  · rintro ⟨⟨⟩, n0, i, l, m, le, nn, d, a, b, c, e, f, h, p, q, r, x, y, z, legs, dirs, x2, y2, z2, bl, fd, ⟨⟩⟩ hinv Q hQ
    refine hold_of_eq (B_goD n hok n0 i l m le nn d a b c e f h p q r x y z legs dirs x2 y2 z2 bl fd) ?_

    obtain ⟨h0, h1, h2, h3, h4, h5, h6, h7, h8⟩ := hinv
    have hg := h0.1
    obtain ⟨g1, g2, g3, g4, g5⟩ := hg
    simp only [gOf] at g1 g2 g3 g4 g5
    unfold O_goD at hQ
    dsimp only at hQ
    rw [W_id (n := i + 1) (by omega) (by omega), W_id (n := n0 - 1) (by omega) (by omega)]
    refine ⟨fun hi => ?_, fun hi => ?_⟩
    · simp only [decide_eq_true_eq] at hi
      have hm : ((l.length : Int) - (i + 1)).toNat < ((l.length : Int) - i).toNat := by omega
      unfold dO at hQ
      rw [drop_step (0, 0, 0) h6 hi, dG] at hQ
      have hDl : (legS (l.getD i.toNat (0, 0, 0))).2 = true := h0.2.1 _ (getD_mem (d := (0, 0, 0)) (show i.toNat < l.length by omega))
      have en : (n0 - 1).toNat = n0.toNat - 1 := by omega
      rw [en]
      have stay : skipS (gOf l m le nn d a b c e f h) (p, q, r) n0.toNat (l.getD i.toNat (0, 0, 0)) i (legs, dirs, (((x2, y2, z2), bl), fd)) →
          Tree.holds Q (O_goD n hok ((), n0, i + 1, l, m, le, nn, d, a, b, c, e, f, h, p, q, r, x, y, z, legs, dirs, x2, y2, z2, bl, fd, ())) := fun hs => by
        rw [if_pos hs] at hQ
        exact hQ
      have step : ¬ skipS (gOf l m le nn d a b c e f h) (p, q, r) n0.toNat (l.getD i.toNat (0, 0, 0)) i (legs, dirs, (((x2, y2, z2), bl), fd)) →
          Tree.holds Q (O_goD n hok ((), n0, i + 1, l, m, le, nn, d, a, b, c, e, f, h, p, q, r, x, y, z, (kO n0 i 1 l m le nn d a b c e f h p q r x y z legs dirs x2 y2 z2 bl fd).1, (kO n0 i 1 l m le nn d a b c e f h p q r x y z legs dirs x2 y2 z2 bl fd).2.1, (kO n0 i 1 l m le nn d a b c e f h p q r x y z legs dirs x2 y2 z2 bl fd).2.2.1.1.1, (kO n0 i 1 l m le nn d a b c e f h p q r x y z legs dirs x2 y2 z2 bl fd).2.2.1.1.2.1, (kO n0 i 1 l m le nn d a b c e f h p q r x y z legs dirs x2 y2 z2 bl fd).2.2.1.1.2.2, (kO n0 i 1 l m le nn d a b c e f h p q r x y z legs dirs x2 y2 z2 bl fd).2.2.1.2, (kO n0 i 1 l m le nn d a b c e f h p q r x y z legs dirs x2 y2 z2 bl fd).2.2.2, ())) := fun hs => by
        rw [if_neg hs] at hQ
        have ek : kO n0 i 1 l m le nn d a b c e f h p q r x y z legs dirs x2 y2 z2 bl fd = kG (goR (gOf l m le nn d a b c e f h) (x, y, z) (p, q, r) (le.toNat - n0.toNat - 1)) (x, y, z) n0.toNat (l.getD i.toNat (0, 0, 0)) i m.toNat 1 (legs, dirs, (((x2, y2, z2), bl), fd)) := by
          unfold kO
          rw [show m + 1 - 1 = m by omega]
        rw [ek]
        exact hQ
      have ht : (legs.take n0.toNat).length = n0.toNat := by rw [List.length_take]; omega
      have hd : (dirs.take n0.toNat).length = n0.toNat := by rw [List.length_take]; omega
      have kfix := kG_fix (rec := goR (gOf l m le nn d a b c e f h) (x, y, z) (p, q, r) (le.toNat - n0.toNat - 1)) (x := (x, y, z)) (n := n0.toNat) (D := l.getD i.toNat (0, 0, 0)) (i := i) (L := legs.take n0.toNat) (M := dirs.take n0.toNat) (go_fix (g := gOf l m le nn d a b c e f h) (x := (x, y, z)) (first := (p, q, r)) _) ht hd (m + 1 - 1).toNat 1 (legs, dirs, (((x2, y2, z2), bl), fd)) rfl rfl
      have kinv : inv_goD n hok ((), n0, i + 1, l, m, le, nn, d, a, b, c, e, f, h, p, q, r, x, y, z, (kO n0 i 1 l m le nn d a b c e f h p q r x y z legs dirs x2 y2 z2 bl fd).1, (kO n0 i 1 l m le nn d a b c e f h p q r x y z legs dirs x2 y2 z2 bl fd).2.1, (kO n0 i 1 l m le nn d a b c e f h p q r x y z legs dirs x2 y2 z2 bl fd).2.2.1.1.1, (kO n0 i 1 l m le nn d a b c e f h p q r x y z legs dirs x2 y2 z2 bl fd).2.2.1.1.2.1, (kO n0 i 1 l m le nn d a b c e f h p q r x y z legs dirs x2 y2 z2 bl fd).2.2.1.1.2.2, (kO n0 i 1 l m le nn d a b c e f h p q r x y z legs dirs x2 y2 z2 bl fd).2.2.1.2, (kO n0 i 1 l m le nn d a b c e f h p q r x y z legs dirs x2 y2 z2 bl fd).2.2.2, ()) := by
        have k1 : (kO n0 i 1 l m le nn d a b c e f h p q r x y z legs dirs x2 y2 z2 bl fd).1.take n0.toNat = legs.take n0.toNat := kfix.1
        have k2 : (kO n0 i 1 l m le nn d a b c e f h p q r x y z legs dirs x2 y2 z2 bl fd).2.1.take n0.toNat = dirs.take n0.toNat := kfix.2
        have l1 := congrArg List.length k1
        have l2 := congrArg List.length k2
        rw [ht, List.length_take] at l1
        rw [hd, List.length_take] at l2
        exact ⟨h0, h1, h2, h3, by omega, by omega, by omega, by omega, by rw [k1]; exact h8⟩
      have sinv : inv_goD n hok ((), n0, i + 1, l, m, le, nn, d, a, b, c, e, f, h, p, q, r, x, y, z, legs, dirs, x2, y2, z2, bl, fd, ()) := ⟨h0, h1, h2, h3, h4, h5, by omega, by omega, h8⟩
      have hK : inv_goK n hok ((), n0, i, (1 : Int), l, m, le, nn, d, a, b, c, e, f, h, p, q, r, x, y, z, legs, dirs, x2, y2, z2, bl, fd, ()) := ⟨h0, h1, h2, h3, h4, h5, h6, hi, by decide, by show (1 : Int) ≤ m + 1; omega⟩
      refine ⟨fun hn => ?_, fun hn => ?_⟩
      · simp only [gt_iff_lt, decide_eq_true_eq] at hn
        have hlast : lastS (p, q, r) n0.toNat legs = legs.getD (n0.toNat - 1) (0, 0, 0) := if_neg (by omega)
        have hll : (legS (legs.getD (n0.toNat - 1) (0, 0, 0))).2 = true := h8 _ (by
          rw [← getD_take (0, 0, 0) (show n0.toNat - 1 < n0.toNat by omega)]
          exact getD_mem (d := (0, 0, 0)) (by omega))
        refine ⟨⟨by omega, by omega⟩, ⟨by omega, by omega⟩, by omega, fun c1 => ?_, fun c1 => ⟨⟨h6, hi⟩, fun c2 => ?_, fun c2 => ⟨⟨h6, hi⟩, ⟨hll, hDl, h0.2.2.1⟩, fun c3 => ?_, fun c3 => ⟨hK, ⟨kinv, hm⟩, ?_⟩⟩⟩⟩
        · simp only [beq_iff_eq] at c1
          exact ⟨⟨sinv, hm⟩, stay (.inl ⟨by omega, c1⟩)⟩
        · simp only [decide_eq_true_eq] at c2
          exact ⟨⟨sinv, hm⟩, stay (.inr (.inl (by show vdot (lastS (p, q, r) n0.toNat legs) _ ≤ 0; rw [hlast]; exact c2)))⟩
        · exact ⟨⟨sinv, hm⟩, stay (.inr (.inr (by show rbendsS (lastS (p, q, r) n0.toNat legs) _ _ = true; rw [hlast]; exact c3)))⟩
        · refine step fun hs => ?_
          simp only [beq_eq_false_iff_ne, ne_eq, decide_eq_false_iff_not] at c1 c2
          rcases hs with ⟨_, hs⟩ | hs | hs
          · exact c1 hs
          · rw [show lastS (p, q, r) n0.toNat (legs, dirs, (((x2, y2, z2), bl), fd)).1 = _ from hlast] at hs; exact c2 hs
          · rw [show lastS (p, q, r) n0.toNat (legs, dirs, (((x2, y2, z2), bl), fd)).1 = _ from hlast] at hs; exact Bool.noConfusion (c3.symm.trans hs)
      · simp only [gt_iff_lt, decide_eq_false_iff_not] at hn
        have hlast : lastS (p, q, r) n0.toNat legs = (p, q, r) := if_pos (by omega)
        refine ⟨⟨h6, hi⟩, fun c2 => ?_, fun c2 => ⟨⟨h6, hi⟩, ⟨h0.2.2.2, hDl, h0.2.2.1⟩, fun c3 => ?_, fun c3 => ⟨hK, ⟨kinv, hm⟩, ?_⟩⟩⟩
        · simp only [decide_eq_true_eq] at c2
          exact ⟨⟨sinv, hm⟩, stay (.inr (.inl (by show vdot (lastS (p, q, r) n0.toNat legs) _ ≤ 0; rw [hlast]; exact c2)))⟩
        · exact ⟨⟨sinv, hm⟩, stay (.inr (.inr (by show rbendsS (lastS (p, q, r) n0.toNat legs) _ _ = true; rw [hlast]; exact c3)))⟩
        · refine step fun hs => ?_
          simp only [decide_eq_false_iff_not] at c2
          rcases hs with ⟨hs, _⟩ | hs | hs
          · omega
          · rw [show lastS (p, q, r) n0.toNat (legs, dirs, (((x2, y2, z2), bl), fd)).1 = _ from hlast] at hs; exact c2 hs
          · rw [show lastS (p, q, r) n0.toNat (legs, dirs, (((x2, y2, z2), bl), fd)).1 = _ from hlast] at hs; exact Bool.noConfusion (c3.symm.trans hs)
    · simp only [decide_eq_false_iff_not] at hi
      unfold dO at hQ
      rw [drop_end hi, dG] at hQ
      exact hQ
/-- What go1 hands back. -/
def mkG (l : List V) (m le nn d a b c e f h p q r x y z : Int) (S : SS) : MOut := ⟨.tup [], [[.sl tV l, .int .i64 m, .int .i64 le, .int .i64 nn, .int .i64 d, .int .i64 a, .int .i64 b, .int .i64 c, .int .i64 e, .int .i64 f, .int .i64 h, .int .i64 p, .int .i64 q, .int .i64 r, .int .i64 x, .int .i64 y, .int .i64 z, .sl tV S.1, .own 100, .int .i64 S.2.2.1.1.1, .int .i64 S.2.2.1.1.2.1, .int .i64 S.2.2.1.1.2.2, .sl tV S.2.2.1.2, .bool S.2.2.2]], [.row 3 tI S.2.1]⟩
theorem T_go1 (n : Nat) (hok : H_go1 n) (l : List V) (m le nn d a b c e f h p q r x y z : Int) (legs : List V) (dirs : List Int) (x2 y2 z2 : Int) (bl : List V) (fd : Bool) : mTree (P := P) [c_rend.gc, c_rin.gc, c_rbetter.gc] (lpOf [(0, R_goD n hok)]) Try.f107 L_go1 true ((), l, m, le, nn, d, a, b, c, e, f, h, p, q, r, x, y, z, legs, dirs, x2, y2, z2, bl, fd, ()) =
  Tree.cond (decide ((↑(List.length legs) : Int) > (0 : Int)))
  (Tree.need (List.length legs ≤ (20 : Nat))
    (Tree.cond (withinS (endS (x, y, z) legs) ((a, b, c), e, f, h))
      (Tree.cond (betterS ((x, y, z), legs) (((x2, y2, z2), bl), fd)) (Tree.need (((0 : Nat) + List.length legs) * (24 : Nat) ≤ (140737488355328 : Nat)) (Tree.cond ((↑(List.length legs) : Int) == le) (Tree.leaf { res := SV.tup [], boxes := [[SV.sl tV l, SV.int IntKind.i64 m, SV.int IntKind.i64 le, SV.int IntKind.i64 nn, SV.int IntKind.i64 d, SV.int IntKind.i64 a, SV.int IntKind.i64 b, SV.int IntKind.i64 c, SV.int IntKind.i64 e, SV.int IntKind.i64 f, SV.int IntKind.i64 h, SV.int IntKind.i64 p, SV.int IntKind.i64 q, SV.int IntKind.i64 r, SV.int IntKind.i64 x, SV.int IntKind.i64 y, SV.int IntKind.i64 z, SV.sl tV legs, SV.own (nat_lit 100 + (0 : Nat)), SV.int IntKind.i64 x, SV.int IntKind.i64 y, SV.int IntKind.i64 z, SV.sl (Ty.pair (Ty.int IntKind.i64) (Ty.pair (Ty.int IntKind.i64) (Ty.int IntKind.i64))) legs, SV.bool true]], news := [Ob.row (3 : TypeId) tI dirs] }) (Tree.need (inv_goD n hok ((), (↑(List.length legs) : Int), (0 : Int), l, m, le, nn, d, a, b, c, e, f, h, p, q, r, x, y, z, legs, dirs, x, y, z, legs, true, ())) (Tree.need ((0 : Int) ≤ (0 : Int) ∧ (0 : Int) ≤ (↑(List.length legs) : Int) ∧ (↑(List.length legs) : Int) ≤ (↑(List.length (dO (↑(List.length legs) : Int) (0 : Int) l m le nn d a b c e f h p q r x y z legs dirs x y z legs true).fst) : Int)) (Tree.need ((0 : Int) ≤ (↑(List.length legs) : Int) ∧ (↑(List.length legs) : Int) ≤ (↑(List.length (dO (↑(List.length legs) : Int) (0 : Int) l m le nn d a b c e f h p q r x y z legs dirs x y z legs true).snd.fst) : Int)) (Tree.leaf { res := SV.tup [], boxes := [[SV.sl tV l, SV.int IntKind.i64 m, SV.int IntKind.i64 le, SV.int IntKind.i64 nn, SV.int IntKind.i64 d, SV.int IntKind.i64 a, SV.int IntKind.i64 b, SV.int IntKind.i64 c, SV.int IntKind.i64 e, SV.int IntKind.i64 f, SV.int IntKind.i64 h, SV.int IntKind.i64 p, SV.int IntKind.i64 q, SV.int IntKind.i64 r, SV.int IntKind.i64 x, SV.int IntKind.i64 y, SV.int IntKind.i64 z, SV.sl tV (List.drop (Int.toNat (0 : Int)) (List.take (Int.toNat (↑(List.length legs) : Int)) (dO (↑(List.length legs) : Int) (0 : Int) l m le nn d a b c e f h p q r x y z legs dirs x y z legs true).fst)), SV.own (nat_lit 100 + (0 : Nat)), SV.int IntKind.i64 (dO (↑(List.length legs) : Int) (0 : Int) l m le nn d a b c e f h p q r x y z legs dirs x y z legs true).snd.snd.fst.fst.fst, SV.int IntKind.i64 (dO (↑(List.length legs) : Int) (0 : Int) l m le nn d a b c e f h p q r x y z legs dirs x y z legs true).snd.snd.fst.fst.snd.fst, SV.int IntKind.i64 (dO (↑(List.length legs) : Int) (0 : Int) l m le nn d a b c e f h p q r x y z legs dirs x y z legs true).snd.snd.fst.fst.snd.snd, SV.sl tV (dO (↑(List.length legs) : Int) (0 : Int) l m le nn d a b c e f h p q r x y z legs dirs x y z legs true).snd.snd.fst.snd, SV.bool (dO (↑(List.length legs) : Int) (0 : Int) l m le nn d a b c e f h p q r x y z legs dirs x y z legs true).snd.snd.snd]], news := [Ob.row (3 : TypeId) tI (List.take (Int.toNat (↑(List.length legs) : Int)) (dO (↑(List.length legs) : Int) (0 : Int) l m le nn d a b c e f h p q r x y z legs dirs x y z legs true).snd.fst)] }))))))
        (Tree.cond ((↑(List.length legs) : Int) == le) (Tree.leaf { res := SV.tup [], boxes := [[SV.sl tV l, SV.int IntKind.i64 m, SV.int IntKind.i64 le, SV.int IntKind.i64 nn, SV.int IntKind.i64 d, SV.int IntKind.i64 a, SV.int IntKind.i64 b, SV.int IntKind.i64 c, SV.int IntKind.i64 e, SV.int IntKind.i64 f, SV.int IntKind.i64 h, SV.int IntKind.i64 p, SV.int IntKind.i64 q, SV.int IntKind.i64 r, SV.int IntKind.i64 x, SV.int IntKind.i64 y, SV.int IntKind.i64 z, SV.sl tV legs, SV.own (nat_lit 100 + (0 : Nat)), SV.int IntKind.i64 x2, SV.int IntKind.i64 y2, SV.int IntKind.i64 z2, SV.sl tV bl, SV.bool fd]], news := [Ob.row (3 : TypeId) tI dirs] }) (Tree.need (inv_goD n hok ((), (↑(List.length legs) : Int), (0 : Int), l, m, le, nn, d, a, b, c, e, f, h, p, q, r, x, y, z, legs, dirs, x2, y2, z2, bl, fd, ())) (Tree.need ((0 : Int) ≤ (0 : Int) ∧ (0 : Int) ≤ (↑(List.length legs) : Int) ∧ (↑(List.length legs) : Int) ≤ (↑(List.length (dO (↑(List.length legs) : Int) (0 : Int) l m le nn d a b c e f h p q r x y z legs dirs x2 y2 z2 bl fd).fst) : Int)) (Tree.need ((0 : Int) ≤ (↑(List.length legs) : Int) ∧ (↑(List.length legs) : Int) ≤ (↑(List.length (dO (↑(List.length legs) : Int) (0 : Int) l m le nn d a b c e f h p q r x y z legs dirs x2 y2 z2 bl fd).snd.fst) : Int)) (Tree.leaf { res := SV.tup [], boxes := [[SV.sl tV l, SV.int IntKind.i64 m, SV.int IntKind.i64 le, SV.int IntKind.i64 nn, SV.int IntKind.i64 d, SV.int IntKind.i64 a, SV.int IntKind.i64 b, SV.int IntKind.i64 c, SV.int IntKind.i64 e, SV.int IntKind.i64 f, SV.int IntKind.i64 h, SV.int IntKind.i64 p, SV.int IntKind.i64 q, SV.int IntKind.i64 r, SV.int IntKind.i64 x, SV.int IntKind.i64 y, SV.int IntKind.i64 z, SV.sl tV (List.drop (Int.toNat (0 : Int)) (List.take (Int.toNat (↑(List.length legs) : Int)) (dO (↑(List.length legs) : Int) (0 : Int) l m le nn d a b c e f h p q r x y z legs dirs x2 y2 z2 bl fd).fst)), SV.own (nat_lit 100 + (0 : Nat)), SV.int IntKind.i64 (dO (↑(List.length legs) : Int) (0 : Int) l m le nn d a b c e f h p q r x y z legs dirs x2 y2 z2 bl fd).snd.snd.fst.fst.fst, SV.int IntKind.i64 (dO (↑(List.length legs) : Int) (0 : Int) l m le nn d a b c e f h p q r x y z legs dirs x2 y2 z2 bl fd).snd.snd.fst.fst.snd.fst, SV.int IntKind.i64 (dO (↑(List.length legs) : Int) (0 : Int) l m le nn d a b c e f h p q r x y z legs dirs x2 y2 z2 bl fd).snd.snd.fst.fst.snd.snd, SV.sl tV (dO (↑(List.length legs) : Int) (0 : Int) l m le nn d a b c e f h p q r x y z legs dirs x2 y2 z2 bl fd).snd.snd.fst.snd, SV.bool (dO (↑(List.length legs) : Int) (0 : Int) l m le nn d a b c e f h p q r x y z legs dirs x2 y2 z2 bl fd).snd.snd.snd]], news := [Ob.row (3 : TypeId) tI (List.take (Int.toNat (↑(List.length legs) : Int)) (dO (↑(List.length legs) : Int) (0 : Int) l m le nn d a b c e f h p q r x y z legs dirs x2 y2 z2 bl fd).snd.fst)] }))))))
      (Tree.cond ((↑(List.length legs) : Int) == le) (Tree.leaf { res := SV.tup [], boxes := [[SV.sl tV l, SV.int IntKind.i64 m, SV.int IntKind.i64 le, SV.int IntKind.i64 nn, SV.int IntKind.i64 d, SV.int IntKind.i64 a, SV.int IntKind.i64 b, SV.int IntKind.i64 c, SV.int IntKind.i64 e, SV.int IntKind.i64 f, SV.int IntKind.i64 h, SV.int IntKind.i64 p, SV.int IntKind.i64 q, SV.int IntKind.i64 r, SV.int IntKind.i64 x, SV.int IntKind.i64 y, SV.int IntKind.i64 z, SV.sl tV legs, SV.own (nat_lit 100 + (0 : Nat)), SV.int IntKind.i64 x2, SV.int IntKind.i64 y2, SV.int IntKind.i64 z2, SV.sl tV bl, SV.bool fd]], news := [Ob.row (3 : TypeId) tI dirs] }) (Tree.need (inv_goD n hok ((), (↑(List.length legs) : Int), (0 : Int), l, m, le, nn, d, a, b, c, e, f, h, p, q, r, x, y, z, legs, dirs, x2, y2, z2, bl, fd, ())) (Tree.need ((0 : Int) ≤ (0 : Int) ∧ (0 : Int) ≤ (↑(List.length legs) : Int) ∧ (↑(List.length legs) : Int) ≤ (↑(List.length (dO (↑(List.length legs) : Int) (0 : Int) l m le nn d a b c e f h p q r x y z legs dirs x2 y2 z2 bl fd).fst) : Int)) (Tree.need ((0 : Int) ≤ (↑(List.length legs) : Int) ∧ (↑(List.length legs) : Int) ≤ (↑(List.length (dO (↑(List.length legs) : Int) (0 : Int) l m le nn d a b c e f h p q r x y z legs dirs x2 y2 z2 bl fd).snd.fst) : Int)) (Tree.leaf { res := SV.tup [], boxes := [[SV.sl tV l, SV.int IntKind.i64 m, SV.int IntKind.i64 le, SV.int IntKind.i64 nn, SV.int IntKind.i64 d, SV.int IntKind.i64 a, SV.int IntKind.i64 b, SV.int IntKind.i64 c, SV.int IntKind.i64 e, SV.int IntKind.i64 f, SV.int IntKind.i64 h, SV.int IntKind.i64 p, SV.int IntKind.i64 q, SV.int IntKind.i64 r, SV.int IntKind.i64 x, SV.int IntKind.i64 y, SV.int IntKind.i64 z, SV.sl tV (List.drop (Int.toNat (0 : Int)) (List.take (Int.toNat (↑(List.length legs) : Int)) (dO (↑(List.length legs) : Int) (0 : Int) l m le nn d a b c e f h p q r x y z legs dirs x2 y2 z2 bl fd).fst)), SV.own (nat_lit 100 + (0 : Nat)), SV.int IntKind.i64 (dO (↑(List.length legs) : Int) (0 : Int) l m le nn d a b c e f h p q r x y z legs dirs x2 y2 z2 bl fd).snd.snd.fst.fst.fst, SV.int IntKind.i64 (dO (↑(List.length legs) : Int) (0 : Int) l m le nn d a b c e f h p q r x y z legs dirs x2 y2 z2 bl fd).snd.snd.fst.fst.snd.fst, SV.int IntKind.i64 (dO (↑(List.length legs) : Int) (0 : Int) l m le nn d a b c e f h p q r x y z legs dirs x2 y2 z2 bl fd).snd.snd.fst.fst.snd.snd, SV.sl tV (dO (↑(List.length legs) : Int) (0 : Int) l m le nn d a b c e f h p q r x y z legs dirs x2 y2 z2 bl fd).snd.snd.fst.snd, SV.bool (dO (↑(List.length legs) : Int) (0 : Int) l m le nn d a b c e f h p q r x y z legs dirs x2 y2 z2 bl fd).snd.snd.snd]], news := [Ob.row (3 : TypeId) tI (List.take (Int.toNat (↑(List.length legs) : Int)) (dO (↑(List.length legs) : Int) (0 : Int) l m le nn d a b c e f h p q r x y z legs dirs x2 y2 z2 bl fd).snd.fst)] })))))))
  (Tree.cond ((↑(List.length legs) : Int) == le) (Tree.leaf { res := SV.tup [], boxes := [[SV.sl tV l, SV.int IntKind.i64 m, SV.int IntKind.i64 le, SV.int IntKind.i64 nn, SV.int IntKind.i64 d, SV.int IntKind.i64 a, SV.int IntKind.i64 b, SV.int IntKind.i64 c, SV.int IntKind.i64 e, SV.int IntKind.i64 f, SV.int IntKind.i64 h, SV.int IntKind.i64 p, SV.int IntKind.i64 q, SV.int IntKind.i64 r, SV.int IntKind.i64 x, SV.int IntKind.i64 y, SV.int IntKind.i64 z, SV.sl tV legs, SV.own (nat_lit 100 + (0 : Nat)), SV.int IntKind.i64 x2, SV.int IntKind.i64 y2, SV.int IntKind.i64 z2, SV.sl tV bl, SV.bool fd]], news := [Ob.row (3 : TypeId) tI dirs] }) (Tree.need (inv_goD n hok ((), (↑(List.length legs) : Int), (0 : Int), l, m, le, nn, d, a, b, c, e, f, h, p, q, r, x, y, z, legs, dirs, x2, y2, z2, bl, fd, ())) (Tree.need ((0 : Int) ≤ (0 : Int) ∧ (0 : Int) ≤ (↑(List.length legs) : Int) ∧ (↑(List.length legs) : Int) ≤ (↑(List.length (dO (↑(List.length legs) : Int) (0 : Int) l m le nn d a b c e f h p q r x y z legs dirs x2 y2 z2 bl fd).fst) : Int)) (Tree.need ((0 : Int) ≤ (↑(List.length legs) : Int) ∧ (↑(List.length legs) : Int) ≤ (↑(List.length (dO (↑(List.length legs) : Int) (0 : Int) l m le nn d a b c e f h p q r x y z legs dirs x2 y2 z2 bl fd).snd.fst) : Int)) (Tree.leaf { res := SV.tup [], boxes := [[SV.sl tV l, SV.int IntKind.i64 m, SV.int IntKind.i64 le, SV.int IntKind.i64 nn, SV.int IntKind.i64 d, SV.int IntKind.i64 a, SV.int IntKind.i64 b, SV.int IntKind.i64 c, SV.int IntKind.i64 e, SV.int IntKind.i64 f, SV.int IntKind.i64 h, SV.int IntKind.i64 p, SV.int IntKind.i64 q, SV.int IntKind.i64 r, SV.int IntKind.i64 x, SV.int IntKind.i64 y, SV.int IntKind.i64 z, SV.sl tV (List.drop (Int.toNat (0 : Int)) (List.take (Int.toNat (↑(List.length legs) : Int)) (dO (↑(List.length legs) : Int) (0 : Int) l m le nn d a b c e f h p q r x y z legs dirs x2 y2 z2 bl fd).fst)), SV.own (nat_lit 100 + (0 : Nat)), SV.int IntKind.i64 (dO (↑(List.length legs) : Int) (0 : Int) l m le nn d a b c e f h p q r x y z legs dirs x2 y2 z2 bl fd).snd.snd.fst.fst.fst, SV.int IntKind.i64 (dO (↑(List.length legs) : Int) (0 : Int) l m le nn d a b c e f h p q r x y z legs dirs x2 y2 z2 bl fd).snd.snd.fst.fst.snd.fst, SV.int IntKind.i64 (dO (↑(List.length legs) : Int) (0 : Int) l m le nn d a b c e f h p q r x y z legs dirs x2 y2 z2 bl fd).snd.snd.fst.fst.snd.snd, SV.sl tV (dO (↑(List.length legs) : Int) (0 : Int) l m le nn d a b c e f h p q r x y z legs dirs x2 y2 z2 bl fd).snd.snd.fst.snd, SV.bool (dO (↑(List.length legs) : Int) (0 : Int) l m le nn d a b c e f h p q r x y z legs dirs x2 y2 z2 bl fd).snd.snd.snd]], news := [Ob.row (3 : TypeId) tI (List.take (Int.toNat (↑(List.length legs) : Int)) (dO (↑(List.length legs) : Int) (0 : Int) l m le nn d a b c e f h p q r x y z legs dirs x2 y2 z2 bl fd).snd.fst)] }))))) := by kernel_rfl

theorem M_go1 : ∀ n, H_go1 n := by
  intro n
  induction n with
  | zero => exact fun a h => absurd h.2 (Nat.not_lt_zero _)
  | succ n hok =>
    rintro ⟨⟨⟩, l, m, le, nn, d, a, b, c, e, f, h, p, q, r, x, y, z, legs, dirs, x2, y2, z2, bl, fd, ⟨⟩⟩ hp
    refine m_of hm (own := true) (by kernel_rfl) (by kernel_rfl) (by kernel_rfl) (T_go1 n hok l m le nn d a b c e f h p q r x y z legs dirs x2 y2 z2 bl fd) ⟨K_goD n hok, trivial⟩ ?_

    obtain ⟨⟨h0, h1, h2, h3⟩, h4⟩ := hp
    have h2' : (legs.length : Int) ≤ le := h2
    have h3' : dirs.length = legs.length := h3
    have h4' : le.toNat - legs.length < n + 1 := h4
    have hg := h0.1
    obtain ⟨g1, g2, g3, g4, g5⟩ := hg
    simp only [gOf] at g1 g2 g3 g4 g5
    have hleg : ∀ v ∈ legs, (legS v).2 = true := fun v hv => legOk_leg (checkS_legs h1 v hv)
    have tail : ∀ (u1 u2 u3 : Int) (ul : List V) (ub : Bool), hereG (gOf l m le nn d a b c e f h) (x, y, z) (legs, dirs, (((x2, y2, z2), bl), fd)) = (legs, dirs, (((u1, u2, u3), ul), ub)) →
        Tree.holds (fun s => s = mkG l m le nn d a b c e f h p q r x y z (goIn l m le nn d a b c e f h p q r x y z legs dirs x2 y2 z2 bl fd)) (Tree.cond ((legs.length : Int) == le) (Tree.leaf (mkG l m le nn d a b c e f h p q r x y z (legs, dirs, (((u1, u2, u3), ul), ub))))
          (Tree.need (inv_goD n hok ((), (legs.length : Int), (0 : Int), l, m, le, nn, d, a, b, c, e, f, h, p, q, r, x, y, z, legs, dirs, u1, u2, u3, ul, ub, ()))
            (Tree.need ((0 : Int) ≤ 0 ∧ (0 : Int) ≤ (legs.length : Int) ∧ (legs.length : Int) ≤ ((dO (legs.length : Int) 0 l m le nn d a b c e f h p q r x y z legs dirs u1 u2 u3 ul ub).1.length : Int))
              (Tree.need ((0 : Int) ≤ (legs.length : Int) ∧ (legs.length : Int) ≤ ((dO (legs.length : Int) 0 l m le nn d a b c e f h p q r x y z legs dirs u1 u2 u3 ul ub).2.1.length : Int))
                (Tree.leaf (mkG l m le nn d a b c e f h p q r x y z (List.drop (Int.toNat 0) (List.take (Int.toNat (legs.length : Int)) (dO (legs.length : Int) 0 l m le nn d a b c e f h p q r x y z legs dirs u1 u2 u3 ul ub).1), List.take (Int.toNat (legs.length : Int)) (dO (legs.length : Int) 0 l m le nn d a b c e f h p q r x y z legs dirs u1 u2 u3 ul ub).2.1, (dO (legs.length : Int) 0 l m le nn d a b c e f h p q r x y z legs dirs u1 u2 u3 ul ub).2.2))))))) := by
      intro u1 u2 u3 ul ub hb
      have hd1 := dG_fix (g := gOf l m le nn d a b c e f h) (x := (x, y, z)) (first := (p, q, r)) (n := legs.length) (L := legs) (M := dirs) (go_fix (g := gOf l m le nn d a b c e f h) (x := (x, y, z)) (first := (p, q, r)) (le.toNat - legs.length - 1)) rfl h3' l 0 (legs, dirs, (((u1, u2, u3), ul), ub)) (List.take_length) (by rw [← h3', List.take_length])
      have ed : (dO (legs.length : Int) 0 l m le nn d a b c e f h p q r x y z legs dirs u1 u2 u3 ul ub) = dG (goR (gOf l m le nn d a b c e f h) (x, y, z) (p, q, r) (le.toNat - legs.length - 1)) (gOf l m le nn d a b c e f h) (x, y, z) (p, q, r) legs.length l 0 (legs, dirs, (((u1, u2, u3), ul), ub)) := by
        unfold dO
        rw [Int.toNat_natCast, Int.toNat_zero, List.drop_zero]
      rw [← ed] at hd1
      have l1 := congrArg List.length hd1.1
      have l2 := congrArg List.length hd1.2
      rw [List.length_take] at l1 l2
      refine ⟨fun hl => ?_, fun hl => ⟨?_, ⟨by decide, by omega, by omega⟩, ⟨by omega, by omega⟩, ?_⟩⟩
      · simp only [beq_iff_eq] at hl
        unfold goIn
        rw [show le.toNat - legs.length = 0 by omega, goR, hb]
        exact rfl
      · simp only [beq_eq_false_iff_ne, ne_eq] at hl
        refine ⟨h0, by omega, by omega, by rw [Int.toNat_natCast]; omega, by omega, by omega, by decide, by omega, fun v hv => hleg v ?_⟩
        rw [Int.toNat_natCast, List.take_length] at hv
        exact hv
      · simp only [beq_eq_false_iff_ne, ne_eq] at hl
        have eg : (goIn l m le nn d a b c e f h p q r x y z legs dirs x2 y2 z2 bl fd) = cutG legs.length (dO (legs.length : Int) 0 l m le nn d a b c e f h p q r x y z legs dirs u1 u2 u3 ul ub) := by
          unfold goIn
          rw [show le.toNat - legs.length = le.toNat - legs.length - 1 + 1 by omega, goR, hb, ed]
          rfl
        rw [eg, Int.toNat_natCast, Int.toNat_zero, List.drop_zero]
        exact rfl
    show Tree.holds (fun s => s = mkG l m le nn d a b c e f h p q r x y z (goIn l m le nn d a b c e f h p q r x y z legs dirs x2 y2 z2 bl fd)) _
    have no : ¬ (0 < legs.length ∧ withinS (endS (x, y, z) legs) ((a, b, c), e, f, h) = true ∧ betterS ((x, y, z), legs) (((x2, y2, z2), bl), fd) = true) → hereG (gOf l m le nn d a b c e f h) (x, y, z) (legs, dirs, (((x2, y2, z2), bl), fd)) = (legs, dirs, (((x2, y2, z2), bl), fd)) := fun hn => by
      exact congrArg (fun z => (legs, dirs, z)) (if_neg hn)
    have yes : (0 < legs.length ∧ withinS (endS (x, y, z) legs) ((a, b, c), e, f, h) = true ∧ betterS ((x, y, z), legs) (((x2, y2, z2), bl), fd) = true) → hereG (gOf l m le nn d a b c e f h) (x, y, z) (legs, dirs, (((x2, y2, z2), bl), fd)) = (legs, dirs, (((x, y, z), legs), true)) := fun hn => by
      exact congrArg (fun z => (legs, dirs, z)) (if_pos hn)
    refine ⟨fun c1 => ⟨by omega, fun c2 => ⟨fun c3 => ⟨by omega, ?_⟩, fun c3 => ?_⟩, fun c2 => ?_⟩, fun c1 => ?_⟩
    all_goals simp only [gt_iff_lt, decide_eq_true_eq, decide_eq_false_iff_not] at c1
    · exact tail _ _ _ _ _ (yes ⟨by omega, c2, c3⟩)
    · exact tail _ _ _ _ _ (no fun h => by rw [c3] at h; exact Bool.noConfusion h.2.2)
    · exact tail _ _ _ _ _ (no fun h => by rw [c2] at h; exact Bool.noConfusion h.2.1)
    · exact tail _ _ _ _ _ (no fun h => by omega)
def c_go1 : MC P := MC.of (α := Unit × List V × Int × Int × Int × Int × Int × Int × Int × Int × Int × Int × Int × Int × Int × Int × Int × Int × List V × List Int × Int × Int × Int × List V × Bool × Unit) 107 L_go1 (fun x => x) (fun x => x) (fun _ => rfl) (fun a => some (pre_go1 a)) out_go1 (by kernel_rfl) (by kernel_rfl) (by kernel_rfl) (fun a h => M_go1 (mu_go1 a + 1) a ⟨h, Nat.lt_succ_self _⟩)

end
end Go.MP
