/- Goals: path.CheckGoal and path.Plan. -/
import Derived.Test.YtnlflnbbgklalaaMpZ
import Derived.Test.YtnlflnbbgklalaaMpH
namespace Go.MP
open Go Go.Sx Go.Proofs
set_option linter.unusedVariables false
set_option linter.unusedSimpArgs false
noncomputable section

/-- The first place of an element; -1: none. -/
def idxR (v : V) : Int → List V → Int
  | _, [] => -1
  | i, a :: r => if a = v then i else idxR v (i + 1) r
theorem idxR_mem {v : V} : ∀ {l : List V} {i : Int}, 0 ≤ i → (0 ≤ idxR v i l ↔ v ∈ l)
  | [], i, h => by simp [idxR]
  | a :: r, i, h => by
    rw [idxR]
    split
    · rename_i e; simp [e, h]
    · rename_i e
      rw [idxR_mem (by omega), List.mem_cons]
      exact ⟨fun h => .inr h, fun h => h.elim (fun h => absurd h.symm e) id⟩
theorem idxR_neg {v : V} : ∀ {l : List V} {i : Int}, 0 ≤ i → idxR v i l < 0 → idxR v i l = -1
  | [], i, h, _ => rfl
  | a :: r, i, h, hn => by
    rw [idxR] at hn ⊢
    split
    · rename_i e; rw [if_pos e] at hn; omega
    · rename_i e; rw [if_neg e] at hn; exact idxR_neg (by omega) hn
def L_Index : Lay := { slots := [(0, .val tVs), (3, .ptr 4019 0), (7, .val tI), (8, .val tI)], boxes := [(4019, [.val tI, .val tI, .val tI])] }
def L_Index_0 : Lay := { slots := [] }
def L_Index_1 : Lay := { slots := [(4, .val tI)] }
def X_Index : Exit → Option Lay
  | .exit 0 => some L_Index_0
  | .ret => some L_Index_1
  | _ => none
abbrev C_Index : Code := loopC (bodyOf Try.f137) 0
theorem B_Index (l : List V) (n i x y z : Int) : loopBodyA (P := P) [] (lpOf []) [] 19 noU (inner C_Index) L_Index X_Index (α := List V × Unit × Int × Int × Int × Int × Int × Unit) (fun x => x) (fun x => x) (l, (), n, i, x, y, z, ()) =
  Tree.cond (decide (i < n)) (Tree.need ((0 : Int) ≤ i ∧ i < (↑(List.length l) : Int)) (Tree.cond (x == (List.getD l (Int.toNat i) ((0 : Int), (0 : Int), (0 : Int))).fst && (y == (List.getD l (Int.toNat i) ((0 : Int), (0 : Int), (0 : Int))).snd.fst && (z == (List.getD l (Int.toNat i) ((0 : Int), (0 : Int), (0 : Int))).snd.snd && true))) (Tree.leaf (Sum.inr (Exit.ret, Lay.st L_Index_1 noU (i, PUnit.unit)))) (Tree.leaf (Sum.inl (l, PUnit.unit, n, IntKind.wrap IntKind.i64 (i + (1 : Int)), x, y, z, PUnit.unit))))) (Tree.leaf (Sum.inr (Exit.exit (0 : Nat), Lay.st L_Index_0 noU PUnit.unit))) := by kernel_rfl

def inv_Index : List V × Unit × Int × Int × Int × Int × Int × Unit → Prop := fun (l, _, n, i, x, y, z, _) => n = l.length ∧ 0 ≤ i ∧ i ≤ n ∧ l.length ≤ 1000
def O_Index : List V × Unit × Int × Int × Int × Int × Int × Unit → Tree (Exit × St) := fun (l, _, n, i, x, y, z, _) => .cond (decide (idxR (x, y, z) i (l.drop i.toNat) < 0)) (.leaf (.exit 0, L_Index_0.st noU ())) (.leaf (.ret, L_Index_1.st noU (idxR (x, y, z) i (l.drop i.toNat), ())))
def R_Index : LRun := runOf 19 L_Index (fun x => x) (inv_Index) (O_Index)
theorem K_Index : LoopOk P [] 19 none noU C_Index (R_Index) := by
  refine loop_of hm (cx := []) [] (xl := X_Index) (α := List V × Unit × Int × Int × Int × Int × Int × Unit) (fun x => x) (fun (l, _, n, i, _) => (n - i).toNat) (fun _ => rfl) (by kernel_rfl) (by kernel_rfl) ?_ (by kernel_rfl) trivial ?_
  · intro e L' h
    unfold X_Index at h
    split at h <;> cases h <;> kernel_rfl
  · rintro ⟨l, ⟨⟩, n, i, x, y, z, ⟨⟩⟩ hinv Q hQ
    refine hold_of_eq (B_Index l n i x y z) ?_

    obtain ⟨h0, h1, h2, h3⟩ := hinv
    subst h0
    rw [W_id (n := i + 1) (by omega) (by omega)]
    unfold O_Index at hQ
    dsimp only at hQ
    refine ⟨fun hi => ?_, fun hi => ?_⟩
    · simp only [decide_eq_true_eq] at hi
      have hm : ((l.length : Int) - (i + 1)).toNat < ((l.length : Int) - i).toNat := by omega
      rw [drop_step (0, 0, 0) h1 hi, idxR] at hQ
      generalize l.getD i.toNat (0, 0, 0) = a at *
      refine ⟨⟨h1, hi⟩, fun he => ?_, fun he => ?_⟩
      · have e : a = (x, y, z) := by
          obtain ⟨a1, a2, a3⟩ := a
          simp only [Bool.and_true, Bool.and_eq_true, beq_iff_eq] at he
          obtain ⟨rfl, rfl, rfl⟩ := he
          rfl
        rw [if_pos e] at hQ
        exact hQ.2 (by simp only [decide_eq_false_iff_not]; omega)
      · have e : ¬ a = (x, y, z) := by
          intro h
          subst h
          simp at he
        rw [if_neg e] at hQ
        exact ⟨⟨⟨rfl, by omega, by omega, h3⟩, hm⟩, hQ⟩
    · simp only [decide_eq_false_iff_not] at hi
      rw [drop_end hi, idxR] at hQ
      exact hQ.1 rfl
theorem T_Index (l : List V) (x y z : Int) : fnTree (P := P) [] (lpOf [(0, R_Index)]) Try.f137 (encL 0 [.val tVs, .agg tV] (l, (x, y, z), ())) =
  Tree.need (inv_Index (l, (), (↑(List.length l) : Int), (0 : Int), x, y, z, ())) (Tree.cond (decide (idxR (x, y, z) (0 : Int) (List.drop (Int.toNat (0 : Int)) l) < (0 : Int))) (Tree.leaf (SV.int IntKind.i64 (-1 : Int))) (Tree.leaf (SV.int IntKind.i64 (idxR (x, y, z) (0 : Int) (List.drop (Int.toNat (0 : Int)) l))))) := by kernel_rfl

def c_Index : PC P := PC.of (α := List V × V × Unit) 137 [.val tVs, .agg tV] (fun x => x) (fun x => x) (fun _ => rfl)
  (fun x => some (x.1.length ≤ 1000))
  (fun x => .int .i64 (idxR x.2.1 0 x.1)) (by kernel_rfl) (by
    rintro ⟨l, ⟨x, y, z⟩, ⟨⟩⟩ hp
    refine fn_of hm (by kernel_rfl) (by kernel_rfl) (T_Index l x y z) ⟨K_Index, trivial⟩ ?_

    show Tree.holds (fun s => s = SV.int .i64 (idxR (x, y, z) 0 l)) _
    have hp' : l.length ≤ 1000 := hp
    refine ⟨⟨rfl, by decide, by omega, hp⟩, fun h => ?_, fun h => rfl⟩
    simp only [decide_eq_true_eq, Int.toNat_zero, List.drop_zero] at h
    rw [idxR_neg (by decide) h]
    exact rfl)
theorem T_Contains (l : List V) (x y z : Int) : fnTree (P := P) [c_Index.gc] (lpOf []) Try.f108 (encL 0 [.val tVs, .agg tV] (l, (x, y, z), ())) =
  Tree.need (List.length l ≤ (1000 : Nat)) (Tree.leaf (SV.bool (decide (idxR (x, y, z) (0 : Int) l ≥ (0 : Int))))) := by kernel_rfl

def c_Contains : PC P := PC.of (α := List V × V × Unit) 108 [.val tVs, .agg tV] (fun x => x) (fun x => x) (fun _ => rfl)
  (fun x => some (x.1.length ≤ 1000))
  (fun x => .bool (decide (x.2.1 ∈ x.1))) (by kernel_rfl) (by
    rintro ⟨l, ⟨x, y, z⟩, ⟨⟩⟩ hp
    refine fn_of hm (by kernel_rfl) (by kernel_rfl) (T_Contains l x y z) trivial ?_

    exact ⟨hp, congrArg SV.bool (decide_eq_decide.2 (idxR_mem (by decide)))⟩)

/-- A direction of a goal. -/
def goalDir (D : V) : Prop := (wholeS D).2 = true ∧ 100 ≤ (wholeS D).1 ∧ (wholeS D).1 ≤ 4000
/-- What is wrong with the directions of a goal. -/
def dirsR (l : List V) : Int → List V → Int
  | _, [] => 0
  | i, d :: r => if (wholeS d).2 = false then 3 else if (wholeS d).1 < 100 ∨ (wholeS d).1 > 4000 then 2 else if d ∈ l.take i.toNat then 9 else dirsR l (i + 1) r
def badG (g : Goal) : Prop := g.2.1 < 1 ∨ g.2.1 > 8 ∨ g.2.2.1 < 1 ∨ g.2.2.1 > 3 ∨ g.2.2.2.1.2 < 1 ∨ g.2.2.2.1.2 > 1000 ∨ g.2.2.2.1.1 < 0 ∨ g.2.2.2.1.1 > g.2.2.2.1.2 ∨ g.2.2.2.2.1.1 > g.2.2.2.2.2.1 ∨ g.2.2.2.2.1.2.1 > g.2.2.2.2.2.2.1 ∨ g.2.2.2.2.1.2.2 > g.2.2.2.2.2.2.2
instance (g : Goal) : Decidable (badG g) := by unfold badG; infer_instance
def goalS (g : Goal) : Int := if g.1.length < 2 then 6 else if g.1.length > 8 then 8 else if dirsR g.1 0 g.1 ≠ 0 then dirsR g.1 0 g.1 else if badG g then 2 else 0
theorem goalS_zero {g : Goal} (h : goalS g = 0) : okGoal g ∧ 2 ≤ g.1.length ∧ dirsR g.1 0 g.1 = 0 ∧ ¬ badG g := by
  unfold goalS at h
  by_cases h1 : g.1.length < 2
  · rw [if_pos h1] at h; cases h
  rw [if_neg h1] at h
  by_cases h2 : g.1.length > 8
  · rw [if_pos h2] at h; cases h
  rw [if_neg h2] at h
  by_cases h3 : dirsR g.1 0 g.1 ≠ 0
  · rw [if_pos h3] at h; exact absurd h h3
  rw [if_neg h3] at h
  by_cases h4 : badG g
  · rw [if_pos h4] at h; cases h
  have h5 := h4
  unfold badG at h5
  exact ⟨⟨by omega, by omega, by omega, by omega, by omega⟩, by omega, by simpa using h3, h4⟩
def L_CheckGoal : Lay := { slots := [(1, .ptr 2120 0), (21, .val tVs), (22, .val tI), (23, .val tI)], boxes := [(2120, bGoal)] }
def L_CheckGoal_0 : Lay := { slots := [(1, .ptr 2120 0)], boxes := [(2120, bGoal)] }
def L_CheckGoal_1 : Lay := { slots := [(2, .val tI)] }
def X_CheckGoal : Exit → Option Lay
  | .exit 1 => some L_CheckGoal_0
  | .ret => some L_CheckGoal_1
  | _ => none
abbrev C_CheckGoal : Code := loopC (bodyOf Try.f49) 1
theorem B_CheckGoal (dl : List V) (dn i : Int) (l : List V) (m le nn d a b c e f h : Int) : loopBodyA (P := P) [c_whole.gc, c_Contains.gc] (lpOf []) [] 120 noU (inner C_CheckGoal) L_CheckGoal X_CheckGoal (α := Unit × List V × Int × Int × List V × Int × Int × Int × Int × Int × Int × Int × Int × Int × Int × Unit) (fun x => x) (fun x => x) ((), dl, dn, i, l, m, le, nn, d, a, b, c, e, f, h, ()) =
  Tree.cond (decide (i < dn)) (Tree.need ((0 : Int) ≤ i ∧ i < (↑(List.length dl) : Int)) (Tree.cond (!(wholeS (List.getD dl (Int.toNat i) ((0 : Int), (0 : Int), (0 : Int)))).snd) (Tree.leaf (Sum.inr (Exit.ret, Lay.st L_CheckGoal_1 noU ((3 : Int), PUnit.unit)))) (Tree.cond (decide ((wholeS (List.getD dl (Int.toNat i) ((0 : Int), (0 : Int), (0 : Int)))).fst < (100 : Int))) (Tree.leaf (Sum.inr (Exit.ret, Lay.st L_CheckGoal_1 noU ((2 : Int), PUnit.unit)))) (Tree.cond (decide ((wholeS (List.getD dl (Int.toNat i) ((0 : Int), (0 : Int), (0 : Int)))).fst > (4000 : Int))) (Tree.leaf (Sum.inr (Exit.ret, Lay.st L_CheckGoal_1 noU ((2 : Int), PUnit.unit)))) (Tree.need ((0 : Int) ≤ (0 : Int) ∧ (0 : Int) ≤ i ∧ i ≤ (↑(List.length l) : Int)) (Tree.need (List.length (List.drop (Int.toNat (0 : Int)) (List.take (Int.toNat i) l)) ≤ (1000 : Nat)) (Tree.cond (decide (List.getD dl (Int.toNat i) ((0 : Int), (0 : Int), (0 : Int)) ∈ List.drop (Int.toNat (0 : Int)) (List.take (Int.toNat i) l))) (Tree.leaf (Sum.inr (Exit.ret, Lay.st L_CheckGoal_1 noU ((9 : Int), PUnit.unit)))) (Tree.leaf (Sum.inl (PUnit.unit, dl, dn, IntKind.wrap IntKind.i64 (i + (1 : Int)), l, m, le, nn, d, a, b, c, e, f, h, PUnit.unit)))))))))) (Tree.leaf (Sum.inr (Exit.exit (1 : Nat), Lay.st L_CheckGoal_0 noU (PUnit.unit, l, m, le, nn, d, a, b, c, e, f, h, PUnit.unit)))) := by kernel_rfl

def inv_CheckGoal : Unit × List V × Int × Int × List V × Int × Int × Int × Int × Int × Int × Int × Int × Int × Int × Unit → Prop := fun (_, dl, dn, i, l, _) => dl = l ∧ dn = l.length ∧ 0 ≤ i ∧ i ≤ l.length ∧ l.length ≤ 8
def O_CheckGoal : Unit × List V × Int × Int × List V × Int × Int × Int × Int × Int × Int × Int × Int × Int × Int × Unit → Tree (Exit × St) := fun (_, dl, dn, i, l, m, le, nn, d, a, b, c, e, f, h, _) => .cond (decide (dirsR l i (l.drop i.toNat) = 0)) (.leaf (.exit 1, L_CheckGoal_0.st noU ((), l, m, le, nn, d, a, b, c, e, f, h, ()))) (.leaf (.ret, L_CheckGoal_1.st noU (dirsR l i (l.drop i.toNat), ())))
def R_CheckGoal : LRun := runOf 120 L_CheckGoal (fun x => x) (inv_CheckGoal) (O_CheckGoal)
theorem K_CheckGoal : LoopOk P [] 120 none noU C_CheckGoal (R_CheckGoal) := by
  refine loop_of hm (cx := [c_whole.gc, c_Contains.gc]) [] (xl := X_CheckGoal) (α := Unit × List V × Int × Int × List V × Int × Int × Int × Int × Int × Int × Int × Int × Int × Int × Unit) (fun x => x) (fun (_, dl, dn, i, l, _) => (l.length - i).toNat) (fun _ => rfl) (by kernel_rfl) (by kernel_rfl) ?_ (by kernel_rfl) trivial ?_
  · intro e L' h
    unfold X_CheckGoal at h
    split at h <;> cases h <;> kernel_rfl
  · rintro ⟨⟨⟩, dl, dn, i, l, m, le, nn, d, a, b, c, e, f, h, ⟨⟩⟩ hinv Q hQ
    refine hold_of_eq (B_CheckGoal dl dn i l m le nn d a b c e f h) ?_

    obtain ⟨rfl, rfl, h1, h2, h3⟩ := hinv
    rw [W_id (n := i + 1) (by omega) (by omega)]
    unfold O_CheckGoal at hQ
    dsimp only at hQ
    refine ⟨fun hi => ?_, fun hi => ?_⟩
    · simp only [decide_eq_true_eq] at hi
      have hm : ((dl.length : Int) - (i + 1)).toNat < ((dl.length : Int) - i).toNat := by omega
      rw [drop_step (0, 0, 0) h1 hi, dirsR] at hQ
      generalize dl.getD i.toNat (0, 0, 0) = u at *
      rw [Int.toNat_zero, List.drop_zero]
      have ht : (dl.take i.toNat).length ≤ 1000 := by rw [List.length_take]; omega
      refine ⟨⟨h1, hi⟩, fun a1 => ?_, fun a1 => ⟨fun a2 => ?_, fun a2 => ⟨fun a3 => ?_, fun a3 => ⟨⟨by decide, h1, by omega⟩, ht, fun a4 => ?_, fun a4 => ?_⟩⟩⟩⟩
      all_goals simp only [Bool.not_eq_true', Bool.not_eq_false', decide_eq_true_eq, decide_eq_false_iff_not] at *
      · rw [if_pos a1] at hQ
        exact hQ.2 (by decide)
      · rw [if_neg (by rw [a1]; decide), if_pos (Or.inl a2)] at hQ
        exact hQ.2 (by decide)
      · rw [if_neg (by rw [a1]; decide), if_pos (Or.inr a3)] at hQ
        exact hQ.2 (by decide)
      · rw [if_neg (by rw [a1]; decide), if_neg (by omega), if_pos a4] at hQ
        exact hQ.2 (by decide)
      · rw [if_neg (by rw [a1]; decide), if_neg (by omega), if_neg a4] at hQ
        exact ⟨⟨⟨rfl, rfl, by omega, by omega, h3⟩, hm⟩, hQ⟩
    · simp only [decide_eq_false_iff_not] at hi
      rw [drop_end hi, dirsR] at hQ
      exact hQ.1 (by decide)
theorem T_CheckGoal (l : List V) (m le nn d a b c e f h : Int) : fnTree (P := P) [c_whole.gc, c_Contains.gc] (lpOf [(1, R_CheckGoal)]) Try.f49 (encL 0 [.agg tGoal] ((l, m, le, (nn, d), ((a, b, c), (e, f, h))), ())) =
  Tree.cond (decide ((↑(List.length l) : Int) < (2 : Int))) (Tree.leaf (SV.int IntKind.i64 (6 : Int))) (Tree.cond (decide ((↑(List.length l) : Int) > (8 : Int))) (Tree.leaf (SV.int IntKind.i64 (8 : Int))) (Tree.need (inv_CheckGoal ((), l, (↑(List.length l) : Int), (0 : Int), l, m, le, nn, d, a, b, c, e, f, h, ())) (Tree.cond (decide (dirsR l (0 : Int) (List.drop (Int.toNat (0 : Int)) l) = (0 : Int))) (Tree.cond (decide (m < (1 : Int))) (Tree.leaf (SV.int IntKind.i64 (2 : Int))) (Tree.cond (decide (m > (8 : Int))) (Tree.leaf (SV.int IntKind.i64 (2 : Int))) (Tree.cond (decide (le < (1 : Int))) (Tree.leaf (SV.int IntKind.i64 (2 : Int))) (Tree.cond (decide (le > (3 : Int))) (Tree.leaf (SV.int IntKind.i64 (2 : Int))) (Tree.cond (decide (d < (1 : Int))) (Tree.leaf (SV.int IntKind.i64 (2 : Int))) (Tree.cond (decide (d > (1000 : Int))) (Tree.leaf (SV.int IntKind.i64 (2 : Int))) (Tree.cond (decide (nn < (0 : Int))) (Tree.leaf (SV.int IntKind.i64 (2 : Int))) (Tree.cond (decide (nn > d)) (Tree.leaf (SV.int IntKind.i64 (2 : Int))) (Tree.cond (decide (a > e)) (Tree.leaf (SV.int IntKind.i64 (2 : Int))) (Tree.cond (decide (b > f)) (Tree.leaf (SV.int IntKind.i64 (2 : Int))) (Tree.cond (decide (c > h)) (Tree.leaf (SV.int IntKind.i64 (2 : Int))) (Tree.leaf (SV.int IntKind.i64 (0 : Int)))))))))))))) (Tree.leaf (SV.int IntKind.i64 (dirsR l (0 : Int) (List.drop (Int.toNat (0 : Int)) l))))))) := by kernel_rfl

def c_CheckGoal : PC P := PC.of (α := Goal × Unit) 49 [.agg tGoal] (fun x => x) (fun x => x) (fun _ => rfl)
  (fun _ => none)
  (fun x => .int .i64 (goalS x.1)) (by kernel_rfl) (by
    rintro ⟨⟨l, m, le, ⟨nn, d⟩, ⟨⟨a, b, c⟩, ⟨e, f, h⟩⟩⟩, ⟨⟩⟩ hp
    refine fn_of hm (by kernel_rfl) (by kernel_rfl) (T_CheckGoal l m le nn d a b c e f h) ⟨K_CheckGoal, trivial⟩ ?_

    show Tree.holds (fun s => s = SV.int .i64 (goalS (l, m, le, (nn, d), (a, b, c), (e, f, h)))) _
    have bad : ∀ k : Int, badG (l, m, le, (nn, d), (a, b, c), (e, f, h)) → ¬ l.length < 2 → ¬ l.length > 8 → dirsR l 0 l = 0 → goalS (l, m, le, (nn, d), (a, b, c), (e, f, h)) = 2 := fun _ h h1 h2 h3 => by
      unfold goalS
      rw [if_neg h1, if_neg h2, if_neg (by simp [h3]), if_pos h]
    refine ⟨fun h1 => ?_, fun h1 => ⟨fun h2 => ?_, fun h2 => ⟨⟨rfl, rfl, by decide, by omega, by simp only [decide_eq_false_iff_not] at h2; omega⟩, fun h3 => ?_, fun h3 => ?_⟩⟩⟩
    · simp only [decide_eq_true_eq] at h1
      unfold goalS
      rw [if_pos (show l.length < 2 by omega)]
      exact rfl
    · simp only [decide_eq_true_eq, decide_eq_false_iff_not] at h1 h2
      unfold goalS
      rw [if_neg (show ¬ l.length < 2 by omega), if_pos (show l.length > 8 by omega)]
      exact rfl
    · simp only [decide_eq_true_eq, decide_eq_false_iff_not, Int.toNat_zero, List.drop_zero] at h1 h2 h3
      have g1 : ¬ l.length < 2 := by omega
      have g2 : ¬ l.length > 8 := by omega
      have out : badG (l, m, le, (nn, d), (a, b, c), (e, f, h)) → (SV.int .i64 2) = SV.int .i64 (goalS (l, m, le, (nn, d), (a, b, c), (e, f, h))) := fun hb => by rw [bad 0 hb g1 g2 h3]
      unfold badG at out
      dsimp only at out
      refine ⟨fun c1 => ?_, fun c1 => ⟨fun c2 => ?_, fun c2 => ⟨fun c3 => ?_, fun c3 => ⟨fun c4 => ?_, fun c4 => ⟨fun c5 => ?_, fun c5 => ⟨fun c6 => ?_, fun c6 => ⟨fun c7 => ?_, fun c7 => ⟨fun c8 => ?_, fun c8 => ⟨fun c9 => ?_, fun c9 => ⟨fun d1 => ?_, fun d1 => ⟨fun d2 => ?_, fun d2 => ?_⟩⟩⟩⟩⟩⟩⟩⟩⟩⟩⟩
      all_goals simp only [decide_eq_true_eq, decide_eq_false_iff_not] at *
      · exact out (by omega)
      · exact out (by omega)
      · exact out (by omega)
      · exact out (by omega)
      · exact out (by omega)
      · exact out (by omega)
      · exact out (by omega)
      · exact out (by omega)
      · exact out (by omega)
      · exact out (by omega)
      · exact out (by omega)
      · unfold goalS
        rw [if_neg g1, if_neg g2, if_neg (by simp [h3]), if_neg (by unfold badG; dsimp only; omega)]
        exact rfl
    · simp only [decide_eq_true_eq, decide_eq_false_iff_not, Int.toNat_zero, List.drop_zero] at h1 h2 h3 ⊢
      unfold goalS
      rw [if_neg (show ¬ l.length < 2 by omega), if_neg (show ¬ l.length > 8 by omega), if_pos h3]
      exact rfl)

/-- The best path to a goal. -/
def planS (from' first : V) (g : Goal) : Pth × Int :=
  if goalS g ≠ 0 then (((0, 0, 0), []), goalS g) else if validS from' = false then (((0, 0, 0), []), 2) else if (legS first).2 = false then (((0, 0, 0), []), 3)
  else if (walkR g g.2.2.1.toNat [] from' first (-1) 0 ([], -1)).2 < 0 then (((0, 0, 0), []), 7) else ((from', (walkR g g.2.2.1.toNat [] from' first (-1) 0 ([], -1)).1), 0)
theorem T_Plan (x y z x2 y2 z2 : Int) (l : List V) (m le nn d a b c e f h : Int) : fnTree (P := P) [c_CheckGoal.gc, c_valid.gc, c_leg.gc, c_walk.gc] (lpOf []) Try.f47 (encL 0 [.agg tV, .agg tV, .agg tGoal] ((x, y, z), (x2, y2, z2), (l, m, le, (nn, d), ((a, b, c), (e, f, h))), ())) =
  Tree.cond (goalS (l, m, le, (nn, d), (a, b, c), e, f, h) != (0 : Int)) (Tree.leaf (SV.tup [SV.agg [SV.int IntKind.i64 (0 : Int), SV.int IntKind.i64 (0 : Int), SV.int IntKind.i64 (0 : Int), SV.nils], SV.int IntKind.i64 (goalS (l, m, le, (nn, d), (a, b, c), e, f, h))])) (Tree.cond (!validS (x, y, z)) (Tree.leaf (SV.tup [SV.agg [SV.int IntKind.i64 (0 : Int), SV.int IntKind.i64 (0 : Int), SV.int IntKind.i64 (0 : Int), SV.nils], SV.int IntKind.i64 (2 : Int)])) (Tree.cond (!(legS (x2, y2, z2)).snd) (Tree.leaf (SV.tup [SV.agg [SV.int IntKind.i64 (0 : Int), SV.int IntKind.i64 (0 : Int), SV.int IntKind.i64 (0 : Int), SV.nils], SV.int IntKind.i64 (3 : Int)])) (Tree.need (pre_walk ((x, y, z), (x2, y2, z2), (-1 : Int), (0 : Int), (), (), (), (), (), [], l, m, le, nn, d, a, b, c, e, f, h, (-1 : Int), [], (), ())) (Tree.cond (decide ((walkR (gOf l m le nn d a b c e f h) (Int.toNat le - (0 : Nat)) [] (x, y, z) (x2, y2, z2) (-1 : Int) (0 : Int) ([], (-1 : Int))).snd < (0 : Int))) (Tree.leaf (SV.tup [SV.agg [SV.int IntKind.i64 (0 : Int), SV.int IntKind.i64 (0 : Int), SV.int IntKind.i64 (0 : Int), SV.nils], SV.int IntKind.i64 (7 : Int)])) (Tree.leaf (SV.tup [SV.agg [SV.int IntKind.i64 x, SV.int IntKind.i64 y, SV.int IntKind.i64 z, SV.sl (Ty.pair tI (Ty.pair tI tI)) (walkR (gOf l m le nn d a b c e f h) (Int.toNat le - (0 : Nat)) [] (x, y, z) (x2, y2, z2) (-1 : Int) (0 : Int) ([], (-1 : Int))).fst], SV.int IntKind.i64 (0 : Int)])))))) := by kernel_rfl

def c_Plan : PC P := PC.of (α := V × V × Goal × Unit) 47 [.agg tV, .agg tV, .agg tGoal] (fun x => x) (fun x => x) (fun _ => rfl)
  (fun _ => none)
  (fun x => .tup [.agg [.int .i64 (planS x.1 x.2.1 x.2.2.1).1.1.1, .int .i64 (planS x.1 x.2.1 x.2.2.1).1.1.2.1, .int .i64 (planS x.1 x.2.1 x.2.2.1).1.1.2.2, .sl tV (planS x.1 x.2.1 x.2.2.1).1.2], .int .i64 (planS x.1 x.2.1 x.2.2.1).2]) (by kernel_rfl) (by
    rintro ⟨⟨x, y, z⟩, ⟨x2, y2, z2⟩, ⟨l, m, le, ⟨nn, d⟩, ⟨⟨a, b, c⟩, ⟨e, f, h⟩⟩⟩, ⟨⟩⟩ hp
    refine fn_le hm (by kernel_rfl) (by kernel_rfl) (T_Plan x y z x2 y2 z2 l m le nn d a b c e f h) trivial (by kernel_rfl) ?_

    show Tree.holds (fun s => LeS s (SV.tup [.agg [.int .i64 (planS (x, y, z) (x2, y2, z2) (l, m, le, (nn, d), (a, b, c), (e, f, h))).1.1.1, .int .i64 (planS (x, y, z) (x2, y2, z2) (l, m, le, (nn, d), (a, b, c), (e, f, h))).1.1.2.1, .int .i64 (planS (x, y, z) (x2, y2, z2) (l, m, le, (nn, d), (a, b, c), (e, f, h))).1.1.2.2, .sl tV (planS (x, y, z) (x2, y2, z2) (l, m, le, (nn, d), (a, b, c), (e, f, h))).1.2], .int .i64 (planS (x, y, z) (x2, y2, z2) (l, m, le, (nn, d), (a, b, c), (e, f, h))).2])) _
    unfold planS
    refine ⟨fun h1 => ?_, fun h1 => ⟨fun h2 => ?_, fun h2 => ⟨fun h3 => ?_, fun h3 => ⟨?_, fun h4 => ?_, fun h4 => ?_⟩⟩⟩⟩
    · simp only [bne_iff_ne, ne_eq] at h1
      rw [if_pos h1]
      exact ⟨⟨rfl, rfl, rfl, rfl, trivial⟩, rfl, trivial⟩
    all_goals simp only [bne_eq_false_iff_eq] at h1
    · simp only [Bool.not_eq_true'] at h2
      rw [if_neg (by simp [h1]), if_pos h2]
      exact ⟨⟨rfl, rfl, rfl, rfl, trivial⟩, rfl, trivial⟩
    all_goals simp only [Bool.not_eq_false'] at h2
    · simp only [Bool.not_eq_true'] at h3
      rw [if_neg (by simp [h1]), if_neg (by simp [h2]), if_pos h3]
      exact ⟨⟨rfl, rfl, rfl, rfl, trivial⟩, rfl, trivial⟩
    · have := goalS_zero h1
      exact ⟨this.1, by show ((0 : Nat) : Int) ≤ le; have := this.1.2.2.2.1; simp only [] at this; omega⟩
    all_goals simp only [Bool.not_eq_false'] at h3
    all_goals rw [if_neg (by simp [h1]), if_neg (by simp [h2]), if_neg (by simp [h3])]
    · have h4' : (walkR (l, m, le, (nn, d), (a, b, c), (e, f, h)) le.toNat [] (x, y, z) (x2, y2, z2) (-1) 0 ([], -1)).2 < 0 := of_decide_eq_true h4
      rw [if_pos h4']
      exact ⟨⟨rfl, rfl, rfl, rfl, trivial⟩, rfl, trivial⟩
    · have h4' : ¬ (walkR (l, m, le, (nn, d), (a, b, c), (e, f, h)) le.toNat [] (x, y, z) (x2, y2, z2) (-1) 0 ([], -1)).2 < 0 := of_decide_eq_false h4
      rw [if_neg h4']
      exact ⟨⟨rfl, rfl, rfl, rfl, trivial⟩, rfl, trivial⟩)

end
end Go.MP
