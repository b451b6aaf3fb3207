/- Zonotopes: what the reference computes of two wells. -/
import Derived.Test.YtnlflnbbgklalaaMpS
namespace Go.MP
open Go Go.Sx Go.Proofs
set_option linter.unusedVariables false
set_option linter.unusedSimpArgs false
noncomputable section

theorem T_rMinus (x y z a b c : Int) : fnTree (P := P) [] (lpOf []) Try.f101 (encL 0 [.agg tV, .agg tV] ((x, y, z), (a, b, c), ())) =
  Tree.leaf (SV.agg [SV.int IntKind.i64 (IntKind.wrap IntKind.i64 (x - a)), SV.int IntKind.i64 (IntKind.wrap IntKind.i64 (y - b)), SV.int IntKind.i64 (IntKind.wrap IntKind.i64 (z - c))]) := by kernel_rfl

def c_rMinus : PC P := PC.of (α := V × V × Unit) 101 [.agg tV, .agg tV] (fun x => x) (fun x => x) (fun _ => rfl)
  (fun _ => none)
  (fun x => svV (vsub x.1 x.2.1)) (by kernel_rfl) (by
    rintro ⟨⟨x, y, z⟩, ⟨a, b, c⟩, ⟨⟩⟩ hp
    refine fn_of hm (by kernel_rfl) (by kernel_rfl) (T_rMinus x y z a b c) trivial ?_
    exact rfl)

theorem T_rCross (x y z a b c : Int) : fnTree (P := P) [] (lpOf []) Try.f160 (encL 0 [.agg tV, .agg tV] ((x, y, z), (a, b, c), ())) =
  Tree.leaf (SV.agg [SV.int IntKind.i64 (IntKind.wrap IntKind.i64 (IntKind.wrap IntKind.i64 (y * c) - IntKind.wrap IntKind.i64 (z * b))), SV.int IntKind.i64 (IntKind.wrap IntKind.i64 (IntKind.wrap IntKind.i64 (z * a) - IntKind.wrap IntKind.i64 (x * c))), SV.int IntKind.i64 (IntKind.wrap IntKind.i64 (IntKind.wrap IntKind.i64 (x * b) - IntKind.wrap IntKind.i64 (y * a)))]) := by kernel_rfl

def c_rCross : PC P := PC.of (α := V × V × Unit) 160 [.agg tV, .agg tV] (fun x => x) (fun x => x) (fun _ => rfl)
  (fun _ => none)
  (fun x => svV (vcross x.1 x.2.1)) (by kernel_rfl) (by
    rintro ⟨⟨x, y, z⟩, ⟨a, b, c⟩, ⟨⟩⟩ hp
    refine fn_of hm (by kernel_rfl) (by kernel_rfl) (T_rCross x y z a b c) trivial ?_
    exact rfl)

theorem absI_if {n : Int} (h : R64 n) : absI n = if n < 0 then IntKind.wrap IntKind.i64 (0 - n) else n := by
  obtain ⟨h1, h2⟩ := h
  unfold absI maxI
  by_cases hn : n < 0
  · rw [if_pos hn]
    by_cases hm : n = -9223372036854775808
    · subst hm
      have : IntKind.wrap IntKind.i64 (0 - -9223372036854775808) = -9223372036854775808 := by decide
      rw [this]; rfl
    · rw [W_id (by omega) (by omega), if_pos (by omega)]
  · rw [if_neg hn, W_id (by omega) (by omega), if_neg (by omega)]
theorem T_rAbs (n : Int) : fnTree (P := P) [] (lpOf []) Try.f161 (encL 0 [.val tI] (n, ())) =
  Tree.cond (decide (n < (0 : Int))) (Tree.leaf (SV.int IntKind.i64 (IntKind.wrap IntKind.i64 ((0 : Int) - n)))) (Tree.leaf (SV.int IntKind.i64 n)) := by kernel_rfl

def c_rAbs : PC P := PC.of (α := Int × Unit) 161 [.val tI] (fun x => x) (fun x => x) (fun _ => rfl)
  (fun x => some (R64 x.1))
  (fun x => .int .i64 (absI x.1)) (by kernel_rfl) (by
    rintro ⟨n, ⟨⟩⟩ hp
    refine fn_of hm (by kernel_rfl) (by kernel_rfl) (T_rAbs n) trivial ?_

    show Tree.holds (fun s => s = SV.int .i64 (absI n)) _
    rw [absI_if hp]
    refine ⟨fun h => ?_, fun h => ?_⟩
    · simp only [decide_eq_true_eq] at h
      rw [if_pos h]
      exact rfl
    · simp only [decide_eq_false_iff_not] at h
      rw [if_neg h]
      exact rfl)

theorem take_step {l : List V} {i j : Int} (h0 : 0 ≤ i) (h : i < j) (hj : j ≤ l.length) : (l.take j.toNat).drop i.toNat = l.getD i.toNat (0, 0, 0) :: (l.take j.toNat).drop (i + 1).toNat := by
  rw [drop_step (0, 0, 0) (l := l.take j.toNat) h0 (by rw [List.length_take]; omega)]
  congr 1
  simp only [List.getD, List.getElem?_take]
  rw [if_pos (by omega)]
theorem take_end {l : List V} {i j : Int} (h : ¬ i < j) : (l.take j.toNat).drop i.toNat = [] := by
  apply List.drop_eq_nil_of_le
  rw [List.length_take]
  omega
def L_rShift : Lay := { slots := [(1, .val tI), (2, .ptr 3020 0), (4, .ptr 5020 0), (5, .ptr 6020 0), (6, .val tI)], boxes := [(3020, [.val tI, .val tVs]), (5020, [.any, .any, .any]), (6020, [.val tI, .val tI, .val tI])] }
def L_rShift_0 : Lay := { slots := [(4, .ptr 5020 0), (5, .ptr 6020 0)], boxes := [(5020, [.any, .any, .any]), (6020, [.val tI, .val tI, .val tI])] }
def X_rShift : Exit → Option Lay
  | .exit 0 => some L_rShift_0
  | _ => none
abbrev C_rShift : Code := loopC (bodyOf Try.f167) 0
theorem B_rShift (j i d : Int) (l : List V) (x y z : Int) : loopBodyA (P := P) [c_rPlus.gc] (lpOf []) [] 20 noU (inner C_rShift) L_rShift X_rShift (α := Int × Unit × Unit × Unit × Int × Int × List V × Unit × Unit × Unit × Int × Int × Int × Unit) (fun x => x) (fun x => x) (j, (), (), (), i, d, l, (), (), (), x, y, z, ()) =
  Tree.cond (decide (i < j)) (Tree.need ((0 : Int) ≤ i ∧ i < (↑(List.length l) : Int)) (Tree.leaf (Sum.inl (j, PUnit.unit, PUnit.unit, PUnit.unit, IntKind.wrap IntKind.i64 (i + (1 : Int)), d, l, PUnit.unit, PUnit.unit, PUnit.unit, (vadd (x, y, z) (List.getD l (Int.toNat i) ((0 : Int), (0 : Int), (0 : Int)))).fst, (vadd (x, y, z) (List.getD l (Int.toNat i) ((0 : Int), (0 : Int), (0 : Int)))).snd.fst, (vadd (x, y, z) (List.getD l (Int.toNat i) ((0 : Int), (0 : Int), (0 : Int)))).snd.snd, PUnit.unit)))) (Tree.leaf (Sum.inr (Exit.exit (0 : Nat), Lay.st L_rShift_0 noU (PUnit.unit, PUnit.unit, PUnit.unit, PUnit.unit, PUnit.unit, x, y, z, PUnit.unit)))) := by kernel_rfl

def inv_rShift : Int × Unit × Unit × Unit × Int × Int × List V × Unit × Unit × Unit × Int × Int × Int × Unit → Prop := fun (j, _, _, _, i, d, l, _) => 0 ≤ i ∧ i ≤ j ∧ j ≤ l.length ∧ (l.length : Int) < 2 ^ 62
def O_rShift : Int × Unit × Unit × Unit × Int × Int × List V × Unit × Unit × Unit × Int × Int × Int × Unit → Tree (Exit × St) := fun (j, _, _, _, i, d, l, _, _, _, x, y, z, _) => .leaf (.exit 0, L_rShift_0.st noU ((), (), (), (), (), (((l.take j.toNat).drop i.toNat).foldl vadd (x, y, z)).1, (((l.take j.toNat).drop i.toNat).foldl vadd (x, y, z)).2.1, (((l.take j.toNat).drop i.toNat).foldl vadd (x, y, z)).2.2, ()))
def R_rShift : LRun := runOf 20 L_rShift (fun x => x) (inv_rShift) (O_rShift)
theorem K_rShift : LoopOk P [] 20 none noU C_rShift (R_rShift) := by
  refine loop_of hm (cx := [c_rPlus.gc]) [] (xl := X_rShift) (α := Int × Unit × Unit × Unit × Int × Int × List V × Unit × Unit × Unit × Int × Int × Int × Unit) (fun x => x) (fun (j, _, _, _, i, _) => (j - i).toNat) (fun _ => rfl) (by kernel_rfl) (by kernel_rfl) ?_ (by kernel_rfl) trivial ?_
  · intro e L' h
    unfold X_rShift at h
    split at h <;> cases h <;> kernel_rfl
  · rintro ⟨j, ⟨⟩, ⟨⟩, ⟨⟩, i, d, l, ⟨⟩, ⟨⟩, ⟨⟩, x, y, z, ⟨⟩⟩ hinv Q hQ
    refine hold_of_eq (B_rShift j i d l x y z) ?_

    obtain ⟨h0, h1, h2, h3⟩ := hinv
    rw [W_id (n := i + 1) (by omega) (by omega)]
    unfold O_rShift at hQ
    dsimp only at hQ
    refine ⟨fun hi => ?_, fun hi => ?_⟩
    · simp only [decide_eq_true_eq] at hi
      rw [take_step h0 hi h2] at hQ
      exact ⟨⟨h0, by omega⟩, ⟨⟨by omega, by omega, h2, h3⟩, by show (j - (i + 1)).toNat < (j - i).toNat; omega⟩, hQ⟩
    · simp only [decide_eq_false_iff_not] at hi
      rw [take_end hi] at hQ
      exact hQ

theorem T_rShift (d : Int) (s : List V) (j : Int) : fnTree (P := P) [] (lpOf [(0, R_rShift)]) Try.f167 (encL 0 [.agg tSrc, .val tI] ((d, s), j, ())) =
  Tree.need (inv_rShift (j, (), (), (), (0 : Int), d, s, (), (), (), (0 : Int), (0 : Int), (0 : Int), ())) (Tree.leaf (SV.agg [SV.int IntKind.i64 (List.foldl vadd ((0 : Int), (0 : Int), (0 : Int)) (List.drop (Int.toNat (0 : Int)) (List.take (Int.toNat j) s))).fst, SV.int IntKind.i64 (List.foldl vadd ((0 : Int), (0 : Int), (0 : Int)) (List.drop (Int.toNat (0 : Int)) (List.take (Int.toNat j) s))).snd.fst, SV.int IntKind.i64 (List.foldl vadd ((0 : Int), (0 : Int), (0 : Int)) (List.drop (Int.toNat (0 : Int)) (List.take (Int.toNat j) s))).snd.snd])) := by kernel_rfl

def c_rShift : PC P := PC.of (α := Src × Int × Unit) 167 [.agg tSrc, .val tI] (fun x => x) (fun x => x) (fun _ => rfl)
  (fun x => some (0 ≤ x.2.1 ∧ x.2.1 ≤ x.1.2.length ∧ (x.1.2.length : Int) < 2 ^ 62))
  (fun x => svV (shiftS x.1 x.2.1)) (by kernel_rfl) (by
    rintro ⟨⟨d, s⟩, j, ⟨⟩⟩ hp
    refine fn_of hm (by kernel_rfl) (by kernel_rfl) (T_rShift d s j) ⟨K_rShift, trivial⟩ ?_

    obtain ⟨h0, h1, h2⟩ := hp
    simp only [] at h0 h1 h2
    rw [Int.toNat_zero, List.drop_zero]
    exact ⟨⟨by omega, h0, h1, h2⟩, rfl⟩)

/-! ### The generators of an ID -/
def twiceS (s : Src) (j : Int) : V := vadd (vmul (shiftS s j) 2) (s.2.getD j.toNat (0, 0, 0))
def rofS (l : List Src) (k j : Int) (b : Bool) : V := bif l.any (idB k) then (bif b then twiceS (srcS l k) j else shiftS (srcS l k) j) else (0, 0, 0)
theorem rofS_hit {s : Src} {l : List Src} {k j : Int} {b : Bool} (h : idB k s = true) : rofS (s :: l) k j b = bif b then twiceS s j else shiftS s j := by
  unfold rofS srcS
  rw [List.any_cons, h, List.find?_cons, h]
  rfl
theorem rofS_miss {s : Src} {l : List Src} {k j : Int} {b : Bool} (h : idB k s = false) : rofS (s :: l) k j b = rofS l k j b := by
  unfold rofS srcS
  rw [List.any_cons, h, List.find?_cons, h, Bool.false_or]
def L_rOf : Lay := { slots := [(0, .val tSrcs), (1, .val tI), (2, .val tI), (3, .val .bool), (8, .ptr 9044 0), (9, .val tI)], boxes := [(9044, [.any, .any, .any])] }
def L_rOf_0 : Lay := { slots := [(8, .ptr 9044 0)], boxes := [(9044, [.any, .any, .any])] }
def L_rOf_1 : Lay := { slots := [(8, .ptr 9044 0)], boxes := [(9044, [.val tI, .val tI, .val tI])] }
def X_rOf : Exit → Option Lay
  | .exit 0 => some L_rOf_0
  | .ret => some L_rOf_1
  | _ => none
abbrev C_rOf : Code := loopC (bodyOf Try.f162) 0
theorem B_rOf (l : List Src) (k j : Int) (b : Bool) (i : Int) : loopBodyA (P := P) [c_rShift.gc, c_rPlus.gc, c_rTimes.gc] (lpOf []) [] 44 noU (inner C_rOf) L_rOf X_rOf (α := List Src × Int × Int × Bool × Unit × Int × Unit × Unit × Unit × Unit) (fun x => x) (fun x => x) (l, k, j, b, (), i, (), (), (), ()) =
  Tree.cond (decide (i < (↑(List.length l) : Int))) (Tree.need ((0 : Int) ≤ i ∧ i < (↑(List.length l) : Int)) (Tree.cond ((List.getD l (Int.toNat i) ((0 : Int), [])).fst != k) (Tree.leaf (Sum.inl (l, k, j, b, PUnit.unit, IntKind.wrap IntKind.i64 (i + (1 : Int)), PUnit.unit, PUnit.unit, PUnit.unit, PUnit.unit))) (Tree.need ((0 : Int) ≤ i ∧ i < (↑(List.length l) : Int)) (Tree.need ((0 : Int) ≤ j ∧ j ≤ (↑(List.length (List.getD l (Int.toNat i) ((0 : Int), [])).snd) : Int) ∧ (↑(List.length (List.getD l (Int.toNat i) ((0 : Int), [])).snd) : Int) < (2 : Int) ^ (62 : Nat)) (Tree.cond b (Tree.need ((0 : Int) ≤ i ∧ i < (↑(List.length l) : Int)) (Tree.need ((0 : Int) ≤ j ∧ j < (↑(List.length (List.getD l (Int.toNat i) ((0 : Int), [])).snd) : Int)) (Tree.leaf (Sum.inr (Exit.ret, Lay.st L_rOf_1 noU (PUnit.unit, (vadd (vmul (shiftS (List.getD l (Int.toNat i) ((0 : Int), [])) j) (2 : Int)) (List.getD (List.getD l (Int.toNat i) ((0 : Int), [])).snd (Int.toNat j) ((0 : Int), (0 : Int), (0 : Int)))).fst, (vadd (vmul (shiftS (List.getD l (Int.toNat i) ((0 : Int), [])) j) (2 : Int)) (List.getD (List.getD l (Int.toNat i) ((0 : Int), [])).snd (Int.toNat j) ((0 : Int), (0 : Int), (0 : Int)))).snd.fst, (vadd (vmul (shiftS (List.getD l (Int.toNat i) ((0 : Int), [])) j) (2 : Int)) (List.getD (List.getD l (Int.toNat i) ((0 : Int), [])).snd (Int.toNat j) ((0 : Int), (0 : Int), (0 : Int)))).snd.snd, PUnit.unit)))))) (Tree.leaf (Sum.inr (Exit.ret, Lay.st L_rOf_1 noU (PUnit.unit, (shiftS (List.getD l (Int.toNat i) ((0 : Int), [])) j).fst, (shiftS (List.getD l (Int.toNat i) ((0 : Int), [])) j).snd.fst, (shiftS (List.getD l (Int.toNat i) ((0 : Int), [])) j).snd.snd, PUnit.unit))))))))) (Tree.leaf (Sum.inr (Exit.exit (0 : Nat), Lay.st L_rOf_0 noU (PUnit.unit, PUnit.unit, PUnit.unit, PUnit.unit, PUnit.unit)))) := by kernel_rfl

def inv_rOf : List Src × Int × Int × Bool × Unit × Int × Unit × Unit × Unit × Unit → Prop := fun (l, k, j, b, _, i, _) => 0 ≤ i ∧ i ≤ l.length ∧ l.length ≤ 100 ∧ 0 ≤ j ∧ ∀ s ∈ l, j ≤ s.2.length ∧ (b = true → j < s.2.length) ∧ (s.2.length : Int) ≤ 1000
def O_rOf : List Src × Int × Int × Bool × Unit × Int × Unit × Unit × Unit × Unit → Tree (Exit × St) := fun (l, k, j, b, _, i, _) => .cond ((l.drop i.toNat).any (idB k)) (.leaf (.ret, L_rOf_1.st noU ((), (rofS (l.drop i.toNat) k j b).1, (rofS (l.drop i.toNat) k j b).2.1, (rofS (l.drop i.toNat) k j b).2.2, ()))) (.leaf (.exit 0, L_rOf_0.st noU ((), (), (), (), ())))
def R_rOf : LRun := runOf 44 L_rOf (fun x => x) (inv_rOf) (O_rOf)
theorem K_rOf : LoopOk P [] 44 none noU C_rOf (R_rOf) := by
  refine loop_of hm (cx := [c_rShift.gc, c_rPlus.gc, c_rTimes.gc]) [] (xl := X_rOf) (α := List Src × Int × Int × Bool × Unit × Int × Unit × Unit × Unit × Unit) (fun x => x) (fun (l, k, j, b, _, i, _) => (l.length - i).toNat) (fun _ => rfl) (by kernel_rfl) (by kernel_rfl) ?_ (by kernel_rfl) trivial ?_
  · intro e L' h
    unfold X_rOf at h
    split at h <;> cases h <;> kernel_rfl
  · rintro ⟨l, k, j, b, ⟨⟩, i, ⟨⟩, ⟨⟩, ⟨⟩, ⟨⟩⟩ hinv Q hQ
    refine hold_of_eq (B_rOf l k j b i) ?_

    obtain ⟨h0, h1, h2, h3, h4⟩ := hinv
    rw [W_id (n := i + 1) (by omega) (by omega)]
    unfold O_rOf at hQ
    dsimp only at hQ
    refine ⟨fun hi => ?_, fun hi => ?_⟩
    · simp only [decide_eq_true_eq] at hi
      have hm : ((l.length : Int) - (i + 1)).toNat < ((l.length : Int) - i).toNat := by omega
      have hs := h4 _ (getD_mem (d := ((0 : Int), [])) (show i.toNat < l.length by omega))
      rw [drop_step ((0 : Int), []) h0 hi, List.any_cons] at hQ
      refine ⟨⟨h0, hi⟩, fun hc => ?_, fun hc => ⟨⟨h0, hi⟩, ⟨h3, hs.1, by omega⟩, fun hb => ⟨⟨h0, hi⟩, ⟨h3, hs.2.1 hb⟩, ?_⟩, fun hb => ?_⟩⟩
      · have e : idB k (l.getD i.toNat ((0 : Int), [])) = false := by
          unfold idB
          simpa using hc
        rw [e, Bool.false_or, rofS_miss e] at hQ
        exact ⟨⟨⟨by omega, by omega, h2, h3, h4⟩, hm⟩, hQ⟩
      · have e : idB k (l.getD i.toNat ((0 : Int), [])) = true := by
          unfold idB
          simpa using hc
        subst hb
        rw [e, Bool.true_or, rofS_hit e] at hQ
        exact hQ.1 rfl
      · have e : idB k (l.getD i.toNat ((0 : Int), [])) = true := by
          unfold idB
          simpa using hc
        subst hb
        rw [e, Bool.true_or, rofS_hit e] at hQ
        exact hQ.1 rfl
    · simp only [decide_eq_false_iff_not] at hi
      rw [drop_end hi] at hQ
      exact hQ.2 rfl

def okOf (l : List Src) (j : Int) (b : Bool) : Prop := l.length ≤ 100 ∧ 0 ≤ j ∧ ∀ s ∈ l, j ≤ s.2.length ∧ (b = true → j < s.2.length) ∧ (s.2.length : Int) ≤ 1000
theorem T_rOf (l : List Src) (k j : Int) (b : Bool) : fnTree (P := P) [] (lpOf [(0, R_rOf)]) Try.f162 (encL 0 [.val tSrcs, .val tI, .val tI, .val .bool] (l, k, j, b, ())) =
  Tree.need (inv_rOf (l, k, j, b, (), (0 : Int), (), (), (), ())) (Tree.cond (List.any (List.drop (Int.toNat (0 : Int)) l) (idB k)) (Tree.leaf (SV.agg [SV.int IntKind.i64 (rofS (List.drop (Int.toNat (0 : Int)) l) k j b).fst, SV.int IntKind.i64 (rofS (List.drop (Int.toNat (0 : Int)) l) k j b).snd.fst, SV.int IntKind.i64 (rofS (List.drop (Int.toNat (0 : Int)) l) k j b).snd.snd])) (Tree.leaf (SV.agg [SV.int IntKind.i64 (0 : Int), SV.int IntKind.i64 (0 : Int), SV.int IntKind.i64 (0 : Int)]))) := by kernel_rfl

def c_rOf : PC P := PC.of (α := List Src × Int × Int × Bool × Unit) 162 [.val tSrcs, .val tI, .val tI, .val .bool] (fun x => x) (fun x => x) (fun _ => rfl)
  (fun (l, k, j, b, _) => some (okOf l j b))
  (fun (l, k, j, b, _) => svV (rofS l k j b)) (by kernel_rfl) (by
    rintro ⟨l, k, j, b, ⟨⟩⟩ hp
    refine fn_of hm (by kernel_rfl) (by kernel_rfl) (T_rOf l k j b) ⟨K_rOf, trivial⟩ ?_

    obtain ⟨h2, h3, h4⟩ : okOf l j b := hp
    rw [Int.toNat_zero, List.drop_zero]
    refine ⟨⟨by omega, by omega, h2, h3, h4⟩, fun h => rfl, fun h => ?_⟩
    show _ = svV (rofS l k j b)
    unfold rofS
    rw [h]
    rfl)

def rGen (la : List Src) (i : Int) (lb : List Src) (j : Int) (b : Bool) (k : Int) : V := vsub (rofS la k i b) (rofS lb k j b)
/-- From a number on, so many. -/
def mapN (f : Int → V) : Int → Nat → List V
  | _, 0 => []
  | i, k + 1 => f i :: mapN f (i + 1) k
theorem mapN_length (f : Int → V) : ∀ (i : Int) (k : Nat), (mapN f i k).length = k
  | _, 0 => rfl
  | i, k + 1 => by rw [mapN, List.length_cons, mapN_length f (i + 1) k]
def L_rSharedL : Lay := { slots := [(0, .val tSrcs), (1, .val tI), (2, .val tSrcs), (3, .val tI), (4, .val .bool), (11, .row 23 tV), (12, .val tI)] }
def L_rSharedL_0 : Lay := { slots := [(11, .row 23 tV)] }
def X_rSharedL : Exit → Option Lay
  | .exit 0 => some L_rSharedL_0
  | _ => none
abbrev C_rSharedL : Code := loopC (bodyOf Try.f148) 0
theorem B_rSharedL (la : List Src) (i : Int) (lb : List Src) (j : Int) (b : Bool) (o : List V) (k : Int) : loopBodyA (P := P) [c_rOf.gc, c_rMinus.gc] (lpOf []) [] 32 noU (inner C_rSharedL) L_rSharedL X_rSharedL (α := List Src × Int × List Src × Int × Bool × List V × Int × Unit) (fun x => x) (fun x => x) (la, i, lb, j, b, o, k, ()) =
  Tree.cond (decide (k ≤ (99 : Int))) (Tree.need (okOf la i b) (Tree.need (okOf lb j b) (Tree.need ((List.length o + List.length [vsub (rofS la k i b) (rofS lb k j b)]) * (24 : Nat) ≤ (140737488355328 : Nat)) (Tree.leaf (Sum.inl (la, i, lb, j, b, o ++ [vsub (rofS la k i b) (rofS lb k j b)], IntKind.wrap IntKind.i64 (k + (1 : Int)), PUnit.unit)))))) (Tree.leaf (Sum.inr (Exit.exit (0 : Nat), Lay.st L_rSharedL_0 noU (o, PUnit.unit)))) := by kernel_rfl

def inv_rSharedL : List Src × Int × List Src × Int × Bool × List V × Int × Unit → Prop := fun (la, i, lb, j, b, o, k, _) => okOf la i b ∧ okOf lb j b ∧ 1 ≤ k ∧ k ≤ 100 ∧ (o.length : Int) ≤ k
def O_rSharedL : List Src × Int × List Src × Int × Bool × List V × Int × Unit → Tree (Exit × St) := fun (la, i, lb, j, b, o, k, _) => .leaf (.exit 0, L_rSharedL_0.st noU (o ++ mapN (rGen la i lb j b) k (100 - k).toNat, ()))
def R_rSharedL : LRun := runOf 32 L_rSharedL (fun x => x) (inv_rSharedL) (O_rSharedL)
theorem K_rSharedL : LoopOk P [] 32 none noU C_rSharedL (R_rSharedL) := by
  refine loop_of hm (cx := [c_rOf.gc, c_rMinus.gc]) [] (xl := X_rSharedL) (α := List Src × Int × List Src × Int × Bool × List V × Int × Unit) (fun x => x) (fun (la, i, lb, j, b, o, k, _) => (100 - k).toNat) (fun _ => rfl) (by kernel_rfl) (by kernel_rfl) ?_ (by kernel_rfl) trivial ?_
  · intro e L' h
    unfold X_rSharedL at h
    split at h <;> cases h <;> kernel_rfl
  · rintro ⟨la, i, lb, j, b, o, k, ⟨⟩⟩ hinv Q hQ
    refine hold_of_eq (B_rSharedL la i lb j b o k) ?_

    obtain ⟨h1, h2, h3, h4, h5⟩ := hinv
    rw [W_id (n := k + 1) (by omega) (by omega)]
    unfold O_rSharedL at hQ
    dsimp only at hQ
    refine ⟨fun hi => ?_, fun hi => ?_⟩
    · simp only [decide_eq_true_eq] at hi
      have hm : (100 - (k + 1)).toNat < (100 - k).toNat := by omega
      have e : o ++ mapN (rGen la i lb j b) k (100 - k).toNat = (o ++ [vsub (rofS la k i b) (rofS lb k j b)]) ++ mapN (rGen la i lb j b) (k + 1) (100 - (k + 1)).toNat := by
        rw [show (100 - k).toNat = (100 - (k + 1)).toNat + 1 by omega, mapN, List.append_assoc, List.singleton_append]; rfl
      have hQ := Eq.mp (congrArg (fun (k : List V) => Tree.holds Q (Tree.leaf (Exit.exit 0, L_rSharedL_0.st noU (k, ())))) e) hQ
      exact ⟨h1, h2, by simp only [List.length_cons, List.length_nil]; omega, ⟨⟨h1, h2, by omega, by omega, by rw [List.length_append, List.length_singleton]; omega⟩, hm⟩, hQ⟩
    · simp only [decide_eq_false_iff_not] at hi
      have e : o ++ mapN (rGen la i lb j b) k (100 - k).toNat = o := by
        rw [show (100 - k).toNat = 0 by omega, mapN, List.append_nil]
      exact Eq.mp (congrArg (fun (k : List V) => Tree.holds Q (Tree.leaf (Exit.exit 0, L_rSharedL_0.st noU (k, ())))) e) hQ

def sharedS (la : List Src) (i : Int) (lb : List Src) (j : Int) (b : Bool) : List V := mapN (rGen la i lb j b) 1 99
def L_rShared : Lay := { slots := [(0, .val tSrcs), (1, .val tI), (2, .val tSrcs), (3, .val tI), (4, .val .bool)] }
theorem T_rShared (la : List Src) (i : Int) (lb : List Src) (j : Int) (b : Bool) : mTree (P := P) [] (lpOf [(0, R_rSharedL)]) Try.f148 L_rShared true (la, i, lb, j, b, ()) =
  Tree.need (inv_rSharedL (la, i, lb, j, b, [], (1 : Int), ())) (Tree.leaf { res := SV.own (nat_lit 100), boxes := [], news := [Ob.row (23 : TypeId) tV (mapN (rGen la i lb j b) (1 : Int) (Int.toNat ((100 : Int) - (1 : Int))))] }) := by kernel_rfl

def c_rShared : MC P := MC.of (α := List Src × Int × List Src × Int × Bool × Unit) 148 L_rShared (fun x => x) (fun x => x) (fun _ => rfl)
  (fun (la, i, lb, j, b, _) => some (okOf la i b ∧ okOf lb j b))
  (fun (la, i, lb, j, b, _) => ⟨.own 100, [], [.row 23 tV (sharedS la i lb j b)]⟩) (by kernel_rfl) (by kernel_rfl) (by kernel_rfl) (by
    rintro ⟨la, i, lb, j, b, ⟨⟩⟩ hp
    refine m_of hm (own := true) (by kernel_rfl) (by kernel_rfl) (by kernel_rfl) (T_rShared la i lb j b) ⟨K_rSharedL, trivial⟩ ?_

    obtain ⟨h1, h2⟩ : okOf la i b ∧ okOf lb j b := hp
    exact ⟨⟨h1, h2, by omega, by omega, by simp⟩, rfl⟩)

theorem T_rBox (r : Int) : fnTree (P := P) [] (lpOf []) Try.f149 (encL 0 [.val tI] (r, ())) =
  Tree.leaf (SV.sl (Ty.pair (Ty.int IntKind.i64) (Ty.pair (Ty.int IntKind.i64) (Ty.int IntKind.i64))) [(r, (0 : Int), (0 : Int)), ((0 : Int), r, (0 : Int)), ((0 : Int), (0 : Int), r)]) := by kernel_rfl

def c_rBox : PC P := PC.of (α := Int × Unit) 149 [.val tI] (fun x => x) (fun x => x) (fun _ => rfl)
  (fun _ => none)
  (fun x => .sl tV (boxV x.1)) (by kernel_rfl) (by
    rintro ⟨r, ⟨⟩⟩ hp
    refine fn_of hm (by kernel_rfl) (by kernel_rfl) (T_rBox r) trivial ?_
    exact rfl)

def L_rSome : Lay := { slots := [(0, .val tVs), (3, .row 23 tV), (4, .val tI)] }
def L_rSome_0 : Lay := { slots := [(3, .row 23 tV)] }
def X_rSome : Exit → Option Lay
  | .exit 0 => some L_rSome_0
  | _ => none
abbrev C_rSome : Code := loopC (bodyOf Try.f147) 0
theorem B_rSome (l o : List V) (i : Int) : loopBodyA (P := P) [] (lpOf []) [] 25 noU (inner C_rSome) L_rSome X_rSome (α := List V × List V × Int × Unit) (fun x => x) (fun x => x) (l, o, i, ()) =
  Tree.cond (decide (i < (↑(List.length l) : Int))) (Tree.need ((0 : Int) ≤ i ∧ i < (↑(List.length l) : Int)) (Tree.cond (!((List.getD l (Int.toNat i) ((0 : Int), (0 : Int), (0 : Int))).fst == (0 : Int) && ((List.getD l (Int.toNat i) ((0 : Int), (0 : Int), (0 : Int))).snd.fst == (0 : Int) && ((List.getD l (Int.toNat i) ((0 : Int), (0 : Int), (0 : Int))).snd.snd == (0 : Int) && true)))) (Tree.need ((0 : Int) ≤ i ∧ i < (↑(List.length l) : Int)) (Tree.need ((List.length o + List.length [List.getD l (Int.toNat i) ((0 : Int), (0 : Int), (0 : Int))]) * (24 : Nat) ≤ (140737488355328 : Nat)) (Tree.leaf (Sum.inl (l, o ++ [List.getD l (Int.toNat i) ((0 : Int), (0 : Int), (0 : Int))], IntKind.wrap IntKind.i64 (i + (1 : Int)), PUnit.unit))))) (Tree.leaf (Sum.inl (l, o, IntKind.wrap IntKind.i64 (i + (1 : Int)), PUnit.unit))))) (Tree.leaf (Sum.inr (Exit.exit (0 : Nat), Lay.st L_rSome_0 noU (o, PUnit.unit)))) := by kernel_rfl

def inv_rSome : List V × List V × Int × Unit → Prop := fun (l, o, i, _) => 0 ≤ i ∧ i ≤ l.length ∧ (l.length : Int) ≤ 10000 ∧ (o.length : Int) ≤ i
def O_rSome : List V × List V × Int × Unit → Tree (Exit × St) := fun (l, o, i, _) => .leaf (.exit 0, L_rSome_0.st noU (o ++ (l.drop i.toNat).filter nzB, ()))
def R_rSome : LRun := runOf 25 L_rSome (fun x => x) (inv_rSome) (O_rSome)
theorem K_rSome : LoopOk P [] 25 none noU C_rSome (R_rSome) := by
  refine loop_of hm (cx := []) [] (xl := X_rSome) (α := List V × List V × Int × Unit) (fun x => x) (fun (l, o, i, _) => (l.length - i).toNat) (fun _ => rfl) (by kernel_rfl) (by kernel_rfl) ?_ (by kernel_rfl) trivial ?_
  · intro e L' h
    unfold X_rSome at h
    split at h <;> cases h <;> kernel_rfl
  · rintro ⟨l, o, i, ⟨⟩⟩ hinv Q hQ
    refine hold_of_eq (B_rSome l o i) ?_

    obtain ⟨h0, h1, h2, h3⟩ := hinv
    rw [W_id (n := i + 1) (by omega) (by omega)]
    unfold O_rSome at hQ
    dsimp only at hQ
    refine ⟨fun hi => ?_, fun hi => ?_⟩
    · simp only [decide_eq_true_eq] at hi
      have hm : ((l.length : Int) - (i + 1)).toNat < ((l.length : Int) - i).toNat := by omega
      rw [drop_step ((0 : Int), (0 : Int), (0 : Int)) h0 hi] at hQ
      simp only [Bool.and_true]
      refine ⟨⟨h0, hi⟩, fun hc => ⟨⟨h0, hi⟩, ?_⟩, fun hc => ?_⟩
      · have e : nzB (l.getD i.toNat ((0 : Int), (0 : Int), (0 : Int))) = true := hc
        rw [List.filter_cons, if_pos e] at hQ
        refine ⟨by simp only [List.length_cons, List.length_nil]; omega, ⟨⟨by omega, by omega, h2, ?_⟩, hm⟩, ?_⟩
        · rw [List.length_append, List.length_singleton]; omega
        · show Tree.holds Q (Tree.leaf _)
          rw [List.append_assoc, List.singleton_append]
          exact hQ
      · have e : nzB (l.getD i.toNat ((0 : Int), (0 : Int), (0 : Int))) = false := hc
        rw [List.filter_cons, if_neg (fun h => Bool.noConfusion (e.symm.trans h))] at hQ
        exact ⟨⟨⟨by omega, by omega, h2, by omega⟩, hm⟩, hQ⟩
    · simp only [decide_eq_false_iff_not] at hi
      rw [drop_end hi, List.filter_nil, List.append_nil] at hQ
      exact hQ

theorem T_rSome (l : List V) : fnTree (P := P) [] (lpOf [(0, R_rSome)]) Try.f147 (encL 0 [.val tVs] (l, ())) =
  Tree.need (inv_rSome (l, [], (0 : Int), ())) (Tree.leaf (SV.sl (Ty.pair tI (Ty.pair tI tI)) (List.filter nzB (List.drop (Int.toNat (0 : Int)) l)))) := by kernel_rfl

def c_rSome : PC P := PC.of (α := List V × Unit) 147 [.val tVs] (fun x => x) (fun x => x) (fun _ => rfl)
  (fun x => some ((x.1.length : Int) ≤ 10000))
  (fun x => .sl tV (x.1.filter nzB)) (by kernel_rfl) (by
    rintro ⟨l, ⟨⟩⟩ hp
    refine fn_le hm (by kernel_rfl) (by kernel_rfl) (T_rSome l) ⟨K_rSome, trivial⟩ (by kernel_rfl) ?_

    have h : (l.length : Int) ≤ 10000 := hp
    exact ⟨⟨by omega, by omega, h, by simp⟩, rfl⟩)

/-! ### Is 0 inside? -/
def pairsB (p : V → V → Bool) : List V → Bool
  | [] => false
  | u :: r => r.any (p u) || pairsB p r
def L_rInG : Lay := { slots := [(1, .val tVs), (2, .ptr 3054 0), (5, .val tI), (6, .val tI), (7, .ptr 8054 0), (8, .val tI), (9, .val tI)], boxes := [(3054, bV), (8054, bV)] }
def L_rInG_0 : Lay := { slots := [(1, .val tVs), (2, .ptr 3054 0), (5, .val tI), (6, .val tI), (7, .ptr 8054 0), (8, .val tI)], boxes := [(3054, bV), (8054, bV)] }
def X_rInG : Exit → Option Lay
  | .exit 4 => some L_rInG_0
  | _ => none
abbrev C_rInG : Code := loopC (inner (loopC (inner (loopC (bodyOf Try.f146) 0)) 2)) 4
theorem B_rInG (l : List V) (i j a m x y z w1 w2 w3 : Int) : loopBodyA (P := P) [c_rDot.gc, c_rAbs.gc] (lpOf []) [] 54 noU (inner C_rInG) L_rInG X_rInG (α := List V × Unit × Int × Int × Unit × Int × Int × Int × Int × Int × Int × Int × Int × Unit) (fun x => x) (fun x => x) (l, (), i, j, (), a, m, x, y, z, w1, w2, w3, ()) =
  Tree.cond (decide (m < (↑(List.length l) : Int))) (Tree.need ((0 : Int) ≤ m ∧ m < (↑(List.length l) : Int)) (Tree.need (R64 (vdot (w1, w2, w3) (List.getD l (Int.toNat m) ((0 : Int), (0 : Int), (0 : Int))))) (Tree.leaf (Sum.inl (l, PUnit.unit, i, j, PUnit.unit, IntKind.wrap IntKind.i64 (a + absI (vdot (w1, w2, w3) (List.getD l (Int.toNat m) ((0 : Int), (0 : Int), (0 : Int))))), IntKind.wrap IntKind.i64 (m + (1 : Int)), x, y, z, w1, w2, w3, PUnit.unit))))) (Tree.leaf (Sum.inr (Exit.exit (4 : Nat), Lay.st L_rInG_0 noU (l, PUnit.unit, i, j, PUnit.unit, a, x, y, z, w1, w2, w3, PUnit.unit)))) := by kernel_rfl

def inv_rInG : List V × Unit × Int × Int × Unit × Int × Int × Int × Int × Int × Int × Int × Int × Unit → Prop := fun (l, _, i, j, _, a, m, _) => 0 ≤ m ∧ m ≤ l.length ∧ (l.length : Int) < 2 ^ 62
def O_rInG : List V × Unit × Int × Int × Unit × Int × Int × Int × Int × Int × Int × Int × Int × Unit → Tree (Exit × St) := fun (l, _, i, j, _, a, m, x, y, z, w1, w2, w3, _) => .leaf (.exit 4, L_rInG_0.st noU (l, (), i, j, (), reachR (w1, w2, w3) a (l.drop m.toNat), x, y, z, w1, w2, w3, ()))
def R_rInG : LRun := runOf 54 L_rInG (fun x => x) (inv_rInG) (O_rInG)
theorem K_rInG : LoopOk P [] 54 none noU C_rInG (R_rInG) := by
  refine loop_of hm (cx := [c_rDot.gc, c_rAbs.gc]) [] (xl := X_rInG) (α := List V × Unit × Int × Int × Unit × Int × Int × Int × Int × Int × Int × Int × Int × Unit) (fun x => x) (fun (l, _, i, j, _, a, m, _) => (l.length - m).toNat) (fun _ => rfl) (by kernel_rfl) (by kernel_rfl) ?_ (by kernel_rfl) trivial ?_
  · intro e L' h
    unfold X_rInG at h
    split at h <;> cases h <;> kernel_rfl
  · rintro ⟨l, ⟨⟩, i, j, ⟨⟩, a, m, x, y, z, w1, w2, w3, ⟨⟩⟩ hinv Q hQ
    refine hold_of_eq (B_rInG l i j a m x y z w1 w2 w3) ?_

    obtain ⟨h0, h1, h2⟩ := hinv
    rw [W_id (n := m + 1) (by omega) (by omega)]
    unfold O_rInG at hQ
    dsimp only at hQ
    refine ⟨fun hi => ?_, fun hi => ?_⟩
    · simp only [decide_eq_true_eq] at hi
      have hm : ((l.length : Int) - (m + 1)).toNat < ((l.length : Int) - m).toNat := by omega
      rw [drop_step ((0 : Int), (0 : Int), (0 : Int)) h0 hi] at hQ
      exact ⟨⟨h0, hi⟩, R64_W _, ⟨⟨by omega, by omega, h2⟩, hm⟩, hQ⟩
    · simp only [decide_eq_false_iff_not] at hi
      rw [drop_end hi] at hQ
      exact hQ

def L_rInI : Lay := { slots := [(1, .val tVs), (2, .ptr 3054 0), (5, .val tI), (6, .val tI)], boxes := [(3054, bV)] }
def L_rInI_0 : Lay := { slots := [(1, .val tVs), (2, .ptr 3054 0), (5, .val tI)], boxes := [(3054, bV)] }
def L_rInI_1 : Lay := { slots := [(4, .val .bool)] }
def X_rInI : Exit → Option Lay
  | .exit 2 => some L_rInI_0
  | .ret => some L_rInI_1
  | _ => none
abbrev C_rInI : Code := loopC (inner (loopC (bodyOf Try.f146) 0)) 2
theorem B_rInI (l : List V) (i j x y z : Int) : loopBodyA (P := P) [c_rCross.gc, c_rDot.gc, c_rAbs.gc] (lpOf [(4, R_rInG)]) [] 54 noU (inner C_rInI) L_rInI X_rInI (α := List V × Unit × Int × Int × Int × Int × Int × Unit) (fun x => x) (fun x => x) (l, (), i, j, x, y, z, ()) =
  Tree.cond (decide (j < (↑(List.length l) : Int))) (Tree.need ((0 : Int) ≤ i ∧ i < (↑(List.length l) : Int)) (Tree.need ((0 : Int) ≤ j ∧ j < (↑(List.length l) : Int)) (Tree.need (inv_rInG (l, (), i, j, (), (0 : Int), (0 : Int), x, y, z, (vcross (List.getD l (Int.toNat i) ((0 : Int), (0 : Int), (0 : Int))) (List.getD l (Int.toNat j) ((0 : Int), (0 : Int), (0 : Int)))).fst, (vcross (List.getD l (Int.toNat i) ((0 : Int), (0 : Int), (0 : Int))) (List.getD l (Int.toNat j) ((0 : Int), (0 : Int), (0 : Int)))).snd.fst, (vcross (List.getD l (Int.toNat i) ((0 : Int), (0 : Int), (0 : Int))) (List.getD l (Int.toNat j) ((0 : Int), (0 : Int), (0 : Int)))).snd.snd, ())) (Tree.need (R64 (vdot (vcross (List.getD l (Int.toNat i) ((0 : Int), (0 : Int), (0 : Int))) (List.getD l (Int.toNat j) ((0 : Int), (0 : Int), (0 : Int)))) (x, y, z))) (Tree.cond (decide (absI (vdot (vcross (List.getD l (Int.toNat i) ((0 : Int), (0 : Int), (0 : Int))) (List.getD l (Int.toNat j) ((0 : Int), (0 : Int), (0 : Int)))) (x, y, z)) > reachR (vcross (List.getD l (Int.toNat i) ((0 : Int), (0 : Int), (0 : Int))) (List.getD l (Int.toNat j) ((0 : Int), (0 : Int), (0 : Int)))) (0 : Int) (List.drop (Int.toNat (0 : Int)) l))) (Tree.leaf (Sum.inr (Exit.ret, Lay.st L_rInI_1 noU (false, PUnit.unit)))) (Tree.leaf (Sum.inl (l, PUnit.unit, i, IntKind.wrap IntKind.i64 (j + (1 : Int)), x, y, z, PUnit.unit)))))))) (Tree.leaf (Sum.inr (Exit.exit (2 : Nat), Lay.st L_rInI_0 noU (l, PUnit.unit, i, x, y, z, PUnit.unit)))) := by kernel_rfl

def inv_rInI : List V × Unit × Int × Int × Int × Int × Int × Unit → Prop := fun (l, _, i, j, x, y, z, _) => 0 ≤ i ∧ i < l.length ∧ 0 ≤ j ∧ j ≤ l.length ∧ (l.length : Int) < 2 ^ 62
def O_rInI : List V × Unit × Int × Int × Int × Int × Int × Unit → Tree (Exit × St) := fun (l, _, i, j, x, y, z, _) => .cond ((l.drop j.toNat).any (sepB (x, y, z) l (l.getD i.toNat (0, 0, 0)))) (.leaf (.ret, L_rInI_1.st noU (false, ()))) (.leaf (.exit 2, L_rInI_0.st noU (l, (), i, x, y, z, ())))
def R_rInI : LRun := runOf 54 L_rInI (fun x => x) (inv_rInI) (O_rInI)
theorem K_rInI : LoopOk P [] 54 none noU C_rInI (R_rInI) := by
  refine loop_of hm (cx := [c_rCross.gc, c_rDot.gc, c_rAbs.gc]) [(4, R_rInG)] (xl := X_rInI) (α := List V × Unit × Int × Int × Int × Int × Int × Unit) (fun x => x) (fun (l, _, i, j, _) => (l.length - j).toNat) (fun _ => rfl) (by kernel_rfl) (by kernel_rfl) ?_ (by kernel_rfl) ⟨K_rInG, trivial⟩ ?_
  · intro e L' h
    unfold X_rInI at h
    split at h <;> cases h <;> kernel_rfl
  · rintro ⟨l, ⟨⟩, i, j, x, y, z, ⟨⟩⟩ hinv Q hQ
    refine hold_of_eq (B_rInI l i j x y z) ?_

    obtain ⟨h0, h1, h2, h3, h4⟩ := hinv
    rw [W_id (n := j + 1) (by omega) (by omega)]
    unfold O_rInI at hQ
    dsimp only at hQ
    refine ⟨fun hi => ?_, fun hi => ?_⟩
    · simp only [decide_eq_true_eq] at hi
      have hm : ((l.length : Int) - (j + 1)).toNat < ((l.length : Int) - j).toNat := by omega
      rw [drop_step ((0 : Int), (0 : Int), (0 : Int)) h2 hi, List.any_cons] at hQ
      rw [Int.toNat_zero, List.drop_zero]
      refine ⟨⟨h0, h1⟩, ⟨h2, hi⟩, ⟨by omega, by omega, h4⟩, R64_W _, fun hc => ?_, fun hc => ?_⟩
      · have e : sepB (x, y, z) l (l.getD i.toNat (0, 0, 0)) (l.getD j.toNat ((0 : Int), (0 : Int), (0 : Int))) = true := hc
        rw [e, Bool.true_or] at hQ
        exact hQ.1 rfl
      · have e : sepB (x, y, z) l (l.getD i.toNat (0, 0, 0)) (l.getD j.toNat ((0 : Int), (0 : Int), (0 : Int))) = false := hc
        rw [e, Bool.false_or] at hQ
        exact ⟨⟨⟨h0, h1, by omega, by omega, h4⟩, hm⟩, hQ⟩
    · simp only [decide_eq_false_iff_not] at hi
      rw [drop_end hi] at hQ
      exact hQ.2 rfl

def L_rInO : Lay := { slots := [(1, .val tVs), (2, .ptr 3054 0), (5, .val tI)], boxes := [(3054, bV)] }
def L_rInO_0 : Lay := { slots := [] }
def L_rInO_1 : Lay := { slots := [(4, .val .bool)] }
def X_rInO : Exit → Option Lay
  | .exit 0 => some L_rInO_0
  | .ret => some L_rInO_1
  | _ => none
abbrev C_rInO : Code := loopC (bodyOf Try.f146) 0
theorem B_rInO (l : List V) (i x y z : Int) : loopBodyA (P := P) [] (lpOf [(2, R_rInI)]) [] 54 noU (inner C_rInO) L_rInO X_rInO (α := List V × Unit × Int × Int × Int × Int × Unit) (fun x => x) (fun x => x) (l, (), i, x, y, z, ()) =
  Tree.cond (decide (i < (↑(List.length l) : Int))) (Tree.need (inv_rInI (l, (), i, IntKind.wrap IntKind.i64 (i + (1 : Int)), x, y, z, ())) (Tree.cond (List.any (List.drop (Int.toNat (IntKind.wrap IntKind.i64 (i + (1 : Int)))) l) (sepB (x, y, z) l (List.getD l (Int.toNat i) ((0 : Int), (0 : Int), (0 : Int))))) (Tree.leaf (Sum.inr (Exit.ret, Lay.st L_rInO_1 noU (false, PUnit.unit)))) (Tree.leaf (Sum.inl (l, PUnit.unit, IntKind.wrap IntKind.i64 (i + (1 : Int)), x, y, z, PUnit.unit))))) (Tree.leaf (Sum.inr (Exit.exit (0 : Nat), Lay.st L_rInO_0 noU PUnit.unit))) := by kernel_rfl

def inv_rInO : List V × Unit × Int × Int × Int × Int × Unit → Prop := fun (l, _, i, x, y, z, _) => 0 ≤ i ∧ i ≤ l.length ∧ (l.length : Int) < 2 ^ 62
def O_rInO : List V × Unit × Int × Int × Int × Int × Unit → Tree (Exit × St) := fun (l, _, i, x, y, z, _) => .cond (pairsB (sepB (x, y, z) l) (l.drop i.toNat)) (.leaf (.ret, L_rInO_1.st noU (false, ()))) (.leaf (.exit 0, L_rInO_0.st noU ()))
def R_rInO : LRun := runOf 54 L_rInO (fun x => x) (inv_rInO) (O_rInO)
theorem K_rInO : LoopOk P [] 54 none noU C_rInO (R_rInO) := by
  refine loop_of hm (cx := []) [(2, R_rInI)] (xl := X_rInO) (α := List V × Unit × Int × Int × Int × Int × Unit) (fun x => x) (fun (l, _, i, _) => (l.length - i).toNat) (fun _ => rfl) (by kernel_rfl) (by kernel_rfl) ?_ (by kernel_rfl) ⟨K_rInI, trivial⟩ ?_
  · intro e L' h
    unfold X_rInO at h
    split at h <;> cases h <;> kernel_rfl
  · rintro ⟨l, ⟨⟩, i, x, y, z, ⟨⟩⟩ hinv Q hQ
    refine hold_of_eq (B_rInO l i x y z) ?_

    obtain ⟨h0, h1, h2⟩ := hinv
    rw [W_id (n := i + 1) (by omega) (by omega)]
    unfold O_rInO at hQ
    dsimp only at hQ
    refine ⟨fun hi => ?_, fun hi => ?_⟩
    · simp only [decide_eq_true_eq] at hi
      have hm : ((l.length : Int) - (i + 1)).toNat < ((l.length : Int) - i).toNat := by omega
      rw [drop_step ((0 : Int), (0 : Int), (0 : Int)) h0 hi, pairsB] at hQ
      refine ⟨⟨h0, hi, by omega, by omega, h2⟩, fun hc => ?_, fun hc => ?_⟩
      · rw [hc, Bool.true_or] at hQ
        exact hQ.1 rfl
      · rw [hc, Bool.false_or] at hQ
        exact ⟨⟨⟨by omega, by omega, h2⟩, hm⟩, hQ⟩
    · simp only [decide_eq_false_iff_not] at hi
      rw [drop_end hi] at hQ
      exact hQ.2 rfl

def rinS (c : V) (g : List V) : Bool := !pairsB (sepB c g) g
theorem T_rInside (x y z : Int) (g : List V) : fnTree (P := P) [] (lpOf [(0, R_rInO)]) Try.f146 (encL 0 [.agg tV, .val tVs] ((x, y, z), g, ())) =
  Tree.need (inv_rInO (g, (), (0 : Int), x, y, z, ())) (Tree.cond (pairsB (sepB (x, y, z) g) (List.drop (Int.toNat (0 : Int)) g)) (Tree.leaf (SV.bool false)) (Tree.leaf (SV.bool true))) := by kernel_rfl

def c_rInside : PC P := PC.of (α := V × List V × Unit) 146 [.agg tV, .val tVs] (fun x => x) (fun x => x) (fun _ => rfl)
  (fun x => some ((x.2.1.length : Int) < 2 ^ 62))
  (fun x => .bool (rinS x.1 x.2.1)) (by kernel_rfl) (by
    rintro ⟨⟨x, y, z⟩, g, ⟨⟩⟩ hp
    refine fn_of hm (by kernel_rfl) (by kernel_rfl) (T_rInside x y z g) ⟨K_rInO, trivial⟩ ?_

    have h : (g.length : Int) < 2 ^ 62 := hp
    show Tree.holds (fun s => s = SV.bool (rinS (x, y, z) g)) _
    unfold rinS
    rw [Int.toNat_zero, List.drop_zero]
    refine ⟨⟨by omega, by omega, h⟩, fun hc => ?_, fun hc => ?_⟩
    · rw [hc]; exact rfl
    · rw [hc]; exact rfl)

/-! ### Two joints, two legs -/
theorem sharedS_length (la : List Src) (i : Int) (lb : List Src) (j : Int) (b : Bool) : (sharedS la i lb j b).length = 99 := mapN_length _ _ _
def rtouchW (p : Pth) (la : List Src) (i : Int) (p' : Pth) (lb : List Src) (j r : Int) : Bool :=
  rinS (vsub ((jl p.1 p.2).getD i.toNat (0, 0, 0)) ((jl p'.1 p'.2).getD j.toNat (0, 0, 0))) ((sharedS la i lb j false ++ boxV r).filter nzB)
theorem T_rtouches (x y z : Int) (q : List V) (l : List Src) (i : Int) (x' y' z' : Int) (q' : List V) (l' : List Src) (j r : Int) : fnTree (P := P) [c_rjoints.gc, c_rMinus.gc, c_rShared.gc, c_rBox.gc, c_rSome.gc, c_rInside.gc] (lpOf []) Try.f120 (encL 0 [.agg tPath, .val tSrcs, .val tI, .agg tPath, .val tSrcs, .val tI, .val tI] (((x, y, z), q), l, i, ((x', y', z'), q'), l', j, r, ())) =
  Tree.need (List.length q ≤ (20 : Nat)) (Tree.need ((0 : Int) ≤ i ∧ i < (↑(List.length (jl (x, y, z) q)) : Int)) (Tree.need (List.length q' ≤ (20 : Nat)) (Tree.need ((0 : Int) ≤ j ∧ j < (↑(List.length (jl (x', y', z') q')) : Int)) (Tree.need (okOf l i false ∧ okOf l' j false) (Tree.need ((List.length (sharedS l i l' j false) + List.length (boxV r)) * (24 : Nat) ≤ (140737488355328 : Nat)) (Tree.need ((↑(List.length (sharedS l i l' j false ++ boxV r)) : Int) ≤ (10000 : Int)) (Tree.need ((↑(List.length (List.filter nzB (sharedS l i l' j false ++ boxV r))) : Int) < (2 : Int) ^ (62 : Nat)) (Tree.leaf (SV.bool (rinS (vsub (List.getD (jl (x, y, z) q) (Int.toNat i) ((0 : Int), (0 : Int), (0 : Int))) (List.getD (jl (x', y', z') q') (Int.toNat j) ((0 : Int), (0 : Int), (0 : Int)))) (List.filter nzB (sharedS l i l' j false ++ boxV r)))))))))))) := by kernel_rfl

def c_rtouches : PC P := PC.of (α := Pth × List Src × Int × Pth × List Src × Int × Int × Unit) 120 [.agg tPath, .val tSrcs, .val tI, .agg tPath, .val tSrcs, .val tI, .val tI] (fun x => x) (fun x => x) (fun _ => rfl)
  (fun (p, l, i, p', l', j, r, _) => some (p.2.length ≤ 20 ∧ p'.2.length ≤ 20 ∧ 0 ≤ i ∧ i ≤ p.2.length ∧ 0 ≤ j ∧ j ≤ p'.2.length ∧ okOf l i false ∧ okOf l' j false))
  (fun (p, l, i, p', l', j, r, _) => .bool (rtouchW p l i p' l' j r)) (by kernel_rfl) (by
    rintro ⟨⟨⟨x, y, z⟩, q⟩, l, i, ⟨⟨x', y', z'⟩, q'⟩, l', j, r, ⟨⟩⟩ hp
    refine fn_of hm (by kernel_rfl) (by kernel_rfl) (T_rtouches x y z q l i x' y' z' q' l' j r) trivial ?_

    obtain ⟨h1, h2, h3, h4, h5, h6, h7, h8⟩ : q.length ≤ 20 ∧ q'.length ≤ 20 ∧ 0 ≤ i ∧ i ≤ q.length ∧ 0 ≤ j ∧ j ≤ q'.length ∧ okOf l i false ∧ okOf l' j false := hp
    have e1 := jl_length q (x, y, z)
    have e2 := jl_length q' (x', y', z')
    have hs := sharedS_length l i l' j false
    have hb3 : (boxV r).length = 3 := rfl
    have hf := List.length_filter_le nzB (sharedS l i l' j false ++ boxV r)
    rw [List.length_append] at hf
    exact ⟨h1, ⟨h3, by omega⟩, h2, ⟨h5, by omega⟩, ⟨h7, h8⟩, by omega, by rw [List.length_append]; omega, by omega, rfl⟩)

def appP (i : Int) (o : List V) (l : List Src) : List V := o ++ l.map fun s => s.2.getD i.toNat (0, 0, 0)
theorem appP_nil (i : Int) (o : List V) : appP i o [] = o := by simp [appP]
theorem appP_cons (i : Int) (o : List V) (s : Src) (l : List Src) : appP i o (s :: l) = appP i (o ++ [s.2.getD i.toNat (0, 0, 0)]) l := by
  unfold appP
  rw [List.map_cons, List.append_assoc, List.singleton_append]
theorem appP_length (i : Int) (o : List V) (l : List Src) : (appP i o l).length = o.length + l.length := by
  unfold appP
  rw [List.length_append, List.length_map]
def rsepG (p : Pth) (la : List Src) (i : Int) (p' : Pth) (lb : List Src) (j r : Int) : List V :=
  appP j (appP i ([p.2.getD i.toNat (0, 0, 0), p'.2.getD j.toNat (0, 0, 0)] ++ sharedS la i lb j true) la) lb ++ boxV (IntKind.wrap IntKind.i64 (2 * r))
def L_rSep0 : Lay := { slots := [(1, .val tSrcs), (2, .val tI), (4, .val tSrcs), (5, .val tI), (6, .val tI), (17, .ptr 18100 0), (18, .row 23 tV), (19, .val tI)], boxes := [(18100, bV)] }
def L_rSep0_0 : Lay := { slots := [(4, .val tSrcs), (5, .val tI), (6, .val tI), (17, .ptr 18100 0), (18, .row 23 tV)], boxes := [(18100, bV)] }
def X_rSep0 : Exit → Option Lay
  | .exit 0 => some L_rSep0_0
  | _ => none
abbrev C_rSep0 : Code := loopC (bodyOf Try.f122) 0
theorem B_rSep0 (la : List Src) (i : Int) (lb : List Src) (j r : Int) (o : List V) (m x y z : Int) : loopBodyA (P := P) [] (lpOf []) [] 100 noU (inner C_rSep0) L_rSep0 X_rSep0 (α := List Src × Int × List Src × Int × Int × Unit × List V × Int × Int × Int × Int × Unit) (fun x => x) (fun x => x) (la, i, lb, j, r, (), o, m, x, y, z, ()) =
  Tree.cond (decide (m < (↑(List.length la) : Int))) (Tree.need ((0 : Int) ≤ m ∧ m < (↑(List.length la) : Int)) (Tree.need ((0 : Int) ≤ i ∧ i < (↑(List.length (List.getD la (Int.toNat m) ((0 : Int), [])).snd) : Int)) (Tree.need ((List.length o + List.length [List.getD (List.getD la (Int.toNat m) ((0 : Int), [])).snd (Int.toNat i) ((0 : Int), (0 : Int), (0 : Int))]) * (24 : Nat) ≤ (140737488355328 : Nat)) (Tree.leaf (Sum.inl (la, i, lb, j, r, PUnit.unit, o ++ [List.getD (List.getD la (Int.toNat m) ((0 : Int), [])).snd (Int.toNat i) ((0 : Int), (0 : Int), (0 : Int))], IntKind.wrap IntKind.i64 (m + (1 : Int)), x, y, z, PUnit.unit)))))) (Tree.leaf (Sum.inr (Exit.exit (0 : Nat), Lay.st L_rSep0_0 noU (lb, j, r, PUnit.unit, o, x, y, z, PUnit.unit)))) := by kernel_rfl

def inv_rSep0 : List Src × Int × List Src × Int × Int × Unit × List V × Int × Int × Int × Int × Unit → Prop := fun (la, i, lb, j, r, _, o, m, x, y, z, _) => 0 ≤ m ∧ m ≤ la.length ∧ okOf la i true ∧ (o.length : Int) ≤ 1000 + m
def O_rSep0 : List Src × Int × List Src × Int × Int × Unit × List V × Int × Int × Int × Int × Unit → Tree (Exit × St) := fun (la, i, lb, j, r, _, o, m, x, y, z, _) => .leaf (.exit 0, L_rSep0_0.st noU (lb, j, r, (), appP i o (la.drop m.toNat), x, y, z, ()))
def R_rSep0 : LRun := runOf 100 L_rSep0 (fun x => x) (inv_rSep0) (O_rSep0)
theorem K_rSep0 : LoopOk P [] 100 none noU C_rSep0 (R_rSep0) := by
  refine loop_of hm (cx := []) [] (xl := X_rSep0) (α := List Src × Int × List Src × Int × Int × Unit × List V × Int × Int × Int × Int × Unit) (fun x => x) (fun (la, i, lb, j, r, _, o, m, _) => (la.length - m).toNat) (fun _ => rfl) (by kernel_rfl) (by kernel_rfl) ?_ (by kernel_rfl) trivial ?_
  · intro e L' h
    unfold X_rSep0 at h
    split at h <;> cases h <;> kernel_rfl
  · rintro ⟨la, i, lb, j, r, ⟨⟩, o, m, x, y, z, ⟨⟩⟩ hinv Q hQ
    refine hold_of_eq (B_rSep0 la i lb j r o m x y z) ?_

    obtain ⟨h0, h1, ⟨h2, h3, h4⟩, h5⟩ := hinv
    rw [W_id (n := m + 1) (by omega) (by omega)]
    unfold O_rSep0 at hQ
    dsimp only at hQ
    refine ⟨fun hi => ?_, fun hi => ?_⟩
    · simp only [decide_eq_true_eq] at hi
      have hm : ((la.length : Int) - (m + 1)).toNat < ((la.length : Int) - m).toNat := by omega
      have hs := h4 _ (getD_mem (d := ((0 : Int), [])) (show m.toNat < la.length by omega))
      rw [drop_step ((0 : Int), []) h0 hi, appP_cons] at hQ
      refine ⟨⟨h0, hi⟩, ⟨h3, hs.2.1 rfl⟩, by simp only [List.length_cons, List.length_nil]; omega, ⟨⟨by omega, by omega, ⟨h2, h3, h4⟩, by rw [List.length_append, List.length_singleton]; omega⟩, hm⟩, hQ⟩
    · simp only [decide_eq_false_iff_not] at hi
      rw [drop_end hi, appP_nil] at hQ
      exact hQ

def L_rSep2 : Lay := { slots := [(4, .val tSrcs), (5, .val tI), (6, .val tI), (17, .ptr 18100 0), (18, .row 23 tV), (20, .val tI)], boxes := [(18100, bV)] }
def L_rSep2_0 : Lay := { slots := [(6, .val tI), (17, .ptr 18100 0), (18, .row 23 tV)], boxes := [(18100, bV)] }
def X_rSep2 : Exit → Option Lay
  | .exit 2 => some L_rSep2_0
  | _ => none
abbrev C_rSep2 : Code := loopC (bodyOf Try.f122) 2
theorem B_rSep2 (lb : List Src) (j r : Int) (o : List V) (m x y z : Int) : loopBodyA (P := P) [] (lpOf []) [] 100 noU (inner C_rSep2) L_rSep2 X_rSep2 (α := List Src × Int × Int × Unit × List V × Int × Int × Int × Int × Unit) (fun x => x) (fun x => x) (lb, j, r, (), o, m, x, y, z, ()) =
  Tree.cond (decide (m < (↑(List.length lb) : Int))) (Tree.need ((0 : Int) ≤ m ∧ m < (↑(List.length lb) : Int)) (Tree.need ((0 : Int) ≤ j ∧ j < (↑(List.length (List.getD lb (Int.toNat m) ((0 : Int), [])).snd) : Int)) (Tree.need ((List.length o + List.length [List.getD (List.getD lb (Int.toNat m) ((0 : Int), [])).snd (Int.toNat j) ((0 : Int), (0 : Int), (0 : Int))]) * (24 : Nat) ≤ (140737488355328 : Nat)) (Tree.leaf (Sum.inl (lb, j, r, PUnit.unit, o ++ [List.getD (List.getD lb (Int.toNat m) ((0 : Int), [])).snd (Int.toNat j) ((0 : Int), (0 : Int), (0 : Int))], IntKind.wrap IntKind.i64 (m + (1 : Int)), x, y, z, PUnit.unit)))))) (Tree.leaf (Sum.inr (Exit.exit (2 : Nat), Lay.st L_rSep2_0 noU (r, PUnit.unit, o, x, y, z, PUnit.unit)))) := by kernel_rfl

def inv_rSep2 : List Src × Int × Int × Unit × List V × Int × Int × Int × Int × Unit → Prop := fun (lb, j, r, _, o, m, x, y, z, _) => 0 ≤ m ∧ m ≤ lb.length ∧ okOf lb j true ∧ (o.length : Int) ≤ 2000 + m
def O_rSep2 : List Src × Int × Int × Unit × List V × Int × Int × Int × Int × Unit → Tree (Exit × St) := fun (lb, j, r, _, o, m, x, y, z, _) => .leaf (.exit 2, L_rSep2_0.st noU (r, (), appP j o (lb.drop m.toNat), x, y, z, ()))
def R_rSep2 : LRun := runOf 100 L_rSep2 (fun x => x) (inv_rSep2) (O_rSep2)
theorem K_rSep2 : LoopOk P [] 100 none noU C_rSep2 (R_rSep2) := by
  refine loop_of hm (cx := []) [] (xl := X_rSep2) (α := List Src × Int × Int × Unit × List V × Int × Int × Int × Int × Unit) (fun x => x) (fun (lb, j, r, _, o, m, _) => (lb.length - m).toNat) (fun _ => rfl) (by kernel_rfl) (by kernel_rfl) ?_ (by kernel_rfl) trivial ?_
  · intro e L' h
    unfold X_rSep2 at h
    split at h <;> cases h <;> kernel_rfl
  · rintro ⟨lb, j, r, ⟨⟩, o, m, x, y, z, ⟨⟩⟩ hinv Q hQ
    refine hold_of_eq (B_rSep2 lb j r o m x y z) ?_

    obtain ⟨h0, h1, ⟨h2, h3, h4⟩, h5⟩ := hinv
    rw [W_id (n := m + 1) (by omega) (by omega)]
    unfold O_rSep2 at hQ
    dsimp only at hQ
    refine ⟨fun hi => ?_, fun hi => ?_⟩
    · simp only [decide_eq_true_eq] at hi
      have hm : ((lb.length : Int) - (m + 1)).toNat < ((lb.length : Int) - m).toNat := by omega
      have hs := h4 _ (getD_mem (d := ((0 : Int), [])) (show m.toNat < lb.length by omega))
      rw [drop_step ((0 : Int), []) h0 hi, appP_cons] at hQ
      refine ⟨⟨h0, hi⟩, ⟨h3, hs.2.1 rfl⟩, by simp only [List.length_cons, List.length_nil]; omega, ⟨⟨by omega, by omega, ⟨h2, h3, h4⟩, by rw [List.length_append, List.length_singleton]; omega⟩, hm⟩, hQ⟩
    · simp only [decide_eq_false_iff_not] at hi
      rw [drop_end hi, appP_nil] at hQ
      exact hQ

def rsepW (p : Pth) (la : List Src) (i : Int) (p' : Pth) (lb : List Src) (j r : Int) : Bool :=
  !rinS (sCentre p.2 (jl p.1 p.2) i p'.2 (jl p'.1 p'.2) j) ((rsepG p la i p' lb j r).filter nzB)
theorem T_rseparate (x y z : Int) (q : List V) (l : List Src) (i : Int) (x' y' z' : Int) (q' : List V) (l' : List Src) (j r : Int) : fnTree (P := P) [c_rjoints.gc, c_rTimes.gc, c_rPlus.gc, c_rMinus.gc, c_rShared.gc, c_rBox.gc, c_rSome.gc, c_rInside.gc] (lpOf [(0, R_rSep0), (2, R_rSep2)]) Try.f122 (encL 0 [.agg tPath, .val tSrcs, .val tI, .agg tPath, .val tSrcs, .val tI, .val tI] (((x, y, z), q), l, i, ((x', y', z'), q'), l', j, r, ())) =
  Tree.need ((0 : Int) ≤ i ∧ i < (↑(List.length q) : Int))
  (Tree.need ((0 : Int) ≤ j ∧ j < (↑(List.length q') : Int))
    (Tree.need (List.length q ≤ (20 : Nat))
      (Tree.need ((0 : Int) ≤ i ∧ i < (↑(List.length (jl (x, y, z) q)) : Int))
        (Tree.need (List.length q' ≤ (20 : Nat))
          (Tree.need ((0 : Int) ≤ j ∧ j < (↑(List.length (jl (x', y', z') q')) : Int))
            (Tree.need (okOf l i true ∧ okOf l' j true)
              (Tree.need ((List.length [List.getD q (Int.toNat i) ((0 : Int), (0 : Int), (0 : Int)), List.getD q' (Int.toNat j) ((0 : Int), (0 : Int), (0 : Int))] + List.length (sharedS l i l' j true)) * (24 : Nat) ≤ (140737488355328 : Nat))
                (Tree.need (inv_rSep0 (l, i, l', j, r, (), [List.getD q (Int.toNat i) ((0 : Int), (0 : Int), (0 : Int)), List.getD q' (Int.toNat j) ((0 : Int), (0 : Int), (0 : Int))] ++ sharedS l i l' j true, (0 : Int), (vsub (vadd (vmul (List.getD (jl (x, y, z) q) (Int.toNat i) ((0 : Int), (0 : Int), (0 : Int))) (2 : Int)) (List.getD q (Int.toNat i) ((0 : Int), (0 : Int), (0 : Int)))) (vadd (vmul (List.getD (jl (x', y', z') q') (Int.toNat j) ((0 : Int), (0 : Int), (0 : Int))) (2 : Int)) (List.getD q' (Int.toNat j) ((0 : Int), (0 : Int), (0 : Int))))).fst, (vsub (vadd (vmul (List.getD (jl (x, y, z) q) (Int.toNat i) ((0 : Int), (0 : Int), (0 : Int))) (2 : Int)) (List.getD q (Int.toNat i) ((0 : Int), (0 : Int), (0 : Int)))) (vadd (vmul (List.getD (jl (x', y', z') q') (Int.toNat j) ((0 : Int), (0 : Int), (0 : Int))) (2 : Int)) (List.getD q' (Int.toNat j) ((0 : Int), (0 : Int), (0 : Int))))).snd.fst, (vsub (vadd (vmul (List.getD (jl (x, y, z) q) (Int.toNat i) ((0 : Int), (0 : Int), (0 : Int))) (2 : Int)) (List.getD q (Int.toNat i) ((0 : Int), (0 : Int), (0 : Int)))) (vadd (vmul (List.getD (jl (x', y', z') q') (Int.toNat j) ((0 : Int), (0 : Int), (0 : Int))) (2 : Int)) (List.getD q' (Int.toNat j) ((0 : Int), (0 : Int), (0 : Int))))).snd.snd, ()))
                  (Tree.need (inv_rSep2 (l', j, r, (), appP i ([List.getD q (Int.toNat i) ((0 : Int), (0 : Int), (0 : Int)), List.getD q' (Int.toNat j) ((0 : Int), (0 : Int), (0 : Int))] ++ sharedS l i l' j true) (List.drop (Int.toNat (0 : Int)) l), (0 : Int), (vsub (vadd (vmul (List.getD (jl (x, y, z) q) (Int.toNat i) ((0 : Int), (0 : Int), (0 : Int))) (2 : Int)) (List.getD q (Int.toNat i) ((0 : Int), (0 : Int), (0 : Int)))) (vadd (vmul (List.getD (jl (x', y', z') q') (Int.toNat j) ((0 : Int), (0 : Int), (0 : Int))) (2 : Int)) (List.getD q' (Int.toNat j) ((0 : Int), (0 : Int), (0 : Int))))).fst, (vsub (vadd (vmul (List.getD (jl (x, y, z) q) (Int.toNat i) ((0 : Int), (0 : Int), (0 : Int))) (2 : Int)) (List.getD q (Int.toNat i) ((0 : Int), (0 : Int), (0 : Int)))) (vadd (vmul (List.getD (jl (x', y', z') q') (Int.toNat j) ((0 : Int), (0 : Int), (0 : Int))) (2 : Int)) (List.getD q' (Int.toNat j) ((0 : Int), (0 : Int), (0 : Int))))).snd.fst, (vsub (vadd (vmul (List.getD (jl (x, y, z) q) (Int.toNat i) ((0 : Int), (0 : Int), (0 : Int))) (2 : Int)) (List.getD q (Int.toNat i) ((0 : Int), (0 : Int), (0 : Int)))) (vadd (vmul (List.getD (jl (x', y', z') q') (Int.toNat j) ((0 : Int), (0 : Int), (0 : Int))) (2 : Int)) (List.getD q' (Int.toNat j) ((0 : Int), (0 : Int), (0 : Int))))).snd.snd, ())) (Tree.need ((List.length (appP j (appP i ([List.getD q (Int.toNat i) ((0 : Int), (0 : Int), (0 : Int)), List.getD q' (Int.toNat j) ((0 : Int), (0 : Int), (0 : Int))] ++ sharedS l i l' j true) (List.drop (Int.toNat (0 : Int)) l)) (List.drop (Int.toNat (0 : Int)) l')) + List.length (boxV (IntKind.wrap IntKind.i64 ((2 : Int) * r)))) * (24 : Nat) ≤ (140737488355328 : Nat)) (Tree.need ((↑(List.length (appP j (appP i ([List.getD q (Int.toNat i) ((0 : Int), (0 : Int), (0 : Int)), List.getD q' (Int.toNat j) ((0 : Int), (0 : Int), (0 : Int))] ++ sharedS l i l' j true) (List.drop (Int.toNat (0 : Int)) l)) (List.drop (Int.toNat (0 : Int)) l') ++ boxV (IntKind.wrap IntKind.i64 ((2 : Int) * r)))) : Int) ≤ (10000 : Int)) (Tree.need ((↑(List.length (List.filter nzB (appP j (appP i ([List.getD q (Int.toNat i) ((0 : Int), (0 : Int), (0 : Int)), List.getD q' (Int.toNat j) ((0 : Int), (0 : Int), (0 : Int))] ++ sharedS l i l' j true) (List.drop (Int.toNat (0 : Int)) l)) (List.drop (Int.toNat (0 : Int)) l') ++ boxV (IntKind.wrap IntKind.i64 ((2 : Int) * r))))) : Int) < (2 : Int) ^ (62 : Nat)) (Tree.leaf (SV.bool !rinS (vsub (vadd (vmul (List.getD (jl (x, y, z) q) (Int.toNat i) ((0 : Int), (0 : Int), (0 : Int))) (2 : Int)) (List.getD q (Int.toNat i) ((0 : Int), (0 : Int), (0 : Int)))) (vadd (vmul (List.getD (jl (x', y', z') q') (Int.toNat j) ((0 : Int), (0 : Int), (0 : Int))) (2 : Int)) (List.getD q' (Int.toNat j) ((0 : Int), (0 : Int), (0 : Int))))) (List.filter nzB (appP j (appP i ([List.getD q (Int.toNat i) ((0 : Int), (0 : Int), (0 : Int)), List.getD q' (Int.toNat j) ((0 : Int), (0 : Int), (0 : Int))] ++ sharedS l i l' j true) (List.drop (Int.toNat (0 : Int)) l)) (List.drop (Int.toNat (0 : Int)) l') ++ boxV (IntKind.wrap IntKind.i64 ((2 : Int) * r)))))))))))))))))) := by kernel_rfl

def c_rseparate : PC P := PC.of (α := Pth × List Src × Int × Pth × List Src × Int × Int × Unit) 122 [.agg tPath, .val tSrcs, .val tI, .agg tPath, .val tSrcs, .val tI, .val tI] (fun x => x) (fun x => x) (fun _ => rfl)
  (fun (p, l, i, p', l', j, r, _) => some (p.2.length ≤ 20 ∧ p'.2.length ≤ 20 ∧ 0 ≤ i ∧ i < p.2.length ∧ 0 ≤ j ∧ j < p'.2.length ∧ okOf l i true ∧ okOf l' j true))
  (fun (p, l, i, p', l', j, r, _) => .bool (rsepW p l i p' l' j r)) (by kernel_rfl) (by
    rintro ⟨⟨⟨x, y, z⟩, q⟩, l, i, ⟨⟨x', y', z'⟩, q'⟩, l', j, r, ⟨⟩⟩ hp
    refine fn_of hm (by kernel_rfl) (by kernel_rfl) (T_rseparate x y z q l i x' y' z' q' l' j r) ⟨K_rSep0, K_rSep2, trivial⟩ ?_

    obtain ⟨h1, h2, h3, h4, h5, h6, h7, h8⟩ : q.length ≤ 20 ∧ q'.length ≤ 20 ∧ 0 ≤ i ∧ i < q.length ∧ 0 ≤ j ∧ j < q'.length ∧ okOf l i true ∧ okOf l' j true := hp
    have e1 := jl_length q (x, y, z)
    have e2 := jl_length q' (x', y', z')
    have hs := sharedS_length l i l' j true
    have o1 := h7.1
    have o2 := h8.1
    have hb3 : (boxV (IntKind.wrap IntKind.i64 (2 * r))).length = 3 := rfl
    simp only [Int.toNat_zero, List.drop_zero]
    generalize hg : [q.getD i.toNat (0, 0, 0), q'.getD j.toNat (0, 0, 0)] ++ sharedS l i l' j true = G
    have hG : G.length = 101 := by rw [← hg, List.length_append, hs]; rfl
    generalize hA : appP i G l = A
    have hA' : A.length = G.length + l.length := by rw [← hA, appP_length]
    generalize hC : appP j A l' = C
    have hC' : C.length = A.length + l'.length := by rw [← hC, appP_length]
    generalize hB : boxV (IntKind.wrap IntKind.i64 (2 * r)) = B at hb3
    have hf := List.length_filter_le nzB (C ++ B)
    rw [List.length_append] at hf
    refine ⟨⟨h3, h4⟩, ⟨h5, h6⟩, h1, ⟨h3, by omega⟩, h2, ⟨h5, by omega⟩, ⟨h7, h8⟩, by rw [hs]; simp only [List.length_cons, List.length_nil]; omega, ⟨by omega, by omega, h7, by omega⟩, ⟨by omega, by omega, h8, by omega⟩, by omega, by rw [List.length_append]; omega, by omega, ?_⟩
    subst hg hA hC hB
    exact rfl)

end
end Go.MP
