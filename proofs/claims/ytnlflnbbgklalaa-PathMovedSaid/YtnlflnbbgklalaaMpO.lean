/- Sources of errors: their checks, their shifts; where a joint may be. -/
import Derived.Test.YtnlflnbbgklalaaMpN
namespace Go.MP
open Go Go.Sx Go.Proofs
set_option linter.unusedVariables false
set_option linter.unusedSimpArgs false
noncomputable section

def c_cfS : GC P := GC.or c_ixAC.gc c_ixBC.gc (by kernel_rfl)

def orderBad : Int → List Src → Bool
  | _, [] => false
  | last, s :: r => decide (s.1 ≤ last ∨ s.1 > 99) || orderBad s.1 r
def errorsS (q : List V) (l : List Src) : Int := if l.length > 4 then 8 else if orderBad 0 l = true then 11 else if l.any (pA q) = true then 3 else if l.any pB = true then 2 else 0
def csS (p : Pth) (l : List Src) : Int := if checkS p = 0 then errorsS p.2 l else checkS p

def L_errors : Lay := { slots := [(1, .val tSrcs), (2, .ptr 3036 0), (5, .val tI), (12, .val tSrcs), (13, .val tI), (14, .val tI)], boxes := [(3036, [.val tI, .val tI, .val tI, .val tVs])] }
def L_errors_0 : Lay := { slots := [(1, .val tSrcs), (2, .ptr 3036 0)], boxes := [(3036, [.val tI, .val tI, .val tI, .val tVs])] }
def L_errors_1 : Lay := { slots := [(4, .val tI)] }
def X_errors : Exit → Option Lay
  | .exit 0 => some L_errors_0
  | .ret => some L_errors_1
  | _ => none
abbrev C_errors : Code := loopC (bodyOf Try.f138) 0
theorem B_errors (l : List Src) (c : Int) (m : List Src) (n i x y z : Int) (q : List V) : loopBodyA (P := P) [] (lpOf []) [] 36 noU (inner C_errors) L_errors X_errors (α := List Src × Unit × Int × List Src × Int × Int × Int × Int × Int × List V × Unit) (fun x => x) (fun x => x) (l, (), c, m, n, i, x, y, z, q, ()) =
  Tree.cond (decide (i < n)) (Tree.need ((0 : Int) ≤ i ∧ i < (↑(List.length m) : Int)) (Tree.cond (decide ((List.getD m (Int.toNat i) ((0 : Int), [])).fst ≤ c)) (Tree.leaf (Sum.inr (Exit.ret, Lay.st L_errors_1 noU ((11 : Int), PUnit.unit)))) (Tree.cond (decide ((List.getD m (Int.toNat i) ((0 : Int), [])).fst > (99 : Int))) (Tree.leaf (Sum.inr (Exit.ret, Lay.st L_errors_1 noU ((11 : Int), PUnit.unit)))) (Tree.leaf (Sum.inl (l, PUnit.unit, (List.getD m (Int.toNat i) ((0 : Int), [])).fst, m, n, IntKind.wrap IntKind.i64 (i + (1 : Int)), x, y, z, q, PUnit.unit)))))) (Tree.leaf (Sum.inr (Exit.exit (0 : Nat), Lay.st L_errors_0 noU (l, PUnit.unit, x, y, z, q, PUnit.unit)))) := by kernel_rfl

def inv_errors : List Src × Unit × Int × List Src × Int × Int × Int × Int × Int × List V × Unit → Prop := fun (l, _, c, m, n, i, _) => m = l ∧ n = l.length ∧ 0 ≤ i ∧ i ≤ n ∧ l.length ≤ 4
def O_errors : List Src × Unit × Int × List Src × Int × Int × Int × Int × Int × List V × Unit → Tree (Exit × St) := fun (l, _, c, m, n, i, x, y, z, q, _) => .cond (orderBad c (l.drop i.toNat)) (.leaf (.ret, L_errors_1.st noU (((11 : Int)), ()))) (.leaf (.exit 0, L_errors_0.st noU (l, (), x, y, z, q, ())))
def R_errors : LRun := runOf 36 L_errors (fun x => x) (inv_errors) (O_errors)
theorem K_errors : LoopOk P [] 36 none noU C_errors (R_errors) := by
  refine loop_of hm (cx := []) [] (xl := X_errors) (α := List Src × Unit × Int × List Src × Int × Int × Int × Int × Int × List V × Unit) (fun x => x) (fun (l, _, c, m, n, i, _) => (n - i).toNat) (fun _ => rfl) (by kernel_rfl) (by kernel_rfl) ?_ (by kernel_rfl) trivial ?_
  · intro e L' h
    unfold X_errors at h
    split at h <;> cases h <;> kernel_rfl
  · rintro ⟨l, ⟨⟩, c, m, n, i, x, y, z, q, ⟨⟩⟩ hinv Q hQ
    refine hold_of_eq (B_errors l c m n i x y z q) ?_

    obtain ⟨rfl, rfl, h0, h1, h2⟩ := hinv
    rw [W_id (n := i + 1) (by omega) (by omega)]
    unfold O_errors at hQ
    dsimp only at hQ
    refine ⟨fun hi => ?_, fun hi => ?_⟩
    · simp only [decide_eq_true_eq] at hi
      have hm : ((m.length : Int) - (i + 1)).toNat < ((m.length : Int) - i).toNat := by omega
      rw [drop_step ((0 : Int), []) h0 hi, orderBad] at hQ
      refine ⟨⟨h0, hi⟩, fun ha => ?_, fun ha => ⟨fun hb => ?_, fun hb => ?_⟩⟩
      · simp only [decide_eq_true_eq] at ha
        rw [decide_eq_true (Or.inl ha), Bool.true_or] at hQ
        exact hQ.1 rfl
      · simp only [decide_eq_true_eq] at hb
        rw [decide_eq_true (Or.inr hb), Bool.true_or] at hQ
        exact hQ.1 rfl
      · simp only [decide_eq_false_iff_not] at ha hb
        rw [decide_eq_false (by omega), Bool.false_or] at hQ
        exact ⟨⟨⟨rfl, rfl, by omega, by omega, h2⟩, hm⟩, hQ⟩
    · simp only [decide_eq_false_iff_not] at hi
      rw [drop_end hi] at hQ
      exact hQ.2 rfl

theorem T_errors (x y z : Int) (q : List V) (l : List Src) : fnTree (P := P) [c_cfS] (lpOf [(0, R_errors)]) Try.f138 (encL 0 [.agg tPath, .val tSrcs] (((x, y, z), q), l, ())) =
  Tree.cond (decide ((↑(List.length l) : Int) > (4 : Int))) (Tree.leaf (SV.int IntKind.i64 (8 : Int))) (Tree.need (inv_errors (l, (), (0 : Int), l, (↑(List.length l) : Int), (0 : Int), x, y, z, q, ())) (Tree.cond (orderBad (0 : Int) (List.drop (Int.toNat (0 : Int)) l)) (Tree.leaf (SV.int IntKind.i64 (11 : Int))) (Tree.need ((↑(List.length l) : Int) < (2 : Int) ^ (62 : Nat)) (Tree.cond (List.any l (pA q)) (Tree.leaf (SV.int IntKind.i64 (3 : Int))) (Tree.need ((↑(List.length l) : Int) < (2 : Int) ^ (62 : Nat) ∧ ∀ (s : Src), s ∈ l → (↑(List.length s.snd) : Int) < (2 : Int) ^ (62 : Nat)) (Tree.cond (List.any l pB) (Tree.leaf (SV.int IntKind.i64 (2 : Int))) (Tree.leaf (SV.int IntKind.i64 (0 : Int))))))))) := by kernel_rfl

def c_errors : PC P := PC.of (α := Pth × List Src × Unit) 138 [.agg tPath, .val tSrcs] (fun x => x) (fun x => x) (fun _ => rfl)
  (fun x => some (x.1.2.length ≤ 20))
  (fun x => .int .i64 (errorsS x.1.2 x.2.1)) (by kernel_rfl) (by
    rintro ⟨⟨⟨x, y, z⟩, q⟩, l, ⟨⟩⟩ hp
    refine fn_of hm (by kernel_rfl) (by kernel_rfl) (T_errors x y z q l) ⟨K_errors, trivial⟩ ?_

    have hq : q.length ≤ 20 := hp
    show Tree.holds (fun s => s = SV.int .i64 (errorsS q l)) _
    unfold errorsS
    refine ⟨fun h => ?_, fun h => ⟨⟨rfl, rfl, by omega, by omega, ?_⟩, fun h2 => ?_, fun h2 => ⟨?_, fun h3 => ?_, fun h3 => ⟨⟨?_, ?_⟩, fun h4 => ?_, fun h4 => ?_⟩⟩⟩⟩
    all_goals simp only [decide_eq_true_eq, decide_eq_false_iff_not, Int.toNat_zero, List.drop_zero] at *
    · show SV.int _ _ = _
      rw [if_pos (by omega)]
    · omega
    · show SV.int _ _ = _
      rw [if_neg (by omega), if_pos h2]
    · omega
    · show SV.int _ _ = _
      rw [if_neg (by omega), if_neg (by simp [h2]), if_pos h3]
    · omega
    · intro s hs
      rw [List.any_eq_false] at h3
      have := h3 s hs
      unfold pA at this
      simp only [bne_iff_ne, ne_eq, Decidable.not_not] at this
      omega
    · show SV.int _ _ = _
      rw [if_neg (by omega), if_neg (by simp [h2]), if_neg (by simp [h3]), if_pos h4]
    · show SV.int _ _ = _
      rw [if_neg (by omega), if_neg (by simp [h2]), if_neg (by simp [h3]), if_neg (by simp [h4])])

theorem T_CheckSources (x y z : Int) (q : List V) (l : List Src) : fnTree (P := P) [c_Check.gc, c_errors.gc] (lpOf []) Try.f109 (encL 0 [.agg tPath, .val tSrcs] (((x, y, z), q), l, ())) =
  Tree.cond (checkS ((x, y, z), q) != (0 : Int)) (Tree.leaf (SV.int IntKind.i64 (checkS ((x, y, z), q)))) (Tree.need (List.length q ≤ (20 : Nat)) (Tree.leaf (SV.int IntKind.i64 (errorsS q l)))) := by kernel_rfl

def c_CheckSources : PC P := PC.of (α := Pth × List Src × Unit) 109 [.agg tPath, .val tSrcs] (fun x => x) (fun x => x) (fun _ => rfl)
  (fun _ => none)
  (fun x => .int .i64 (csS x.1 x.2.1)) (by kernel_rfl) (by
    rintro ⟨⟨⟨x, y, z⟩, q⟩, l, ⟨⟩⟩ hp
    refine fn_of hm (by kernel_rfl) (by kernel_rfl) (T_CheckSources x y z q l) trivial ?_

    show Tree.holds (fun s => s = SV.int .i64 (csS ((x, y, z), q) l)) _
    unfold csS
    refine ⟨fun h => ?_, fun h => ⟨?_, ?_⟩⟩
    · simp only [bne_iff_ne, ne_eq] at h
      rw [if_neg h]
      exact rfl
    · simp only [bne_eq_false_iff_eq] at h
      exact checkS_len h
    · simp only [bne_eq_false_iff_eq] at h
      rw [if_pos h]
      exact rfl)

/-! ### Shifts -/
def shiftS (s : Src) (j : Int) : V := (s.2.take j.toNat).foldl vadd (0, 0, 0)
def L_shift : Lay := { slots := [(4, .ptr 5022 0), (5, .ptr 6022 0), (11, .val tVs), (12, .val tI), (13, .val tI)], boxes := [(5022, [.any, .any, .any]), (6022, [.val tI, .val tI, .val tI])] }
def L_shift_0 : Lay := { slots := [(4, .ptr 5022 0), (5, .ptr 6022 0)], boxes := [(5022, [.any, .any, .any]), (6022, [.val tI, .val tI, .val tI])] }
def X_shift : Exit → Option Lay
  | .exit 0 => some L_shift_0
  | _ => none
abbrev C_shift : Code := loopC (bodyOf Try.f112) 0
theorem B_shift (l : List V) (n i x y z : Int) : loopBodyA (P := P) [c_plus.gc] (lpOf []) [] 22 noU (inner C_shift) L_shift X_shift (α := Unit × Unit × List V × Int × Int × Unit × Unit × Unit × Int × Int × Int × Unit) (fun x => x) (fun x => x) ((), (), l, n, i, (), (), (), x, y, z, ()) =
  Tree.cond (decide (i < n)) (Tree.need ((0 : Int) ≤ i ∧ i < (↑(List.length l) : Int)) (Tree.leaf (Sum.inl (PUnit.unit, PUnit.unit, l, n, IntKind.wrap IntKind.i64 (i + (1 : Int)), PUnit.unit, PUnit.unit, PUnit.unit, (vadd (x, y, z) (List.getD l (Int.toNat i) ((0 : Int), (0 : Int), (0 : Int)))).fst, (vadd (x, y, z) (List.getD l (Int.toNat i) ((0 : Int), (0 : Int), (0 : Int)))).snd.fst, (vadd (x, y, z) (List.getD l (Int.toNat i) ((0 : Int), (0 : Int), (0 : Int)))).snd.snd, PUnit.unit)))) (Tree.leaf (Sum.inr (Exit.exit (0 : Nat), Lay.st L_shift_0 noU (PUnit.unit, PUnit.unit, PUnit.unit, PUnit.unit, PUnit.unit, x, y, z, PUnit.unit)))) := by kernel_rfl

def inv_shift : Unit × Unit × List V × Int × Int × Unit × Unit × Unit × Int × Int × Int × Unit → Prop := fun (_, _, l, n, i, _) => n = l.length ∧ 0 ≤ i ∧ i ≤ n ∧ (l.length : Int) < 2 ^ 62
def O_shift : Unit × Unit × List V × Int × Int × Unit × Unit × Unit × Int × Int × Int × Unit → Tree (Exit × St) := fun (_, _, l, n, i, _, _, _, x, y, z, _) => .leaf (.exit 0, L_shift_0.st noU ((), (), (), (), (), ((l.drop i.toNat).foldl vadd (x, y, z)).1, ((l.drop i.toNat).foldl vadd (x, y, z)).2.1, ((l.drop i.toNat).foldl vadd (x, y, z)).2.2, ()))
def R_shift : LRun := runOf 22 L_shift (fun x => x) (inv_shift) (O_shift)
theorem K_shift : LoopOk P [] 22 none noU C_shift (R_shift) := by
  refine loop_of hm (cx := [c_plus.gc]) [] (xl := X_shift) (α := Unit × Unit × List V × Int × Int × Unit × Unit × Unit × Int × Int × Int × Unit) (fun x => x) (fun (_, _, l, n, i, _) => (n - i).toNat) (fun _ => rfl) (by kernel_rfl) (by kernel_rfl) ?_ (by kernel_rfl) trivial ?_
  · intro e L' h
    unfold X_shift at h
    split at h <;> cases h <;> kernel_rfl
  · rintro ⟨⟨⟩, ⟨⟩, l, n, i, ⟨⟩, ⟨⟩, ⟨⟩, x, y, z, ⟨⟩⟩ hinv Q hQ
    refine hold_of_eq (B_shift l n i x y z) ?_

    obtain ⟨rfl, h0, h1, h2⟩ := hinv
    rw [W_id (n := i + 1) (by omega) (by omega)]
    unfold O_shift at hQ
    dsimp only at hQ
    refine ⟨fun hi => ?_, fun hi => ?_⟩
    · simp only [decide_eq_true_eq] at hi
      rw [drop_step (0, 0, 0) h0 hi] at hQ
      exact ⟨⟨h0, hi⟩, ⟨⟨rfl, by omega, by omega, h2⟩, by show ((l.length : Int) - (i + 1)).toNat < ((l.length : Int) - i).toNat; omega⟩, hQ⟩
    · simp only [decide_eq_false_iff_not] at hi
      rw [drop_end hi] at hQ
      exact hQ

theorem T_shift (d : Int) (s : List V) (j : Int) : fnTree (P := P) [] (lpOf [(0, R_shift)]) Try.f112 (encL 0 [.agg tSrc, .val tI] ((d, s), j, ())) =
  Tree.need ((0 : Int) ≤ (0 : Int) ∧ (0 : Int) ≤ j ∧ j ≤ (↑(List.length s) : Int)) (Tree.need (inv_shift ((), (), List.drop (Int.toNat (0 : Int)) (List.take (Int.toNat j) s), (↑(List.length (List.drop (Int.toNat (0 : Int)) (List.take (Int.toNat j) s))) : Int), (0 : Int), (), (), (), (0 : Int), (0 : Int), (0 : Int), ())) (Tree.leaf (SV.agg [SV.int IntKind.i64 (List.foldl vadd ((0 : Int), (0 : Int), (0 : Int)) (List.drop (Int.toNat (0 : Int)) (List.drop (Int.toNat (0 : Int)) (List.take (Int.toNat j) s)))).fst, SV.int IntKind.i64 (List.foldl vadd ((0 : Int), (0 : Int), (0 : Int)) (List.drop (Int.toNat (0 : Int)) (List.drop (Int.toNat (0 : Int)) (List.take (Int.toNat j) s)))).snd.fst, SV.int IntKind.i64 (List.foldl vadd ((0 : Int), (0 : Int), (0 : Int)) (List.drop (Int.toNat (0 : Int)) (List.drop (Int.toNat (0 : Int)) (List.take (Int.toNat j) s)))).snd.snd]))) := by kernel_rfl

def c_shift : PC P := PC.of (α := Src × Int × Unit) 112 [.agg tSrc, .val tI] (fun x => x) (fun x => x) (fun _ => rfl)
  (fun x => some (0 ≤ x.2.1 ∧ x.2.1 ≤ x.1.2.length ∧ (x.1.2.length : Int) < 2 ^ 62))
  (fun x => svV (shiftS x.1 x.2.1)) (by kernel_rfl) (by
    rintro ⟨⟨d, s⟩, j, ⟨⟩⟩ hp
    refine fn_of hm (by kernel_rfl) (by kernel_rfl) (T_shift d s j) ⟨K_shift, trivial⟩ ?_

    obtain ⟨h0, h1, h2⟩ := hp
    simp only [] at h0 h1 h2
    rw [Int.toNat_zero, List.drop_zero]
    refine ⟨⟨by omega, h0, h1⟩, ⟨rfl, by omega, by omega, ?_⟩, rfl⟩
    rw [List.length_take]
    omega)

theorem T_joined (x y z : Int) (q : List V) (j : Int) : fnTree (P := P) [] (lpOf []) Try.f110 (encL 0 [.agg tPath, .val tI] (((x, y, z), q), j, ())) =
  Tree.cond (decide (j ≥ (0 : Int))) (Tree.leaf (SV.bool (decide (j ≤ (↑(List.length q) : Int))))) (Tree.leaf (SV.bool false)) := by kernel_rfl

def c_joined : PC P := PC.of (α := Pth × Int × Unit) 110 [.agg tPath, .val tI] (fun x => x) (fun x => x) (fun _ => rfl)
  (fun _ => none)
  (fun x => .bool (decide (0 ≤ x.2.1 ∧ x.2.1 ≤ x.1.2.length))) (by kernel_rfl) (by
    rintro ⟨⟨⟨x, y, z⟩, q⟩, j, ⟨⟩⟩ hp
    refine fn_of hm (by kernel_rfl) (by kernel_rfl) (T_joined x y z q j) trivial ?_

    refine ⟨fun h => ?_, fun h => ?_⟩
    · simp only [decide_eq_true_eq] at h
      show SV.bool _ = SV.bool _
      exact congrArg SV.bool (decide_eq_decide.2 ⟨fun h2 => ⟨h, h2⟩, fun h2 => h2.2⟩)
    · simp only [decide_eq_false_iff_not] at h
      show SV.bool _ = SV.bool _
      exact congrArg SV.bool (decide_eq_false (fun h2 => h h2.1)).symm)

def absS (v : V) : V := (maxI v.1 (IntKind.wrap IntKind.i64 (0 - v.1)), maxI v.2.1 (IntKind.wrap IntKind.i64 (0 - v.2.1)), maxI v.2.2 (IntKind.wrap IntKind.i64 (0 - v.2.2)))
theorem T_abs (x y z : Int) : fnTree (P := P) [] (lpOf []) Try.f111 (encL 0 [.agg tV] ((x, y, z), ())) =
  Tree.leaf (SV.agg [SV.int IntKind.i64 (maxI x (IntKind.wrap IntKind.i64 ((0 : Int) - x))), SV.int IntKind.i64 (maxI y (IntKind.wrap IntKind.i64 ((0 : Int) - y))), SV.int IntKind.i64 (maxI z (IntKind.wrap IntKind.i64 ((0 : Int) - z)))]) := by kernel_rfl

def c_abs : PC P := PC.of (α := V × Unit) 111 [.agg tV] (fun x => x) (fun x => x) (fun _ => rfl)
  (fun _ => none)
  (fun x => svV (absS x.1)) (by kernel_rfl) (by
    rintro ⟨⟨x, y, z⟩, ⟨⟩⟩ hp
    refine fn_of hm (by kernel_rfl) (by kernel_rfl) (T_abs x y z) trivial ?_
    exact rfl)

/-! ### What valid sources are -/
theorem csS_zero {p : Pth} {l : List Src} (h : csS p l = 0) : checkS p = 0 ∧ l.length ≤ 4 ∧ ∀ s ∈ l, s.2.length = p.2.length := by
  unfold csS at h
  split at h
  · rename_i hc
    unfold errorsS at h
    split at h
    · cases h
    · split at h
      · cases h
      · split at h
        · cases h
        · rename_i h1 h2 h3
          refine ⟨hc, by omega, fun s hs => ?_⟩
          have h3' : l.any (pA p.2) = false := by simpa using h3
          rw [List.any_eq_false] at h3'
          have := h3' s hs
          unfold pA at this
          simp only [bne_iff_ne, ne_eq, Decidable.not_not] at this
          omega
  · rename_i hc
    exact absurd h hc

/-! ### Where a joint may be -/
abbrev tBox : Ty := .pair tV tV
def whereR (l : List Src) (j : Int) (a : V) : V := l.foldl (fun a s => vadd a (absS (shiftS s j))) a
def L_Where : Lay := { slots := [(2, .val tI), (6, .ptr 7050 0), (7, .val tI), (9, .ptr 10050 0), (10, .ptr 11050 0), (30, .val tSrcs), (31, .val tI), (32, .val tI)], boxes := [(7050, [.any, .any, .any, .any, .any, .any]), (10050, [.val tI, .val tI, .val tI]), (11050, [.val tI, .val tI, .val tI])] }
def L_Where_0 : Lay := { slots := [(6, .ptr 7050 0), (9, .ptr 10050 0), (10, .ptr 11050 0)], boxes := [(7050, [.any, .any, .any, .any, .any, .any]), (10050, [.val tI, .val tI, .val tI]), (11050, [.val tI, .val tI, .val tI])] }
def X_Where : Exit → Option Lay
  | .exit 0 => some L_Where_0
  | _ => none
abbrev C_Where : Code := loopC (bodyOf Try.f54) 0
theorem B_Where (j e : Int) (l : List Src) (n i a b c x y z : Int) : loopBodyA (P := P) [c_plus.gc, c_shift.gc, c_abs.gc] (lpOf []) [] 50 noU (inner C_Where) L_Where X_Where (α := Int × Unit × Int × Unit × Unit × List Src × Int × Int × Unit × Unit × Unit × Unit × Unit × Unit × Int × Int × Int × Int × Int × Int × Unit) (fun x => x) (fun x => x) (j, (), e, (), (), l, n, i, (), (), (), (), (), (), a, b, c, x, y, z, ()) =
  Tree.cond (decide (i < n)) (Tree.need ((0 : Int) ≤ i ∧ i < (↑(List.length l) : Int)) (Tree.need ((0 : Int) ≤ j ∧ j ≤ (↑(List.length (List.getD l (Int.toNat i) ((0 : Int), [])).snd) : Int) ∧ (↑(List.length (List.getD l (Int.toNat i) ((0 : Int), [])).snd) : Int) < (2 : Int) ^ (62 : Nat)) (Tree.leaf (Sum.inl (j, PUnit.unit, e, PUnit.unit, PUnit.unit, l, n, IntKind.wrap IntKind.i64 (i + (1 : Int)), PUnit.unit, PUnit.unit, PUnit.unit, PUnit.unit, PUnit.unit, PUnit.unit, a, b, c, (vadd (x, y, z) (absS (shiftS (List.getD l (Int.toNat i) ((0 : Int), [])) j))).fst, (vadd (x, y, z) (absS (shiftS (List.getD l (Int.toNat i) ((0 : Int), [])) j))).snd.fst, (vadd (x, y, z) (absS (shiftS (List.getD l (Int.toNat i) ((0 : Int), [])) j))).snd.snd, PUnit.unit))))) (Tree.leaf (Sum.inr (Exit.exit (0 : Nat), Lay.st L_Where_0 noU (PUnit.unit, PUnit.unit, PUnit.unit, PUnit.unit, PUnit.unit, PUnit.unit, PUnit.unit, PUnit.unit, PUnit.unit, a, b, c, x, y, z, PUnit.unit)))) := by kernel_rfl

def inv_Where : Int × Unit × Int × Unit × Unit × List Src × Int × Int × Unit × Unit × Unit × Unit × Unit × Unit × Int × Int × Int × Int × Int × Int × Unit → Prop := fun (j, _, _, _, _, l, n, i, _) => n = l.length ∧ 0 ≤ i ∧ i ≤ n ∧ l.length ≤ 4 ∧ 0 ≤ j ∧ ∀ s ∈ l, j ≤ s.2.length ∧ s.2.length ≤ 20
def O_Where : Int × Unit × Int × Unit × Unit × List Src × Int × Int × Unit × Unit × Unit × Unit × Unit × Unit × Int × Int × Int × Int × Int × Int × Unit → Tree (Exit × St) := fun (j, _, _, _, _, l, n, i, _, _, _, _, _, _, a, b, c, x, y, z, _) => .leaf (.exit 0, L_Where_0.st noU ((), (), (), (), (), (), (), (), (), a, b, c, (whereR (l.drop i.toNat) j (x, y, z)).1, (whereR (l.drop i.toNat) j (x, y, z)).2.1, (whereR (l.drop i.toNat) j (x, y, z)).2.2, ()))
def R_Where : LRun := runOf 50 L_Where (fun x => x) (inv_Where) (O_Where)
theorem K_Where : LoopOk P [] 50 none noU C_Where (R_Where) := by
  refine loop_of hm (cx := [c_plus.gc, c_shift.gc, c_abs.gc]) [] (xl := X_Where) (α := Int × Unit × Int × Unit × Unit × List Src × Int × Int × Unit × Unit × Unit × Unit × Unit × Unit × Int × Int × Int × Int × Int × Int × Unit) (fun x => x) (fun (_, _, _, _, _, l, n, i, _) => (n - i).toNat) (fun _ => rfl) (by kernel_rfl) (by kernel_rfl) ?_ (by kernel_rfl) trivial ?_
  · intro e L' h
    unfold X_Where at h
    split at h <;> cases h <;> kernel_rfl
  · rintro ⟨j, ⟨⟩, e, ⟨⟩, ⟨⟩, l, n, i, ⟨⟩, ⟨⟩, ⟨⟩, ⟨⟩, ⟨⟩, ⟨⟩, a, b, c, x, y, z, ⟨⟩⟩ hinv Q hQ
    refine hold_of_eq (B_Where j e l n i a b c x y z) ?_

    obtain ⟨rfl, h0, h1, h2, hj, h3⟩ := hinv
    rw [W_id (n := i + 1) (by omega) (by omega)]
    unfold O_Where at hQ
    dsimp only at hQ
    refine ⟨fun hi => ?_, fun hi => ?_⟩
    · simp only [decide_eq_true_eq] at hi
      have hs := h3 _ (getD_mem (d := ((0 : Int), [])) (show i.toNat < l.length by omega))
      rw [drop_step ((0 : Int), []) h0 hi] at hQ
      unfold whereR at hQ
      rw [List.foldl_cons] at hQ
      exact ⟨⟨h0, hi⟩, ⟨hj, hs.1, by omega⟩, ⟨⟨rfl, by omega, by omega, h2, hj, h3⟩, by show ((l.length : Int) - (i + 1)).toNat < ((l.length : Int) - i).toNat; omega⟩, hQ⟩
    · simp only [decide_eq_false_iff_not] at hi
      rw [drop_end hi] at hQ
      exact hQ

def whereS (p : Pth) (l : List Src) (j : Int) : (V × V) × Int :=
  if csS p l ≠ 0 then (((0, 0, 0), (0, 0, 0)), csS p l) else if ¬ (0 ≤ j ∧ j ≤ p.2.length) then (((0, 0, 0), (0, 0, 0)), 7)
  else ((vsub ((jointsS p).getD j.toNat (0, 0, 0)) (whereR l j (0, 0, 0)), vadd ((jointsS p).getD j.toNat (0, 0, 0)) (whereR l j (0, 0, 0))), 0)
def svB (b : V × V) : SV := .agg [.int .i64 b.1.1, .int .i64 b.1.2.1, .int .i64 b.1.2.2, .int .i64 b.2.1, .int .i64 b.2.2.1, .int .i64 b.2.2.2]

theorem T_Where (x y z : Int) (q : List V) (l : List Src) (j : Int) : fnTree (P := P) [c_CheckSources.gc, c_joined.gc, c_Joints.gc, c_minus.gc, c_plus.gc] (lpOf [(0, R_Where)]) Try.f54 (encL 0 [.agg tPath, .val tSrcs, .val tI] (((x, y, z), q), l, j, ())) =
  Tree.cond (csS ((x, y, z), q) l != (0 : Int)) (Tree.leaf (SV.tup [SV.agg [SV.int IntKind.i64 (0 : Int), SV.int IntKind.i64 (0 : Int), SV.int IntKind.i64 (0 : Int), SV.int IntKind.i64 (0 : Int), SV.int IntKind.i64 (0 : Int), SV.int IntKind.i64 (0 : Int)], SV.int IntKind.i64 (csS ((x, y, z), q) l)])) (Tree.cond (!decide ((0 : Int) ≤ j ∧ j ≤ (↑(List.length q) : Int))) (Tree.leaf (SV.tup [SV.agg [SV.int IntKind.i64 (0 : Int), SV.int IntKind.i64 (0 : Int), SV.int IntKind.i64 (0 : Int), SV.int IntKind.i64 (0 : Int), SV.int IntKind.i64 (0 : Int), SV.int IntKind.i64 (0 : Int)], SV.int IntKind.i64 (7 : Int)])) (Tree.need ((0 : Int) ≤ j ∧ j < (↑(List.length (jointsS ((x, y, z), q))) : Int)) (Tree.need (inv_Where (j, (), (0 : Int), (), (), l, (↑(List.length l) : Int), (0 : Int), (), (), (), (), (), (), (List.getD (jointsS ((x, y, z), q)) (Int.toNat j) ((0 : Int), (0 : Int), (0 : Int))).fst, (List.getD (jointsS ((x, y, z), q)) (Int.toNat j) ((0 : Int), (0 : Int), (0 : Int))).snd.fst, (List.getD (jointsS ((x, y, z), q)) (Int.toNat j) ((0 : Int), (0 : Int), (0 : Int))).snd.snd, (0 : Int), (0 : Int), (0 : Int), ())) (Tree.leaf (SV.tup [SV.agg [SV.int IntKind.i64 (vsub (List.getD (jointsS ((x, y, z), q)) (Int.toNat j) ((0 : Int), (0 : Int), (0 : Int))) (whereR (List.drop (Int.toNat (0 : Int)) l) j ((0 : Int), (0 : Int), (0 : Int)))).fst, SV.int IntKind.i64 (vsub (List.getD (jointsS ((x, y, z), q)) (Int.toNat j) ((0 : Int), (0 : Int), (0 : Int))) (whereR (List.drop (Int.toNat (0 : Int)) l) j ((0 : Int), (0 : Int), (0 : Int)))).snd.fst, SV.int IntKind.i64 (vsub (List.getD (jointsS ((x, y, z), q)) (Int.toNat j) ((0 : Int), (0 : Int), (0 : Int))) (whereR (List.drop (Int.toNat (0 : Int)) l) j ((0 : Int), (0 : Int), (0 : Int)))).snd.snd, SV.int IntKind.i64 (vadd (List.getD (jointsS ((x, y, z), q)) (Int.toNat j) ((0 : Int), (0 : Int), (0 : Int))) (whereR (List.drop (Int.toNat (0 : Int)) l) j ((0 : Int), (0 : Int), (0 : Int)))).fst, SV.int IntKind.i64 (vadd (List.getD (jointsS ((x, y, z), q)) (Int.toNat j) ((0 : Int), (0 : Int), (0 : Int))) (whereR (List.drop (Int.toNat (0 : Int)) l) j ((0 : Int), (0 : Int), (0 : Int)))).snd.fst, SV.int IntKind.i64 (vadd (List.getD (jointsS ((x, y, z), q)) (Int.toNat j) ((0 : Int), (0 : Int), (0 : Int))) (whereR (List.drop (Int.toNat (0 : Int)) l) j ((0 : Int), (0 : Int), (0 : Int)))).snd.snd], SV.int IntKind.i64 (0 : Int)]))))) := by kernel_rfl

def c_Where : PC P := PC.of (α := Pth × List Src × Int × Unit) 54 [.agg tPath, .val tSrcs, .val tI] (fun x => x) (fun x => x) (fun _ => rfl)
  (fun _ => none)
  (fun x => .tup [svB (whereS x.1 x.2.1 x.2.2.1).1, .int .i64 (whereS x.1 x.2.1 x.2.2.1).2]) (by kernel_rfl) (by
    rintro ⟨⟨⟨x, y, z⟩, q⟩, l, j, ⟨⟩⟩ hp
    refine fn_of hm (by kernel_rfl) (by kernel_rfl) (T_Where x y z q l j) ⟨K_Where, trivial⟩ ?_

    show Tree.holds (fun s => s = SV.tup [svB (whereS ((x, y, z), q) l j).1, .int .i64 (whereS ((x, y, z), q) l j).2]) _
    unfold whereS
    refine ⟨fun h => ?_, fun h => ⟨fun h2 => ?_, fun h2 => ?_⟩⟩
    · simp only [bne_iff_ne, ne_eq] at h
      rw [if_pos h]
      exact rfl
    · simp only [bne_eq_false_iff_eq] at h
      simp only [Bool.not_eq_true', decide_eq_false_iff_not] at h2
      rw [if_neg (by simp [h]), if_pos h2]
      exact rfl
    · simp only [bne_eq_false_iff_eq] at h
      simp only [Bool.not_eq_false', decide_eq_true_eq] at h2
      rw [if_neg (by simp [h]), if_neg (by simp [h2]), Int.toNat_zero, List.drop_zero]
      obtain ⟨hc, h4, h5⟩ := csS_zero h
      have h20 := checkS_len hc
      simp only [] at h20 h5
      refine ⟨?_, ⟨rfl, by omega, by omega, h4, h2.1, fun s hs => by have := h5 s hs; omega⟩, rfl⟩
      unfold jointsS
      rw [if_pos hc, jl_length]
      simp only []
      omega)

/-! ### Where a joint is, given what came about -/
def actR (ch : List Int) (j : Int) : Int → V → List Src → V × Bool
  | _, a, [] => (a, true)
  | i, a, s :: r => if ch.getD i.toNat 0 < -1000 ∨ ch.getD i.toNat 0 > 1000 then ((0, 0, 0), false) else actR ch j (i + 1) (vadd a (vmul (shiftS s j) (ch.getD i.toNat 0))) r
def L_Actual : Lay := { slots := [(2, .val (.sl tI)), (3, .val tI), (8, .ptr 9070 0), (12, .ptr 13070 0), (38, .val tSrcs), (39, .val tI), (40, .val tI)], boxes := [(9070, [.any, .any, .any]), (13070, [.val tI, .val tI, .val tI])] }
def L_Actual_0 : Lay := { slots := [(8, .ptr 9070 0), (12, .ptr 13070 0)], boxes := [(9070, [.any, .any, .any]), (13070, [.val tI, .val tI, .val tI])] }
def L_Actual_1 : Lay := { slots := [(8, .ptr 9070 0), (9, .val tI)], boxes := [(9070, [.val tI, .val tI, .val tI])] }
def X_Actual : Exit → Option Lay
  | .exit 0 => some L_Actual_0
  | .ret => some L_Actual_1
  | _ => none
abbrev C_Actual : Code := loopC (bodyOf Try.f55) 0
theorem B_Actual (ch : List Int) (j : Int) (l : List Src) (n i x y z : Int) : loopBodyA (P := P) [c_plus.gc, c_shift.gc, c_times.gc] (lpOf []) [] 70 noU (inner C_Actual) L_Actual X_Actual (α := List Int × Int × Unit × Unit × List Src × Int × Int × Unit × Unit × Unit × Int × Int × Int × Unit) (fun x => x) (fun x => x) (ch, j, (), (), l, n, i, (), (), (), x, y, z, ()) =
  Tree.cond (decide (i < n)) (Tree.need ((0 : Int) ≤ i ∧ i < (↑(List.length l) : Int)) (Tree.need ((0 : Int) ≤ i ∧ i < (↑(List.length ch) : Int)) (Tree.cond (decide (List.getD ch (Int.toNat i) (0 : Int) < (-1000 : Int))) (Tree.leaf (Sum.inr (Exit.ret, Lay.st L_Actual_1 noU (PUnit.unit, (2 : Int), (0 : Int), (0 : Int), (0 : Int), PUnit.unit)))) (Tree.need ((0 : Int) ≤ i ∧ i < (↑(List.length ch) : Int)) (Tree.cond (decide (List.getD ch (Int.toNat i) (0 : Int) > (1000 : Int))) (Tree.leaf (Sum.inr (Exit.ret, Lay.st L_Actual_1 noU (PUnit.unit, (2 : Int), (0 : Int), (0 : Int), (0 : Int), PUnit.unit)))) (Tree.need ((0 : Int) ≤ j ∧ j ≤ (↑(List.length (List.getD l (Int.toNat i) ((0 : Int), [])).snd) : Int) ∧ (↑(List.length (List.getD l (Int.toNat i) ((0 : Int), [])).snd) : Int) < (2 : Int) ^ (62 : Nat)) (Tree.need ((0 : Int) ≤ i ∧ i < (↑(List.length ch) : Int)) (Tree.leaf (Sum.inl (ch, j, PUnit.unit, PUnit.unit, l, n, IntKind.wrap IntKind.i64 (i + (1 : Int)), PUnit.unit, PUnit.unit, PUnit.unit, (vadd (x, y, z) (vmul (shiftS (List.getD l (Int.toNat i) ((0 : Int), [])) j) (List.getD ch (Int.toNat i) (0 : Int)))).fst, (vadd (x, y, z) (vmul (shiftS (List.getD l (Int.toNat i) ((0 : Int), [])) j) (List.getD ch (Int.toNat i) (0 : Int)))).snd.fst, (vadd (x, y, z) (vmul (shiftS (List.getD l (Int.toNat i) ((0 : Int), [])) j) (List.getD ch (Int.toNat i) (0 : Int)))).snd.snd, PUnit.unit)))))))))) (Tree.leaf (Sum.inr (Exit.exit (0 : Nat), Lay.st L_Actual_0 noU (PUnit.unit, PUnit.unit, PUnit.unit, PUnit.unit, PUnit.unit, x, y, z, PUnit.unit)))) := by kernel_rfl

def inv_Actual : List Int × Int × Unit × Unit × List Src × Int × Int × Unit × Unit × Unit × Int × Int × Int × Unit → Prop := fun (ch, j, _, _, l, n, i, _) => n = l.length ∧ 0 ≤ i ∧ i ≤ n ∧ l.length ≤ 4 ∧ l.length ≤ ch.length ∧ 0 ≤ j ∧ ∀ s ∈ l, j ≤ s.2.length ∧ s.2.length ≤ 20
def O_Actual : List Int × Int × Unit × Unit × List Src × Int × Int × Unit × Unit × Unit × Int × Int × Int × Unit → Tree (Exit × St) := fun (ch, j, _, _, l, n, i, _, _, _, x, y, z, _) => .cond (actR ch j i (x, y, z) (l.drop i.toNat)).2 (.leaf (.exit 0, L_Actual_0.st noU ((), (), (), (), (), (actR ch j i (x, y, z) (l.drop i.toNat)).1.1, (actR ch j i (x, y, z) (l.drop i.toNat)).1.2.1, (actR ch j i (x, y, z) (l.drop i.toNat)).1.2.2, ()))) (.leaf (.ret, L_Actual_1.st noU ((), ((2 : Int)), ((0 : Int)), ((0 : Int)), ((0 : Int)), ())))
def R_Actual : LRun := runOf 70 L_Actual (fun x => x) (inv_Actual) (O_Actual)
theorem K_Actual : LoopOk P [] 70 none noU C_Actual (R_Actual) := by
  refine loop_of hm (cx := [c_plus.gc, c_shift.gc, c_times.gc]) [] (xl := X_Actual) (α := List Int × Int × Unit × Unit × List Src × Int × Int × Unit × Unit × Unit × Int × Int × Int × Unit) (fun x => x) (fun (_, _, _, _, l, n, i, _) => (n - i).toNat) (fun _ => rfl) (by kernel_rfl) (by kernel_rfl) ?_ (by kernel_rfl) trivial ?_
  · intro e L' h
    unfold X_Actual at h
    split at h <;> cases h <;> kernel_rfl
  · rintro ⟨ch, j, ⟨⟩, ⟨⟩, l, n, i, ⟨⟩, ⟨⟩, ⟨⟩, x, y, z, ⟨⟩⟩ hinv Q hQ
    refine hold_of_eq (B_Actual ch j l n i x y z) ?_

    obtain ⟨rfl, h0, h1, h2, h3, hj, h4⟩ := hinv
    rw [W_id (n := i + 1) (by omega) (by omega)]
    unfold O_Actual at hQ
    dsimp only at hQ
    refine ⟨fun hi => ?_, fun hi => ?_⟩
    · simp only [decide_eq_true_eq] at hi
      have hs := h4 _ (getD_mem (d := ((0 : Int), [])) (show i.toNat < l.length by omega))
      have hm : ((l.length : Int) - (i + 1)).toNat < ((l.length : Int) - i).toNat := by omega
      rw [drop_step ((0 : Int), []) h0 hi, actR] at hQ
      refine ⟨⟨h0, hi⟩, ⟨h0, by omega⟩, fun ha => ?_, fun ha => ⟨⟨h0, by omega⟩, fun hb => ?_, fun hb => ?_⟩⟩
      · simp only [decide_eq_true_eq] at ha
        rw [if_pos (Or.inl ha)] at hQ
        exact hQ.2 rfl
      · simp only [decide_eq_true_eq] at hb
        rw [if_pos (Or.inr hb)] at hQ
        exact hQ.2 rfl
      · simp only [decide_eq_false_iff_not] at ha hb
        rw [if_neg (by omega)] at hQ
        exact ⟨⟨hj, hs.1, by omega⟩, ⟨h0, by omega⟩, ⟨⟨rfl, by omega, by omega, h2, h3, hj, h4⟩, hm⟩, hQ⟩
    · simp only [decide_eq_false_iff_not] at hi
      rw [drop_end hi] at hQ
      exact hQ.1 rfl

theorem whereS_zero {p : Pth} {l : List Src} {j : Int} (h : (whereS p l j).2 = 0) : csS p l = 0 ∧ 0 ≤ j ∧ j ≤ p.2.length := by
  unfold whereS at h
  by_cases h1 : csS p l = 0
  · rw [if_neg (by simp [h1])] at h
    by_cases h2 : 0 ≤ j ∧ j ≤ (p.2.length : Int)
    · exact ⟨h1, h2⟩
    · rw [if_pos h2] at h
      cases h
  · rw [if_pos h1] at h
    exact absurd h h1
theorem joint_lt {p : Pth} {j : Int} (hc : checkS p = 0) (h : 0 ≤ j ∧ j ≤ (p.2.length : Int)) : 0 ≤ j ∧ j < ((jointsS p).length : Int) := by
  unfold jointsS
  rw [if_pos hc, jl_length]
  omega
def actualS (p : Pth) (l : List Src) (ch : List Int) (j : Int) : V × Int :=
  if (whereS p l j).2 ≠ 0 then ((0, 0, 0), (whereS p l j).2) else if ch.length < l.length then ((0, 0, 0), 6)
  else if (actR ch j 0 (vmul ((jointsS p).getD j.toNat (0, 0, 0)) 1000) l).2 = true then ((actR ch j 0 (vmul ((jointsS p).getD j.toNat (0, 0, 0)) 1000) l).1, 0) else ((0, 0, 0), 2)
theorem T_Actual (x y z : Int) (q : List V) (l : List Src) (ch : List Int) (j : Int) : fnTree (P := P) [c_Where.gc, c_Joints.gc, c_times.gc] (lpOf [(0, R_Actual)]) Try.f55 (encL 0 [.agg tPath, .val tSrcs, .val (.sl tI), .val tI] (((x, y, z), q), l, ch, j, ())) =
  Tree.cond ((whereS ((x, y, z), q) l j).snd != (0 : Int)) (Tree.leaf (SV.tup [SV.agg [SV.int IntKind.i64 (0 : Int), SV.int IntKind.i64 (0 : Int), SV.int IntKind.i64 (0 : Int)], SV.int IntKind.i64 (whereS ((x, y, z), q) l j).snd])) (Tree.cond (decide ((↑(List.length ch) : Int) < (↑(List.length l) : Int))) (Tree.leaf (SV.tup [SV.agg [SV.int IntKind.i64 (0 : Int), SV.int IntKind.i64 (0 : Int), SV.int IntKind.i64 (0 : Int)], SV.int IntKind.i64 (6 : Int)])) (Tree.need ((0 : Int) ≤ j ∧ j < (↑(List.length (jointsS ((x, y, z), q))) : Int)) (Tree.need (inv_Actual (ch, j, (), (), l, (↑(List.length l) : Int), (0 : Int), (), (), (), (vmul (List.getD (jointsS ((x, y, z), q)) (Int.toNat j) ((0 : Int), (0 : Int), (0 : Int))) (1000 : Int)).fst, (vmul (List.getD (jointsS ((x, y, z), q)) (Int.toNat j) ((0 : Int), (0 : Int), (0 : Int))) (1000 : Int)).snd.fst, (vmul (List.getD (jointsS ((x, y, z), q)) (Int.toNat j) ((0 : Int), (0 : Int), (0 : Int))) (1000 : Int)).snd.snd, ())) (Tree.cond (actR ch j (0 : Int) (vmul (List.getD (jointsS ((x, y, z), q)) (Int.toNat j) ((0 : Int), (0 : Int), (0 : Int))) (1000 : Int)) (List.drop (Int.toNat (0 : Int)) l)).snd (Tree.leaf (SV.tup [SV.agg [SV.int IntKind.i64 (actR ch j (0 : Int) (vmul (List.getD (jointsS ((x, y, z), q)) (Int.toNat j) ((0 : Int), (0 : Int), (0 : Int))) (1000 : Int)) (List.drop (Int.toNat (0 : Int)) l)).fst.fst, SV.int IntKind.i64 (actR ch j (0 : Int) (vmul (List.getD (jointsS ((x, y, z), q)) (Int.toNat j) ((0 : Int), (0 : Int), (0 : Int))) (1000 : Int)) (List.drop (Int.toNat (0 : Int)) l)).fst.snd.fst, SV.int IntKind.i64 (actR ch j (0 : Int) (vmul (List.getD (jointsS ((x, y, z), q)) (Int.toNat j) ((0 : Int), (0 : Int), (0 : Int))) (1000 : Int)) (List.drop (Int.toNat (0 : Int)) l)).fst.snd.snd], SV.int IntKind.i64 (0 : Int)])) (Tree.leaf (SV.tup [SV.agg [SV.int IntKind.i64 (0 : Int), SV.int IntKind.i64 (0 : Int), SV.int IntKind.i64 (0 : Int)], SV.int IntKind.i64 (2 : Int)])))))) := by kernel_rfl

def c_Actual : PC P := PC.of (α := Pth × List Src × List Int × Int × Unit) 55 [.agg tPath, .val tSrcs, .val (.sl tI), .val tI] (fun x => x) (fun x => x) (fun _ => rfl)
  (fun _ => none)
  (fun x => .tup [svV (actualS x.1 x.2.1 x.2.2.1 x.2.2.2.1).1, .int .i64 (actualS x.1 x.2.1 x.2.2.1 x.2.2.2.1).2]) (by kernel_rfl) (by
    rintro ⟨⟨⟨x, y, z⟩, q⟩, l, ch, j, ⟨⟩⟩ hp
    refine fn_of hm (by kernel_rfl) (by kernel_rfl) (T_Actual x y z q l ch j) ⟨K_Actual, trivial⟩ ?_

    show Tree.holds (fun s => s = SV.tup [svV (actualS ((x, y, z), q) l ch j).1, .int .i64 (actualS ((x, y, z), q) l ch j).2]) _
    unfold actualS
    refine ⟨fun h => ?_, fun h => ⟨fun h2 => ?_, fun h2 => ?_⟩⟩
    · simp only [bne_iff_ne, ne_eq] at h
      rw [if_pos h]
      exact rfl
    · simp only [bne_eq_false_iff_eq] at h
      simp only [decide_eq_true_eq] at h2
      rw [if_neg (by simp [h]), if_pos (by omega)]
      exact rfl
    · simp only [bne_eq_false_iff_eq] at h
      simp only [decide_eq_false_iff_not] at h2
      rw [if_neg (by simp [h]), if_neg (by omega), Int.toNat_zero, List.drop_zero]
      obtain ⟨hz, hj⟩ := whereS_zero h
      obtain ⟨hc, h4, h5⟩ := csS_zero hz
      have h20 := checkS_len hc
      simp only [] at h20 h5 hj
      refine ⟨joint_lt hc hj, ⟨rfl, by omega, by omega, h4, by omega, hj.1, fun s hs => by have := h5 s hs; omega⟩, fun h6 => ?_, fun h6 => ?_⟩
      · rw [if_pos h6]
        exact rfl
      · rw [if_neg (by rw [h6]; decide)]
        exact rfl)

/-! ### The shifts of a joint -/
def L_Shifts : Lay := { slots := [(2, .val tI), (7, .row 23 tV), (20, .val tSrcs), (21, .val tI), (22, .val tI)] }
def L_Shifts_0 : Lay := { slots := [(7, .row 23 tV)] }
def X_Shifts : Exit → Option Lay
  | .exit 0 => some L_Shifts_0
  | _ => none
abbrev C_Shifts : Code := loopC (bodyOf Try.f56) 0
theorem B_Shifts (j : Int) (o : List V) (l : List Src) (n i : Int) : loopBodyA (P := P) [c_shift.gc] (lpOf []) [] 34 noU (inner C_Shifts) L_Shifts X_Shifts (α := Int × List V × List Src × Int × Int × Unit) (fun x => x) (fun x => x) (j, o, l, n, i, ()) =
  Tree.cond (decide (i < n)) (Tree.need ((0 : Int) ≤ i ∧ i < (↑(List.length l) : Int)) (Tree.need ((0 : Int) ≤ j ∧ j ≤ (↑(List.length (List.getD l (Int.toNat i) ((0 : Int), [])).snd) : Int) ∧ (↑(List.length (List.getD l (Int.toNat i) ((0 : Int), [])).snd) : Int) < (2 : Int) ^ (62 : Nat)) (Tree.need ((List.length o + List.length [shiftS (List.getD l (Int.toNat i) ((0 : Int), [])) j]) * (24 : Nat) ≤ (140737488355328 : Nat)) (Tree.leaf (Sum.inl (j, o ++ [shiftS (List.getD l (Int.toNat i) ((0 : Int), [])) j], l, n, IntKind.wrap IntKind.i64 (i + (1 : Int)), PUnit.unit)))))) (Tree.leaf (Sum.inr (Exit.exit (0 : Nat), Lay.st L_Shifts_0 noU (o, PUnit.unit)))) := by kernel_rfl

def inv_Shifts : Int × List V × List Src × Int × Int × Unit → Prop := fun (j, o, l, n, i, _) => n = l.length ∧ 0 ≤ i ∧ i ≤ n ∧ l.length ≤ 4 ∧ 0 ≤ j ∧ o.length ≤ 4 ∧ (∀ s ∈ l, j ≤ s.2.length ∧ s.2.length ≤ 20) ∧ o.length = i.toNat
def O_Shifts : Int × List V × List Src × Int × Int × Unit → Tree (Exit × St) := fun (j, o, l, n, i, _) => .leaf (.exit 0, L_Shifts_0.st noU (o ++ (l.drop i.toNat).map (shiftS · j), ()))
def R_Shifts : LRun := runOf 34 L_Shifts (fun x => x) (inv_Shifts) (O_Shifts)
theorem K_Shifts : LoopOk P [] 34 none noU C_Shifts (R_Shifts) := by
  refine loop_of hm (cx := [c_shift.gc]) [] (xl := X_Shifts) (α := Int × List V × List Src × Int × Int × Unit) (fun x => x) (fun (j, o, l, n, i, _) => (n - i).toNat) (fun _ => rfl) (by kernel_rfl) (by kernel_rfl) ?_ (by kernel_rfl) trivial ?_
  · intro e L' h
    unfold X_Shifts at h
    split at h <;> cases h <;> kernel_rfl
  · rintro ⟨j, o, l, n, i, ⟨⟩⟩ hinv Q hQ
    refine hold_of_eq (B_Shifts j o l n i) ?_

    obtain ⟨rfl, h0, h1, h2, hj, h3, h4, h5⟩ := hinv
    rw [W_id (n := i + 1) (by omega) (by omega)]
    unfold O_Shifts at hQ
    dsimp only at hQ
    refine ⟨fun hi => ?_, fun hi => ?_⟩
    · simp only [decide_eq_true_eq] at hi
      have hs := h4 _ (getD_mem (d := ((0 : Int), [])) (show i.toNat < l.length by omega))
      have e : o ++ (l.drop i.toNat).map (shiftS · j) = (o ++ [shiftS (l.getD i.toNat ((0 : Int), [])) j]) ++ (l.drop (i + 1).toNat).map (shiftS · j) := by
        rw [drop_step ((0 : Int), []) h0 hi, List.map_cons, List.append_assoc, List.singleton_append]
      have hQ := Eq.mp (congrArg (fun (k : List V) => Tree.holds Q (Tree.leaf (Exit.exit 0, L_Shifts_0.st noU (k, ())))) e) hQ
      refine ⟨⟨h0, hi⟩, ⟨hj, hs.1, by omega⟩, by simp only [List.length_cons, List.length_nil]; omega, ⟨⟨rfl, by omega, by omega, h2, hj, ?_, h4, ?_⟩, by show ((l.length : Int) - (i + 1)).toNat < ((l.length : Int) - i).toNat; omega⟩, hQ⟩
      · rw [List.length_append, List.length_singleton]; omega
      · rw [List.length_append, List.length_singleton]; omega
    · simp only [decide_eq_false_iff_not] at hi
      have e : o ++ (l.drop i.toNat).map (shiftS · j) = o := by rw [drop_end hi, List.map_nil, List.append_nil]
      exact Eq.mp (congrArg (fun (k : List V) => Tree.holds Q (Tree.leaf (Exit.exit 0, L_Shifts_0.st noU (k, ())))) e) hQ

def shiftsS (p : Pth) (l : List Src) (j : Int) : List V := if csS p l ≠ 0 ∨ ¬ (0 ≤ j ∧ j ≤ p.2.length) then [] else l.map (shiftS · j)
theorem T_Shifts (x y z : Int) (q : List V) (l : List Src) (j : Int) : fnTree (P := P) [c_CheckSources.gc, c_joined.gc] (lpOf [(0, R_Shifts)]) Try.f56 (encL 0 [.agg tPath, .val tSrcs, .val tI] (((x, y, z), q), l, j, ())) =
  Tree.cond (csS ((x, y, z), q) l != (0 : Int)) (Tree.leaf SV.nils) (Tree.cond (!decide ((0 : Int) ≤ j ∧ j ≤ (↑(List.length q) : Int))) (Tree.leaf SV.nils) (Tree.need (inv_Shifts (j, [], l, (↑(List.length l) : Int), (0 : Int), ())) (Tree.leaf (SV.sl (Ty.pair tI (Ty.pair tI tI)) (List.map (fun x => shiftS x j) (List.drop (Int.toNat (0 : Int)) l)))))) := by kernel_rfl

def c_Shifts : PC P := PC.of (α := Pth × List Src × Int × Unit) 56 [.agg tPath, .val tSrcs, .val tI] (fun x => x) (fun x => x) (fun _ => rfl)
  (fun _ => none)
  (fun x => .sl tV (shiftsS x.1 x.2.1 x.2.2.1)) (by kernel_rfl) (by
    rintro ⟨⟨⟨x, y, z⟩, q⟩, l, j, ⟨⟩⟩ hp
    refine fn_le hm (by kernel_rfl) (by kernel_rfl) (T_Shifts x y z q l j) ⟨K_Shifts, trivial⟩ (by kernel_rfl) ?_

    show Tree.holds (fun s => LeS s (SV.sl tV (shiftsS ((x, y, z), q) l j))) _
    unfold shiftsS
    refine ⟨fun h => ?_, fun h => ⟨fun h2 => ?_, fun h2 => ?_⟩⟩
    · simp only [bne_iff_ne, ne_eq] at h
      rw [if_pos (Or.inl h)]
      exact rfl
    · simp only [Bool.not_eq_true', decide_eq_false_iff_not] at h2
      rw [if_pos (Or.inr h2)]
      exact rfl
    · simp only [bne_eq_false_iff_eq] at h
      simp only [Bool.not_eq_false', decide_eq_true_eq] at h2
      rw [if_neg (by simp [h, h2]), Int.toNat_zero, List.drop_zero]
      obtain ⟨hc, h4, h5⟩ := csS_zero h
      have h20 := checkS_len hc
      simp only [] at h20 h5
      exact ⟨⟨rfl, by omega, by omega, h4, h2.1, by simp, fun s hs => by have := h5 s hs; omega, rfl⟩, rfl⟩)

end
end Go.MP
