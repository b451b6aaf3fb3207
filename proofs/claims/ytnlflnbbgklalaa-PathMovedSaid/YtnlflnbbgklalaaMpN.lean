/- Sources of errors: which are valid. -/
import Derived.Test.YtnlflnbbgklalaaMpI
namespace Go.MP
open Go Go.Sx Go.Proofs
set_option linter.unusedVariables false
set_option linter.unusedSimpArgs false
noncomputable section

abbrev tSrc : Ty := .pair tI tVs
abbrev tSrcs : Ty := .sl tSrc
abbrev Src := Int × List V

/-- The place of the first element of a kind, or -1. -/
def ixS {α : Type} (p : α → Bool) (l : List α) : Int := if l.any p = true then (l.findIdx p : Int) else -1
theorem ixS_ge {α : Type} (p : α → Bool) (l : List α) : decide (ixS p l ≥ 0) = l.any p := by
  unfold ixS
  cases h : l.any p with
  | true => simp
  | false => simp
def ixR {α : Type} (p : α → Bool) (l : List α) (i : Int) : Int := i + ((l.drop i.toNat).findIdx p : Int)
theorem ix_step {α : Type} {p : α → Bool} {l : List α} {i : Int} (d : α) (h0 : 0 ≤ i) (h : i < l.length) :
    (l.drop i.toNat).any p = (p (l.getD i.toNat d) || (l.drop (i + 1).toNat).any p) ∧ (p (l.getD i.toNat d) = true → ixR p l i = i) ∧ (p (l.getD i.toNat d) = false → ixR p l i = ixR p l (i + 1)) := by
  have e := drop_step d h0 h
  unfold ixR
  rw [e]
  refine ⟨rfl, fun hp => ?_, fun hp => ?_⟩
  · rw [List.findIdx_cons, hp]; simp
  · rw [List.findIdx_cons, hp]; simp only [cond_false]; omega

def far200 (v : V) : Bool := !inB v 200
def pA (q : List V) (s : Src) : Bool := (s.2.length : Int) != (q.length : Int)
def pB (s : Src) : Bool := s.2.any far200

theorem T_errors2 (x y z : Int) : fnTree (P := P) [c_inside.gc] (lpOf []) Try.f153 (encL 0 [.agg tV] ((x, y, z), ())) =
  Tree.need ((0 : Int) ≤ (200 : Int) ∧ (200 : Int) < (2 : Int) ^ (62 : Nat)) (Tree.leaf (SV.bool !inB (x, y, z) (200 : Int))) := by kernel_rfl

def c_errors2 : PC P := PC.of (α := V × Unit) 153 [.agg tV] (fun x => x) (fun x => x) (fun _ => rfl)
  (fun _ => none)
  (fun x => .bool (far200 x.1)) (by kernel_rfl) (by
    rintro ⟨⟨x, y, z⟩, ⟨⟩⟩ hp
    refine fn_of hm (by kernel_rfl) (by kernel_rfl) (T_errors2 x y z) trivial ?_

    exact ⟨by decide, rfl⟩)

def L_errors1 : Lay := { slots := [(0, .agg tSrc), (1, .ptr 1 0)], boxes := [(1, [.val tI, .val tI, .val tI, .val tVs])] }
theorem T_errors1 (d : Int) (s : List V) (x y z : Int) (q : List V) : mTree (P := P) [] (lpOf []) Try.f152 L_errors1 true ((d, s), (), x, y, z, q, ()) =
  Tree.leaf { res := SV.bool ((↑(List.length s) : Int) != (↑(List.length q) : Int)), boxes := [[SV.int IntKind.i64 x, SV.int IntKind.i64 y, SV.int IntKind.i64 z, SV.sl tV q]] } := by kernel_rfl

def c_errors1 : MC P := MC.of (α := Src × Unit × Int × Int × Int × List V × Unit) 152 L_errors1 (fun x => x) (fun x => x) (fun _ => rfl)
  (fun _ => none)
  (fun (s, _, x, y, z, q, _) => ⟨.bool ((s.2.length : Int) != (q.length : Int)), [[.int .i64 x, .int .i64 y, .int .i64 z, .sl tV q]], []⟩) (by kernel_rfl) (by kernel_rfl) (by kernel_rfl) (by
    rintro ⟨⟨d, s⟩, ⟨⟩, x, y, z, q, ⟨⟩⟩ hp
    refine m_of hm (own := true) (by kernel_rfl) (by kernel_rfl) (by kernel_rfl) (T_errors1 d s x y z q) trivial ?_
    exact rfl)

def L_ixA0 : Lay := { slots := [(0, .val (.sl tSrc)), (1, .clo 152 [(1, 0)])], boxes := [(1, [.val tI, .val tI, .val tI, .val tVs])] }
def L_ixAL : Lay := { slots := [(0, .val (.sl tSrc)), (1, .clo 152 [(1, 0)]), (7, .val tI), (8, .val tI)], boxes := [(1, [.val tI, .val tI, .val tI, .val tVs])] }
def L_ixAL_0 : Lay := { slots := [], boxes := [(1, [.val tI, .val tI, .val tI, .val tVs])] }
def L_ixAL_1 : Lay := { slots := [(4, .val tI)], boxes := [(1, [.val tI, .val tI, .val tI, .val tVs])] }
def X_ixAL : Exit → Option Lay
  | .exit 0 => some L_ixAL_0
  | .ret => some L_ixAL_1
  | _ => none
abbrev C_ixAL : Code := loopC (bodyOf Try.f163) 0
theorem B_ixAL (l : List Src) (n i : Int) (x y z : Int) (q : List V) : loopBodyA (P := P) [c_errors1.gc] (lpOf []) [] 19 (usd noU (L_ixA0.ids ++ rowIds rowBase L_ixA0.shs)) (inner C_ixAL) L_ixAL X_ixAL (α := List Src × Unit × Int × Int × Int × Int × Int × List V × Unit) (fun x => x) (fun x => x) (l, (), n, i, x, y, z, q, ()) =
  Tree.cond (decide (i < n)) (Tree.need ((0 : Int) ≤ i ∧ i < (↑(List.length l) : Int)) (Tree.cond ((↑(List.length (List.getD l (Int.toNat i) ((0 : Int), [])).snd) : Int) != (↑(List.length q) : Int)) (Tree.leaf (Sum.inr (Exit.ret, Lay.st L_ixAL_1 (usd noU (Lay.ids L_ixA0 ++ rowIds rowBase (Lay.shs L_ixA0))) (i, x, y, z, q, PUnit.unit)))) (Tree.leaf (Sum.inl (l, PUnit.unit, n, IntKind.wrap IntKind.i64 (i + (1 : Int)), x, y, z, q, PUnit.unit))))) (Tree.leaf (Sum.inr (Exit.exit (0 : Nat), Lay.st L_ixAL_0 (usd noU (Lay.ids L_ixA0 ++ rowIds rowBase (Lay.shs L_ixA0))) (x, y, z, q, PUnit.unit)))) := by kernel_rfl

def inv_ixAL : List Src × Unit × Int × Int × Int × Int × Int × List V × Unit → Prop := fun (l, _, n, i, x, y, z, q, _) => n = l.length ∧ 0 ≤ i ∧ i ≤ n ∧ (l.length : Int) < 2 ^ 62
def O_ixAL : List Src × Unit × Int × Int × Int × Int × Int × List V × Unit → Tree (Exit × St) := fun (l, _, n, i, x, y, z, q, _) => .cond ((l.drop i.toNat).any (pA q)) (.leaf (.ret, L_ixAL_1.st (usd noU (L_ixA0.ids ++ rowIds rowBase L_ixA0.shs)) (ixR (pA q) l i, x, y, z, q, ()))) (.leaf (.exit 0, L_ixAL_0.st (usd noU (L_ixA0.ids ++ rowIds rowBase L_ixA0.shs)) (x, y, z, q, ())))
def R_ixAL : LRun := runOf 19 L_ixAL (fun x => x) (inv_ixAL) (O_ixAL)
theorem K_ixAL : LoopOk P [] 19 none (usd noU (L_ixA0.ids ++ rowIds rowBase L_ixA0.shs)) C_ixAL (R_ixAL) := by
  refine loop_of hm (cx := [c_errors1.gc]) [] (xl := X_ixAL) (α := List Src × Unit × Int × Int × Int × Int × Int × List V × Unit) (fun x => x) (fun (l, _, n, i, x, y, z, q, _) => (n - i).toNat) (fun _ => rfl) (by kernel_rfl) (by kernel_rfl) ?_ (by kernel_rfl) trivial ?_
  · intro e L' h
    unfold X_ixAL at h
    split at h <;> cases h <;> kernel_rfl
  · rintro ⟨l, ⟨⟩, n, i, x, y, z, q, ⟨⟩⟩ hinv Q hQ
    refine hold_of_eq (B_ixAL l n i x y z q) ?_

    obtain ⟨rfl, h0, h1, h2⟩ := hinv
    rw [W_id (n := i + 1) (by omega) (by omega)]
    unfold O_ixAL at hQ
    dsimp only at hQ
    refine ⟨fun hi => ?_, fun hi => ?_⟩
    · simp only [decide_eq_true_eq] at hi
      have hm : ((l.length : Int) - (i + 1)).toNat < ((l.length : Int) - i).toNat := by omega
      obtain ⟨e1, e2, e3⟩ := ix_step (p := pA q) ((0 : Int), []) h0 hi
      rw [e1] at hQ
      refine ⟨⟨h0, hi⟩, fun hp => ?_, fun hp => ?_⟩
      · replace hp : (pA q) (l.getD i.toNat ((0 : Int), [])) = true := hp
        rw [hp, Bool.true_or, e2 hp] at hQ
        exact hQ.1 rfl
      · replace hp : (pA q) (l.getD i.toNat ((0 : Int), [])) = false := hp
        rw [hp, Bool.false_or, e3 hp] at hQ
        exact ⟨⟨⟨rfl, by omega, by omega, h2⟩, hm⟩, hQ⟩
    · simp only [decide_eq_false_iff_not] at hi
      rw [drop_end hi] at hQ
      exact hQ.2 rfl

def L_ixA : Lay := { slots := [(0, .val (.sl tSrc)), (1, .clo 152 [(1, 0)])], boxes := [(1, [.val tI, .val tI, .val tI, .val tVs])] }
theorem T_ixA (l : List Src) (x y z : Int) (q : List V) : mTree (P := P) [] (lpOf [(0, R_ixAL)]) Try.f163 L_ixA true (l, (), x, y, z, q, ()) =
  Tree.need (inv_ixAL (l, (), (↑(List.length l) : Int), (0 : Int), x, y, z, q, ())) (Tree.cond (List.any (List.drop (Int.toNat (0 : Int)) l) (pA q)) (Tree.leaf { res := SV.int IntKind.i64 (ixR (pA q) l (0 : Int)), boxes := [[SV.int IntKind.i64 x, SV.int IntKind.i64 y, SV.int IntKind.i64 z, SV.sl tV q]] }) (Tree.leaf { res := SV.int IntKind.i64 (-1 : Int), boxes := [[SV.int IntKind.i64 x, SV.int IntKind.i64 y, SV.int IntKind.i64 z, SV.sl tV q]] })) := by kernel_rfl

def c_ixA : MC P := MC.of (α := List Src × Unit × Int × Int × Int × List V × Unit) 163 L_ixA (fun x => x) (fun x => x) (fun _ => rfl)
  (fun (l, _, x, y, z, q, _) => some ((l.length : Int) < 2 ^ 62))
  (fun (l, _, x, y, z, q, _) => ⟨.int .i64 (ixS (pA q) l), [[.int .i64 x, .int .i64 y, .int .i64 z, .sl tV q]], []⟩) (by kernel_rfl) (by kernel_rfl) (by kernel_rfl) (by
    rintro ⟨l, ⟨⟩, x, y, z, q, ⟨⟩⟩ hp
    refine m_of hm (own := true) (by kernel_rfl) (by kernel_rfl) (by kernel_rfl) (T_ixA l x y z q) ⟨K_ixAL, trivial⟩ ?_

    refine ⟨⟨rfl, by omega, by omega, hp⟩, fun h => ?_, fun h => ?_⟩
    · simp only [Int.toNat_zero, List.drop_zero] at h
      have e : ixR (pA q) l 0 = ixS (pA q) l := by
        unfold ixS ixR
        rw [if_pos h]
        simp only [Int.toNat_zero, List.drop_zero, Int.zero_add]
      exact congrArg (fun k : Int => (⟨.int .i64 k, [[.int .i64 x, .int .i64 y, .int .i64 z, .sl tV q]], []⟩ : MOut)) e
    · simp only [Int.toNat_zero, List.drop_zero] at h
      have e : -1 = ixS (pA q) l := by
        unfold ixS
        rw [if_neg (by simp only [h]; decide)]
      exact congrArg (fun k : Int => (⟨.int .i64 k, [[.int .i64 x, .int .i64 y, .int .i64 z, .sl tV q]], []⟩ : MOut)) e)

def L_ixAC : Lay := { slots := [(0, .val (.sl tSrc)), (1, .clo 152 [(1, 0)])], boxes := [(1, [.val tI, .val tI, .val tI, .val tVs])] }
theorem T_ixAC (l : List Src) (x y z : Int) (q : List V) : mTree (P := P) [c_ixA.gc] (lpOf []) Try.f151 L_ixAC true (l, (), x, y, z, q, ()) =
  Tree.need ((↑(List.length l) : Int) < (2 : Int) ^ (62 : Nat)) (Tree.leaf { res := SV.bool (decide (ixS (pA q) l ≥ (0 : Int))), boxes := [[SV.int IntKind.i64 x, SV.int IntKind.i64 y, SV.int IntKind.i64 z, SV.sl tV q]] }) := by kernel_rfl

def c_ixAC : MC P := MC.of (α := List Src × Unit × Int × Int × Int × List V × Unit) 151 L_ixAC (fun x => x) (fun x => x) (fun _ => rfl)
  (fun (l, _, x, y, z, q, _) => some ((l.length : Int) < 2 ^ 62))
  (fun (l, _, x, y, z, q, _) => ⟨.bool (l.any (pA q)), [[.int .i64 x, .int .i64 y, .int .i64 z, .sl tV q]], []⟩) (by kernel_rfl) (by kernel_rfl) (by kernel_rfl) (by
    rintro ⟨l, ⟨⟩, x, y, z, q, ⟨⟩⟩ hp
    refine m_of hm (own := true) (by kernel_rfl) (by kernel_rfl) (by kernel_rfl) (T_ixAC l x y z q) trivial ?_

    exact ⟨hp, congrArg (fun k : Bool => (⟨.bool k, [[.int .i64 x, .int .i64 y, .int .i64 z, .sl tV q]], []⟩ : MOut)) (ixS_ge (pA q) l)⟩)

def L_ixC0 : Lay := { slots := [(0, .val (.sl tV)), (1, .fn 153)] }
def L_ixCL : Lay := { slots := [(0, .val (.sl tV)), (1, .fn 153), (7, .val tI), (8, .val tI)] }
def L_ixCL_0 : Lay := { slots := [] }
def L_ixCL_1 : Lay := { slots := [(4, .val tI)] }
def X_ixCL : Exit → Option Lay
  | .exit 0 => some L_ixCL_0
  | .ret => some L_ixCL_1
  | _ => none
abbrev C_ixCL : Code := loopC (bodyOf Try.f164) 0
theorem B_ixCL (l : List V) (n i : Int) : loopBodyA (P := P) [c_errors2.gc] (lpOf []) [] 19 (usd noU (L_ixC0.ids ++ rowIds rowBase L_ixC0.shs)) (inner C_ixCL) L_ixCL X_ixCL (α := List V × Unit × Int × Int × Unit) (fun x => x) (fun x => x) (l, (), n, i, ()) =
  Tree.cond (decide (i < n)) (Tree.need ((0 : Int) ≤ i ∧ i < (↑(List.length l) : Int)) (Tree.cond (far200 (List.getD l (Int.toNat i) ((0 : Int), (0 : Int), (0 : Int)))) (Tree.leaf (Sum.inr (Exit.ret, Lay.st L_ixCL_1 (usd noU (Lay.ids L_ixC0 ++ rowIds rowBase (Lay.shs L_ixC0))) (i, PUnit.unit)))) (Tree.leaf (Sum.inl (l, PUnit.unit, n, IntKind.wrap IntKind.i64 (i + (1 : Int)), PUnit.unit))))) (Tree.leaf (Sum.inr (Exit.exit (0 : Nat), Lay.st L_ixCL_0 (usd noU (Lay.ids L_ixC0 ++ rowIds rowBase (Lay.shs L_ixC0))) PUnit.unit))) := by kernel_rfl

def inv_ixCL : List V × Unit × Int × Int × Unit → Prop := fun (l, _, n, i, _) => n = l.length ∧ 0 ≤ i ∧ i ≤ n ∧ (l.length : Int) < 2 ^ 62
def O_ixCL : List V × Unit × Int × Int × Unit → Tree (Exit × St) := fun (l, _, n, i, _) => .cond ((l.drop i.toNat).any (far200)) (.leaf (.ret, L_ixCL_1.st (usd noU (L_ixC0.ids ++ rowIds rowBase L_ixC0.shs)) (ixR (far200) l i, ()))) (.leaf (.exit 0, L_ixCL_0.st (usd noU (L_ixC0.ids ++ rowIds rowBase L_ixC0.shs)) ()))
def R_ixCL : LRun := runOf 19 L_ixCL (fun x => x) (inv_ixCL) (O_ixCL)
theorem K_ixCL : LoopOk P [] 19 none (usd noU (L_ixC0.ids ++ rowIds rowBase L_ixC0.shs)) C_ixCL (R_ixCL) := by
  refine loop_of hm (cx := [c_errors2.gc]) [] (xl := X_ixCL) (α := List V × Unit × Int × Int × Unit) (fun x => x) (fun (l, _, n, i, _) => (n - i).toNat) (fun _ => rfl) (by kernel_rfl) (by kernel_rfl) ?_ (by kernel_rfl) trivial ?_
  · intro e L' h
    unfold X_ixCL at h
    split at h <;> cases h <;> kernel_rfl
  · rintro ⟨l, ⟨⟩, n, i, ⟨⟩⟩ hinv Q hQ
    refine hold_of_eq (B_ixCL l n i) ?_

    obtain ⟨rfl, h0, h1, h2⟩ := hinv
    rw [W_id (n := i + 1) (by omega) (by omega)]
    unfold O_ixCL at hQ
    dsimp only at hQ
    refine ⟨fun hi => ?_, fun hi => ?_⟩
    · simp only [decide_eq_true_eq] at hi
      have hm : ((l.length : Int) - (i + 1)).toNat < ((l.length : Int) - i).toNat := by omega
      obtain ⟨e1, e2, e3⟩ := ix_step (p := far200) ((0 : Int), (0 : Int), (0 : Int)) h0 hi
      rw [e1] at hQ
      refine ⟨⟨h0, hi⟩, fun hp => ?_, fun hp => ?_⟩
      · replace hp : (far200) (l.getD i.toNat ((0 : Int), (0 : Int), (0 : Int))) = true := hp
        rw [hp, Bool.true_or, e2 hp] at hQ
        exact hQ.1 rfl
      · replace hp : (far200) (l.getD i.toNat ((0 : Int), (0 : Int), (0 : Int))) = false := hp
        rw [hp, Bool.false_or, e3 hp] at hQ
        exact ⟨⟨⟨rfl, by omega, by omega, h2⟩, hm⟩, hQ⟩
    · simp only [decide_eq_false_iff_not] at hi
      rw [drop_end hi] at hQ
      exact hQ.2 rfl

def L_ixC : Lay := { slots := [(0, .val (.sl tV)), (1, .fn 153)] }
theorem T_ixC (l : List V) : mTree (P := P) [] (lpOf [(0, R_ixCL)]) Try.f164 L_ixC true (l, (), ()) =
  Tree.need (inv_ixCL (l, (), (↑(List.length l) : Int), (0 : Int), ())) (Tree.cond (List.any (List.drop (Int.toNat (0 : Int)) l) far200) (Tree.leaf { res := SV.int IntKind.i64 (ixR far200 l (0 : Int)), boxes := [] }) (Tree.leaf { res := SV.int IntKind.i64 (-1 : Int), boxes := [] })) := by kernel_rfl

def c_ixC : MC P := MC.of (α := List V × Unit × Unit) 164 L_ixC (fun x => x) (fun x => x) (fun _ => rfl)
  (fun (l, _, _) => some ((l.length : Int) < 2 ^ 62))
  (fun (l, _, _) => ⟨.int .i64 (ixS (far200) l), [], []⟩) (by kernel_rfl) (by kernel_rfl) (by kernel_rfl) (by
    rintro ⟨l, ⟨⟩, ⟨⟩⟩ hp
    refine m_of hm (own := true) (by kernel_rfl) (by kernel_rfl) (by kernel_rfl) (T_ixC l) ⟨K_ixCL, trivial⟩ ?_

    refine ⟨⟨rfl, by omega, by omega, hp⟩, fun h => ?_, fun h => ?_⟩
    · simp only [Int.toNat_zero, List.drop_zero] at h
      have e : ixR (far200) l 0 = ixS (far200) l := by
        unfold ixS ixR
        rw [if_pos h]
        simp only [Int.toNat_zero, List.drop_zero, Int.zero_add]
      exact congrArg (fun k : Int => (⟨.int .i64 k, [], []⟩ : MOut)) e
    · simp only [Int.toNat_zero, List.drop_zero] at h
      have e : -1 = ixS (far200) l := by
        unfold ixS
        rw [if_neg (by simp only [h]; decide)]
      exact congrArg (fun k : Int => (⟨.int .i64 k, [], []⟩ : MOut)) e)

def L_ixCC : Lay := { slots := [(0, .val (.sl tV)), (1, .fn 153)] }
theorem T_ixCC (l : List V) : mTree (P := P) [c_ixC.gc] (lpOf []) Try.f155 L_ixCC true (l, (), ()) =
  Tree.need ((↑(List.length l) : Int) < (2 : Int) ^ (62 : Nat)) (Tree.leaf { res := SV.bool (decide (ixS far200 l ≥ (0 : Int))), boxes := [] }) := by kernel_rfl

def c_ixCC : MC P := MC.of (α := List V × Unit × Unit) 155 L_ixCC (fun x => x) (fun x => x) (fun _ => rfl)
  (fun (l, _, _) => some ((l.length : Int) < 2 ^ 62))
  (fun (l, _, _) => ⟨.bool (l.any (far200)), [], []⟩) (by kernel_rfl) (by kernel_rfl) (by kernel_rfl) (by
    rintro ⟨l, ⟨⟩, ⟨⟩⟩ hp
    refine m_of hm (own := true) (by kernel_rfl) (by kernel_rfl) (by kernel_rfl) (T_ixCC l) trivial ?_

    exact ⟨hp, congrArg (fun k : Bool => (⟨.bool k, [], []⟩ : MOut)) (ixS_ge (far200) l)⟩)

def L_errors3 : Lay := { slots := [(0, .agg tSrc), (1, .ptr 1 0)], boxes := [(1, [.fn 153])] }
theorem T_errors3 (d : Int) (s : List V) : mTree (P := P) [c_ixCC.gc] (lpOf []) Try.f154 L_errors3 true ((d, s), (), (), ()) =
  Tree.need ((↑(List.length s) : Int) < (2 : Int) ^ (62 : Nat)) (Tree.leaf { res := SV.bool (List.any s far200), boxes := [[SV.fn (153 : FuncId) []]] }) := by kernel_rfl

def c_errors3 : MC P := MC.of (α := Src × Unit × Unit × Unit) 154 L_errors3 (fun x => x) (fun x => x) (fun _ => rfl)
  (fun (s, _, _, _) => some ((s.2.length : Int) < 2 ^ 62))
  (fun (s, _, _, _) => ⟨.bool (s.2.any far200), [[.fn 153 []]], []⟩) (by kernel_rfl) (by kernel_rfl) (by kernel_rfl) (by
    rintro ⟨⟨d, s⟩, ⟨⟩, ⟨⟩, ⟨⟩⟩ hp
    refine m_of hm (own := true) (by kernel_rfl) (by kernel_rfl) (by kernel_rfl) (T_errors3 d s) trivial ?_

    exact ⟨hp, rfl⟩)

def L_ixB0 : Lay := { slots := [(0, .val (.sl tSrc)), (1, .clo 154 [(1, 0)])], boxes := [(1, [.fn 153])] }
def L_ixBL : Lay := { slots := [(0, .val (.sl tSrc)), (1, .clo 154 [(1, 0)]), (7, .val tI), (8, .val tI)], boxes := [(1, [.fn 153])] }
def L_ixBL_0 : Lay := { slots := [], boxes := [(1, [.fn 153])] }
def L_ixBL_1 : Lay := { slots := [(4, .val tI)], boxes := [(1, [.fn 153])] }
def X_ixBL : Exit → Option Lay
  | .exit 0 => some L_ixBL_0
  | .ret => some L_ixBL_1
  | _ => none
abbrev C_ixBL : Code := loopC (bodyOf Try.f163) 0
theorem B_ixBL (l : List Src) (n i : Int) : loopBodyA (P := P) [c_errors3.gc] (lpOf []) [] 19 (usd noU (L_ixB0.ids ++ rowIds rowBase L_ixB0.shs)) (inner C_ixBL) L_ixBL X_ixBL (α := List Src × Unit × Int × Int × Unit × Unit) (fun x => x) (fun x => x) (l, (), n, i, (), ()) =
  Tree.cond (decide (i < n)) (Tree.need ((0 : Int) ≤ i ∧ i < (↑(List.length l) : Int)) (Tree.need ((↑(List.length (List.getD l (Int.toNat i) ((0 : Int), [])).snd) : Int) < (2 : Int) ^ (62 : Nat)) (Tree.cond (List.any (List.getD l (Int.toNat i) ((0 : Int), [])).snd far200) (Tree.leaf (Sum.inr (Exit.ret, Lay.st L_ixBL_1 (usd noU (Lay.ids L_ixB0 ++ rowIds rowBase (Lay.shs L_ixB0))) (i, PUnit.unit, PUnit.unit)))) (Tree.leaf (Sum.inl (l, PUnit.unit, n, IntKind.wrap IntKind.i64 (i + (1 : Int)), PUnit.unit, PUnit.unit)))))) (Tree.leaf (Sum.inr (Exit.exit (0 : Nat), Lay.st L_ixBL_0 (usd noU (Lay.ids L_ixB0 ++ rowIds rowBase (Lay.shs L_ixB0))) (PUnit.unit, PUnit.unit)))) := by kernel_rfl

def inv_ixBL : List Src × Unit × Int × Int × Unit × Unit → Prop := fun (l, _, n, i, _, _) => n = l.length ∧ 0 ≤ i ∧ i ≤ n ∧ (l.length : Int) < 2 ^ 62 ∧ ∀ s ∈ l, (s.2.length : Int) < 2 ^ 62
def O_ixBL : List Src × Unit × Int × Int × Unit × Unit → Tree (Exit × St) := fun (l, _, n, i, _, _) => .cond ((l.drop i.toNat).any (pB)) (.leaf (.ret, L_ixBL_1.st (usd noU (L_ixB0.ids ++ rowIds rowBase L_ixB0.shs)) (ixR (pB) l i, (), ()))) (.leaf (.exit 0, L_ixBL_0.st (usd noU (L_ixB0.ids ++ rowIds rowBase L_ixB0.shs)) ((), ())))
def R_ixBL : LRun := runOf 19 L_ixBL (fun x => x) (inv_ixBL) (O_ixBL)
theorem K_ixBL : LoopOk P [] 19 none (usd noU (L_ixB0.ids ++ rowIds rowBase L_ixB0.shs)) C_ixBL (R_ixBL) := by
  refine loop_of hm (cx := [c_errors3.gc]) [] (xl := X_ixBL) (α := List Src × Unit × Int × Int × Unit × Unit) (fun x => x) (fun (l, _, n, i, _, _) => (n - i).toNat) (fun _ => rfl) (by kernel_rfl) (by kernel_rfl) ?_ (by kernel_rfl) trivial ?_
  · intro e L' h
    unfold X_ixBL at h
    split at h <;> cases h <;> kernel_rfl
  · rintro ⟨l, ⟨⟩, n, i, ⟨⟩, ⟨⟩⟩ hinv Q hQ
    refine hold_of_eq (B_ixBL l n i) ?_

    obtain ⟨rfl, h0, h1, h2, h3⟩ := hinv
    rw [W_id (n := i + 1) (by omega) (by omega)]
    unfold O_ixBL at hQ
    dsimp only at hQ
    refine ⟨fun hi => ?_, fun hi => ?_⟩
    · simp only [decide_eq_true_eq] at hi
      have hm : ((l.length : Int) - (i + 1)).toNat < ((l.length : Int) - i).toNat := by omega
      obtain ⟨e1, e2, e3⟩ := ix_step (p := pB) ((0 : Int), []) h0 hi
      rw [e1] at hQ
      refine ⟨⟨h0, hi⟩, h3 _ (getD_mem (by omega)), fun hp => ?_, fun hp => ?_⟩
      · replace hp : (pB) (l.getD i.toNat ((0 : Int), [])) = true := hp
        rw [hp, Bool.true_or, e2 hp] at hQ
        exact hQ.1 rfl
      · replace hp : (pB) (l.getD i.toNat ((0 : Int), [])) = false := hp
        rw [hp, Bool.false_or, e3 hp] at hQ
        exact ⟨⟨⟨rfl, by omega, by omega, h2, h3⟩, hm⟩, hQ⟩
    · simp only [decide_eq_false_iff_not] at hi
      rw [drop_end hi] at hQ
      exact hQ.2 rfl

def L_ixB : Lay := { slots := [(0, .val (.sl tSrc)), (1, .clo 154 [(1, 0)])], boxes := [(1, [.fn 153])] }
theorem T_ixB (l : List Src) : mTree (P := P) [] (lpOf [(0, R_ixBL)]) Try.f163 L_ixB true (l, (), (), ()) =
  Tree.need (inv_ixBL (l, (), (↑(List.length l) : Int), (0 : Int), (), ())) (Tree.cond (List.any (List.drop (Int.toNat (0 : Int)) l) pB) (Tree.leaf { res := SV.int IntKind.i64 (ixR pB l (0 : Int)), boxes := [[SV.fn (153 : FuncId) []]] }) (Tree.leaf { res := SV.int IntKind.i64 (-1 : Int), boxes := [[SV.fn (153 : FuncId) []]] })) := by kernel_rfl

def c_ixB : MC P := MC.of (α := List Src × Unit × Unit × Unit) 163 L_ixB (fun x => x) (fun x => x) (fun _ => rfl)
  (fun (l, _, _, _) => some ((l.length : Int) < 2 ^ 62 ∧ ∀ s ∈ l, (s.2.length : Int) < 2 ^ 62))
  (fun (l, _, _, _) => ⟨.int .i64 (ixS (pB) l), [[.fn 153 []]], []⟩) (by kernel_rfl) (by kernel_rfl) (by kernel_rfl) (by
    rintro ⟨l, ⟨⟩, ⟨⟩, ⟨⟩⟩ hp
    refine m_of hm (own := true) (by kernel_rfl) (by kernel_rfl) (by kernel_rfl) (T_ixB l) ⟨K_ixBL, trivial⟩ ?_

    refine ⟨⟨rfl, by omega, by omega, hp⟩, fun h => ?_, fun h => ?_⟩
    · simp only [Int.toNat_zero, List.drop_zero] at h
      have e : ixR (pB) l 0 = ixS (pB) l := by
        unfold ixS ixR
        rw [if_pos h]
        simp only [Int.toNat_zero, List.drop_zero, Int.zero_add]
      exact congrArg (fun k : Int => (⟨.int .i64 k, [[.fn 153 []]], []⟩ : MOut)) e
    · simp only [Int.toNat_zero, List.drop_zero] at h
      have e : -1 = ixS (pB) l := by
        unfold ixS
        rw [if_neg (by simp only [h]; decide)]
      exact congrArg (fun k : Int => (⟨.int .i64 k, [[.fn 153 []]], []⟩ : MOut)) e)

def L_ixBC : Lay := { slots := [(0, .val (.sl tSrc)), (1, .clo 154 [(1, 0)])], boxes := [(1, [.fn 153])] }
theorem T_ixBC (l : List Src) : mTree (P := P) [c_ixB.gc] (lpOf []) Try.f151 L_ixBC true (l, (), (), ()) =
  Tree.need ((↑(List.length l) : Int) < (2 : Int) ^ (62 : Nat) ∧ ∀ (s : Src), s ∈ l → (↑(List.length s.snd) : Int) < (2 : Int) ^ (62 : Nat)) (Tree.leaf { res := SV.bool (decide (ixS pB l ≥ (0 : Int))), boxes := [[SV.fn (153 : FuncId) []]] }) := by kernel_rfl

def c_ixBC : MC P := MC.of (α := List Src × Unit × Unit × Unit) 151 L_ixBC (fun x => x) (fun x => x) (fun _ => rfl)
  (fun (l, _, _, _) => some ((l.length : Int) < 2 ^ 62 ∧ ∀ s ∈ l, (s.2.length : Int) < 2 ^ 62))
  (fun (l, _, _, _) => ⟨.bool (l.any (pB)), [[.fn 153 []]], []⟩) (by kernel_rfl) (by kernel_rfl) (by kernel_rfl) (by
    rintro ⟨l, ⟨⟩, ⟨⟩, ⟨⟩⟩ hp
    refine m_of hm (own := true) (by kernel_rfl) (by kernel_rfl) (by kernel_rfl) (T_ixBC l) trivial ?_

    exact ⟨hp, congrArg (fun k : Bool => (⟨.bool k, [[.fn 153 []]], []⟩ : MOut)) (ixS_ge (pB) l)⟩)

end
end Go.MP
