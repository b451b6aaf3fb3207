/- Zonotopes: what the program computes of two wells. -/
import Derived.Test.YtnlflnbbgklalaaMpP
import Derived.Test.YtnlflnbbgklalaaFw3
namespace Go.MP
open Go Go.Sx Go.Proofs
set_option linter.unusedVariables false
set_option linter.unusedSimpArgs false
noncomputable section

/-- The cells of a well, of a zonotope, of a zonotope that is only read. -/
abbrev bWell : List Sh := [.val tI, .val tI, .val tI, .val tVs, .val tSrcs, .val tVs]
abbrev bZ : List Sh := [.val tI, .val tI, .val tI, .row 120 tV]
abbrev bZr : List Sh := [.val tI, .val tI, .val tI, .val tVs]
abbrev bV : List Sh := [.val tI, .val tI, .val tI]

theorem T_cross (x y z a b c : Int) : fnTree (P := P) [] (lpOf []) Try.f158 (encL 0 [.agg tV, .agg tV] ((x, y, z), (a, b, c), ())) =
  Tree.leaf (SV.agg [SV.int IntKind.i64 (IntKind.wrap IntKind.i64 (IntKind.wrap IntKind.i64 (y * c) - IntKind.wrap IntKind.i64 (z * b))), SV.int IntKind.i64 (IntKind.wrap IntKind.i64 (IntKind.wrap IntKind.i64 (z * a) - IntKind.wrap IntKind.i64 (x * c))), SV.int IntKind.i64 (IntKind.wrap IntKind.i64 (IntKind.wrap IntKind.i64 (x * b) - IntKind.wrap IntKind.i64 (y * a)))]) := by kernel_rfl

def c_cross : PC P := PC.of (α := V × V × Unit) 158 [.agg tV, .agg tV] (fun x => x) (fun x => x) (fun _ => rfl)
  (fun _ => none)
  (fun x => svV (vcross x.1 x.2.1)) (by kernel_rfl) (by
    rintro ⟨⟨x, y, z⟩, ⟨a, b, c⟩, ⟨⟩⟩ hp
    refine fn_of hm (by kernel_rfl) (by kernel_rfl) (T_cross x y z a b c) trivial ?_
    exact rfl)

def absI (n : Int) : Int := maxI n (IntKind.wrap IntKind.i64 (0 - n))
theorem T_abs1 (n : Int) : fnTree (P := P) [] (lpOf []) Try.f159 (encL 0 [.val tI] (n, ())) =
  Tree.leaf (SV.int IntKind.i64 (maxI n (IntKind.wrap IntKind.i64 ((0 : Int) - n)))) := by kernel_rfl

def c_abs1 : PC P := PC.of (α := Int × Unit) 159 [.val tI] (fun x => x) (fun x => x) (fun _ => rfl)
  (fun _ => none)
  (fun x => .int .i64 (absI x.1)) (by kernel_rfl) (by
    rintro ⟨n, ⟨⟩⟩ hp
    refine fn_of hm (by kernel_rfl) (by kernel_rfl) (T_abs1 n) trivial ?_
    exact rfl)

def L_wof : Lay := { slots := [(0, .agg tPath), (1, .val tSrcs)] }
theorem T_wof (x y z : Int) (q : List V) (l : List Src) : mTree (P := P) [c_Joints.gc] (lpOf []) Try.f118 L_wof true (((x, y, z), q), l, ()) =
  Tree.leaf { res := SV.ptr (nat_lit 100) (0 : Nat), boxes := [], news := [Ob.box [SV.int IntKind.i64 x, SV.int IntKind.i64 y, SV.int IntKind.i64 z, SV.sl tV q, SV.sl tSrc l, SV.sl tV (jointsS ((x, y, z), q))]] } := by kernel_rfl

def c_wof : MC P := MC.of (α := Pth × List Src × Unit) 118 L_wof (fun x => x) (fun x => x) (fun _ => rfl)
  (fun _ => none)
  (fun ((v, q), l, _) => ⟨.ptr 100 0, [], [.box [.int .i64 v.1, .int .i64 v.2.1, .int .i64 v.2.2, .sl tV q, .sl tSrc l, .sl tV (jointsS (v, q))]]⟩) (by kernel_rfl) (by kernel_rfl) (by kernel_rfl) (by
    rintro ⟨⟨⟨x, y, z⟩, q⟩, l, ⟨⟩⟩ hp
    refine m_of hm (own := true) (by kernel_rfl) (by kernel_rfl) (by kernel_rfl) (T_wof x y z q l) trivial ?_
    exact rfl)

/-! ### Sources of a well -/
def idB (d : Int) (s : Src) : Bool := s.1 == d
def L_wsource1 : Lay := { slots := [(0, .agg tSrc), (1, .ptr 1 0)], boxes := [(1, [.val tI])] }
theorem T_wsource1 (d : Int) (s : List V) (k : Int) : mTree (P := P) [] (lpOf []) Try.f166 L_wsource1 true ((d, s), (), k, ()) =
  Tree.leaf { res := SV.bool (d == k), boxes := [[SV.int IntKind.i64 k]] } := by kernel_rfl

def c_wsource1 : MC P := MC.of (α := Src × Unit × Int × Unit) 166 L_wsource1 (fun x => x) (fun x => x) (fun _ => rfl)
  (fun _ => none)
  (fun (s, _, k, _) => ⟨.bool (idB k s), [[.int .i64 k]], []⟩) (by kernel_rfl) (by kernel_rfl) (by kernel_rfl) (by
    rintro ⟨⟨d, s⟩, ⟨⟩, k, ⟨⟩⟩ hp
    refine m_of hm (own := true) (by kernel_rfl) (by kernel_rfl) (by kernel_rfl) (T_wsource1 d s k) trivial ?_
    exact rfl)

def L_ixW0 : Lay := { slots := [(0, .val (.sl tSrc)), (1, .clo 166 [(1, 0)])], boxes := [(1, [.val tI])] }
def L_ixWL : Lay := { slots := [(0, .val (.sl tSrc)), (1, .clo 166 [(1, 0)]), (7, .val tI), (8, .val tI)], boxes := [(1, [.val tI])] }
def L_ixWL_0 : Lay := { slots := [], boxes := [(1, [.val tI])] }
def L_ixWL_1 : Lay := { slots := [(4, .val tI)], boxes := [(1, [.val tI])] }
def X_ixWL : Exit → Option Lay
  | .exit 0 => some L_ixWL_0
  | .ret => some L_ixWL_1
  | _ => none
abbrev C_ixWL : Code := loopC (bodyOf Try.f163) 0
theorem B_ixWL (l : List Src) (n i : Int) (d : Int) : loopBodyA (P := P) [c_wsource1.gc] (lpOf []) [] 19 (usd noU (L_ixW0.ids ++ rowIds rowBase L_ixW0.shs)) (inner C_ixWL) L_ixWL X_ixWL (α := List Src × Unit × Int × Int × Int × Unit) (fun x => x) (fun x => x) (l, (), n, i, d, ()) =
  Tree.cond (decide (i < n)) (Tree.need ((0 : Int) ≤ i ∧ i < (↑(List.length l) : Int)) (Tree.cond (idB d (List.getD l (Int.toNat i) ((0 : Int), []))) (Tree.leaf (Sum.inr (Exit.ret, Lay.st L_ixWL_1 (usd noU (Lay.ids L_ixW0 ++ rowIds rowBase (Lay.shs L_ixW0))) (i, d, PUnit.unit)))) (Tree.leaf (Sum.inl (l, PUnit.unit, n, IntKind.wrap IntKind.i64 (i + (1 : Int)), d, PUnit.unit))))) (Tree.leaf (Sum.inr (Exit.exit (0 : Nat), Lay.st L_ixWL_0 (usd noU (Lay.ids L_ixW0 ++ rowIds rowBase (Lay.shs L_ixW0))) (d, PUnit.unit)))) := by kernel_rfl

def inv_ixWL : List Src × Unit × Int × Int × Int × Unit → Prop := fun (l, _, n, i, d, _) => n = l.length ∧ 0 ≤ i ∧ i ≤ n ∧ (l.length : Int) < 2 ^ 62
def O_ixWL : List Src × Unit × Int × Int × Int × Unit → Tree (Exit × St) := fun (l, _, n, i, d, _) => .cond ((l.drop i.toNat).any (idB d)) (.leaf (.ret, L_ixWL_1.st (usd noU (L_ixW0.ids ++ rowIds rowBase L_ixW0.shs)) (ixR (idB d) l i, d, ()))) (.leaf (.exit 0, L_ixWL_0.st (usd noU (L_ixW0.ids ++ rowIds rowBase L_ixW0.shs)) (d, ())))
def R_ixWL : LRun := runOf 19 L_ixWL (fun x => x) (inv_ixWL) (O_ixWL)
theorem K_ixWL : LoopOk P [] 19 none (usd noU (L_ixW0.ids ++ rowIds rowBase L_ixW0.shs)) C_ixWL (R_ixWL) := by
  refine loop_of hm (cx := [c_wsource1.gc]) [] (xl := X_ixWL) (α := List Src × Unit × Int × Int × Int × Unit) (fun x => x) (fun (l, _, n, i, d, _) => (n - i).toNat) (fun _ => rfl) (by kernel_rfl) (by kernel_rfl) ?_ (by kernel_rfl) trivial ?_
  · intro e L' h
    unfold X_ixWL at h
    split at h <;> cases h <;> kernel_rfl
  · rintro ⟨l, ⟨⟩, n, i, d, ⟨⟩⟩ hinv Q hQ
    refine hold_of_eq (B_ixWL l n i d) ?_

    obtain ⟨rfl, h0, h1, h2⟩ := hinv
    rw [W_id (n := i + 1) (by omega) (by omega)]
    unfold O_ixWL at hQ
    dsimp only at hQ
    refine ⟨fun hi => ?_, fun hi => ?_⟩
    · simp only [decide_eq_true_eq] at hi
      have hm : ((l.length : Int) - (i + 1)).toNat < ((l.length : Int) - i).toNat := by omega
      obtain ⟨e1, e2, e3⟩ := ix_step (p := idB d) ((0 : Int), []) h0 hi
      rw [e1] at hQ
      refine ⟨⟨h0, hi⟩, fun hp => ?_, fun hp => ?_⟩
      · replace hp : (idB d) (l.getD i.toNat ((0 : Int), [])) = true := hp
        rw [hp, Bool.true_or, e2 hp] at hQ
        exact hQ.1 rfl
      · replace hp : (idB d) (l.getD i.toNat ((0 : Int), [])) = false := hp
        rw [hp, Bool.false_or, e3 hp] at hQ
        exact ⟨⟨⟨rfl, by omega, by omega, h2⟩, hm⟩, hQ⟩
    · simp only [decide_eq_false_iff_not] at hi
      rw [drop_end hi] at hQ
      exact hQ.2 rfl

def L_ixW : Lay := { slots := [(0, .val (.sl tSrc)), (1, .clo 166 [(1, 0)])], boxes := [(1, [.val tI])] }
theorem T_ixW (l : List Src) (d : Int) : mTree (P := P) [] (lpOf [(0, R_ixWL)]) Try.f163 L_ixW true (l, (), d, ()) =
  Tree.need (inv_ixWL (l, (), (↑(List.length l) : Int), (0 : Int), d, ())) (Tree.cond (List.any (List.drop (Int.toNat (0 : Int)) l) (idB d)) (Tree.leaf { res := SV.int IntKind.i64 (ixR (idB d) l (0 : Int)), boxes := [[SV.int IntKind.i64 d]] }) (Tree.leaf { res := SV.int IntKind.i64 (-1 : Int), boxes := [[SV.int IntKind.i64 d]] })) := by kernel_rfl

def c_ixW : MC P := MC.of (α := List Src × Unit × Int × Unit) 163 L_ixW (fun x => x) (fun x => x) (fun _ => rfl)
  (fun (l, _, d, _) => some ((l.length : Int) < 2 ^ 62))
  (fun (l, _, d, _) => ⟨.int .i64 (ixS (idB d) l), [[.int .i64 d]], []⟩) (by kernel_rfl) (by kernel_rfl) (by kernel_rfl) (by
    rintro ⟨l, ⟨⟩, d, ⟨⟩⟩ hp
    refine m_of hm (own := true) (by kernel_rfl) (by kernel_rfl) (by kernel_rfl) (T_ixW l d) ⟨K_ixWL, trivial⟩ ?_

    refine ⟨⟨rfl, by omega, by omega, hp⟩, fun h => ?_, fun h => ?_⟩
    · simp only [Int.toNat_zero, List.drop_zero] at h
      have e : ixR (idB d) l 0 = ixS (idB d) l := by
        unfold ixS ixR
        rw [if_pos h]
        simp only [Int.toNat_zero, List.drop_zero, Int.zero_add]
      exact congrArg (fun k : Int => (⟨.int .i64 k, [[.int .i64 d]], []⟩ : MOut)) e
    · simp only [Int.toNat_zero, List.drop_zero] at h
      have e : -1 = ixS (idB d) l := by
        unfold ixS
        rw [if_neg (by simp only [h]; decide)]
      exact congrArg (fun k : Int => (⟨.int .i64 k, [[.int .i64 d]], []⟩ : MOut)) e)


def srcS (l : List Src) (k : Int) : Src := (l.find? (idB k)).getD (0, [])
theorem srcS_ix {l : List Src} {k : Int} (h : l.any (idB k) = true) : 0 ≤ ixS (idB k) l ∧ ixS (idB k) l < l.length ∧ l.getD (ixS (idB k) l).toNat ((0 : Int), []) = srcS l k := by
  have e : ixS (idB k) l = ((l.findIdx (idB k) : Nat) : Int) := if_pos h
  rw [e]
  have hlt : l.findIdx (idB k) < l.length := List.findIdx_lt_length_of_exists (by simpa using h)
  refine ⟨by omega, by omega, ?_⟩
  unfold srcS
  rw [List.find?_eq_some_getElem_findIdx hlt]
  simp [List.getD, List.getElem?_eq_getElem hlt]
where
  List.find?_eq_some_getElem_findIdx : ∀ {l : List Src} {p : Src → Bool} (h : l.findIdx p < l.length), l.find? p = some (l[l.findIdx p])
    | [], p, h => by simp at h
    | a :: l, p, h => by
      cases hp : p a with
      | true => simp [List.find?_cons, List.findIdx_cons, hp]
      | false =>
        have h' : l.findIdx p < l.length := by simpa [List.findIdx_cons, hp] using h
        rw [List.find?_cons, hp]
        simp only [List.findIdx_cons, hp, cond_false, List.getElem_cons_succ]
        exact List.find?_eq_some_getElem_findIdx h'
theorem srcS_no {l : List Src} {k : Int} (h : l.any (idB k) = false) : ixS (idB k) l < 0 := by
  unfold ixS
  rw [if_neg (by simp [h])]
  decide

def L_wsource : Lay := { slots := [(0, .ptr 1 0), (1, .val tI)], boxes := [(1, bWell)] }
theorem T_wsource (k : Int) (x y z : Int) (q : List V) (l : List Src) (j : List V) : mTree (P := P) [c_ixW.gc] (lpOf []) Try.f157 L_wsource true ((), k, x, y, z, q, l, j, ()) =
  Tree.need ((↑(List.length l) : Int) < (2 : Int) ^ (62 : Nat)) (Tree.cond (decide (ixS (idB k) l < (0 : Int))) (Tree.leaf { res := SV.tup [SV.agg [SV.int IntKind.i64 (0 : Int), SV.nils], SV.bool false], boxes := [[SV.int IntKind.i64 x, SV.int IntKind.i64 y, SV.int IntKind.i64 z, SV.sl tV q, SV.sl tSrc l, SV.sl tV j]] }) (Tree.need ((0 : Int) ≤ ixS (idB k) l ∧ ixS (idB k) l < (↑(List.length l) : Int)) (Tree.leaf { res := SV.tup [SV.agg [SV.int IntKind.i64 (List.getD l (Int.toNat (ixS (idB k) l)) ((0 : Int), [])).fst, SV.sl tV (List.getD l (Int.toNat (ixS (idB k) l)) ((0 : Int), [])).snd], SV.bool true], boxes := [[SV.int IntKind.i64 x, SV.int IntKind.i64 y, SV.int IntKind.i64 z, SV.sl tV q, SV.sl tSrc l, SV.sl tV j]] }))) := by kernel_rfl

def c_wsource : MC P := MC.of (α := Unit × Int × Int × Int × Int × List V × List Src × List V × Unit) 157 L_wsource (fun x => x) (fun x => x) (fun _ => rfl)
  (fun (_, k, x, y, z, q, l, j, _) => some ((l.length : Int) < 2 ^ 62))
  (fun (_, k, x, y, z, q, l, j, _) => ⟨.tup [.agg [.int .i64 (bif l.any (idB k) then (srcS l k).1 else 0), .sl tV (bif l.any (idB k) then (srcS l k).2 else [])], .bool (l.any (idB k))], [[.int .i64 x, .int .i64 y, .int .i64 z, .sl tV q, .sl tSrc l, .sl tV j]], []⟩) (by kernel_rfl) (by kernel_rfl) (by kernel_rfl) (by
    rintro ⟨⟨⟩, k, x, y, z, q, l, j, ⟨⟩⟩ hp
    refine m_le hm (own := true) (by kernel_rfl) (by kernel_rfl) (by kernel_rfl) (T_wsource k x y z q l j) trivial ?_

    have h : (l.length : Int) < 2 ^ 62 := hp
    show Tree.holds _ _
    refine ⟨h, fun h1 => ?_, fun h1 => ?_⟩
    · simp only [decide_eq_true_eq] at h1
      have h2 : l.any (idB k) = false := by
        cases h2 : l.any (idB k) with
        | false => rfl
        | true => have := (srcS_ix h2).1; omega
      dsimp only
      rw [h2]
      exact ⟨⟨⟨rfl, rfl, trivial⟩, rfl, trivial⟩, rfl, rfl⟩
    · simp only [decide_eq_false_iff_not] at h1
      have h2 : l.any (idB k) = true := by
        cases h2 : l.any (idB k) with
        | true => rfl
        | false => exact absurd (srcS_no h2) h1
      obtain ⟨h3, h4, h5⟩ := srcS_ix h2
      dsimp only
      rw [h2, h5]
      exact ⟨⟨h3, h4⟩, ⟨⟨rfl, rfl, trivial⟩, rfl, trivial⟩, rfl, rfl⟩)

def watS (l : List Src) (k j : Int) : V := bif l.any (idB k) then shiftS (srcS l k) j else (0, 0, 0)
def L_wat : Lay := { slots := [(0, .ptr 1 0), (1, .val tI), (2, .val tI)], boxes := [(1, bWell)] }
theorem T_wat (k i : Int) (x y z : Int) (q : List V) (l : List Src) (j : List V) : mTree (P := P) [c_wsource.gc, c_shift.gc] (lpOf []) Try.f142 L_wat true ((), k, i, x, y, z, q, l, j, ()) =
  Tree.need ((↑(List.length l) : Int) < (2 : Int) ^ (62 : Nat)) (Tree.cond (!List.any l (idB k)) (Tree.leaf { res := SV.agg [SV.int IntKind.i64 (0 : Int), SV.int IntKind.i64 (0 : Int), SV.int IntKind.i64 (0 : Int)], boxes := [[SV.int IntKind.i64 x, SV.int IntKind.i64 y, SV.int IntKind.i64 z, SV.sl tV q, SV.sl tSrc l, SV.sl tV j]] }) (Tree.need ((0 : Int) ≤ i ∧ i ≤ (↑(List.length (bif List.any l (idB k) then (srcS l k).snd else [])) : Int) ∧ (↑(List.length (bif List.any l (idB k) then (srcS l k).snd else [])) : Int) < (2 : Int) ^ (62 : Nat)) (Tree.leaf { res := SV.agg [SV.int IntKind.i64 (shiftS (bif List.any l (idB k) then (srcS l k).fst else (0 : Int), bif List.any l (idB k) then (srcS l k).snd else []) i).fst, SV.int IntKind.i64 (shiftS (bif List.any l (idB k) then (srcS l k).fst else (0 : Int), bif List.any l (idB k) then (srcS l k).snd else []) i).snd.fst, SV.int IntKind.i64 (shiftS (bif List.any l (idB k) then (srcS l k).fst else (0 : Int), bif List.any l (idB k) then (srcS l k).snd else []) i).snd.snd], boxes := [[SV.int IntKind.i64 x, SV.int IntKind.i64 y, SV.int IntKind.i64 z, SV.sl tV q, SV.sl tSrc l, SV.sl tV j]] }))) := by kernel_rfl

def c_wat : MC P := MC.of (α := Unit × Int × Int × Int × Int × Int × List V × List Src × List V × Unit) 142 L_wat (fun x => x) (fun x => x) (fun _ => rfl)
  (fun (_, k, i, x, y, z, q, l, j, _) => some ((l.length : Int) < 2 ^ 62 ∧ 0 ≤ i ∧ ∀ s ∈ l, i ≤ s.2.length ∧ (s.2.length : Int) < 2 ^ 62))
  (fun (_, k, i, x, y, z, q, l, j, _) => ⟨svV (watS l k i), [[.int .i64 x, .int .i64 y, .int .i64 z, .sl tV q, .sl tSrc l, .sl tV j]], []⟩) (by kernel_rfl) (by kernel_rfl) (by kernel_rfl) (by
    rintro ⟨⟨⟩, k, i, x, y, z, q, l, j, ⟨⟩⟩ hp
    refine m_of hm (own := true) (by kernel_rfl) (by kernel_rfl) (by kernel_rfl) (T_wat k i x y z q l j) trivial ?_

    obtain ⟨h0, h1, h2⟩ : (l.length : Int) < 2 ^ 62 ∧ 0 ≤ i ∧ ∀ s ∈ l, i ≤ s.2.length ∧ (s.2.length : Int) < 2 ^ 62 := hp
    refine ⟨h0, fun h3 => ?_, fun h3 => ?_⟩
    · simp only [Bool.not_eq_true'] at h3
      unfold watS
      dsimp only
      rw [h3]
      exact rfl
    · simp only [Bool.not_eq_false'] at h3
      obtain ⟨h4, h5, h6⟩ := srcS_ix h3
      have hm : srcS l k ∈ l := by
        rw [← h6]
        exact getD_mem (by omega)
      have := h2 _ hm
      unfold watS
      dsimp only
      rw [h3]
      exact ⟨⟨h1, this.1, this.2⟩, rfl⟩)

def midS (l : List Src) (k i : Int) : V := vadd (watS l k i) (watS l k (i + 1))
def L_wmiddle : Lay := { slots := [(0, .ptr 1 0), (1, .val tI), (2, .val tI)], boxes := [(1, bWell)] }
theorem T_wmiddle (k i : Int) (x y z : Int) (q : List V) (l : List Src) (j : List V) : mTree (P := P) [c_wat.gc, c_plus.gc] (lpOf []) Try.f150 L_wmiddle true ((), k, i, x, y, z, q, l, j, ()) =
  Tree.need ((↑(List.length l) : Int) < (2 : Int) ^ (62 : Nat) ∧ (0 : Int) ≤ i ∧ ∀ (s : Src), s ∈ l → i ≤ (↑(List.length s.snd) : Int) ∧ (↑(List.length s.snd) : Int) < (2 : Int) ^ (62 : Nat)) (Tree.need ((↑(List.length l) : Int) < (2 : Int) ^ (62 : Nat) ∧ (0 : Int) ≤ IntKind.wrap IntKind.i64 (i + (1 : Int)) ∧ ∀ (s : Src), s ∈ l → IntKind.wrap IntKind.i64 (i + (1 : Int)) ≤ (↑(List.length s.snd) : Int) ∧ (↑(List.length s.snd) : Int) < (2 : Int) ^ (62 : Nat)) (Tree.leaf { res := SV.agg [SV.int IntKind.i64 (vadd (watS l k i) (watS l k (IntKind.wrap IntKind.i64 (i + (1 : Int))))).fst, SV.int IntKind.i64 (vadd (watS l k i) (watS l k (IntKind.wrap IntKind.i64 (i + (1 : Int))))).snd.fst, SV.int IntKind.i64 (vadd (watS l k i) (watS l k (IntKind.wrap IntKind.i64 (i + (1 : Int))))).snd.snd], boxes := [[SV.int IntKind.i64 x, SV.int IntKind.i64 y, SV.int IntKind.i64 z, SV.sl tV q, SV.sl tSrc l, SV.sl tV j]] })) := by kernel_rfl

def c_wmiddle : MC P := MC.of (α := Unit × Int × Int × Int × Int × Int × List V × List Src × List V × Unit) 150 L_wmiddle (fun x => x) (fun x => x) (fun _ => rfl)
  (fun (_, k, i, x, y, z, q, l, j, _) => some ((l.length : Int) < 2 ^ 62 ∧ 0 ≤ i ∧ i < 2 ^ 62 ∧ ∀ s ∈ l, i + 1 ≤ s.2.length ∧ (s.2.length : Int) < 2 ^ 62))
  (fun (_, k, i, x, y, z, q, l, j, _) => ⟨svV (midS l k i), [[.int .i64 x, .int .i64 y, .int .i64 z, .sl tV q, .sl tSrc l, .sl tV j]], []⟩) (by kernel_rfl) (by kernel_rfl) (by kernel_rfl) (by
    rintro ⟨⟨⟩, k, i, x, y, z, q, l, j, ⟨⟩⟩ hp
    refine m_of hm (own := true) (by kernel_rfl) (by kernel_rfl) (by kernel_rfl) (T_wmiddle k i x y z q l j) trivial ?_

    obtain ⟨h0, h1, h1', h2⟩ : (l.length : Int) < 2 ^ 62 ∧ 0 ≤ i ∧ i < 2 ^ 62 ∧ ∀ s ∈ l, i + 1 ≤ s.2.length ∧ (s.2.length : Int) < 2 ^ 62 := hp
    rw [W_id (n := i + 1) (by omega) (by omega)]
    exact ⟨⟨h0, h1, fun s hs => by have := h2 s hs; omega⟩, ⟨h0, by omega, h2⟩, rfl⟩)

/-! ### Their IDs -/
def addId (o : List Int) (s : Src) : List Int := if o.contains s.1 then o else o ++ [s.1]
def idsR (o : List Int) (l : List Src) : List Int := l.foldl addId o
theorem idsR_cons (o : List Int) (s : Src) (l : List Src) : idsR o (s :: l) = idsR (addId o s) l := rfl
theorem idsR_append (o : List Int) (l m : List Src) : idsR o (l ++ m) = idsR (idsR o l) m := List.foldl_append
def idsS (a b : List Src) : List Int := idsR [] (a ++ b)
def L_ids0 : Lay := { slots := [(0, .ptr 1 0), (1, .ptr 2 0)], boxes := [(1, bWell), (2, bWell)] }
def eqI (k a : Int) : Bool := k == a
def L_ixInt : Lay := { slots := [(0, .val tIs), (1, .val tI), (7, .val tI), (8, .val tI)] }
def L_ixInt_0 : Lay := { slots := [] }
def L_ixInt_1 : Lay := { slots := [(4, .val tI)] }
def X_ixInt : Exit → Option Lay
  | .exit 0 => some L_ixInt_0
  | .ret => some L_ixInt_1
  | _ => none
abbrev C_ixInt : Code := loopC (bodyOf Try.f165) 0
theorem B_ixInt (l : List Int) (k n i : Int) : loopBodyA (P := P) [] (lpOf []) [] 19 noU (inner C_ixInt) L_ixInt X_ixInt (α := List Int × Int × Int × Int × Unit) (fun x => x) (fun x => x) (l, k, n, i, ()) =
  Tree.cond (decide (i < n)) (Tree.need ((0 : Int) ≤ i ∧ i < (↑(List.length l) : Int)) (Tree.cond (k == List.getD l (Int.toNat i) (0 : Int)) (Tree.leaf (Sum.inr (Exit.ret, Lay.st L_ixInt_1 noU (i, PUnit.unit)))) (Tree.leaf (Sum.inl (l, k, n, IntKind.wrap IntKind.i64 (i + (1 : Int)), PUnit.unit))))) (Tree.leaf (Sum.inr (Exit.exit (0 : Nat), Lay.st L_ixInt_0 noU PUnit.unit))) := by kernel_rfl

def inv_ixInt : List Int × Int × Int × Int × Unit → Prop := fun (l, k, n, i, _) => n = l.length ∧ 0 ≤ i ∧ i ≤ n ∧ (l.length : Int) < 2 ^ 62
def O_ixInt : List Int × Int × Int × Int × Unit → Tree (Exit × St) := fun (l, k, n, i, _) => .cond ((l.drop i.toNat).any (eqI k)) (.leaf (.ret, L_ixInt_1.st noU (ixR (eqI k) l i, ()))) (.leaf (.exit 0, L_ixInt_0.st noU ()))
def R_ixInt : LRun := runOf 19 L_ixInt (fun x => x) (inv_ixInt) (O_ixInt)
theorem K_ixInt : LoopOk P [] 19 none noU C_ixInt (R_ixInt) := by
  refine loop_of hm (cx := []) [] (xl := X_ixInt) (α := List Int × Int × Int × Int × Unit) (fun x => x) (fun (l, k, n, i, _) => (n - i).toNat) (fun _ => rfl) (by kernel_rfl) (by kernel_rfl) ?_ (by kernel_rfl) trivial ?_
  · intro e L' h
    unfold X_ixInt at h
    split at h <;> cases h <;> kernel_rfl
  · rintro ⟨l, k, n, i, ⟨⟩⟩ hinv Q hQ
    refine hold_of_eq (B_ixInt l k n i) ?_

    obtain ⟨rfl, h0, h1, h2⟩ := hinv
    rw [W_id (n := i + 1) (by omega) (by omega)]
    unfold O_ixInt at hQ
    dsimp only at hQ
    refine ⟨fun hi => ?_, fun hi => ?_⟩
    · simp only [decide_eq_true_eq] at hi
      have hm : ((l.length : Int) - (i + 1)).toNat < ((l.length : Int) - i).toNat := by omega
      obtain ⟨e1, e2, e3⟩ := ix_step (p := eqI k) (0 : Int) h0 hi
      rw [e1] at hQ
      refine ⟨⟨h0, hi⟩, fun hp => ?_, fun hp => ?_⟩
      · replace hp : (eqI k) (l.getD i.toNat 0) = true := hp
        rw [hp, Bool.true_or, e2 hp] at hQ
        exact hQ.1 rfl
      · replace hp : (eqI k) (l.getD i.toNat 0) = false := hp
        rw [hp, Bool.false_or, e3 hp] at hQ
        exact ⟨⟨⟨rfl, by omega, by omega, h2⟩, hm⟩, hQ⟩
    · simp only [decide_eq_false_iff_not] at hi
      rw [drop_end hi] at hQ
      exact hQ.2 rfl

theorem T_ixInt (l : List Int) (k : Int) : fnTree (P := P) [] (lpOf [(0, R_ixInt)]) Try.f165 (encL 0 [.val tIs, .val tI] (l, k, ())) =
  Tree.need (inv_ixInt (l, k, (↑(List.length l) : Int), (0 : Int), ())) (Tree.cond (List.any (List.drop (Int.toNat (0 : Int)) l) (eqI k)) (Tree.leaf (SV.int IntKind.i64 (ixR (eqI k) l (0 : Int)))) (Tree.leaf (SV.int IntKind.i64 (-1 : Int)))) := by kernel_rfl

def c_ixInt : PC P := PC.of (α := List Int × Int × Unit) 165 [.val tIs, .val tI] (fun x => x) (fun x => x) (fun _ => rfl)
  (fun x => some ((x.1.length : Int) < 2 ^ 62))
  (fun x => .int .i64 (ixS (eqI x.2.1) x.1)) (by kernel_rfl) (by
    rintro ⟨l, k, ⟨⟩⟩ hp
    refine fn_of hm (by kernel_rfl) (by kernel_rfl) (T_ixInt l k) ⟨K_ixInt, trivial⟩ ?_

    show Tree.holds (fun s => s = SV.int .i64 (ixS (eqI k) l)) _
    refine ⟨⟨rfl, by omega, by omega, hp⟩, fun h => ?_, fun h => ?_⟩
    · simp only [Int.toNat_zero, List.drop_zero] at h
      have e : ixR (eqI k) l 0 = ixS (eqI k) l := by
        unfold ixS ixR
        rw [if_pos h]
        simp only [Int.toNat_zero, List.drop_zero, Int.zero_add]
      exact congrArg (SV.int .i64) e
    · simp only [Int.toNat_zero, List.drop_zero] at h
      have e : -1 = ixS (eqI k) l := by
        unfold ixS
        rw [if_neg (by simp only [h]; decide)]
      exact congrArg (SV.int .i64) e)

theorem T_hasInt (l : List Int) (k : Int) : fnTree (P := P) [c_ixInt.gc] (lpOf []) Try.f156 (encL 0 [.val (.sl tI), .val tI] (l, k, ())) =
  Tree.need ((↑(List.length l) : Int) < (2 : Int) ^ (62 : Nat)) (Tree.leaf (SV.bool (decide (ixS (eqI k) l ≥ (0 : Int))))) := by kernel_rfl

def c_hasInt : PC P := PC.of (α := List Int × Int × Unit) 156 [.val (.sl tI), .val tI] (fun x => x) (fun x => x) (fun _ => rfl)
  (fun x => some ((x.1.length : Int) < 2 ^ 62))
  (fun x => .bool (x.1.contains x.2.1)) (by kernel_rfl) (by
    rintro ⟨l, k, ⟨⟩⟩ hp
    refine fn_of hm (by kernel_rfl) (by kernel_rfl) (T_hasInt l k) trivial ?_

    refine ⟨hp, ?_⟩
    show SV.bool _ = SV.bool _
    rw [ixS_ge, List.contains_eq_any_beq]
    rfl)

def L_idsI : Lay := { slots := [(0, .ptr 1 0), (1, .ptr 2 0), (5, .row 3 tI), (18, .agg (.pair tSrcs tSrcs)), (19, .val tI), (22, .val tSrcs), (23, .val tI), (24, .val tI)], boxes := [(1, bWell), (2, bWell)] }
def L_idsI_0 : Lay := { slots := [(0, .ptr 1 0), (1, .ptr 2 0), (5, .row 3 tI), (18, .agg (.pair tSrcs tSrcs)), (19, .val tI)], boxes := [(1, bWell), (2, bWell)] }
def X_idsI : Exit → Option Lay
  | .exit 2 => some L_idsI_0
  | _ => none
abbrev C_idsI : Code := loopC (inner (loopC (bodyOf Try.f140) 0)) 2
theorem B_idsI (o : List Int) (c d : List Src) (m : Int) (l : List Src) (n i : Int) (x1 y1 z1 : Int) (q1 : List V) (l1 : List Src) (j1 : List V) (x2 y2 z2 : Int) (q2 : List V) (l2 : List Src) (j2 : List V) : loopBodyA (P := P) [c_hasInt.gc] (lpOf []) [] 41 (usd noU (L_ids0.ids ++ rowIds rowBase L_ids0.shs)) (inner C_idsI) L_idsI X_idsI (α := Unit × Unit × List Int × (List Src × List Src) × Int × List Src × Int × Int × Int × Int × Int × List V × List Src × List V × Int × Int × Int × List V × List Src × List V × Unit) (fun x => x) (fun x => x) ((), (), o, (c, d), m, l, n, i, x1, y1, z1, q1, l1, j1, x2, y2, z2, q2, l2, j2, ()) =
  Tree.cond (decide (i < n)) (Tree.need ((0 : Int) ≤ i ∧ i < (↑(List.length l) : Int)) (Tree.need ((↑(List.length o) : Int) < (2 : Int) ^ (62 : Nat)) (Tree.cond (!List.contains o (List.getD l (Int.toNat i) ((0 : Int), [])).fst) (Tree.need ((List.length o + List.length [(List.getD l (Int.toNat i) ((0 : Int), [])).fst]) * (8 : Nat) ≤ (140737488355328 : Nat)) (Tree.leaf (Sum.inl (PUnit.unit, PUnit.unit, o ++ [(List.getD l (Int.toNat i) ((0 : Int), [])).fst], (c, d), m, l, n, IntKind.wrap IntKind.i64 (i + (1 : Int)), x1, y1, z1, q1, l1, j1, x2, y2, z2, q2, l2, j2, PUnit.unit)))) (Tree.leaf (Sum.inl (PUnit.unit, PUnit.unit, o, (c, d), m, l, n, IntKind.wrap IntKind.i64 (i + (1 : Int)), x1, y1, z1, q1, l1, j1, x2, y2, z2, q2, l2, j2, PUnit.unit)))))) (Tree.leaf (Sum.inr (Exit.exit (2 : Nat), Lay.st L_idsI_0 (usd noU (Lay.ids L_ids0 ++ rowIds rowBase (Lay.shs L_ids0))) (PUnit.unit, PUnit.unit, o, (c, d), m, x1, y1, z1, q1, l1, j1, x2, y2, z2, q2, l2, j2, PUnit.unit)))) := by kernel_rfl

def inv_idsI : Unit × Unit × List Int × (List Src × List Src) × Int × List Src × Int × Int × Int × Int × Int × List V × List Src × List V × Int × Int × Int × List V × List Src × List V × Unit → Prop := fun (_, _, o, cd, m, l, n, i, x1, y1, z1, q1, l1, j1, x2, y2, z2, q2, l2, j2, _) => n = l.length ∧ 0 ≤ i ∧ i ≤ n ∧ (l.length : Int) ≤ 1000 ∧ (o.length : Int) + (n - i) ≤ 100000
def O_idsI : Unit × Unit × List Int × (List Src × List Src) × Int × List Src × Int × Int × Int × Int × Int × List V × List Src × List V × Int × Int × Int × List V × List Src × List V × Unit → Tree (Exit × St) := fun (_, _, o, cd, m, l, n, i, x1, y1, z1, q1, l1, j1, x2, y2, z2, q2, l2, j2, _) => .leaf (.exit 2, L_idsI_0.st (usd noU (L_ids0.ids ++ rowIds rowBase L_ids0.shs)) ((), (), idsR o (l.drop i.toNat), cd, m, x1, y1, z1, q1, l1, j1, x2, y2, z2, q2, l2, j2, ()))
def R_idsI : LRun := runOf 41 L_idsI (fun x => x) (inv_idsI) (O_idsI)
theorem K_idsI : LoopOk P [] 41 none (usd noU (L_ids0.ids ++ rowIds rowBase L_ids0.shs)) C_idsI (R_idsI) := by
  refine loop_of hm (cx := [c_hasInt.gc]) [] (xl := X_idsI) (α := Unit × Unit × List Int × (List Src × List Src) × Int × List Src × Int × Int × Int × Int × Int × List V × List Src × List V × Int × Int × Int × List V × List Src × List V × Unit) (fun x => x) (fun (_, _, o, cd, m, l, n, i, _) => (n - i).toNat) (fun _ => rfl) (by kernel_rfl) (by kernel_rfl) ?_ (by kernel_rfl) trivial ?_
  · intro e L' h
    unfold X_idsI at h
    split at h <;> cases h <;> kernel_rfl
  · rintro ⟨⟨⟩, ⟨⟩, o, ⟨c, d⟩, m, l, n, i, x1, y1, z1, q1, l1, j1, x2, y2, z2, q2, l2, j2, ⟨⟩⟩ hinv Q hQ
    refine hold_of_eq (B_idsI o c d m l n i x1 y1 z1 q1 l1 j1 x2 y2 z2 q2 l2 j2) ?_

    obtain ⟨rfl, h0, h1, h2, h3⟩ := hinv
    rw [W_id (n := i + 1) (by omega) (by omega)]
    unfold O_idsI at hQ
    dsimp only at hQ
    refine ⟨fun hi => ?_, fun hi => ?_⟩
    · simp only [decide_eq_true_eq] at hi
      have hm : ((l.length : Int) - (i + 1)).toNat < ((l.length : Int) - i).toNat := by omega
      rw [drop_step ((0 : Int), []) h0 hi, idsR_cons] at hQ
      refine ⟨⟨h0, hi⟩, by omega, fun hc => ?_, fun hc => ?_⟩
      · rw [Bool.not_eq_true'] at hc
        have e : addId o (l.getD i.toNat ((0 : Int), [])) = o ++ [(l.getD i.toNat ((0 : Int), [])).1] := by unfold addId; rw [hc]; rfl
        rw [e] at hQ
        refine ⟨by simp only [List.length_cons, List.length_nil]; omega, ⟨⟨rfl, by omega, by omega, h2, ?_⟩, hm⟩, hQ⟩
        rw [List.length_append, List.length_singleton]; omega
      · rw [Bool.not_eq_false'] at hc
        have e : addId o (l.getD i.toNat ((0 : Int), [])) = o := by unfold addId; rw [hc]; rfl
        rw [e] at hQ
        exact ⟨⟨⟨rfl, by omega, by omega, h2, by omega⟩, hm⟩, hQ⟩
    · simp only [decide_eq_false_iff_not] at hi
      rw [drop_end hi] at hQ
      exact hQ

theorem addId_length : ∀ (l : List Src) (o : List Int), (idsR o l).length ≤ o.length + l.length
  | [], o => by simp [idsR]
  | s :: r, o => by
    rw [idsR_cons]
    have := addId_length r (addId o s)
    have h2 : (addId o s).length ≤ o.length + 1 := by unfold addId; split <;> simp
    simp only [List.length_cons]
    omega
def L_idsO : Lay := { slots := [(0, .ptr 1 0), (1, .ptr 2 0), (5, .row 3 tI), (18, .agg (.pair tSrcs tSrcs)), (19, .val tI)], boxes := [(1, bWell), (2, bWell)] }
def L_idsO_0 : Lay := { slots := [(5, .row 3 tI)], boxes := [(1, bWell), (2, bWell)] }
def X_idsO : Exit → Option Lay
  | .exit 0 => some L_idsO_0
  | _ => none
abbrev C_idsO : Code := loopC (bodyOf Try.f140) 0
theorem B_idsO (o : List Int) (c d : List Src) (m : Int) (x1 y1 z1 : Int) (q1 : List V) (l1 : List Src) (j1 : List V) (x2 y2 z2 : Int) (q2 : List V) (l2 : List Src) (j2 : List V) : loopBodyA (P := P) [] (lpOf [(2, R_idsI)]) [] 41 (usd noU (L_ids0.ids ++ rowIds rowBase L_ids0.shs)) (inner C_idsO) L_idsO X_idsO (α := Unit × Unit × List Int × (List Src × List Src) × Int × Int × Int × Int × List V × List Src × List V × Int × Int × Int × List V × List Src × List V × Unit) (fun x => x) (fun x => x) ((), (), o, (c, d), m, x1, y1, z1, q1, l1, j1, x2, y2, z2, q2, l2, j2, ()) =
  Tree.cond (decide (m < (2 : Int))) (Tree.need ((0 : Int) ≤ m ∧ m < (↑(2 : Nat) : Int)) (Tree.need (inv_idsI ((), (), o, (c, d), m, List.getD [c, d] (Int.toNat m) [], (↑(List.length (List.getD [c, d] (Int.toNat m) [])) : Int), (0 : Int), x1, y1, z1, q1, l1, j1, x2, y2, z2, q2, l2, j2, ())) (Tree.leaf (Sum.inl (PUnit.unit, PUnit.unit, idsR o (List.drop (Int.toNat (0 : Int)) (List.getD [c, d] (Int.toNat m) [])), (c, d), IntKind.wrap IntKind.i64 (m + (1 : Int)), x1, y1, z1, q1, l1, j1, x2, y2, z2, q2, l2, j2, PUnit.unit))))) (Tree.leaf (Sum.inr (Exit.exit (0 : Nat), Lay.st L_idsO_0 (usd noU (Lay.ids L_ids0 ++ rowIds rowBase (Lay.shs L_ids0))) (o, x1, y1, z1, q1, l1, j1, x2, y2, z2, q2, l2, j2, PUnit.unit)))) := by kernel_rfl

def inv_idsO : Unit × Unit × List Int × (List Src × List Src) × Int × Int × Int × Int × List V × List Src × List V × Int × Int × Int × List V × List Src × List V × Unit → Prop := fun (_, _, o, (c, d), m, x1, y1, z1, q1, l1, j1, x2, y2, z2, q2, l2, j2, _) => 0 ≤ m ∧ m ≤ 2 ∧ (c.length : Int) ≤ 1000 ∧ (d.length : Int) ≤ 1000 ∧ (o.length : Int) + 2000 * (2 - m) ≤ 10000
def O_idsO : Unit × Unit × List Int × (List Src × List Src) × Int × Int × Int × Int × List V × List Src × List V × Int × Int × Int × List V × List Src × List V × Unit → Tree (Exit × St) := fun (_, _, o, (c, d), m, x1, y1, z1, q1, l1, j1, x2, y2, z2, q2, l2, j2, _) => .leaf (.exit 0, L_idsO_0.st (usd noU (L_ids0.ids ++ rowIds rowBase L_ids0.shs)) (idsR o ([c, d].drop m.toNat).flatten, x1, y1, z1, q1, l1, j1, x2, y2, z2, q2, l2, j2, ()))
def R_idsO : LRun := runOf 41 L_idsO (fun x => x) (inv_idsO) (O_idsO)
theorem K_idsO : LoopOk P [] 41 none (usd noU (L_ids0.ids ++ rowIds rowBase L_ids0.shs)) C_idsO (R_idsO) := by
  refine loop_of hm (cx := []) [(2, R_idsI)] (xl := X_idsO) (α := Unit × Unit × List Int × (List Src × List Src) × Int × Int × Int × Int × List V × List Src × List V × Int × Int × Int × List V × List Src × List V × Unit) (fun x => x) (fun (_, _, o, cd, m, _) => (2 - m).toNat) (fun _ => rfl) (by kernel_rfl) (by kernel_rfl) ?_ (by kernel_rfl) ⟨K_idsI, trivial⟩ ?_
  · intro e L' h
    unfold X_idsO at h
    split at h <;> cases h <;> kernel_rfl
  · rintro ⟨⟨⟩, ⟨⟩, o, ⟨c, d⟩, m, x1, y1, z1, q1, l1, j1, x2, y2, z2, q2, l2, j2, ⟨⟩⟩ hinv Q hQ
    refine hold_of_eq (B_idsO o c d m x1 y1 z1 q1 l1 j1 x2 y2 z2 q2 l2 j2) ?_

    obtain ⟨h0, h1, h2, h3, h4⟩ := hinv
    rw [W_id (n := m + 1) (by omega) (by omega)]
    unfold O_idsO at hQ
    dsimp only at hQ
    refine ⟨fun hi => ?_, fun hi => ?_⟩
    · simp only [decide_eq_true_eq] at hi
      have hm : (2 - (m + 1)).toNat < (2 - m).toNat := by omega
      have hl : m < ([c, d].length : Int) := hi
      rw [drop_step [] h0 hl, List.flatten_cons, idsR_append] at hQ
      have hlen : (([c, d].getD m.toNat []).length : Int) ≤ 1000 := by
        have : m = 0 ∨ m = 1 := by omega
        rcases this with rfl | rfl
        · exact h2
        · exact h3
      have hl2 := addId_length ([c, d].getD m.toNat []) o
      rw [Int.toNat_zero, List.drop_zero]
      exact ⟨⟨h0, hi⟩, ⟨rfl, by omega, by omega, hlen, by omega⟩, ⟨⟨by omega, by omega, h2, h3, by omega⟩, hm⟩, hQ⟩
    · simp only [decide_eq_false_iff_not] at hi
      have : m = 2 := by omega
      subst this
      exact hQ

def L_ids : Lay := { slots := [(0, .ptr 1 0), (1, .ptr 2 0)], boxes := [(1, bWell), (2, bWell)] }
theorem T_ids (x1 y1 z1 : Int) (q1 : List V) (l1 : List Src) (j1 : List V) (x2 y2 z2 : Int) (q2 : List V) (l2 : List Src) (j2 : List V) : mTree (P := P) [] (lpOf [(0, R_idsO)]) Try.f140 L_ids false ((), (), x1, y1, z1, q1, l1, j1, x2, y2, z2, q2, l2, j2, ()) =
  Tree.need (inv_idsO ((), (), [], (l1, l2), (0 : Int), x1, y1, z1, q1, l1, j1, x2, y2, z2, q2, l2, j2, ())) (Tree.leaf { res := SV.sl tI (idsR [] (List.flatten (List.drop (Int.toNat (0 : Int)) [l1, l2]))), boxes := [[SV.int IntKind.i64 x1, SV.int IntKind.i64 y1, SV.int IntKind.i64 z1, SV.sl tV q1, SV.sl tSrc l1, SV.sl tV j1], [SV.int IntKind.i64 x2, SV.int IntKind.i64 y2, SV.int IntKind.i64 z2, SV.sl tV q2, SV.sl tSrc l2, SV.sl tV j2]] }) := by kernel_rfl

def c_ids : MC P := MC.of (α := Unit × Unit × Int × Int × Int × List V × List Src × List V × Int × Int × Int × List V × List Src × List V × Unit) 140 L_ids (fun x => x) (fun x => x) (fun _ => rfl)
  (fun (_, _, x1, y1, z1, q1, l1, j1, x2, y2, z2, q2, l2, j2, _) => some (l1.length ≤ 1000 ∧ l2.length ≤ 1000))
  (fun (_, _, x1, y1, z1, q1, l1, j1, x2, y2, z2, q2, l2, j2, _) => ⟨.sl tI (idsS l1 l2), [[.int .i64 x1, .int .i64 y1, .int .i64 z1, .sl tV q1, .sl tSrc l1, .sl tV j1], [.int .i64 x2, .int .i64 y2, .int .i64 z2, .sl tV q2, .sl tSrc l2, .sl tV j2]], []⟩) (by kernel_rfl) (by kernel_rfl) (by kernel_rfl) (by
    rintro ⟨⟨⟩, ⟨⟩, x1, y1, z1, q1, l1, j1, x2, y2, z2, q2, l2, j2, ⟨⟩⟩ hp
    refine m_of hm (own := false) (by kernel_rfl) (by kernel_rfl) (by kernel_rfl) (T_ids x1 y1 z1 q1 l1 j1 x2 y2 z2 q2 l2 j2) ⟨K_idsO, trivial⟩ ?_

    obtain ⟨h1, h2⟩ : l1.length ≤ 1000 ∧ l2.length ≤ 1000 := hp
    refine ⟨⟨by omega, by omega, by omega, by omega, by simp⟩, ?_⟩
    show MOut.mk _ _ _ = _
    rw [Int.toNat_zero, List.drop_zero, List.flatten_cons, List.flatten_cons, List.flatten_nil, List.append_nil]
    rfl)

/-! ### Zonotopes -/
def nzB (v : V) : Bool := !(v.1 == 0 && (v.2.1 == 0 && v.2.2 == 0))
def L_zadd0 : Lay := { slots := [(0, .ptr 1 0), (1, .val tVs)], boxes := [(1, bZ)], rb := 2000000 }
def L_zaddL : Lay := { slots := [(0, .ptr 1 0), (6, .val tVs), (7, .val tI), (8, .val tI)], boxes := [(1, bZ)] }
def L_zaddL_0 : Lay := { slots := [], boxes := [(1, bZ)] }
def X_zaddL : Exit → Option Lay
  | .exit 0 => some L_zaddL_0
  | _ => none
abbrev C_zaddL : Code := loopC (bodyOf Try.f141) 0
theorem B_zaddL (l : List V) (n i x y z : Int) (s : List V) : loopBodyA (P := P) [] (lpOf []) [] 26 (usd noU (L_zadd0.ids ++ rowIds 2000000 L_zadd0.shs)) (inner C_zaddL) L_zaddL X_zaddL (α := Unit × List V × Int × Int × Int × Int × Int × List V × Unit) (fun x => x) (fun x => x) ((), l, n, i, x, y, z, s, ()) =
  Tree.cond (decide (i < n)) (Tree.need ((0 : Int) ≤ i ∧ i < (↑(List.length l) : Int)) (Tree.cond (!((List.getD l (Int.toNat i) ((0 : Int), (0 : Int), (0 : Int))).fst == (0 : Int) && ((List.getD l (Int.toNat i) ((0 : Int), (0 : Int), (0 : Int))).snd.fst == (0 : Int) && ((List.getD l (Int.toNat i) ((0 : Int), (0 : Int), (0 : Int))).snd.snd == (0 : Int) && true)))) (Tree.need ((List.length s + List.length [List.getD l (Int.toNat i) ((0 : Int), (0 : Int), (0 : Int))]) * (24 : Nat) ≤ (140737488355328 : Nat)) (Tree.leaf (Sum.inl (PUnit.unit, l, n, IntKind.wrap IntKind.i64 (i + (1 : Int)), x, y, z, s ++ [List.getD l (Int.toNat i) ((0 : Int), (0 : Int), (0 : Int))], PUnit.unit)))) (Tree.leaf (Sum.inl (PUnit.unit, l, n, IntKind.wrap IntKind.i64 (i + (1 : Int)), x, y, z, s, PUnit.unit))))) (Tree.leaf (Sum.inr (Exit.exit (0 : Nat), Lay.st L_zaddL_0 (usd noU (Lay.ids L_zadd0 ++ rowIds (2000000 : Nat) (Lay.shs L_zadd0))) (x, y, z, s, PUnit.unit)))) := by kernel_rfl

def inv_zaddL : Unit × List V × Int × Int × Int × Int × Int × List V × Unit → Prop := fun (_, l, n, i, x, y, z, s, _) => n = l.length ∧ 0 ≤ i ∧ i ≤ n ∧ (l.length : Int) ≤ 1000 ∧ (s.length : Int) + (n - i) ≤ 100000
def O_zaddL : Unit × List V × Int × Int × Int × Int × Int × List V × Unit → Tree (Exit × St) := fun (_, l, n, i, x, y, z, s, _) => .leaf (.exit 0, L_zaddL_0.st (usd noU (L_zadd0.ids ++ rowIds 2000000 L_zadd0.shs)) (x, y, z, s ++ (l.drop i.toNat).filter nzB, ()))
def R_zaddL : LRun := runOf 26 L_zaddL (fun x => x) (inv_zaddL) (O_zaddL)
theorem K_zaddL : LoopOk P [] 26 none (usd noU (L_zadd0.ids ++ rowIds 2000000 L_zadd0.shs)) C_zaddL (R_zaddL) := by
  refine loop_of hm (cx := []) [] (xl := X_zaddL) (α := Unit × List V × Int × Int × Int × Int × Int × List V × Unit) (fun x => x) (fun (_, l, n, i, _) => (n - i).toNat) (fun _ => rfl) (by kernel_rfl) (by kernel_rfl) ?_ (by kernel_rfl) trivial ?_
  · intro e L' h
    unfold X_zaddL at h
    split at h <;> cases h <;> kernel_rfl
  · rintro ⟨⟨⟩, l, n, i, x, y, z, s, ⟨⟩⟩ hinv Q hQ
    refine hold_of_eq (B_zaddL l n i x y z s) ?_

    obtain ⟨rfl, h0, h1, h2, h3⟩ := hinv
    rw [W_id (n := i + 1) (by omega) (by omega)]
    unfold O_zaddL at hQ
    dsimp only at hQ
    refine ⟨fun hi => ?_, fun hi => ?_⟩
    · simp only [decide_eq_true_eq] at hi
      have hm : ((l.length : Int) - (i + 1)).toNat < ((l.length : Int) - i).toNat := by omega
      rw [drop_step ((0 : Int), (0 : Int), (0 : Int)) h0 hi] at hQ
      simp only [Bool.and_true]
      refine ⟨⟨h0, hi⟩, fun hc => ?_, fun hc => ?_⟩
      · have e : nzB (l.getD i.toNat ((0 : Int), (0 : Int), (0 : Int))) = true := hc
        rw [List.filter_cons, if_pos e] at hQ
        refine ⟨by simp only [List.length_cons, List.length_nil]; omega, ⟨⟨rfl, by omega, by omega, h2, ?_⟩, hm⟩, ?_⟩
        · rw [List.length_append, List.length_singleton]; omega
        · show Tree.holds Q (Tree.leaf _)
          rw [List.append_assoc, List.singleton_append]
          exact hQ
      · have e : nzB (l.getD i.toNat ((0 : Int), (0 : Int), (0 : Int))) = false := hc
        rw [List.filter_cons, if_neg (fun h => Bool.noConfusion (e.symm.trans h))] at hQ
        exact ⟨⟨⟨rfl, by omega, by omega, h2, by omega⟩, hm⟩, hQ⟩
    · simp only [decide_eq_false_iff_not] at hi
      rw [drop_end hi, List.filter_nil, List.append_nil] at hQ
      exact hQ

def L_zadd : Lay := { slots := [(0, .ptr 1 0), (1, .val tVs)], boxes := [(1, bZ)], rb := 2000000 }
theorem T_zadd (l : List V) (x y z : Int) (s : List V) : mTree (P := P) [] (lpOf [(0, R_zaddL)]) Try.f141 L_zadd true ((), l, x, y, z, s, ()) =
  Tree.need (inv_zaddL ((), l, (↑(List.length l) : Int), (0 : Int), x, y, z, s, ())) (Tree.leaf { res := SV.tup [], boxes := [[SV.int IntKind.i64 x, SV.int IntKind.i64 y, SV.int IntKind.i64 z, SV.own (nat_lit 100 + (0 : Nat))]], news := [Ob.row (120 : TypeId) tV (s ++ List.filter nzB (List.drop (Int.toNat (0 : Int)) l))] }) := by kernel_rfl

def c_zadd : MC P := MC.of (α := Unit × List V × Int × Int × Int × List V × Unit) 141 L_zadd (fun x => x) (fun x => x) (fun _ => rfl)
  (fun (_, l, x, y, z, s, _) => some ((l.length : Int) ≤ 1000 ∧ (s.length : Int) ≤ 10000))
  (fun (_, l, x, y, z, s, _) => ⟨.tup [], [[.int .i64 x, .int .i64 y, .int .i64 z, .own 100]], [.row 120 tV (s ++ l.filter nzB)]⟩) (by kernel_rfl) (by kernel_rfl) (by kernel_rfl) (by
    rintro ⟨⟨⟩, l, x, y, z, s, ⟨⟩⟩ hp
    refine m_of hm (own := true) (by kernel_rfl) (by kernel_rfl) (by kernel_rfl) (T_zadd l x y z s) ⟨K_zaddL, trivial⟩ ?_

    obtain ⟨h1, h2⟩ : (l.length : Int) ≤ 1000 ∧ (s.length : Int) ≤ 10000 := hp
    exact ⟨⟨rfl, by omega, by omega, h1, by omega⟩, rfl⟩)

def boxV (r : Int) : List V := [(r, 0, 0), (0, r, 0), (0, 0, r)]
def L_zbox : Lay := { slots := [(0, .ptr 1 0), (1, .val tI)], boxes := [(1, bZ)], rb := 2000000 }
theorem T_zbox (r x y z : Int) (s : List V) : mTree (P := P) [c_zadd.gc] (lpOf []) Try.f143 L_zbox true ((), r, x, y, z, s, ()) =
  Tree.need ((↑(List.length [(r, (0 : Int), (0 : Int)), ((0 : Int), r, (0 : Int)), ((0 : Int), (0 : Int), r)]) : Int) ≤ (1000 : Int) ∧ (↑(List.length s) : Int) ≤ (10000 : Int)) (Tree.leaf { res := SV.tup [], boxes := [[SV.int IntKind.i64 x, SV.int IntKind.i64 y, SV.int IntKind.i64 z, SV.own (nat_lit 100 + (0 : Nat))]], news := [Ob.row (120 : TypeId) tV (s ++ List.filter nzB [(r, (0 : Int), (0 : Int)), ((0 : Int), r, (0 : Int)), ((0 : Int), (0 : Int), r)])] }) := by kernel_rfl

def c_zbox : MC P := MC.of (α := Unit × Int × Int × Int × Int × List V × Unit) 143 L_zbox (fun x => x) (fun x => x) (fun _ => rfl)
  (fun (_, r, x, y, z, s, _) => some ((s.length : Int) ≤ 10000))
  (fun (_, r, x, y, z, s, _) => ⟨.tup [], [[.int .i64 x, .int .i64 y, .int .i64 z, .own 100]], [.row 120 tV (s ++ (boxV r).filter nzB)]⟩) (by kernel_rfl) (by kernel_rfl) (by kernel_rfl) (by
    rintro ⟨⟨⟩, r, x, y, z, s, ⟨⟩⟩ hp
    refine m_of hm (own := true) (by kernel_rfl) (by kernel_rfl) (by kernel_rfl) (T_zbox r x y z s) trivial ?_

    have h : (s.length : Int) ≤ 10000 := hp
    exact ⟨⟨by simp only [List.length_cons, List.length_nil]; omega, h⟩, rfl⟩)

def reachR (n : V) (a : Int) (s : List V) : Int := s.foldl (fun a g => IntKind.wrap IntKind.i64 (a + absI (vdot n g))) a
/-- A facet's normal separates. -/
def sepB (c : V) (s : List V) (v w : V) : Bool := decide (absI (vdot (vcross v w) c) > reachR (vcross v w) 0 s)
def pairsF (p : V → V → Bool) : List V → List V → Bool
  | _, [] => false
  | pre, u :: r => pre.any (p u) || pairsF p (pre ++ [u]) r
def L_zempty0 : Lay := { slots := [(0, .ptr 1 0)], boxes := [(1, bZr)] }
def L_zemptyG : Lay := { slots := [(0, .ptr 1 0), (4, .ptr 5062 0), (7, .ptr 8062 0), (8, .val tI), (14, .val tVs), (15, .val tI), (16, .val tI), (26, .val tVs), (27, .val tI), (28, .val tI), (38, .val tVs), (39, .val tI), (40, .val tI)], boxes := [(1, bZr), (5062, bV), (8062, bV)] }
def L_zemptyG_0 : Lay := { slots := [(0, .ptr 1 0), (4, .ptr 5062 0), (7, .ptr 8062 0), (8, .val tI), (14, .val tVs), (15, .val tI), (16, .val tI), (26, .val tVs), (27, .val tI), (28, .val tI)], boxes := [(1, bZr), (5062, bV), (8062, bV)] }
def X_zemptyG : Exit → Option Lay
  | .exit 4 => some L_zemptyG_0
  | _ => none
abbrev C_zemptyG : Code := loopC (inner (loopC (inner (loopC (bodyOf Try.f144) 0)) 2)) 4
theorem B_zemptyG (a : Int) (s1 : List V) (n1 i1 : Int) (s2 : List V) (n2 i2 : Int) (l : List V) (n i : Int) (x y z : Int) (s : List V) (u1 u2 u3 w1 w2 w3 : Int) : loopBodyA (P := P) [c_dot.gc, c_abs1.gc] (lpOf []) [] 62 (usd noU (L_zempty0.ids ++ rowIds rowBase L_zempty0.shs)) (inner C_zemptyG) L_zemptyG X_zemptyG (α := Unit × Unit × Unit × Int × List V × Int × Int × List V × Int × Int × List V × Int × Int × Int × Int × Int × List V × Int × Int × Int × Int × Int × Int × Unit) (fun x => x) (fun x => x) ((), (), (), a, s1, n1, i1, s2, n2, i2, l, n, i, x, y, z, s, u1, u2, u3, w1, w2, w3, ()) =
  Tree.cond (decide (i < n)) (Tree.need ((0 : Int) ≤ i ∧ i < (↑(List.length l) : Int)) (Tree.leaf (Sum.inl (PUnit.unit, PUnit.unit, PUnit.unit, IntKind.wrap IntKind.i64 (a + absI (vdot (w1, w2, w3) (List.getD l (Int.toNat i) ((0 : Int), (0 : Int), (0 : Int))))), s1, n1, i1, s2, n2, i2, l, n, IntKind.wrap IntKind.i64 (i + (1 : Int)), x, y, z, s, u1, u2, u3, w1, w2, w3, PUnit.unit)))) (Tree.leaf (Sum.inr (Exit.exit (4 : Nat), Lay.st L_zemptyG_0 (usd noU (Lay.ids L_zempty0 ++ rowIds rowBase (Lay.shs L_zempty0))) (PUnit.unit, PUnit.unit, PUnit.unit, a, s1, n1, i1, s2, n2, i2, x, y, z, s, u1, u2, u3, w1, w2, w3, PUnit.unit)))) := by kernel_rfl

def inv_zemptyG : Unit × Unit × Unit × Int × List V × Int × Int × List V × Int × Int × List V × Int × Int × Int × Int × Int × List V × Int × Int × Int × Int × Int × Int × Unit → Prop := fun (_, _, _, a, s1, n1, i1, s2, n2, i2, l, n, i, _) => n = l.length ∧ 0 ≤ i ∧ i ≤ n ∧ (l.length : Int) < 2 ^ 62
def O_zemptyG : Unit × Unit × Unit × Int × List V × Int × Int × List V × Int × Int × List V × Int × Int × Int × Int × Int × List V × Int × Int × Int × Int × Int × Int × Unit → Tree (Exit × St) := fun (_, _, _, a, s1, n1, i1, s2, n2, i2, l, n, i, x, y, z, s, u1, u2, u3, w1, w2, w3, _) => .leaf (.exit 4, L_zemptyG_0.st (usd noU (L_zempty0.ids ++ rowIds rowBase L_zempty0.shs)) ((), (), (), reachR (w1, w2, w3) a (l.drop i.toNat), s1, n1, i1, s2, n2, i2, x, y, z, s, u1, u2, u3, w1, w2, w3, ()))
def R_zemptyG : LRun := runOf 62 L_zemptyG (fun x => x) (inv_zemptyG) (O_zemptyG)
theorem K_zemptyG : LoopOk P [] 62 none (usd noU (L_zempty0.ids ++ rowIds rowBase L_zempty0.shs)) C_zemptyG (R_zemptyG) := by
  refine loop_of hm (cx := [c_dot.gc, c_abs1.gc]) [] (xl := X_zemptyG) (α := Unit × Unit × Unit × Int × List V × Int × Int × List V × Int × Int × List V × Int × Int × Int × Int × Int × List V × Int × Int × Int × Int × Int × Int × Unit) (fun x => x) (fun (_, _, _, a, s1, n1, i1, s2, n2, i2, l, n, i, _) => (n - i).toNat) (fun _ => rfl) (by kernel_rfl) (by kernel_rfl) ?_ (by kernel_rfl) trivial ?_
  · intro e L' h
    unfold X_zemptyG at h
    split at h <;> cases h <;> kernel_rfl
  · rintro ⟨⟨⟩, ⟨⟩, ⟨⟩, a, s1, n1, i1, s2, n2, i2, l, n, i, x, y, z, s, u1, u2, u3, w1, w2, w3, ⟨⟩⟩ hinv Q hQ
    refine hold_of_eq (B_zemptyG a s1 n1 i1 s2 n2 i2 l n i x y z s u1 u2 u3 w1 w2 w3) ?_

    obtain ⟨rfl, h0, h1, h2⟩ := hinv
    rw [W_id (n := i + 1) (by omega) (by omega)]
    unfold O_zemptyG at hQ
    dsimp only at hQ
    refine ⟨fun hi => ?_, fun hi => ?_⟩
    · simp only [decide_eq_true_eq] at hi
      have hm : ((l.length : Int) - (i + 1)).toNat < ((l.length : Int) - i).toNat := by omega
      rw [drop_step ((0 : Int), (0 : Int), (0 : Int)) h0 hi] at hQ
      exact ⟨⟨h0, hi⟩, ⟨⟨rfl, by omega, by omega, h2⟩, hm⟩, hQ⟩
    · simp only [decide_eq_false_iff_not] at hi
      rw [drop_end hi] at hQ
      exact hQ

def L_zemptyI : Lay := { slots := [(0, .ptr 1 0), (4, .ptr 5062 0), (14, .val tVs), (15, .val tI), (16, .val tI), (26, .val tVs), (27, .val tI), (28, .val tI)], boxes := [(1, bZr), (5062, bV)] }
def L_zemptyI_0 : Lay := { slots := [(0, .ptr 1 0), (14, .val tVs), (15, .val tI), (16, .val tI)], boxes := [(1, bZr)] }
def L_zemptyI_1 : Lay := { slots := [(2, .val .bool)], boxes := [(1, bZr)] }
def X_zemptyI : Exit → Option Lay
  | .exit 2 => some L_zemptyI_0
  | .ret => some L_zemptyI_1
  | _ => none
abbrev C_zemptyI : Code := loopC (inner (loopC (bodyOf Try.f144) 0)) 2
theorem B_zemptyI (s1 : List V) (n1 i1 : Int) (l : List V) (n i : Int) (x y z : Int) (s : List V) (u1 u2 u3 : Int) : loopBodyA (P := P) [c_cross.gc, c_dot.gc, c_abs1.gc] (lpOf [(4, R_zemptyG)]) [] 62 (usd noU (L_zempty0.ids ++ rowIds rowBase L_zempty0.shs)) (inner C_zemptyI) L_zemptyI X_zemptyI (α := Unit × Unit × List V × Int × Int × List V × Int × Int × Int × Int × Int × List V × Int × Int × Int × Unit) (fun x => x) (fun x => x) ((), (), s1, n1, i1, l, n, i, x, y, z, s, u1, u2, u3, ()) =
  Tree.cond (decide (i < n)) (Tree.need ((0 : Int) ≤ i ∧ i < (↑(List.length l) : Int)) (Tree.need (inv_zemptyG ((), (), (), (0 : Int), s1, n1, i1, l, n, i, s, (↑(List.length s) : Int), (0 : Int), x, y, z, s, u1, u2, u3, (vcross (u1, u2, u3) (List.getD l (Int.toNat i) ((0 : Int), (0 : Int), (0 : Int)))).fst, (vcross (u1, u2, u3) (List.getD l (Int.toNat i) ((0 : Int), (0 : Int), (0 : Int)))).snd.fst, (vcross (u1, u2, u3) (List.getD l (Int.toNat i) ((0 : Int), (0 : Int), (0 : Int)))).snd.snd, ())) (Tree.cond (decide (absI (vdot (vcross (u1, u2, u3) (List.getD l (Int.toNat i) ((0 : Int), (0 : Int), (0 : Int)))) (x, y, z)) > reachR (vcross (u1, u2, u3) (List.getD l (Int.toNat i) ((0 : Int), (0 : Int), (0 : Int)))) (0 : Int) (List.drop (Int.toNat (0 : Int)) s))) (Tree.leaf (Sum.inr (Exit.ret, Lay.st L_zemptyI_1 (usd noU (Lay.ids L_zempty0 ++ rowIds rowBase (Lay.shs L_zempty0))) (true, x, y, z, s, PUnit.unit)))) (Tree.leaf (Sum.inl (PUnit.unit, PUnit.unit, s1, n1, i1, l, n, IntKind.wrap IntKind.i64 (i + (1 : Int)), x, y, z, s, u1, u2, u3, PUnit.unit)))))) (Tree.leaf (Sum.inr (Exit.exit (2 : Nat), Lay.st L_zemptyI_0 (usd noU (Lay.ids L_zempty0 ++ rowIds rowBase (Lay.shs L_zempty0))) (PUnit.unit, s1, n1, i1, x, y, z, s, PUnit.unit)))) := by kernel_rfl

def inv_zemptyI : Unit × Unit × List V × Int × Int × List V × Int × Int × Int × Int × Int × List V × Int × Int × Int × Unit → Prop := fun (_, _, s1, n1, i1, l, n, i, x, y, z, s, _) => n = l.length ∧ 0 ≤ i ∧ i ≤ n ∧ (l.length : Int) < 2 ^ 62 ∧ (s.length : Int) < 2 ^ 62
def O_zemptyI : Unit × Unit × List V × Int × Int × List V × Int × Int × Int × Int × Int × List V × Int × Int × Int × Unit → Tree (Exit × St) := fun (_, _, s1, n1, i1, l, n, i, x, y, z, s, u1, u2, u3, _) => .cond ((l.drop i.toNat).any (sepB (x, y, z) s (u1, u2, u3))) (.leaf (.ret, L_zemptyI_1.st (usd noU (L_zempty0.ids ++ rowIds rowBase L_zempty0.shs)) (true, x, y, z, s, ()))) (.leaf (.exit 2, L_zemptyI_0.st (usd noU (L_zempty0.ids ++ rowIds rowBase L_zempty0.shs)) ((), s1, n1, i1, x, y, z, s, ())))
def R_zemptyI : LRun := runOf 62 L_zemptyI (fun x => x) (inv_zemptyI) (O_zemptyI)
theorem K_zemptyI : LoopOk P [] 62 none (usd noU (L_zempty0.ids ++ rowIds rowBase L_zempty0.shs)) C_zemptyI (R_zemptyI) := by
  refine loop_of hm (cx := [c_cross.gc, c_dot.gc, c_abs1.gc]) [(4, R_zemptyG)] (xl := X_zemptyI) (α := Unit × Unit × List V × Int × Int × List V × Int × Int × Int × Int × Int × List V × Int × Int × Int × Unit) (fun x => x) (fun (_, _, s1, n1, i1, l, n, i, _) => (n - i).toNat) (fun _ => rfl) (by kernel_rfl) (by kernel_rfl) ?_ (by kernel_rfl) ⟨K_zemptyG, trivial⟩ ?_
  · intro e L' h
    unfold X_zemptyI at h
    split at h <;> cases h <;> kernel_rfl
  · rintro ⟨⟨⟩, ⟨⟩, s1, n1, i1, l, n, i, x, y, z, s, u1, u2, u3, ⟨⟩⟩ hinv Q hQ
    refine hold_of_eq (B_zemptyI s1 n1 i1 l n i x y z s u1 u2 u3) ?_

    obtain ⟨rfl, h0, h1, h2, h3⟩ := hinv
    rw [W_id (n := i + 1) (by omega) (by omega)]
    unfold O_zemptyI at hQ
    dsimp only at hQ
    refine ⟨fun hi => ?_, fun hi => ?_⟩
    · simp only [decide_eq_true_eq] at hi
      have hm : ((l.length : Int) - (i + 1)).toNat < ((l.length : Int) - i).toNat := by omega
      rw [drop_step ((0 : Int), (0 : Int), (0 : Int)) h0 hi, List.any_cons] at hQ
      rw [Int.toNat_zero, List.drop_zero]
      refine ⟨⟨h0, hi⟩, ⟨rfl, by omega, by omega, h3⟩, fun hc => ?_, fun hc => ?_⟩
      · have e : sepB (x, y, z) s (u1, u2, u3) (l.getD i.toNat ((0 : Int), (0 : Int), (0 : Int))) = true := hc
        rw [e, Bool.true_or] at hQ
        exact hQ.1 rfl
      · have e : sepB (x, y, z) s (u1, u2, u3) (l.getD i.toNat ((0 : Int), (0 : Int), (0 : Int))) = false := hc
        rw [e, Bool.false_or] at hQ
        exact ⟨⟨⟨rfl, by omega, by omega, h2, h3⟩, hm⟩, hQ⟩
    · simp only [decide_eq_false_iff_not] at hi
      rw [drop_end hi] at hQ
      exact hQ.2 rfl

def L_zemptyO : Lay := { slots := [(0, .ptr 1 0), (14, .val tVs), (15, .val tI), (16, .val tI)], boxes := [(1, bZr)] }
def L_zemptyO_0 : Lay := { slots := [], boxes := [(1, bZr)] }
def L_zemptyO_1 : Lay := { slots := [(2, .val .bool)], boxes := [(1, bZr)] }
def X_zemptyO : Exit → Option Lay
  | .exit 0 => some L_zemptyO_0
  | .ret => some L_zemptyO_1
  | _ => none
abbrev C_zemptyO : Code := loopC (bodyOf Try.f144) 0
theorem B_zemptyO (l : List V) (n i : Int) (x y z : Int) (s : List V) : loopBodyA (P := P) [] (lpOf [(2, R_zemptyI)]) [] 62 (usd noU (L_zempty0.ids ++ rowIds rowBase L_zempty0.shs)) (inner C_zemptyO) L_zemptyO X_zemptyO (α := Unit × List V × Int × Int × Int × Int × Int × List V × Unit) (fun x => x) (fun x => x) ((), l, n, i, x, y, z, s, ()) =
  Tree.cond (decide (i < n)) (Tree.need ((0 : Int) ≤ i ∧ i < (↑(List.length l) : Int)) (Tree.need ((0 : Int) ≤ (0 : Int) ∧ (0 : Int) ≤ i ∧ i ≤ (↑(List.length s) : Int)) (Tree.need (inv_zemptyI ((), (), l, n, i, List.drop (Int.toNat (0 : Int)) (List.take (Int.toNat i) s), (↑(List.length (List.drop (Int.toNat (0 : Int)) (List.take (Int.toNat i) s))) : Int), (0 : Int), x, y, z, s, (List.getD l (Int.toNat i) ((0 : Int), (0 : Int), (0 : Int))).fst, (List.getD l (Int.toNat i) ((0 : Int), (0 : Int), (0 : Int))).snd.fst, (List.getD l (Int.toNat i) ((0 : Int), (0 : Int), (0 : Int))).snd.snd, ())) (Tree.cond (List.any (List.drop (Int.toNat (0 : Int)) (List.drop (Int.toNat (0 : Int)) (List.take (Int.toNat i) s))) (sepB (x, y, z) s (List.getD l (Int.toNat i) ((0 : Int), (0 : Int), (0 : Int))))) (Tree.leaf (Sum.inr (Exit.ret, Lay.st L_zemptyO_1 (usd noU (Lay.ids L_zempty0 ++ rowIds rowBase (Lay.shs L_zempty0))) (true, x, y, z, s, PUnit.unit)))) (Tree.leaf (Sum.inl (PUnit.unit, l, n, IntKind.wrap IntKind.i64 (i + (1 : Int)), x, y, z, s, PUnit.unit))))))) (Tree.leaf (Sum.inr (Exit.exit (0 : Nat), Lay.st L_zemptyO_0 (usd noU (Lay.ids L_zempty0 ++ rowIds rowBase (Lay.shs L_zempty0))) (x, y, z, s, PUnit.unit)))) := by kernel_rfl

def inv_zemptyO : Unit × List V × Int × Int × Int × Int × Int × List V × Unit → Prop := fun (_, l, n, i, x, y, z, s, _) => l = s ∧ n = l.length ∧ 0 ≤ i ∧ i ≤ n ∧ (s.length : Int) < 2 ^ 62
def O_zemptyO : Unit × List V × Int × Int × Int × Int × Int × List V × Unit → Tree (Exit × St) := fun (_, l, n, i, x, y, z, s, _) => .cond (pairsF (sepB (x, y, z) s) (s.take i.toNat) (s.drop i.toNat)) (.leaf (.ret, L_zemptyO_1.st (usd noU (L_zempty0.ids ++ rowIds rowBase L_zempty0.shs)) (true, x, y, z, s, ()))) (.leaf (.exit 0, L_zemptyO_0.st (usd noU (L_zempty0.ids ++ rowIds rowBase L_zempty0.shs)) (x, y, z, s, ())))
def R_zemptyO : LRun := runOf 62 L_zemptyO (fun x => x) (inv_zemptyO) (O_zemptyO)
theorem K_zemptyO : LoopOk P [] 62 none (usd noU (L_zempty0.ids ++ rowIds rowBase L_zempty0.shs)) C_zemptyO (R_zemptyO) := by
  refine loop_of hm (cx := []) [(2, R_zemptyI)] (xl := X_zemptyO) (α := Unit × List V × Int × Int × Int × Int × Int × List V × Unit) (fun x => x) (fun (_, l, n, i, _) => (n - i).toNat) (fun _ => rfl) (by kernel_rfl) (by kernel_rfl) ?_ (by kernel_rfl) ⟨K_zemptyI, trivial⟩ ?_
  · intro e L' h
    unfold X_zemptyO at h
    split at h <;> cases h <;> kernel_rfl
  · rintro ⟨⟨⟩, l, n, i, x, y, z, s, ⟨⟩⟩ hinv Q hQ
    refine hold_of_eq (B_zemptyO l n i x y z s) ?_

    obtain ⟨rfl, rfl, h0, h1, h2⟩ := hinv
    rw [W_id (n := i + 1) (by omega) (by omega)]
    unfold O_zemptyO at hQ
    dsimp only at hQ
    simp only [Int.toNat_zero, List.drop_zero]
    refine ⟨fun hi => ?_, fun hi => ?_⟩
    · simp only [decide_eq_true_eq] at hi
      have hm : ((l.length : Int) - (i + 1)).toNat < ((l.length : Int) - i).toNat := by omega
      have hd := drop_step ((0 : Int), (0 : Int), (0 : Int)) h0 hi
      have ht : l.take (i + 1).toNat = l.take i.toNat ++ [l.getD i.toNat ((0 : Int), (0 : Int), (0 : Int))] := by
        rw [show (i + 1).toNat = i.toNat + 1 by omega, List.take_add_one]
        simp [List.getD, List.getElem?_eq_getElem (show i.toNat < l.length by omega)]
      rw [hd, pairsF] at hQ
      refine ⟨⟨h0, hi⟩, ⟨by omega, h0, h1⟩, ⟨rfl, by omega, by omega, by rw [List.length_take]; omega, h2⟩, fun hc => ?_, fun hc => ?_⟩
      · rw [hc, Bool.true_or] at hQ
        exact hQ.1 rfl
      · rw [hc, Bool.false_or, ← ht] at hQ
        exact ⟨⟨⟨rfl, rfl, by omega, by omega, h2⟩, hm⟩, hQ⟩
    · simp only [decide_eq_false_iff_not] at hi
      rw [drop_end hi] at hQ
      exact hQ.2 rfl

def emptyS (c : V) (s : List V) : Bool := pairsF (sepB c s) [] s
def L_zempty : Lay := { slots := [(0, .ptr 1 0)], boxes := [(1, bZr)] }
theorem T_zempty (x y z : Int) (s : List V) : mTree (P := P) [] (lpOf [(0, R_zemptyO)]) Try.f144 L_zempty true ((), x, y, z, s, ()) =
  Tree.need (inv_zemptyO ((), s, (↑(List.length s) : Int), (0 : Int), x, y, z, s, ())) (Tree.cond (pairsF (sepB (x, y, z) s) (List.take (Int.toNat (0 : Int)) s) (List.drop (Int.toNat (0 : Int)) s)) (Tree.leaf { res := SV.bool true, boxes := [[SV.int IntKind.i64 x, SV.int IntKind.i64 y, SV.int IntKind.i64 z, SV.sl tV s]] }) (Tree.leaf { res := SV.bool false, boxes := [[SV.int IntKind.i64 x, SV.int IntKind.i64 y, SV.int IntKind.i64 z, SV.sl tV s]] })) := by kernel_rfl

def c_zempty : MC P := MC.of (α := Unit × Int × Int × Int × List V × Unit) 144 L_zempty (fun x => x) (fun x => x) (fun _ => rfl)
  (fun (_, x, y, z, s, _) => some ((s.length : Int) < 2 ^ 62))
  (fun (_, x, y, z, s, _) => ⟨.bool (emptyS (x, y, z) s), [[.int .i64 x, .int .i64 y, .int .i64 z, .sl tV s]], []⟩) (by kernel_rfl) (by kernel_rfl) (by kernel_rfl) (by
    rintro ⟨⟨⟩, x, y, z, s, ⟨⟩⟩ hp
    refine m_of hm (own := true) (by kernel_rfl) (by kernel_rfl) (by kernel_rfl) (T_zempty x y z s) ⟨K_zemptyO, trivial⟩ ?_

    have h : (s.length : Int) < 2 ^ 62 := hp
    refine ⟨⟨rfl, rfl, by omega, by omega, h⟩, fun hc => ?_, fun hc => ?_⟩
    · rw [Int.toNat_zero, List.take_zero, List.drop_zero] at hc
      exact congrArg (fun k : Bool => (⟨.bool k, [[.int .i64 x, .int .i64 y, .int .i64 z, .sl tV s]], []⟩ : MOut)) hc.symm
    · rw [Int.toNat_zero, List.take_zero, List.drop_zero] at hc
      exact congrArg (fun k : Bool => (⟨.bool k, [[.int .i64 x, .int .i64 y, .int .i64 z, .sl tV s]], []⟩ : MOut)) hc.symm)

end
end Go.MP
