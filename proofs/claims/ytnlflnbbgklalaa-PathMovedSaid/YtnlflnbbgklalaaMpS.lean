/- What the program knows of two wells: joints that touch, legs that are separate, what is known, the gap. -/
import Derived.Test.YtnlflnbbgklalaaMpR
namespace Go.MP
open Go Go.Sx Go.Proofs
set_option linter.unusedVariables false
set_option linter.unusedSimpArgs false
noncomputable section

/-! ### Two joints -/
def preAt (l : List Src) (i : Int) : Prop := (l.length : Int) ≤ 100 ∧ 0 ≤ i ∧ ∀ s ∈ l, i ≤ s.2.length ∧ (s.2.length : Int) ≤ 1000
def tGen (la : List Src) (i : Int) (lb : List Src) (j : Int) (k : Int) : V := vsub (watS la k i) (watS lb k j)
def gens (f : Int → V) (s : List V) (l : List Int) : List V := s ++ (l.map f).filter nzB
theorem gens_nil (f : Int → V) (s : List V) : gens f s [] = s := by simp [gens]
theorem gens_cons (f : Int → V) (s : List V) (k : Int) (l : List Int) : gens f s (k :: l) = gens f (s ++ [f k].filter nzB) l := by
  unfold gens
  rw [List.map_cons, List.append_assoc, ← List.filter_append]; rfl
theorem filter1_length (v : V) : ([v].filter nzB).length ≤ 1 := by
  have := List.length_filter_le nzB [v]
  simpa using this
def L_touch0 : Lay := { slots := [(0, .ptr 1 0), (1, .val tI), (2, .ptr 2 0), (3, .val tI), (4, .val tI)], boxes := [(1, bWell), (2, bWell)] }
def L_touchL : Lay := { slots := [(0, .ptr 1 0), (1, .val tI), (2, .ptr 2 0), (3, .val tI), (4, .val tI), (11, .ptr 31058 0), (33, .val tIs), (34, .val tI), (35, .val tI)], boxes := [(1, bWell), (2, bWell), (31058, bZ)] }
def L_touchL_0 : Lay := { slots := [(4, .val tI), (11, .ptr 31058 0)], boxes := [(1, bWell), (2, bWell), (31058, bZ)] }
def X_touchL : Exit → Option Lay
  | .exit 0 => some L_touchL_0
  | _ => none
abbrev C_touchL : Code := loopC (bodyOf Try.f117) 0
theorem B_touchL (i j r : Int) (l : List Int) (n m : Int) (x1 y1 z1 : Int) (q1 : List V) (l1 : List Src) (j1 : List V) (x2 y2 z2 : Int) (q2 : List V) (l2 : List Src) (j2 : List V) (u v w : Int) (s : List V) : loopBodyA (P := P) [c_wat.gc, c_minus.gc, c_zadd.gc] (lpOf []) [] 58 (usd noU (L_touch0.ids ++ rowIds rowBase L_touch0.shs)) (inner C_touchL) L_touchL X_touchL (α := Unit × Int × Unit × Int × Int × Unit × List Int × Int × Int × Int × Int × Int × List V × List Src × List V × Int × Int × Int × List V × List Src × List V × Int × Int × Int × List V × Unit) (fun x => x) (fun x => x) ((), i, (), j, r, (), l, n, m, x1, y1, z1, q1, l1, j1, x2, y2, z2, q2, l2, j2, u, v, w, s, ()) =
  Tree.cond (decide (m < n)) (Tree.need ((0 : Int) ≤ m ∧ m < (↑(List.length l) : Int)) (Tree.need ((↑(List.length l1) : Int) < (2 : Int) ^ (62 : Nat) ∧ (0 : Int) ≤ i ∧ ∀ (s : Src), s ∈ l1 → i ≤ (↑(List.length s.snd) : Int) ∧ (↑(List.length s.snd) : Int) < (2 : Int) ^ (62 : Nat)) (Tree.need ((↑(List.length l2) : Int) < (2 : Int) ^ (62 : Nat) ∧ (0 : Int) ≤ j ∧ ∀ (s : Src), s ∈ l2 → j ≤ (↑(List.length s.snd) : Int) ∧ (↑(List.length s.snd) : Int) < (2 : Int) ^ (62 : Nat)) (Tree.need ((↑(List.length [vsub (watS l1 (List.getD l (Int.toNat m) (0 : Int)) i) (watS l2 (List.getD l (Int.toNat m) (0 : Int)) j)]) : Int) ≤ (1000 : Int) ∧ (↑(List.length s) : Int) ≤ (10000 : Int)) (Tree.leaf (Sum.inl (PUnit.unit, i, PUnit.unit, j, r, PUnit.unit, l, n, IntKind.wrap IntKind.i64 (m + (1 : Int)), x1, y1, z1, q1, l1, j1, x2, y2, z2, q2, l2, j2, u, v, w, s ++ List.filter nzB [vsub (watS l1 (List.getD l (Int.toNat m) (0 : Int)) i) (watS l2 (List.getD l (Int.toNat m) (0 : Int)) j)], PUnit.unit))))))) (Tree.leaf (Sum.inr (Exit.exit (0 : Nat), Lay.st L_touchL_0 (usd noU (Lay.ids L_touch0 ++ rowIds rowBase (Lay.shs L_touch0))) (r, PUnit.unit, x1, y1, z1, q1, l1, j1, x2, y2, z2, q2, l2, j2, u, v, w, s, PUnit.unit)))) := by kernel_rfl

def inv_touchL : Unit × Int × Unit × Int × Int × Unit × List Int × Int × Int × Int × Int × Int × List V × List Src × List V × Int × Int × Int × List V × List Src × List V × Int × Int × Int × List V × Unit → Prop := fun (_, i, _, j, r, _, l, n, m, x1, y1, z1, q1, l1, j1, x2, y2, z2, q2, l2, j2, u, v, w, s, _) => n = l.length ∧ 0 ≤ m ∧ m ≤ n ∧ l.length ≤ 1000 ∧ (s.length : Int) + (n - m) ≤ 10000 ∧ preAt l1 i ∧ preAt l2 j
def O_touchL : Unit × Int × Unit × Int × Int × Unit × List Int × Int × Int × Int × Int × Int × List V × List Src × List V × Int × Int × Int × List V × List Src × List V × Int × Int × Int × List V × Unit → Tree (Exit × St) := fun (_, i, _, j, r, _, l, n, m, x1, y1, z1, q1, l1, j1, x2, y2, z2, q2, l2, j2, u, v, w, s, _) => .leaf (.exit 0, L_touchL_0.st (usd noU (L_touch0.ids ++ rowIds rowBase L_touch0.shs)) (r, (), x1, y1, z1, q1, l1, j1, x2, y2, z2, q2, l2, j2, u, v, w, gens (tGen l1 i l2 j) s (l.drop m.toNat), ()))
def R_touchL : LRun := runOf 58 L_touchL (fun x => x) (inv_touchL) (O_touchL)
theorem K_touchL : LoopOk P [] 58 none (usd noU (L_touch0.ids ++ rowIds rowBase L_touch0.shs)) C_touchL (R_touchL) := by
  refine loop_of hm (cx := [c_wat.gc, c_minus.gc, c_zadd.gc]) [] (xl := X_touchL) (α := Unit × Int × Unit × Int × Int × Unit × List Int × Int × Int × Int × Int × Int × List V × List Src × List V × Int × Int × Int × List V × List Src × List V × Int × Int × Int × List V × Unit) (fun x => x) (fun (_, i, _, j, r, _, l, n, m, _) => (n - m).toNat) (fun _ => rfl) (by kernel_rfl) (by kernel_rfl) ?_ (by kernel_rfl) trivial ?_
  · intro e L' h
    unfold X_touchL at h
    split at h <;> cases h <;> kernel_rfl
  · rintro ⟨⟨⟩, i, ⟨⟩, j, r, ⟨⟩, l, n, m, x1, y1, z1, q1, l1, j1, x2, y2, z2, q2, l2, j2, u, v, w, s, ⟨⟩⟩ hinv Q hQ
    refine hold_of_eq (B_touchL i j r l n m x1 y1 z1 q1 l1 j1 x2 y2 z2 q2 l2 j2 u v w s) ?_

    obtain ⟨rfl, h0, h1, h2, h3, h4, h5⟩ := hinv
    rw [W_id (n := m + 1) (by omega) (by omega)]
    unfold O_touchL at hQ
    dsimp only at hQ
    obtain ⟨a1, a2, a3⟩ := h4
    obtain ⟨b1, b2, b3⟩ := h5
    refine ⟨fun hi => ?_, fun hi => ?_⟩
    · simp only [decide_eq_true_eq] at hi
      have hm : ((l.length : Int) - (m + 1)).toNat < ((l.length : Int) - m).toNat := by omega
      rw [drop_step (0 : Int) h0 hi, gens_cons] at hQ
      have hf := filter1_length (tGen l1 i l2 j (l.getD m.toNat 0))
      refine ⟨⟨h0, hi⟩, ⟨by omega, a2, fun s hs => by have := a3 s hs; omega⟩, ⟨by omega, b2, fun s hs => by have := b3 s hs; omega⟩, ⟨by simp only [List.length_cons, List.length_nil]; omega, by omega⟩, ⟨⟨rfl, by omega, by omega, h2, ?_, ⟨a1, a2, a3⟩, ⟨b1, b2, b3⟩⟩, hm⟩, hQ⟩
      rw [List.length_append]
      have := hf
      unfold tGen at this
      omega
    · simp only [decide_eq_false_iff_not] at hi
      rw [drop_end hi, gens_nil] at hQ
      exact hQ

def tSides (la : List Src) (i : Int) (lb : List Src) (j r : Int) : List V := gens (tGen la i lb j) [] (idsS la lb) ++ (boxV r).filter nzB
def touchW (la : List Src) (ja : List V) (i : Int) (lb : List Src) (jb : List V) (j r : Int) : Bool := !emptyS (vsub (ja.getD i.toNat (0, 0, 0)) (jb.getD j.toNat (0, 0, 0))) (tSides la i lb j r)
theorem gens_length (f : Int → V) (s : List V) (l : List Int) : (gens f s l).length ≤ s.length + l.length := by
  unfold gens
  rw [List.length_append]
  have := List.length_filter_le nzB (l.map f)
  rw [List.length_map] at this
  omega
theorem idsS_length (a b : List Src) : (idsS a b).length ≤ a.length + b.length := by
  have := addId_length (a ++ b) []
  rw [List.length_append] at this
  unfold idsS
  simpa using this
def L_touch : Lay := { slots := [(0, .ptr 1 0), (1, .val tI), (2, .ptr 2 0), (3, .val tI), (4, .val tI)], boxes := [(1, bWell), (2, bWell)] }
theorem T_touch (i j r : Int) (x1 y1 z1 : Int) (q1 : List V) (l1 : List Src) (j1 : List V) (x2 y2 z2 : Int) (q2 : List V) (l2 : List Src) (j2 : List V) : mTree (P := P) [c_minus.gc, c_ids.gc, c_zbox.gc, c_zempty.gc] (lpOf [(0, R_touchL)]) Try.f117 L_touch true ((), i, (), j, r, x1, y1, z1, q1, l1, j1, x2, y2, z2, q2, l2, j2, ()) =
  Tree.need ((0 : Int) ≤ i ∧ i < (↑(List.length j1) : Int)) (Tree.need ((0 : Int) ≤ j ∧ j < (↑(List.length j2) : Int)) (Tree.need (List.length l1 ≤ (1000 : Nat) ∧ List.length l2 ≤ (1000 : Nat)) (Tree.need (inv_touchL ((), i, (), j, r, (), idsS l1 l2, (↑(List.length (idsS l1 l2)) : Int), (0 : Int), x1, y1, z1, q1, l1, j1, x2, y2, z2, q2, l2, j2, (vsub (List.getD j1 (Int.toNat i) ((0 : Int), (0 : Int), (0 : Int))) (List.getD j2 (Int.toNat j) ((0 : Int), (0 : Int), (0 : Int)))).fst, (vsub (List.getD j1 (Int.toNat i) ((0 : Int), (0 : Int), (0 : Int))) (List.getD j2 (Int.toNat j) ((0 : Int), (0 : Int), (0 : Int)))).snd.fst, (vsub (List.getD j1 (Int.toNat i) ((0 : Int), (0 : Int), (0 : Int))) (List.getD j2 (Int.toNat j) ((0 : Int), (0 : Int), (0 : Int)))).snd.snd, [], ())) (Tree.need ((↑(List.length (gens (tGen l1 i l2 j) [] (List.drop (Int.toNat (0 : Int)) (idsS l1 l2)))) : Int) ≤ (10000 : Int)) (Tree.need ((↑(List.length (gens (tGen l1 i l2 j) [] (List.drop (Int.toNat (0 : Int)) (idsS l1 l2)) ++ List.filter nzB (boxV r))) : Int) < (2 : Int) ^ (62 : Nat)) (Tree.leaf { res := SV.bool !emptyS (vsub (List.getD j1 (Int.toNat i) ((0 : Int), (0 : Int), (0 : Int))) (List.getD j2 (Int.toNat j) ((0 : Int), (0 : Int), (0 : Int)))) (gens (tGen l1 i l2 j) [] (List.drop (Int.toNat (0 : Int)) (idsS l1 l2)) ++ List.filter nzB (boxV r)), boxes := [[SV.int IntKind.i64 x1, SV.int IntKind.i64 y1, SV.int IntKind.i64 z1, SV.sl tV q1, SV.sl tSrc l1, SV.sl tV j1], [SV.int IntKind.i64 x2, SV.int IntKind.i64 y2, SV.int IntKind.i64 z2, SV.sl tV q2, SV.sl tSrc l2, SV.sl tV j2]] })))))) := by kernel_rfl

def c_touch : MC P := MC.of (α := Unit × Int × Unit × Int × Int × Int × Int × Int × List V × List Src × List V × Int × Int × Int × List V × List Src × List V × Unit) 117 L_touch (fun x => x) (fun x => x) (fun _ => rfl)
  (fun (_, i, _, j, r, x1, y1, z1, q1, l1, j1, x2, y2, z2, q2, l2, j2, _) => some (preAt l1 i ∧ preAt l2 j ∧ i < j1.length ∧ j < j2.length))
  (fun (_, i, _, j, r, x1, y1, z1, q1, l1, j1, x2, y2, z2, q2, l2, j2, _) => ⟨.bool (touchW l1 j1 i l2 j2 j r), [[.int .i64 x1, .int .i64 y1, .int .i64 z1, .sl tV q1, .sl tSrc l1, .sl tV j1], [.int .i64 x2, .int .i64 y2, .int .i64 z2, .sl tV q2, .sl tSrc l2, .sl tV j2]], []⟩) (by kernel_rfl) (by kernel_rfl) (by kernel_rfl) (by
    rintro ⟨⟨⟩, i, ⟨⟩, j, r, x1, y1, z1, q1, l1, j1, x2, y2, z2, q2, l2, j2, ⟨⟩⟩ hp
    refine m_of hm (own := true) (by kernel_rfl) (by kernel_rfl) (by kernel_rfl) (T_touch i j r x1 y1 z1 q1 l1 j1 x2 y2 z2 q2 l2 j2) ⟨K_touchL, trivial⟩ ?_

    obtain ⟨⟨a1, a2, a3⟩, ⟨b1, b2, b3⟩, h1, h2⟩ : preAt l1 i ∧ preAt l2 j ∧ i < j1.length ∧ j < j2.length := hp
    have hl := idsS_length l1 l2
    have hg := gens_length (tGen l1 i l2 j) [] (idsS l1 l2)
    have hb := List.length_filter_le nzB (boxV r)
    have hb3 : (boxV r).length = 3 := rfl
    simp only [List.length_nil] at hg
    rw [Int.toNat_zero, List.drop_zero]
    refine ⟨⟨a2, h1⟩, ⟨b2, h2⟩, ⟨by omega, by omega⟩, ⟨rfl, by omega, by omega, by omega, by simp only [List.length_nil]; omega, ⟨a1, a2, a3⟩, ⟨b1, b2, b3⟩⟩, by omega, ?_, rfl⟩
    rw [List.length_append]
    omega)

/-! ### Two legs -/
def sGen (la : List Src) (i : Int) (lb : List Src) (j : Int) (k : Int) : V := vsub (midS la k i) (midS lb k j)
def perG (i : Int) (s : List V) (l : List Src) : List V := s ++ (l.map fun x => x.2.getD i.toNat (0, 0, 0)).filter nzB
theorem perG_nil (i : Int) (s : List V) : perG i s [] = s := by simp [perG]
theorem perG_cons (i : Int) (s : List V) (x : Src) (l : List Src) : perG i s (x :: l) = perG i (s ++ [x.2.getD i.toNat (0, 0, 0)].filter nzB) l := by
  unfold perG
  rw [List.map_cons, List.append_assoc, ← List.filter_append]; rfl
theorem perG_length (i : Int) (s : List V) (l : List Src) : (perG i s l).length ≤ s.length + l.length := by
  unfold perG
  rw [List.length_append]
  have := List.length_filter_le nzB (l.map fun x => x.2.getD i.toNat (0, 0, 0))
  rw [List.length_map] at this
  omega
def preMid (l : List Src) (i : Int) : Prop := (l.length : Int) ≤ 100 ∧ 0 ≤ i ∧ i ≤ 1000 ∧ ∀ s ∈ l, i + 1 ≤ s.2.length ∧ (s.2.length : Int) ≤ 1000
def L_separate0 : Lay := { slots := [(0, .ptr 1 0), (1, .val tI), (2, .ptr 2 0), (3, .val tI), (4, .val tI), (13, .ptr 59127 0), (66, .val tIs), (67, .val tI), (68, .val tI)], boxes := [(1, bWell), (2, bWell), (59127, bZ)] }
def L_separate0_0 : Lay := { slots := [(0, .ptr 1 0), (1, .val tI), (2, .ptr 2 0), (3, .val tI), (4, .val tI), (13, .ptr 59127 0)], boxes := [(1, bWell), (2, bWell), (59127, bZ)] }
def X_separate0 : Exit → Option Lay
  | .exit 0 => some L_separate0_0
  | _ => none
abbrev C_separate0 : Code := loopC (bodyOf Try.f121) 0
theorem B_separate0 (i j r : Int) (l : List Int) (n m : Int) (x1 y1 z1 : Int) (q1 : List V) (l1 : List Src) (j1 : List V) (x2 y2 z2 : Int) (q2 : List V) (l2 : List Src) (j2 : List V) (u v w : Int) (s : List V) : loopBodyA (P := P) [c_wmiddle.gc, c_minus.gc, c_zadd.gc] (lpOf []) [] 127 (usd noU (L_touch0.ids ++ rowIds rowBase L_touch0.shs)) (inner C_separate0) L_separate0 X_separate0 (α := Unit × Int × Unit × Int × Int × Unit × List Int × Int × Int × Int × Int × Int × List V × List Src × List V × Int × Int × Int × List V × List Src × List V × Int × Int × Int × List V × Unit) (fun x => x) (fun x => x) ((), i, (), j, r, (), l, n, m, x1, y1, z1, q1, l1, j1, x2, y2, z2, q2, l2, j2, u, v, w, s, ()) =
  Tree.cond (decide (m < n)) (Tree.need ((0 : Int) ≤ m ∧ m < (↑(List.length l) : Int)) (Tree.need ((↑(List.length l1) : Int) < (2 : Int) ^ (62 : Nat) ∧ (0 : Int) ≤ i ∧ i < (2 : Int) ^ (62 : Nat) ∧ ∀ (s : Src), s ∈ l1 → i + (1 : Int) ≤ (↑(List.length s.snd) : Int) ∧ (↑(List.length s.snd) : Int) < (2 : Int) ^ (62 : Nat)) (Tree.need ((↑(List.length l2) : Int) < (2 : Int) ^ (62 : Nat) ∧ (0 : Int) ≤ j ∧ j < (2 : Int) ^ (62 : Nat) ∧ ∀ (s : Src), s ∈ l2 → j + (1 : Int) ≤ (↑(List.length s.snd) : Int) ∧ (↑(List.length s.snd) : Int) < (2 : Int) ^ (62 : Nat)) (Tree.need ((↑(List.length [vsub (midS l1 (List.getD l (Int.toNat m) (0 : Int)) i) (midS l2 (List.getD l (Int.toNat m) (0 : Int)) j)]) : Int) ≤ (1000 : Int) ∧ (↑(List.length s) : Int) ≤ (10000 : Int)) (Tree.leaf (Sum.inl (PUnit.unit, i, PUnit.unit, j, r, PUnit.unit, l, n, IntKind.wrap IntKind.i64 (m + (1 : Int)), x1, y1, z1, q1, l1, j1, x2, y2, z2, q2, l2, j2, u, v, w, s ++ List.filter nzB [vsub (midS l1 (List.getD l (Int.toNat m) (0 : Int)) i) (midS l2 (List.getD l (Int.toNat m) (0 : Int)) j)], PUnit.unit))))))) (Tree.leaf (Sum.inr (Exit.exit (0 : Nat), Lay.st L_separate0_0 (usd noU (Lay.ids L_touch0 ++ rowIds rowBase (Lay.shs L_touch0))) (PUnit.unit, i, PUnit.unit, j, r, PUnit.unit, x1, y1, z1, q1, l1, j1, x2, y2, z2, q2, l2, j2, u, v, w, s, PUnit.unit)))) := by kernel_rfl

def inv_separate0 : Unit × Int × Unit × Int × Int × Unit × List Int × Int × Int × Int × Int × Int × List V × List Src × List V × Int × Int × Int × List V × List Src × List V × Int × Int × Int × List V × Unit → Prop := fun (_, i, _, j, r, _, l, n, m, x1, y1, z1, q1, l1, j1, x2, y2, z2, q2, l2, j2, u, v, w, s, _) => n = l.length ∧ 0 ≤ m ∧ m ≤ n ∧ l.length ≤ 1000 ∧ (s.length : Int) + (n - m) ≤ 10000 ∧ preMid l1 i ∧ preMid l2 j
def O_separate0 : Unit × Int × Unit × Int × Int × Unit × List Int × Int × Int × Int × Int × Int × List V × List Src × List V × Int × Int × Int × List V × List Src × List V × Int × Int × Int × List V × Unit → Tree (Exit × St) := fun (_, i, _, j, r, _, l, n, m, x1, y1, z1, q1, l1, j1, x2, y2, z2, q2, l2, j2, u, v, w, s, _) => .leaf (.exit 0, L_separate0_0.st (usd noU (L_touch0.ids ++ rowIds rowBase L_touch0.shs)) ((), i, (), j, r, (), x1, y1, z1, q1, l1, j1, x2, y2, z2, q2, l2, j2, u, v, w, gens (sGen l1 i l2 j) s (l.drop m.toNat), ()))
def R_separate0 : LRun := runOf 127 L_separate0 (fun x => x) (inv_separate0) (O_separate0)
theorem K_separate0 : LoopOk P [] 127 none (usd noU (L_touch0.ids ++ rowIds rowBase L_touch0.shs)) C_separate0 (R_separate0) := by
  refine loop_of hm (cx := [c_wmiddle.gc, c_minus.gc, c_zadd.gc]) [] (xl := X_separate0) (α := Unit × Int × Unit × Int × Int × Unit × List Int × Int × Int × Int × Int × Int × List V × List Src × List V × Int × Int × Int × List V × List Src × List V × Int × Int × Int × List V × Unit) (fun x => x) (fun (_, i, _, j, r, _, l, n, m, _) => (n - m).toNat) (fun _ => rfl) (by kernel_rfl) (by kernel_rfl) ?_ (by kernel_rfl) trivial ?_
  · intro e L' h
    unfold X_separate0 at h
    split at h <;> cases h <;> kernel_rfl
  · rintro ⟨⟨⟩, i, ⟨⟩, j, r, ⟨⟩, l, n, m, x1, y1, z1, q1, l1, j1, x2, y2, z2, q2, l2, j2, u, v, w, s, ⟨⟩⟩ hinv Q hQ
    refine hold_of_eq (B_separate0 i j r l n m x1 y1 z1 q1 l1 j1 x2 y2 z2 q2 l2 j2 u v w s) ?_

    obtain ⟨rfl, h0, h1, h2, h3, h4, h5⟩ := hinv
    rw [W_id (n := m + 1) (by omega) (by omega)]
    unfold O_separate0 at hQ
    dsimp only at hQ
    obtain ⟨a1, a2, a4, a3⟩ := h4
    obtain ⟨b1, b2, b4, b3⟩ := h5
    refine ⟨fun hi => ?_, fun hi => ?_⟩
    · simp only [decide_eq_true_eq] at hi
      have hm : ((l.length : Int) - (m + 1)).toNat < ((l.length : Int) - m).toNat := by omega
      rw [drop_step (0 : Int) h0 hi, gens_cons] at hQ
      have hf := filter1_length (sGen l1 i l2 j (l.getD m.toNat 0))
      refine ⟨⟨h0, hi⟩, ⟨by omega, a2, by omega, fun s hs => by have := a3 s hs; omega⟩, ⟨by omega, b2, by omega, fun s hs => by have := b3 s hs; omega⟩, ⟨by simp only [List.length_cons, List.length_nil]; omega, by omega⟩, ⟨⟨rfl, by omega, by omega, h2, ?_, ⟨a1, a2, a4, a3⟩, ⟨b1, b2, b4, b3⟩⟩, hm⟩, hQ⟩
      rw [List.length_append]
      have := hf
      unfold sGen at this
      omega
    · simp only [decide_eq_false_iff_not] at hi
      rw [drop_end hi, gens_nil] at hQ
      exact hQ

def L_separate2 : Lay := { slots := [(1, .val tI), (2, .ptr 2 0), (3, .val tI), (4, .val tI), (13, .ptr 59127 0), (88, .val tSrcs), (89, .val tI), (90, .val tI)], boxes := [(1, bWell), (2, bWell), (59127, bZ)] }
def L_separate2_0 : Lay := { slots := [(2, .ptr 2 0), (3, .val tI), (4, .val tI), (13, .ptr 59127 0)], boxes := [(1, bWell), (2, bWell), (59127, bZ)] }
def X_separate2 : Exit → Option Lay
  | .exit 2 => some L_separate2_0
  | _ => none
abbrev C_separate2 : Code := loopC (bodyOf Try.f121) 2
theorem B_separate2 (i j r : Int) (l : List Src) (n m : Int) (x1 y1 z1 : Int) (q1 : List V) (l1 : List Src) (j1 : List V) (x2 y2 z2 : Int) (q2 : List V) (l2 : List Src) (j2 : List V) (u v w : Int) (s : List V) : loopBodyA (P := P) [c_zadd.gc] (lpOf []) [] 127 (usd noU (L_touch0.ids ++ rowIds rowBase L_touch0.shs)) (inner C_separate2) L_separate2 X_separate2 (α := Int × Unit × Int × Int × Unit × List Src × Int × Int × Int × Int × Int × List V × List Src × List V × Int × Int × Int × List V × List Src × List V × Int × Int × Int × List V × Unit) (fun x => x) (fun x => x) (i, (), j, r, (), l, n, m, x1, y1, z1, q1, l1, j1, x2, y2, z2, q2, l2, j2, u, v, w, s, ()) =
  Tree.cond (decide (m < n)) (Tree.need ((0 : Int) ≤ m ∧ m < (↑(List.length l) : Int)) (Tree.need ((0 : Int) ≤ i ∧ i < (↑(List.length (List.getD l (Int.toNat m) ((0 : Int), [])).snd) : Int)) (Tree.need ((↑(List.length [List.getD (List.getD l (Int.toNat m) ((0 : Int), [])).snd (Int.toNat i) ((0 : Int), (0 : Int), (0 : Int))]) : Int) ≤ (1000 : Int) ∧ (↑(List.length s) : Int) ≤ (10000 : Int)) (Tree.leaf (Sum.inl (i, PUnit.unit, j, r, PUnit.unit, l, n, IntKind.wrap IntKind.i64 (m + (1 : Int)), x1, y1, z1, q1, l1, j1, x2, y2, z2, q2, l2, j2, u, v, w, s ++ List.filter nzB [List.getD (List.getD l (Int.toNat m) ((0 : Int), [])).snd (Int.toNat i) ((0 : Int), (0 : Int), (0 : Int))], PUnit.unit)))))) (Tree.leaf (Sum.inr (Exit.exit (2 : Nat), Lay.st L_separate2_0 (usd noU (Lay.ids L_touch0 ++ rowIds rowBase (Lay.shs L_touch0))) (PUnit.unit, j, r, PUnit.unit, x1, y1, z1, q1, l1, j1, x2, y2, z2, q2, l2, j2, u, v, w, s, PUnit.unit)))) := by kernel_rfl

def inv_separate2 : Int × Unit × Int × Int × Unit × List Src × Int × Int × Int × Int × Int × List V × List Src × List V × Int × Int × Int × List V × List Src × List V × Int × Int × Int × List V × Unit → Prop := fun (i, _, j, r, _, l, n, m, x1, y1, z1, q1, l1, j1, x2, y2, z2, q2, l2, j2, u, v, w, s, _) => n = l.length ∧ 0 ≤ m ∧ m ≤ n ∧ l.length ≤ 1000 ∧ (s.length : Int) + (n - m) ≤ 10000 ∧ preMid l i
def O_separate2 : Int × Unit × Int × Int × Unit × List Src × Int × Int × Int × Int × Int × List V × List Src × List V × Int × Int × Int × List V × List Src × List V × Int × Int × Int × List V × Unit → Tree (Exit × St) := fun (i, _, j, r, _, l, n, m, x1, y1, z1, q1, l1, j1, x2, y2, z2, q2, l2, j2, u, v, w, s, _) => .leaf (.exit 2, L_separate2_0.st (usd noU (L_touch0.ids ++ rowIds rowBase L_touch0.shs)) ((), j, r, (), x1, y1, z1, q1, l1, j1, x2, y2, z2, q2, l2, j2, u, v, w, perG i s (l.drop m.toNat), ()))
def R_separate2 : LRun := runOf 127 L_separate2 (fun x => x) (inv_separate2) (O_separate2)
theorem K_separate2 : LoopOk P [] 127 none (usd noU (L_touch0.ids ++ rowIds rowBase L_touch0.shs)) C_separate2 (R_separate2) := by
  refine loop_of hm (cx := [c_zadd.gc]) [] (xl := X_separate2) (α := Int × Unit × Int × Int × Unit × List Src × Int × Int × Int × Int × Int × List V × List Src × List V × Int × Int × Int × List V × List Src × List V × Int × Int × Int × List V × Unit) (fun x => x) (fun (i, _, j, r, _, l, n, m, _) => (n - m).toNat) (fun _ => rfl) (by kernel_rfl) (by kernel_rfl) ?_ (by kernel_rfl) trivial ?_
  · intro e L' h
    unfold X_separate2 at h
    split at h <;> cases h <;> kernel_rfl
  · rintro ⟨i, ⟨⟩, j, r, ⟨⟩, l, n, m, x1, y1, z1, q1, l1, j1, x2, y2, z2, q2, l2, j2, u, v, w, s, ⟨⟩⟩ hinv Q hQ
    refine hold_of_eq (B_separate2 i j r l n m x1 y1 z1 q1 l1 j1 x2 y2 z2 q2 l2 j2 u v w s) ?_

    obtain ⟨rfl, h0, h1, h2, h3, h4⟩ := hinv
    rw [W_id (n := m + 1) (by omega) (by omega)]
    unfold O_separate2 at hQ
    dsimp only at hQ
    obtain ⟨a1, a2, a4, a3⟩ := h4
    refine ⟨fun hi => ?_, fun hi => ?_⟩
    · simp only [decide_eq_true_eq] at hi
      have hm : ((l.length : Int) - (m + 1)).toNat < ((l.length : Int) - m).toNat := by omega
      have hs := a3 _ (getD_mem (d := ((0 : Int), [])) (show m.toNat < l.length by omega))
      rw [drop_step ((0 : Int), []) h0 hi, perG_cons] at hQ
      have hf := filter1_length ((l.getD m.toNat ((0 : Int), [])).2.getD i.toNat (0, 0, 0))
      refine ⟨⟨h0, hi⟩, ⟨a2, by omega⟩, ⟨by simp only [List.length_cons, List.length_nil]; omega, by omega⟩, ⟨⟨rfl, by omega, by omega, h2, ?_, ⟨a1, a2, a4, a3⟩⟩, hm⟩, hQ⟩
      rw [List.length_append]
      omega
    · simp only [decide_eq_false_iff_not] at hi
      rw [drop_end hi, perG_nil] at hQ
      exact hQ

def L_separate4 : Lay := { slots := [(3, .val tI), (4, .val tI), (13, .ptr 59127 0), (106, .val tSrcs), (107, .val tI), (108, .val tI)], boxes := [(1, bWell), (2, bWell), (59127, bZ)] }
def L_separate4_0 : Lay := { slots := [(4, .val tI), (13, .ptr 59127 0)], boxes := [(1, bWell), (2, bWell), (59127, bZ)] }
def X_separate4 : Exit → Option Lay
  | .exit 4 => some L_separate4_0
  | _ => none
abbrev C_separate4 : Code := loopC (bodyOf Try.f121) 4
theorem B_separate4 (j r : Int) (l : List Src) (n m : Int) (x1 y1 z1 : Int) (q1 : List V) (l1 : List Src) (j1 : List V) (x2 y2 z2 : Int) (q2 : List V) (l2 : List Src) (j2 : List V) (u v w : Int) (s : List V) : loopBodyA (P := P) [c_zadd.gc] (lpOf []) [] 127 (usd noU (L_touch0.ids ++ rowIds rowBase L_touch0.shs)) (inner C_separate4) L_separate4 X_separate4 (α := Int × Int × Unit × List Src × Int × Int × Int × Int × Int × List V × List Src × List V × Int × Int × Int × List V × List Src × List V × Int × Int × Int × List V × Unit) (fun x => x) (fun x => x) (j, r, (), l, n, m, x1, y1, z1, q1, l1, j1, x2, y2, z2, q2, l2, j2, u, v, w, s, ()) =
  Tree.cond (decide (m < n)) (Tree.need ((0 : Int) ≤ m ∧ m < (↑(List.length l) : Int)) (Tree.need ((0 : Int) ≤ j ∧ j < (↑(List.length (List.getD l (Int.toNat m) ((0 : Int), [])).snd) : Int)) (Tree.need ((↑(List.length [List.getD (List.getD l (Int.toNat m) ((0 : Int), [])).snd (Int.toNat j) ((0 : Int), (0 : Int), (0 : Int))]) : Int) ≤ (1000 : Int) ∧ (↑(List.length s) : Int) ≤ (10000 : Int)) (Tree.leaf (Sum.inl (j, r, PUnit.unit, l, n, IntKind.wrap IntKind.i64 (m + (1 : Int)), x1, y1, z1, q1, l1, j1, x2, y2, z2, q2, l2, j2, u, v, w, s ++ List.filter nzB [List.getD (List.getD l (Int.toNat m) ((0 : Int), [])).snd (Int.toNat j) ((0 : Int), (0 : Int), (0 : Int))], PUnit.unit)))))) (Tree.leaf (Sum.inr (Exit.exit (4 : Nat), Lay.st L_separate4_0 (usd noU (Lay.ids L_touch0 ++ rowIds rowBase (Lay.shs L_touch0))) (r, PUnit.unit, x1, y1, z1, q1, l1, j1, x2, y2, z2, q2, l2, j2, u, v, w, s, PUnit.unit)))) := by kernel_rfl

def inv_separate4 : Int × Int × Unit × List Src × Int × Int × Int × Int × Int × List V × List Src × List V × Int × Int × Int × List V × List Src × List V × Int × Int × Int × List V × Unit → Prop := fun (j, r, _, l, n, m, x1, y1, z1, q1, l1, j1, x2, y2, z2, q2, l2, j2, u, v, w, s, _) => n = l.length ∧ 0 ≤ m ∧ m ≤ n ∧ l.length ≤ 1000 ∧ (s.length : Int) + (n - m) ≤ 10000 ∧ preMid l j
def O_separate4 : Int × Int × Unit × List Src × Int × Int × Int × Int × Int × List V × List Src × List V × Int × Int × Int × List V × List Src × List V × Int × Int × Int × List V × Unit → Tree (Exit × St) := fun (j, r, _, l, n, m, x1, y1, z1, q1, l1, j1, x2, y2, z2, q2, l2, j2, u, v, w, s, _) => .leaf (.exit 4, L_separate4_0.st (usd noU (L_touch0.ids ++ rowIds rowBase L_touch0.shs)) (r, (), x1, y1, z1, q1, l1, j1, x2, y2, z2, q2, l2, j2, u, v, w, perG j s (l.drop m.toNat), ()))
def R_separate4 : LRun := runOf 127 L_separate4 (fun x => x) (inv_separate4) (O_separate4)
theorem K_separate4 : LoopOk P [] 127 none (usd noU (L_touch0.ids ++ rowIds rowBase L_touch0.shs)) C_separate4 (R_separate4) := by
  refine loop_of hm (cx := [c_zadd.gc]) [] (xl := X_separate4) (α := Int × Int × Unit × List Src × Int × Int × Int × Int × Int × List V × List Src × List V × Int × Int × Int × List V × List Src × List V × Int × Int × Int × List V × Unit) (fun x => x) (fun (j, r, _, l, n, m, _) => (n - m).toNat) (fun _ => rfl) (by kernel_rfl) (by kernel_rfl) ?_ (by kernel_rfl) trivial ?_
  · intro e L' h
    unfold X_separate4 at h
    split at h <;> cases h <;> kernel_rfl
  · rintro ⟨j, r, ⟨⟩, l, n, m, x1, y1, z1, q1, l1, j1, x2, y2, z2, q2, l2, j2, u, v, w, s, ⟨⟩⟩ hinv Q hQ
    refine hold_of_eq (B_separate4 j r l n m x1 y1 z1 q1 l1 j1 x2 y2 z2 q2 l2 j2 u v w s) ?_

    obtain ⟨rfl, h0, h1, h2, h3, h4⟩ := hinv
    rw [W_id (n := m + 1) (by omega) (by omega)]
    unfold O_separate4 at hQ
    dsimp only at hQ
    obtain ⟨a1, a2, a4, a3⟩ := h4
    refine ⟨fun hi => ?_, fun hi => ?_⟩
    · simp only [decide_eq_true_eq] at hi
      have hm : ((l.length : Int) - (m + 1)).toNat < ((l.length : Int) - m).toNat := by omega
      have hs := a3 _ (getD_mem (d := ((0 : Int), [])) (show m.toNat < l.length by omega))
      rw [drop_step ((0 : Int), []) h0 hi, perG_cons] at hQ
      have hf := filter1_length ((l.getD m.toNat ((0 : Int), [])).2.getD j.toNat (0, 0, 0))
      refine ⟨⟨h0, hi⟩, ⟨a2, by omega⟩, ⟨by simp only [List.length_cons, List.length_nil]; omega, by omega⟩, ⟨⟨rfl, by omega, by omega, h2, ?_, ⟨a1, a2, a4, a3⟩⟩, hm⟩, hQ⟩
      rw [List.length_append]
      omega
    · simp only [decide_eq_false_iff_not] at hi
      rw [drop_end hi, perG_nil] at hQ
      exact hQ

def sSides (qa : List V) (la : List Src) (i : Int) (qb : List V) (lb : List Src) (j r : Int) : List V :=
  perG j (perG i (gens (sGen la i lb j) ([qa.getD i.toNat (0, 0, 0), qb.getD j.toNat (0, 0, 0)].filter nzB) (idsS la lb)) la) lb ++ (boxV r).filter nzB
def sCentre (qa ja : List V) (i : Int) (qb jb : List V) (j : Int) : V :=
  vsub (vadd (vmul (ja.getD i.toNat (0, 0, 0)) 2) (qa.getD i.toNat (0, 0, 0))) (vadd (vmul (jb.getD j.toNat (0, 0, 0)) 2) (qb.getD j.toNat (0, 0, 0)))
def separateW (qa : List V) (la : List Src) (ja : List V) (i : Int) (qb : List V) (lb : List Src) (jb : List V) (j r : Int) : Bool := emptyS (sCentre qa ja i qb jb j) (sSides qa la i qb lb j (IntKind.wrap IntKind.i64 (2 * r)))
def L_separate : Lay := { slots := [(0, .ptr 1 0), (1, .val tI), (2, .ptr 2 0), (3, .val tI), (4, .val tI)], boxes := [(1, bWell), (2, bWell)] }
theorem T_separate (i j r : Int) (x1 y1 z1 : Int) (q1 : List V) (l1 : List Src) (j1 : List V) (x2 y2 z2 : Int) (q2 : List V) (l2 : List Src) (j2 : List V) : mTree (P := P) [c_minus.gc, c_plus.gc, c_times.gc, c_ids.gc, c_zadd.gc, c_zbox.gc, c_zempty.gc] (lpOf [(0, R_separate0), (2, R_separate2), (4, R_separate4)]) Try.f121 L_separate true ((), i, (), j, r, x1, y1, z1, q1, l1, j1, x2, y2, z2, q2, l2, j2, ()) =
  Tree.need ((0 : Int) ≤ i ∧ i < (↑(List.length q1) : Int))
  (Tree.need ((0 : Int) ≤ j ∧ j < (↑(List.length q2) : Int))
    (Tree.need ((0 : Int) ≤ i ∧ i < (↑(List.length j1) : Int))
      (Tree.need ((0 : Int) ≤ j ∧ j < (↑(List.length j2) : Int))
        (Tree.need ((↑(List.length [List.getD q1 (Int.toNat i) ((0 : Int), (0 : Int), (0 : Int)), List.getD q2 (Int.toNat j) ((0 : Int), (0 : Int), (0 : Int))]) : Int) ≤ (1000 : Int) ∧ (↑(0 : Nat) : Int) ≤ (10000 : Int))
          (Tree.need (List.length l1 ≤ (1000 : Nat) ∧ List.length l2 ≤ (1000 : Nat))
            (Tree.need (inv_separate0 ((), i, (), j, r, (), idsS l1 l2, (↑(List.length (idsS l1 l2)) : Int), (0 : Int), x1, y1, z1, q1, l1, j1, x2, y2, z2, q2, l2, j2, (vsub (vadd (vmul (List.getD j1 (Int.toNat i) ((0 : Int), (0 : Int), (0 : Int))) (2 : Int)) (List.getD q1 (Int.toNat i) ((0 : Int), (0 : Int), (0 : Int)))) (vadd (vmul (List.getD j2 (Int.toNat j) ((0 : Int), (0 : Int), (0 : Int))) (2 : Int)) (List.getD q2 (Int.toNat j) ((0 : Int), (0 : Int), (0 : Int))))).fst, (vsub (vadd (vmul (List.getD j1 (Int.toNat i) ((0 : Int), (0 : Int), (0 : Int))) (2 : Int)) (List.getD q1 (Int.toNat i) ((0 : Int), (0 : Int), (0 : Int)))) (vadd (vmul (List.getD j2 (Int.toNat j) ((0 : Int), (0 : Int), (0 : Int))) (2 : Int)) (List.getD q2 (Int.toNat j) ((0 : Int), (0 : Int), (0 : Int))))).snd.fst, (vsub (vadd (vmul (List.getD j1 (Int.toNat i) ((0 : Int), (0 : Int), (0 : Int))) (2 : Int)) (List.getD q1 (Int.toNat i) ((0 : Int), (0 : Int), (0 : Int)))) (vadd (vmul (List.getD j2 (Int.toNat j) ((0 : Int), (0 : Int), (0 : Int))) (2 : Int)) (List.getD q2 (Int.toNat j) ((0 : Int), (0 : Int), (0 : Int))))).snd.snd, List.filter nzB [List.getD q1 (Int.toNat i) ((0 : Int), (0 : Int), (0 : Int)), List.getD q2 (Int.toNat j) ((0 : Int), (0 : Int), (0 : Int))], ()))
              (Tree.need (inv_separate2 (i, (), j, r, (), l1, (↑(List.length l1) : Int), (0 : Int), x1, y1, z1, q1, l1, j1, x2, y2, z2, q2, l2, j2, (vsub (vadd (vmul (List.getD j1 (Int.toNat i) ((0 : Int), (0 : Int), (0 : Int))) (2 : Int)) (List.getD q1 (Int.toNat i) ((0 : Int), (0 : Int), (0 : Int)))) (vadd (vmul (List.getD j2 (Int.toNat j) ((0 : Int), (0 : Int), (0 : Int))) (2 : Int)) (List.getD q2 (Int.toNat j) ((0 : Int), (0 : Int), (0 : Int))))).fst, (vsub (vadd (vmul (List.getD j1 (Int.toNat i) ((0 : Int), (0 : Int), (0 : Int))) (2 : Int)) (List.getD q1 (Int.toNat i) ((0 : Int), (0 : Int), (0 : Int)))) (vadd (vmul (List.getD j2 (Int.toNat j) ((0 : Int), (0 : Int), (0 : Int))) (2 : Int)) (List.getD q2 (Int.toNat j) ((0 : Int), (0 : Int), (0 : Int))))).snd.fst, (vsub (vadd (vmul (List.getD j1 (Int.toNat i) ((0 : Int), (0 : Int), (0 : Int))) (2 : Int)) (List.getD q1 (Int.toNat i) ((0 : Int), (0 : Int), (0 : Int)))) (vadd (vmul (List.getD j2 (Int.toNat j) ((0 : Int), (0 : Int), (0 : Int))) (2 : Int)) (List.getD q2 (Int.toNat j) ((0 : Int), (0 : Int), (0 : Int))))).snd.snd, gens (sGen l1 i l2 j) (List.filter nzB [List.getD q1 (Int.toNat i) ((0 : Int), (0 : Int), (0 : Int)), List.getD q2 (Int.toNat j) ((0 : Int), (0 : Int), (0 : Int))]) (List.drop (Int.toNat (0 : Int)) (idsS l1 l2)), ()))
                (Tree.need (inv_separate4 (j, r, (), l2, (↑(List.length l2) : Int), (0 : Int), x1, y1, z1, q1, l1, j1, x2, y2, z2, q2, l2, j2, (vsub (vadd (vmul (List.getD j1 (Int.toNat i) ((0 : Int), (0 : Int), (0 : Int))) (2 : Int)) (List.getD q1 (Int.toNat i) ((0 : Int), (0 : Int), (0 : Int)))) (vadd (vmul (List.getD j2 (Int.toNat j) ((0 : Int), (0 : Int), (0 : Int))) (2 : Int)) (List.getD q2 (Int.toNat j) ((0 : Int), (0 : Int), (0 : Int))))).fst, (vsub (vadd (vmul (List.getD j1 (Int.toNat i) ((0 : Int), (0 : Int), (0 : Int))) (2 : Int)) (List.getD q1 (Int.toNat i) ((0 : Int), (0 : Int), (0 : Int)))) (vadd (vmul (List.getD j2 (Int.toNat j) ((0 : Int), (0 : Int), (0 : Int))) (2 : Int)) (List.getD q2 (Int.toNat j) ((0 : Int), (0 : Int), (0 : Int))))).snd.fst, (vsub (vadd (vmul (List.getD j1 (Int.toNat i) ((0 : Int), (0 : Int), (0 : Int))) (2 : Int)) (List.getD q1 (Int.toNat i) ((0 : Int), (0 : Int), (0 : Int)))) (vadd (vmul (List.getD j2 (Int.toNat j) ((0 : Int), (0 : Int), (0 : Int))) (2 : Int)) (List.getD q2 (Int.toNat j) ((0 : Int), (0 : Int), (0 : Int))))).snd.snd, perG i (gens (sGen l1 i l2 j) (List.filter nzB [List.getD q1 (Int.toNat i) ((0 : Int), (0 : Int), (0 : Int)), List.getD q2 (Int.toNat j) ((0 : Int), (0 : Int), (0 : Int))]) (List.drop (Int.toNat (0 : Int)) (idsS l1 l2))) (List.drop (Int.toNat (0 : Int)) l1), ())) (Tree.need ((↑(List.length (perG j (perG i (gens (sGen l1 i l2 j) (List.filter nzB [List.getD q1 (Int.toNat i) ((0 : Int), (0 : Int), (0 : Int)), List.getD q2 (Int.toNat j) ((0 : Int), (0 : Int), (0 : Int))]) (List.drop (Int.toNat (0 : Int)) (idsS l1 l2))) (List.drop (Int.toNat (0 : Int)) l1)) (List.drop (Int.toNat (0 : Int)) l2))) : Int) ≤ (10000 : Int)) (Tree.need ((↑(List.length (perG j (perG i (gens (sGen l1 i l2 j) (List.filter nzB [List.getD q1 (Int.toNat i) ((0 : Int), (0 : Int), (0 : Int)), List.getD q2 (Int.toNat j) ((0 : Int), (0 : Int), (0 : Int))]) (List.drop (Int.toNat (0 : Int)) (idsS l1 l2))) (List.drop (Int.toNat (0 : Int)) l1)) (List.drop (Int.toNat (0 : Int)) l2) ++ List.filter nzB (boxV (IntKind.wrap IntKind.i64 ((2 : Int) * r))))) : Int) < (2 : Int) ^ (62 : Nat)) (Tree.leaf { res := SV.bool (emptyS (vsub (vadd (vmul (List.getD j1 (Int.toNat i) ((0 : Int), (0 : Int), (0 : Int))) (2 : Int)) (List.getD q1 (Int.toNat i) ((0 : Int), (0 : Int), (0 : Int)))) (vadd (vmul (List.getD j2 (Int.toNat j) ((0 : Int), (0 : Int), (0 : Int))) (2 : Int)) (List.getD q2 (Int.toNat j) ((0 : Int), (0 : Int), (0 : Int))))) (perG j (perG i (gens (sGen l1 i l2 j) (List.filter nzB [List.getD q1 (Int.toNat i) ((0 : Int), (0 : Int), (0 : Int)), List.getD q2 (Int.toNat j) ((0 : Int), (0 : Int), (0 : Int))]) (List.drop (Int.toNat (0 : Int)) (idsS l1 l2))) (List.drop (Int.toNat (0 : Int)) l1)) (List.drop (Int.toNat (0 : Int)) l2) ++ List.filter nzB (boxV (IntKind.wrap IntKind.i64 ((2 : Int) * r))))), boxes := [[SV.int IntKind.i64 x1, SV.int IntKind.i64 y1, SV.int IntKind.i64 z1, SV.sl tV q1, SV.sl tSrc l1, SV.sl tV j1], [SV.int IntKind.i64 x2, SV.int IntKind.i64 y2, SV.int IntKind.i64 z2, SV.sl tV q2, SV.sl tSrc l2, SV.sl tV j2]] }))))))))))) := by kernel_rfl

def c_separate : MC P := MC.of (α := Unit × Int × Unit × Int × Int × Int × Int × Int × List V × List Src × List V × Int × Int × Int × List V × List Src × List V × Unit) 121 L_separate (fun x => x) (fun x => x) (fun _ => rfl)
  (fun (_, i, _, j, r, x1, y1, z1, q1, l1, j1, x2, y2, z2, q2, l2, j2, _) => some (preMid l1 i ∧ preMid l2 j ∧ i < j1.length ∧ j < j2.length ∧ i < q1.length ∧ j < q2.length))
  (fun (_, i, _, j, r, x1, y1, z1, q1, l1, j1, x2, y2, z2, q2, l2, j2, _) => ⟨.bool (separateW q1 l1 j1 i q2 l2 j2 j r), [[.int .i64 x1, .int .i64 y1, .int .i64 z1, .sl tV q1, .sl tSrc l1, .sl tV j1], [.int .i64 x2, .int .i64 y2, .int .i64 z2, .sl tV q2, .sl tSrc l2, .sl tV j2]], []⟩) (by kernel_rfl) (by kernel_rfl) (by kernel_rfl) (by
    rintro ⟨⟨⟩, i, ⟨⟩, j, r, x1, y1, z1, q1, l1, j1, x2, y2, z2, q2, l2, j2, ⟨⟩⟩ hp
    refine m_of hm (own := true) (by kernel_rfl) (by kernel_rfl) (by kernel_rfl) (T_separate i j r x1 y1 z1 q1 l1 j1 x2 y2 z2 q2 l2 j2) ⟨K_separate0, K_separate2, K_separate4, trivial⟩ ?_

    obtain ⟨⟨a1, a2, a4, a3⟩, ⟨b1, b2, b4, b3⟩, h1, h2, h3, h4⟩ : preMid l1 i ∧ preMid l2 j ∧ i < j1.length ∧ j < j2.length ∧ i < q1.length ∧ j < q2.length := hp
    have hl := idsS_length l1 l2
    have hf := List.length_filter_le nzB [q1.getD i.toNat (0, 0, 0), q2.getD j.toNat (0, 0, 0)]
    rw [show [q1.getD i.toNat (0, 0, 0), q2.getD j.toNat (0, 0, 0)].length = 2 from rfl] at hf
    simp only [Int.toNat_zero, List.drop_zero]
    generalize hF : [q1.getD i.toNat (0, 0, 0), q2.getD j.toNat (0, 0, 0)].filter nzB = F at hf
    have hg := gens_length (sGen l1 i l2 j) F (idsS l1 l2)
    have hg2 := perG_length i (gens (sGen l1 i l2 j) F (idsS l1 l2)) l1
    have hg3 := perG_length j (perG i (gens (sGen l1 i l2 j) F (idsS l1 l2)) l1) l2
    have hb := List.length_filter_le nzB (boxV (IntKind.wrap IntKind.i64 (2 * r)))
    have hb3 : (boxV (IntKind.wrap IntKind.i64 (2 * r))).length = 3 := rfl
    have hF' := hF
    refine ⟨⟨a2, h3⟩, ⟨b2, h4⟩, ⟨a2, h1⟩, ⟨b2, h2⟩, ⟨by simp only [List.length_cons, List.length_nil]; omega, by omega⟩, ⟨by omega, by omega⟩, ⟨rfl, by omega, by omega, by omega, ?_, ⟨a1, a2, a4, a3⟩, ⟨b1, b2, b4, b3⟩⟩, ⟨rfl, by omega, by omega, by omega, ?_, ⟨a1, a2, a4, a3⟩⟩, ⟨rfl, by omega, by omega, by omega, ?_, ⟨b1, b2, b4, b3⟩⟩, ?_, ?_, ?_⟩
    · omega
    · omega
    · omega
    · omega
    · rw [List.length_append]; omega
    · subst hF
      exact rfl)

/-! ### Valid wells -/
def fairS (p : Pth) (l : List Src) (p' : Pth) (l' : List Src) (r : Int) : Bool := decide (csS p l = 0 ∧ csS p' l' = 0 ∧ 1 ≤ r ∧ r ≤ 4000)
theorem T_fair (x y z : Int) (q : List V) (l : List Src) (x' y' z' : Int) (q' : List V) (l' : List Src) (r : Int) : fnTree (P := P) [c_CheckSources.gc] (lpOf []) Try.f116 (encL 0 [.agg tPath, .val tSrcs, .agg tPath, .val tSrcs, .val tI] (((x, y, z), q), l, ((x', y', z'), q'), l', r, ())) =
  Tree.cond (csS ((x, y, z), q) l == (0 : Int)) (Tree.cond (csS ((x', y', z'), q') l' == (0 : Int)) (Tree.cond (decide (r ≥ (1 : Int))) (Tree.leaf (SV.bool (decide (r ≤ (4000 : Int))))) (Tree.leaf (SV.bool false))) (Tree.leaf (SV.bool false))) (Tree.leaf (SV.bool false)) := by kernel_rfl

def c_fair : PC P := PC.of (α := Pth × List Src × Pth × List Src × Int × Unit) 116 [.agg tPath, .val tSrcs, .agg tPath, .val tSrcs, .val tI] (fun x => x) (fun x => x) (fun _ => rfl)
  (fun _ => none)
  (fun x => .bool (fairS x.1 x.2.1 x.2.2.1 x.2.2.2.1 x.2.2.2.2.1)) (by kernel_rfl) (by
    rintro ⟨⟨⟨x, y, z⟩, q⟩, l, ⟨⟨x', y', z'⟩, q'⟩, l', r, ⟨⟩⟩ hp
    refine fn_of hm (by kernel_rfl) (by kernel_rfl) (T_fair x y z q l x' y' z' q' l' r) trivial ?_

    show Tree.holds (fun s => s = SV.bool (fairS ((x, y, z), q) l ((x', y', z'), q') l' r)) _
    unfold fairS
    refine ⟨fun h1 => ⟨fun h2 => ⟨fun h3 => ?_, fun h3 => ?_⟩, fun h2 => ?_⟩, fun h1 => ?_⟩
    all_goals simp only [beq_iff_eq, beq_eq_false_iff_ne, ne_eq, decide_eq_true_eq, decide_eq_false_iff_not] at *
    · exact congrArg SV.bool (decide_eq_decide.2 ⟨fun h4 => ⟨h1, h2, h3, h4⟩, fun h4 => h4.2.2.2⟩)
    · exact congrArg SV.bool (decide_eq_false fun h4 => h3 h4.2.2.1).symm
    · exact congrArg SV.bool (decide_eq_false fun h4 => h2 h4.2.1).symm
    · exact congrArg SV.bool (decide_eq_false fun h4 => h1 h4.1).symm)

theorem fairS_iff {p : Pth} {l : List Src} {p' : Pth} {l' : List Src} {r : Int} : fairS p l p' l' r = true ↔ csS p l = 0 ∧ csS p' l' = 0 ∧ 1 ≤ r ∧ r ≤ 4000 := by
  unfold fairS; rw [decide_eq_true_eq]
def bothS (p : Pth) (l : List Src) (p' : Pth) (l' : List Src) : Int := if csS p l = 0 then csS p' l' else csS p l
theorem T_both (x y z : Int) (q : List V) (l : List Src) (x' y' z' : Int) (q' : List V) (l' : List Src) : fnTree (P := P) [c_CheckSources.gc] (lpOf []) Try.f123 (encL 0 [.agg tPath, .val tSrcs, .agg tPath, .val tSrcs] (((x, y, z), q), l, ((x', y', z'), q'), l', ())) =
  Tree.cond (csS ((x, y, z), q) l != (0 : Int)) (Tree.leaf (SV.int IntKind.i64 (csS ((x, y, z), q) l))) (Tree.leaf (SV.int IntKind.i64 (csS ((x', y', z'), q') l'))) := by kernel_rfl

def c_both : PC P := PC.of (α := Pth × List Src × Pth × List Src × Unit) 123 [.agg tPath, .val tSrcs, .agg tPath, .val tSrcs] (fun x => x) (fun x => x) (fun _ => rfl)
  (fun _ => none)
  (fun x => .int .i64 (bothS x.1 x.2.1 x.2.2.1 x.2.2.2.1)) (by kernel_rfl) (by
    rintro ⟨⟨⟨x, y, z⟩, q⟩, l, ⟨⟨x', y', z'⟩, q'⟩, l', ⟨⟩⟩ hp
    refine fn_of hm (by kernel_rfl) (by kernel_rfl) (T_both x y z q l x' y' z' q' l') trivial ?_

    show Tree.holds (fun s => s = SV.int .i64 (bothS ((x, y, z), q) l ((x', y', z'), q') l')) _
    unfold bothS
    refine ⟨fun h1 => ?_, fun h1 => ?_⟩
    · simp only [bne_iff_ne, ne_eq] at h1
      rw [if_neg h1]
      exact rfl
    · simp only [bne_eq_false_iff_eq] at h1
      rw [if_pos h1]
      exact rfl)

/-- What the functions on wells ask: joints and sources fit the legs. -/
def okWell (q : List V) (l : List Src) (j : List V) : Prop := q.length ≤ 20 ∧ l.length ≤ 4 ∧ j.length = q.length + 1 ∧ ∀ s ∈ l, s.2.length = q.length
theorem okWell_mid {q : List V} {l : List Src} {j : List V} (h : okWell q l j) {i : Int} (h0 : 0 ≤ i) (h1 : i < q.length) : preMid l i ∧ i < j.length := by
  obtain ⟨a, b, c, d⟩ := h
  exact ⟨⟨by omega, h0, by omega, fun s hs => by have := d s hs; omega⟩, by omega⟩
theorem okWell_at {q : List V} {l : List Src} {j : List V} (h : okWell q l j) {i : Int} (h0 : 0 ≤ i) (h1 : i < j.length) : preAt l i := by
  obtain ⟨a, b, c, d⟩ := h
  exact ⟨by omega, h0, fun s hs => by have := d s hs; omega⟩
theorem okWell_of {p : Pth} {l : List Src} (h : csS p l = 0) : okWell p.2 l (jointsS p) := by
  obtain ⟨h1, h2, h3⟩ := csS_zero h
  refine ⟨checkS_len h1, h2, ?_, h3⟩
  unfold jointsS
  rw [if_pos h1, jl_length]
theorem bothS_zero {p : Pth} {l : List Src} {p' : Pth} {l' : List Src} (h : bothS p l p' l' = 0) : csS p l = 0 ∧ csS p' l' = 0 := by
  unfold bothS at h
  split at h
  · rename_i h1; exact ⟨h1, h⟩
  · rename_i h1; exact absurd h h1

def touchesS (p : Pth) (l : List Src) (i : Int) (p' : Pth) (l' : List Src) (j r : Int) : Bool :=
  decide (fairS p l p' l' r = true ∧ 0 ≤ i ∧ i ≤ p.2.length ∧ 0 ≤ j ∧ j ≤ p'.2.length) && touchW l (jointsS p) i l' (jointsS p') j r
theorem T_Touches (x y z : Int) (q : List V) (l : List Src) (i : Int) (x' y' z' : Int) (q' : List V) (l' : List Src) (j r : Int) : fnTree (P := P) [c_fair.gc, c_joined.gc, c_wof.gc, c_touch.gc] (lpOf []) Try.f64 (encL 0 [.agg tPath, .val tSrcs, .val tI, .agg tPath, .val tSrcs, .val tI, .val tI] (((x, y, z), q), l, i, ((x', y', z'), q'), l', j, r, ())) =
  Tree.cond (fairS ((x, y, z), q) l ((x', y', z'), q') l' r) (Tree.cond (decide ((0 : Int) ≤ i ∧ i ≤ (↑(List.length q) : Int))) (Tree.cond (decide ((0 : Int) ≤ j ∧ j ≤ (↑(List.length q') : Int))) (Tree.need (preAt l i ∧ preAt l' j ∧ i < (↑(List.length (jointsS ((x, y, z), q))) : Int) ∧ j < (↑(List.length (jointsS ((x', y', z'), q'))) : Int)) (Tree.leaf (SV.bool (touchW l (jointsS ((x, y, z), q)) i l' (jointsS ((x', y', z'), q')) j r)))) (Tree.leaf (SV.bool false))) (Tree.leaf (SV.bool false))) (Tree.leaf (SV.bool false)) := by kernel_rfl

def c_Touches : PC P := PC.of (α := Pth × List Src × Int × Pth × List Src × Int × Int × Unit) 64 [.agg tPath, .val tSrcs, .val tI, .agg tPath, .val tSrcs, .val tI, .val tI] (fun x => x) (fun x => x) (fun _ => rfl)
  (fun _ => none)
  (fun x => .bool (touchesS x.1 x.2.1 x.2.2.1 x.2.2.2.1 x.2.2.2.2.1 x.2.2.2.2.2.1 x.2.2.2.2.2.2.1)) (by kernel_rfl) (by
    rintro ⟨⟨⟨x, y, z⟩, q⟩, l, i, ⟨⟨x', y', z'⟩, q'⟩, l', j, r, ⟨⟩⟩ hp
    refine fn_of hm (by kernel_rfl) (by kernel_rfl) (T_Touches x y z q l i x' y' z' q' l' j r) trivial ?_

    show Tree.holds (fun s => s = SV.bool (touchesS ((x, y, z), q) l i ((x', y', z'), q') l' j r)) _
    unfold touchesS
    refine ⟨fun h1 => ⟨fun h2 => ⟨fun h3 => ⟨?_, ?_⟩, fun h3 => ?_⟩, fun h2 => ?_⟩, fun h1 => ?_⟩
    all_goals simp only [decide_eq_true_eq, decide_eq_false_iff_not] at *
    · obtain ⟨f1, f2, _⟩ := fairS_iff.1 h1
      have w1 := okWell_of f1
      have w2 := okWell_of f2
      have e1 := w1.2.2.1
      have e2 := w2.2.2.1
      simp only [] at e1 e2
      exact ⟨okWell_at w1 h2.1 (by omega), okWell_at w2 h3.1 (by omega), by omega, by omega⟩
    · rw [decide_eq_true ⟨h1, h2.1, h2.2, h3.1, h3.2⟩, Bool.true_and]
      exact rfl
    · rw [decide_eq_false (fun h4 => h3 h4.2.2.2), Bool.false_and]
      exact rfl
    · rw [decide_eq_false (fun h4 => h2 ⟨h4.2.1, h4.2.2.1⟩), Bool.false_and]
      exact rfl
    · rw [decide_eq_false (fun h4 => Bool.noConfusion (h1.symm.trans h4.1)), Bool.false_and]
      exact rfl)

def separatesS (p : Pth) (l : List Src) (i : Int) (p' : Pth) (l' : List Src) (j r : Int) : Bool :=
  decide (fairS p l p' l' r = true ∧ 0 ≤ i ∧ i < p.2.length ∧ 0 ≤ j ∧ j < p'.2.length) && separateW p.2 l (jointsS p) i p'.2 l' (jointsS p') j r
theorem T_Separate (x y z : Int) (q : List V) (l : List Src) (i : Int) (x' y' z' : Int) (q' : List V) (l' : List Src) (j r : Int) : fnTree (P := P) [c_fair.gc, c_wof.gc, c_separate.gc] (lpOf []) Try.f66 (encL 0 [.agg tPath, .val tSrcs, .val tI, .agg tPath, .val tSrcs, .val tI, .val tI] (((x, y, z), q), l, i, ((x', y', z'), q'), l', j, r, ())) =
  Tree.cond (fairS ((x, y, z), q) l ((x', y', z'), q') l' r) (Tree.cond (decide (i ≥ (0 : Int))) (Tree.cond (decide (i < (↑(List.length q) : Int))) (Tree.cond (decide (j ≥ (0 : Int))) (Tree.cond (decide (j < (↑(List.length q') : Int))) (Tree.need (preMid l i ∧ preMid l' j ∧ i < (↑(List.length (jointsS ((x, y, z), q))) : Int) ∧ j < (↑(List.length (jointsS ((x', y', z'), q'))) : Int) ∧ i < (↑(List.length q) : Int) ∧ j < (↑(List.length q') : Int)) (Tree.leaf (SV.bool (separateW q l (jointsS ((x, y, z), q)) i q' l' (jointsS ((x', y', z'), q')) j r)))) (Tree.leaf (SV.bool false))) (Tree.leaf (SV.bool false))) (Tree.leaf (SV.bool false))) (Tree.leaf (SV.bool false))) (Tree.leaf (SV.bool false)) := by kernel_rfl

def c_Separate : PC P := PC.of (α := Pth × List Src × Int × Pth × List Src × Int × Int × Unit) 66 [.agg tPath, .val tSrcs, .val tI, .agg tPath, .val tSrcs, .val tI, .val tI] (fun x => x) (fun x => x) (fun _ => rfl)
  (fun _ => none)
  (fun x => .bool (separatesS x.1 x.2.1 x.2.2.1 x.2.2.2.1 x.2.2.2.2.1 x.2.2.2.2.2.1 x.2.2.2.2.2.2.1)) (by kernel_rfl) (by
    rintro ⟨⟨⟨x, y, z⟩, q⟩, l, i, ⟨⟨x', y', z'⟩, q'⟩, l', j, r, ⟨⟩⟩ hp
    refine fn_of hm (by kernel_rfl) (by kernel_rfl) (T_Separate x y z q l i x' y' z' q' l' j r) trivial ?_

    show Tree.holds (fun s => s = SV.bool (separatesS ((x, y, z), q) l i ((x', y', z'), q') l' j r)) _
    unfold separatesS
    refine ⟨fun h1 => ⟨fun h2 => ⟨fun h3 => ⟨fun h4 => ⟨fun h5 => ⟨?_, ?_⟩, fun h5 => ?_⟩, fun h4 => ?_⟩, fun h3 => ?_⟩, fun h2 => ?_⟩, fun h1 => ?_⟩
    all_goals simp only [ge_iff_le, decide_eq_true_eq, decide_eq_false_iff_not] at *
    · obtain ⟨f1, f2, _⟩ := fairS_iff.1 h1
      have w1 := okWell_mid (okWell_of f1) h2 h3
      have w2 := okWell_mid (okWell_of f2) h4 h5
      exact ⟨w1.1, w2.1, w1.2, w2.2, h3, h5⟩
    · rw [decide_eq_true ⟨h1, h2, h3, h4, h5⟩, Bool.true_and]
      exact rfl
    · rw [decide_eq_false (fun h6 => h5 h6.2.2.2.2), Bool.false_and]
      exact rfl
    · rw [decide_eq_false (fun h6 => h4 h6.2.2.2.1), Bool.false_and]
      exact rfl
    · rw [decide_eq_false (fun h6 => h3 h6.2.2.1), Bool.false_and]
      exact rfl
    · rw [decide_eq_false (fun h6 => h2 h6.2.1), Bool.false_and]
      exact rfl
    · rw [decide_eq_false (fun h6 => Bool.noConfusion (h1.symm.trans h6.1)), Bool.false_and]
      exact rfl)

/-! ### All legs -/
/-- From a number on, so many. -/
def allN (p : Int → Bool) : Int → Nat → Bool
  | _, 0 => true
  | i, k + 1 => p i && allN p (i + 1) k
theorem allN_step {p : Int → Bool} {i n : Int} (h : i < n) : allN p i (n - i).toNat = (p i && allN p (i + 1) (n - (i + 1)).toNat) := by
  rw [show (n - i).toNat = (n - (i + 1)).toNat + 1 by omega]; rfl
theorem allN_end {p : Int → Bool} {i n : Int} (h : ¬ i < n) : allN p i (n - i).toNat = true := by
  rw [show (n - i).toNat = 0 by omega]; rfl
def anyN (p : Int → Bool) : Int → Nat → Bool
  | _, 0 => false
  | i, k + 1 => p i || anyN p (i + 1) k
theorem anyN_step {p : Int → Bool} {i n : Int} (h : i < n) : anyN p i (n - i).toNat = (p i || anyN p (i + 1) (n - (i + 1)).toNat) := by
  rw [show (n - i).toNat = (n - (i + 1)).toNat + 1 by omega]; rfl
theorem anyN_end {p : Int → Bool} {i n : Int} (h : ¬ i < n) : anyN p i (n - i).toNat = false := by
  rw [show (n - i).toNat = 0 by omega]; rfl
def L_clear0 : Lay := { slots := [(0, .ptr 1 0), (1, .ptr 2 0), (2, .val tI)], boxes := [(1, bWell), (2, bWell)] }
def L_clearI : Lay := { slots := [(0, .ptr 1 0), (1, .ptr 2 0), (2, .val tI), (7, .val tI), (14, .val tI), (15, .val tI), (23, .val tI), (24, .val tI)], boxes := [(1, bWell), (2, bWell)] }
def L_clearI_0 : Lay := { slots := [(0, .ptr 1 0), (1, .ptr 2 0), (2, .val tI), (14, .val tI), (15, .val tI)], boxes := [(1, bWell), (2, bWell)] }
def L_clearI_1 : Lay := { slots := [(6, .val .bool)], boxes := [(1, bWell), (2, bWell)] }
def X_clearI : Exit → Option Lay
  | .exit 2 => some L_clearI_0
  | .ret => some L_clearI_1
  | _ => none
abbrev C_clearI : Code := loopC (inner (loopC (bodyOf Try.f124) 0)) 2
theorem B_clearI (r i n1 i1 n j : Int) (x1 y1 z1 : Int) (q1 : List V) (l1 : List Src) (j1 : List V) (x2 y2 z2 : Int) (q2 : List V) (l2 : List Src) (j2 : List V) : loopBodyA (P := P) [c_separate.gc] (lpOf []) [] 36 (usd noU (L_clear0.ids ++ rowIds rowBase L_clear0.shs)) (inner C_clearI) L_clearI X_clearI (α := Unit × Unit × Int × Int × Int × Int × Int × Int × Int × Int × Int × List V × List Src × List V × Int × Int × Int × List V × List Src × List V × Unit) (fun x => x) (fun x => x) ((), (), r, i, n1, i1, n, j, x1, y1, z1, q1, l1, j1, x2, y2, z2, q2, l2, j2, ()) =
  Tree.cond (decide (j < n)) (Tree.need (preMid l1 i ∧ preMid l2 j ∧ i < (↑(List.length j1) : Int) ∧ j < (↑(List.length j2) : Int) ∧ i < (↑(List.length q1) : Int) ∧ j < (↑(List.length q2) : Int)) (Tree.cond (!separateW q1 l1 j1 i q2 l2 j2 j r) (Tree.leaf (Sum.inr (Exit.ret, Lay.st L_clearI_1 (usd noU (Lay.ids L_clear0 ++ rowIds rowBase (Lay.shs L_clear0))) (false, x1, y1, z1, q1, l1, j1, x2, y2, z2, q2, l2, j2, PUnit.unit)))) (Tree.leaf (Sum.inl (PUnit.unit, PUnit.unit, r, i, n1, i1, n, IntKind.wrap IntKind.i64 (j + (1 : Int)), x1, y1, z1, q1, l1, j1, x2, y2, z2, q2, l2, j2, PUnit.unit))))) (Tree.leaf (Sum.inr (Exit.exit (2 : Nat), Lay.st L_clearI_0 (usd noU (Lay.ids L_clear0 ++ rowIds rowBase (Lay.shs L_clear0))) (PUnit.unit, PUnit.unit, r, n1, i1, x1, y1, z1, q1, l1, j1, x2, y2, z2, q2, l2, j2, PUnit.unit)))) := by kernel_rfl

def inv_clearI : Unit × Unit × Int × Int × Int × Int × Int × Int × Int × Int × Int × List V × List Src × List V × Int × Int × Int × List V × List Src × List V × Unit → Prop := fun (_, _, r, i, n1, i1, n, j, x1, y1, z1, q1, l1, j1, x2, y2, z2, q2, l2, j2, _) => n = q2.length ∧ 0 ≤ j ∧ j ≤ n ∧ 0 ≤ i ∧ i < q1.length ∧ okWell q1 l1 j1 ∧ okWell q2 l2 j2
def O_clearI : Unit × Unit × Int × Int × Int × Int × Int × Int × Int × Int × Int × List V × List Src × List V × Int × Int × Int × List V × List Src × List V × Unit → Tree (Exit × St) := fun (_, _, r, i, n1, i1, n, j, x1, y1, z1, q1, l1, j1, x2, y2, z2, q2, l2, j2, _) => .cond (allN (fun j => separateW q1 l1 j1 i q2 l2 j2 j r) j (n - j).toNat) (.leaf (.exit 2, L_clearI_0.st (usd noU (L_clear0.ids ++ rowIds rowBase L_clear0.shs)) ((), (), r, n1, i1, x1, y1, z1, q1, l1, j1, x2, y2, z2, q2, l2, j2, ()))) (.leaf (.ret, L_clearI_1.st (usd noU (L_clear0.ids ++ rowIds rowBase L_clear0.shs)) (false, x1, y1, z1, q1, l1, j1, x2, y2, z2, q2, l2, j2, ())))
def R_clearI : LRun := runOf 36 L_clearI (fun x => x) (inv_clearI) (O_clearI)
theorem K_clearI : LoopOk P [] 36 none (usd noU (L_clear0.ids ++ rowIds rowBase L_clear0.shs)) C_clearI (R_clearI) := by
  refine loop_of hm (cx := [c_separate.gc]) [] (xl := X_clearI) (α := Unit × Unit × Int × Int × Int × Int × Int × Int × Int × Int × Int × List V × List Src × List V × Int × Int × Int × List V × List Src × List V × Unit) (fun x => x) (fun (_, _, r, i, n1, i1, n, j, _) => (n - j).toNat) (fun _ => rfl) (by kernel_rfl) (by kernel_rfl) ?_ (by kernel_rfl) trivial ?_
  · intro e L' h
    unfold X_clearI at h
    split at h <;> cases h <;> kernel_rfl
  · rintro ⟨⟨⟩, ⟨⟩, r, i, n1, i1, n, j, x1, y1, z1, q1, l1, j1, x2, y2, z2, q2, l2, j2, ⟨⟩⟩ hinv Q hQ
    refine hold_of_eq (B_clearI r i n1 i1 n j x1 y1 z1 q1 l1 j1 x2 y2 z2 q2 l2 j2) ?_

    obtain ⟨rfl, h0, h1, h2, h3, h4, h5⟩ := hinv
    have h20 := h5.1
    rw [W_id (n := j + 1) (by omega) (by omega)]
    unfold O_clearI at hQ
    dsimp only at hQ
    refine ⟨fun hi => ?_, fun hi => ?_⟩
    · simp only [decide_eq_true_eq] at hi
      have hm : ((q2.length : Int) - (j + 1)).toNat < ((q2.length : Int) - j).toNat := by omega
      have w1 := okWell_mid h4 h2 h3
      have w2 := okWell_mid h5 h0 hi
      rw [allN_step hi] at hQ
      refine ⟨⟨w1.1, w2.1, w1.2, w2.2, h3, hi⟩, fun hc => ?_, fun hc => ?_⟩
      · rw [Bool.not_eq_true'] at hc
        rw [hc, Bool.false_and] at hQ
        exact hQ.2 rfl
      · rw [Bool.not_eq_false'] at hc
        rw [hc, Bool.true_and] at hQ
        exact ⟨⟨⟨rfl, by omega, by omega, h2, h3, h4, h5⟩, hm⟩, hQ⟩
    · simp only [decide_eq_false_iff_not] at hi
      rw [allN_end hi] at hQ
      exact hQ.1 rfl

def clearW (q1 : List V) (l1 : List Src) (j1 : List V) (q2 : List V) (l2 : List Src) (j2 : List V) (r : Int) (i : Int) : Bool :=
  allN (fun i => allN (fun j => separateW q1 l1 j1 i q2 l2 j2 j r) 0 q2.length) i (q1.length - i).toNat
def L_clearO : Lay := { slots := [(0, .ptr 1 0), (1, .ptr 2 0), (2, .val tI), (14, .val tI), (15, .val tI)], boxes := [(1, bWell), (2, bWell)] }
def L_clearO_0 : Lay := { slots := [], boxes := [(1, bWell), (2, bWell)] }
def L_clearO_1 : Lay := { slots := [(6, .val .bool)], boxes := [(1, bWell), (2, bWell)] }
def X_clearO : Exit → Option Lay
  | .exit 0 => some L_clearO_0
  | .ret => some L_clearO_1
  | _ => none
abbrev C_clearO : Code := loopC (bodyOf Try.f124) 0
theorem B_clearO (r n i : Int) (x1 y1 z1 : Int) (q1 : List V) (l1 : List Src) (j1 : List V) (x2 y2 z2 : Int) (q2 : List V) (l2 : List Src) (j2 : List V) : loopBodyA (P := P) [] (lpOf [(2, R_clearI)]) [] 36 (usd noU (L_clear0.ids ++ rowIds rowBase L_clear0.shs)) (inner C_clearO) L_clearO X_clearO (α := Unit × Unit × Int × Int × Int × Int × Int × Int × List V × List Src × List V × Int × Int × Int × List V × List Src × List V × Unit) (fun x => x) (fun x => x) ((), (), r, n, i, x1, y1, z1, q1, l1, j1, x2, y2, z2, q2, l2, j2, ()) =
  Tree.cond (decide (i < n)) (Tree.need (inv_clearI ((), (), r, i, n, i, (↑(List.length q2) : Int), (0 : Int), x1, y1, z1, q1, l1, j1, x2, y2, z2, q2, l2, j2, ())) (Tree.cond (allN (fun j => separateW q1 l1 j1 i q2 l2 j2 j r) (0 : Int) (Int.toNat ((↑(List.length q2) : Int) - (0 : Int)))) (Tree.leaf (Sum.inl (PUnit.unit, PUnit.unit, r, n, IntKind.wrap IntKind.i64 (i + (1 : Int)), x1, y1, z1, q1, l1, j1, x2, y2, z2, q2, l2, j2, PUnit.unit))) (Tree.leaf (Sum.inr (Exit.ret, Lay.st L_clearO_1 (usd noU (Lay.ids L_clear0 ++ rowIds rowBase (Lay.shs L_clear0))) (false, x1, y1, z1, q1, l1, j1, x2, y2, z2, q2, l2, j2, PUnit.unit)))))) (Tree.leaf (Sum.inr (Exit.exit (0 : Nat), Lay.st L_clearO_0 (usd noU (Lay.ids L_clear0 ++ rowIds rowBase (Lay.shs L_clear0))) (x1, y1, z1, q1, l1, j1, x2, y2, z2, q2, l2, j2, PUnit.unit)))) := by kernel_rfl

def inv_clearO : Unit × Unit × Int × Int × Int × Int × Int × Int × List V × List Src × List V × Int × Int × Int × List V × List Src × List V × Unit → Prop := fun (_, _, r, n, i, x1, y1, z1, q1, l1, j1, x2, y2, z2, q2, l2, j2, _) => n = q1.length ∧ 0 ≤ i ∧ i ≤ n ∧ okWell q1 l1 j1 ∧ okWell q2 l2 j2
def O_clearO : Unit × Unit × Int × Int × Int × Int × Int × Int × List V × List Src × List V × Int × Int × Int × List V × List Src × List V × Unit → Tree (Exit × St) := fun (_, _, r, n, i, x1, y1, z1, q1, l1, j1, x2, y2, z2, q2, l2, j2, _) => .cond (clearW q1 l1 j1 q2 l2 j2 r i) (.leaf (.exit 0, L_clearO_0.st (usd noU (L_clear0.ids ++ rowIds rowBase L_clear0.shs)) (x1, y1, z1, q1, l1, j1, x2, y2, z2, q2, l2, j2, ()))) (.leaf (.ret, L_clearO_1.st (usd noU (L_clear0.ids ++ rowIds rowBase L_clear0.shs)) (false, x1, y1, z1, q1, l1, j1, x2, y2, z2, q2, l2, j2, ())))
def R_clearO : LRun := runOf 36 L_clearO (fun x => x) (inv_clearO) (O_clearO)
theorem K_clearO : LoopOk P [] 36 none (usd noU (L_clear0.ids ++ rowIds rowBase L_clear0.shs)) C_clearO (R_clearO) := by
  refine loop_of hm (cx := []) [(2, R_clearI)] (xl := X_clearO) (α := Unit × Unit × Int × Int × Int × Int × Int × Int × List V × List Src × List V × Int × Int × Int × List V × List Src × List V × Unit) (fun x => x) (fun (_, _, r, n, i, _) => (n - i).toNat) (fun _ => rfl) (by kernel_rfl) (by kernel_rfl) ?_ (by kernel_rfl) ⟨K_clearI, trivial⟩ ?_
  · intro e L' h
    unfold X_clearO at h
    split at h <;> cases h <;> kernel_rfl
  · rintro ⟨⟨⟩, ⟨⟩, r, n, i, x1, y1, z1, q1, l1, j1, x2, y2, z2, q2, l2, j2, ⟨⟩⟩ hinv Q hQ
    refine hold_of_eq (B_clearO r n i x1 y1 z1 q1 l1 j1 x2 y2 z2 q2 l2 j2) ?_

    obtain ⟨rfl, h0, h1, h4, h5⟩ := hinv
    have h20 := h4.1
    rw [W_id (n := i + 1) (by omega) (by omega)]
    unfold O_clearO clearW at hQ
    dsimp only at hQ
    refine ⟨fun hi => ?_, fun hi => ?_⟩
    · simp only [decide_eq_true_eq] at hi
      have hm : ((q1.length : Int) - (i + 1)).toNat < ((q1.length : Int) - i).toNat := by omega
      rw [allN_step hi] at hQ
      rw [show ((q2.length : Int) - 0).toNat = q2.length by omega]
      refine ⟨⟨rfl, by omega, by omega, h0, hi, h4, h5⟩, fun hc => ?_, fun hc => ?_⟩
      · rw [hc, Bool.true_and] at hQ
        exact ⟨⟨⟨rfl, by omega, by omega, h4, h5⟩, hm⟩, hQ⟩
      · rw [hc, Bool.false_and] at hQ
        exact hQ.2 rfl
    · simp only [decide_eq_false_iff_not] at hi
      rw [allN_end hi] at hQ
      exact hQ.1 rfl

def L_clear : Lay := { slots := [(0, .ptr 1 0), (1, .ptr 2 0), (2, .val tI)], boxes := [(1, bWell), (2, bWell)] }
theorem T_clear (r : Int) (x1 y1 z1 : Int) (q1 : List V) (l1 : List Src) (j1 : List V) (x2 y2 z2 : Int) (q2 : List V) (l2 : List Src) (j2 : List V) : mTree (P := P) [] (lpOf [(0, R_clearO)]) Try.f124 L_clear true ((), (), r, x1, y1, z1, q1, l1, j1, x2, y2, z2, q2, l2, j2, ()) =
  Tree.need (inv_clearO ((), (), r, (↑(List.length q1) : Int), (0 : Int), x1, y1, z1, q1, l1, j1, x2, y2, z2, q2, l2, j2, ())) (Tree.cond (clearW q1 l1 j1 q2 l2 j2 r (0 : Int)) (Tree.leaf { res := SV.bool true, boxes := [[SV.int IntKind.i64 x1, SV.int IntKind.i64 y1, SV.int IntKind.i64 z1, SV.sl tV q1, SV.sl tSrc l1, SV.sl tV j1], [SV.int IntKind.i64 x2, SV.int IntKind.i64 y2, SV.int IntKind.i64 z2, SV.sl tV q2, SV.sl tSrc l2, SV.sl tV j2]] }) (Tree.leaf { res := SV.bool false, boxes := [[SV.int IntKind.i64 x1, SV.int IntKind.i64 y1, SV.int IntKind.i64 z1, SV.sl tV q1, SV.sl tSrc l1, SV.sl tV j1], [SV.int IntKind.i64 x2, SV.int IntKind.i64 y2, SV.int IntKind.i64 z2, SV.sl tV q2, SV.sl tSrc l2, SV.sl tV j2]] })) := by kernel_rfl

def c_clear : MC P := MC.of (α := Unit × Unit × Int × Int × Int × Int × List V × List Src × List V × Int × Int × Int × List V × List Src × List V × Unit) 124 L_clear (fun x => x) (fun x => x) (fun _ => rfl)
  (fun (_, _, r, x1, y1, z1, q1, l1, j1, x2, y2, z2, q2, l2, j2, _) => some (okWell q1 l1 j1 ∧ okWell q2 l2 j2))
  (fun (_, _, r, x1, y1, z1, q1, l1, j1, x2, y2, z2, q2, l2, j2, _) => ⟨.bool (clearW q1 l1 j1 q2 l2 j2 r 0), [[.int .i64 x1, .int .i64 y1, .int .i64 z1, .sl tV q1, .sl tSrc l1, .sl tV j1], [.int .i64 x2, .int .i64 y2, .int .i64 z2, .sl tV q2, .sl tSrc l2, .sl tV j2]], []⟩) (by kernel_rfl) (by kernel_rfl) (by kernel_rfl) (by
    rintro ⟨⟨⟩, ⟨⟩, r, x1, y1, z1, q1, l1, j1, x2, y2, z2, q2, l2, j2, ⟨⟩⟩ hp
    refine m_of hm (own := true) (by kernel_rfl) (by kernel_rfl) (by kernel_rfl) (T_clear r x1 y1 z1 q1 l1 j1 x2 y2 z2 q2 l2 j2) ⟨K_clearO, trivial⟩ ?_

    obtain ⟨h1, h2⟩ : okWell q1 l1 j1 ∧ okWell q2 l2 j2 := hp
    refine ⟨⟨rfl, by omega, by omega, h1, h2⟩, fun hc => ?_, fun hc => ?_⟩
    · exact congrArg (fun k : Bool => (⟨.bool k, [[.int .i64 x1, .int .i64 y1, .int .i64 z1, .sl tV q1, .sl tSrc l1, .sl tV j1], [.int .i64 x2, .int .i64 y2, .int .i64 z2, .sl tV q2, .sl tSrc l2, .sl tV j2]], []⟩ : MOut)) hc.symm
    · exact congrArg (fun k : Bool => (⟨.bool k, [[.int .i64 x1, .int .i64 y1, .int .i64 z1, .sl tV q1, .sl tSrc l1, .sl tV j1], [.int .i64 x2, .int .i64 y2, .int .i64 z2, .sl tV q2, .sl tSrc l2, .sl tV j2]], []⟩ : MOut)) hc.symm)

/-! ### What is known -/
def touchN (l1 : List Src) (j1 : List V) (l2 : List Src) (j2 : List V) (r i : Int) : Bool := anyN (fun i => anyN (fun j => touchW l1 j1 i l2 j2 j r) 0 j2.length) i (j1.length - i).toNat
def L_knownI : Lay := { slots := [(4, .val tI), (13, .ptr 34065 0), (14, .ptr 37065 0), (15, .val tI), (41, .val tI), (42, .val tI), (49, .val tI), (50, .val tI)], boxes := [(34065, bWell), (37065, bWell)] }
def L_knownI_0 : Lay := { slots := [(4, .val tI), (13, .ptr 34065 0), (14, .ptr 37065 0), (41, .val tI), (42, .val tI)], boxes := [(34065, bWell), (37065, bWell)] }
def L_knownI_1 : Lay := { slots := [(10, .val tI), (11, .val tI)] }
def X_knownI : Exit → Option Lay
  | .exit 2 => some L_knownI_0
  | .ret => some L_knownI_1
  | _ => none
abbrev C_knownI : Code := loopC (inner (loopC (bodyOf Try.f71) 0)) 2
theorem B_knownI (r i n1 i1 n j : Int) (x1 y1 z1 : Int) (q1 : List V) (l1 : List Src) (j1 : List V) (x2 y2 z2 : Int) (q2 : List V) (l2 : List Src) (j2 : List V) : loopBodyA (P := P) [c_touch.gc] (lpOf []) [] 65 noU (inner C_knownI) L_knownI X_knownI (α := Int × Unit × Unit × Int × Int × Int × Int × Int × Int × Int × Int × List V × List Src × List V × Int × Int × Int × List V × List Src × List V × Unit) (fun x => x) (fun x => x) (r, (), (), i, n1, i1, n, j, x1, y1, z1, q1, l1, j1, x2, y2, z2, q2, l2, j2, ()) =
  Tree.cond (decide (j < n)) (Tree.need (preAt l1 i ∧ preAt l2 j ∧ i < (↑(List.length j1) : Int) ∧ j < (↑(List.length j2) : Int)) (Tree.cond (touchW l1 j1 i l2 j2 j r) (Tree.leaf (Sum.inr (Exit.ret, Lay.st L_knownI_1 noU ((2 : Int), (0 : Int), PUnit.unit)))) (Tree.leaf (Sum.inl (r, PUnit.unit, PUnit.unit, i, n1, i1, n, IntKind.wrap IntKind.i64 (j + (1 : Int)), x1, y1, z1, q1, l1, j1, x2, y2, z2, q2, l2, j2, PUnit.unit))))) (Tree.leaf (Sum.inr (Exit.exit (2 : Nat), Lay.st L_knownI_0 noU (r, PUnit.unit, PUnit.unit, n1, i1, x1, y1, z1, q1, l1, j1, x2, y2, z2, q2, l2, j2, PUnit.unit)))) := by kernel_rfl

def inv_knownI : Int × Unit × Unit × Int × Int × Int × Int × Int × Int × Int × Int × List V × List Src × List V × Int × Int × Int × List V × List Src × List V × Unit → Prop := fun (r, _, _, i, n1, i1, n, j, x1, y1, z1, q1, l1, j1, x2, y2, z2, q2, l2, j2, _) => n = j2.length ∧ 0 ≤ j ∧ j ≤ n ∧ 0 ≤ i ∧ i < j1.length ∧ okWell q1 l1 j1 ∧ okWell q2 l2 j2
def O_knownI : Int × Unit × Unit × Int × Int × Int × Int × Int × Int × Int × Int × List V × List Src × List V × Int × Int × Int × List V × List Src × List V × Unit → Tree (Exit × St) := fun (r, _, _, i, n1, i1, n, j, x1, y1, z1, q1, l1, j1, x2, y2, z2, q2, l2, j2, _) => .cond (anyN (fun j => touchW l1 j1 i l2 j2 j r) j (n - j).toNat) (.leaf (.ret, L_knownI_1.st noU (((2 : Int)), ((0 : Int)), ()))) (.leaf (.exit 2, L_knownI_0.st noU (r, (), (), n1, i1, x1, y1, z1, q1, l1, j1, x2, y2, z2, q2, l2, j2, ())))
def R_knownI : LRun := runOf 65 L_knownI (fun x => x) (inv_knownI) (O_knownI)
theorem K_knownI : LoopOk P [] 65 none noU C_knownI (R_knownI) := by
  refine loop_of hm (cx := [c_touch.gc]) [] (xl := X_knownI) (α := Int × Unit × Unit × Int × Int × Int × Int × Int × Int × Int × Int × List V × List Src × List V × Int × Int × Int × List V × List Src × List V × Unit) (fun x => x) (fun (r, _, _, i, n1, i1, n, j, _) => (n - j).toNat) (fun _ => rfl) (by kernel_rfl) (by kernel_rfl) ?_ (by kernel_rfl) trivial ?_
  · intro e L' h
    unfold X_knownI at h
    split at h <;> cases h <;> kernel_rfl
  · rintro ⟨r, ⟨⟩, ⟨⟩, i, n1, i1, n, j, x1, y1, z1, q1, l1, j1, x2, y2, z2, q2, l2, j2, ⟨⟩⟩ hinv Q hQ
    refine hold_of_eq (B_knownI r i n1 i1 n j x1 y1 z1 q1 l1 j1 x2 y2 z2 q2 l2 j2) ?_

    obtain ⟨rfl, h0, h1, h2, h3, h4, h5⟩ := hinv
    have h20 := h5.1
    have h21 := h5.2.2.1
    rw [W_id (n := j + 1) (by omega) (by omega)]
    unfold O_knownI at hQ
    dsimp only at hQ
    refine ⟨fun hi => ?_, fun hi => ?_⟩
    · simp only [decide_eq_true_eq] at hi
      have hm : ((j2.length : Int) - (j + 1)).toNat < ((j2.length : Int) - j).toNat := by omega
      rw [anyN_step hi] at hQ
      refine ⟨⟨okWell_at h4 h2 h3, okWell_at h5 h0 hi, h3, hi⟩, fun hc => ?_, fun hc => ?_⟩
      · rw [hc, Bool.true_or] at hQ
        exact hQ.1 rfl
      · rw [hc, Bool.false_or] at hQ
        exact ⟨⟨⟨rfl, by omega, by omega, h2, h3, h4, h5⟩, hm⟩, hQ⟩
    · simp only [decide_eq_false_iff_not] at hi
      rw [anyN_end hi] at hQ
      exact hQ.2 rfl

def L_knownO : Lay := { slots := [(4, .val tI), (13, .ptr 34065 0), (14, .ptr 37065 0), (41, .val tI), (42, .val tI)], boxes := [(34065, bWell), (37065, bWell)] }
def L_knownO_0 : Lay := { slots := [(4, .val tI), (13, .ptr 34065 0), (14, .ptr 37065 0)], boxes := [(34065, bWell), (37065, bWell)] }
def L_knownO_1 : Lay := { slots := [(10, .val tI), (11, .val tI)] }
def X_knownO : Exit → Option Lay
  | .exit 0 => some L_knownO_0
  | .ret => some L_knownO_1
  | _ => none
abbrev C_knownO : Code := loopC (bodyOf Try.f71) 0
theorem B_knownO (r n i : Int) (x1 y1 z1 : Int) (q1 : List V) (l1 : List Src) (j1 : List V) (x2 y2 z2 : Int) (q2 : List V) (l2 : List Src) (j2 : List V) : loopBodyA (P := P) [] (lpOf [(2, R_knownI)]) [] 65 noU (inner C_knownO) L_knownO X_knownO (α := Int × Unit × Unit × Int × Int × Int × Int × Int × List V × List Src × List V × Int × Int × Int × List V × List Src × List V × Unit) (fun x => x) (fun x => x) (r, (), (), n, i, x1, y1, z1, q1, l1, j1, x2, y2, z2, q2, l2, j2, ()) =
  Tree.cond (decide (i < n)) (Tree.need (inv_knownI (r, (), (), i, n, i, (↑(List.length j2) : Int), (0 : Int), x1, y1, z1, q1, l1, j1, x2, y2, z2, q2, l2, j2, ())) (Tree.cond (anyN (fun j => touchW l1 j1 i l2 j2 j r) (0 : Int) (Int.toNat ((↑(List.length j2) : Int) - (0 : Int)))) (Tree.leaf (Sum.inr (Exit.ret, Lay.st L_knownO_1 noU ((2 : Int), (0 : Int), PUnit.unit)))) (Tree.leaf (Sum.inl (r, PUnit.unit, PUnit.unit, n, IntKind.wrap IntKind.i64 (i + (1 : Int)), x1, y1, z1, q1, l1, j1, x2, y2, z2, q2, l2, j2, PUnit.unit))))) (Tree.leaf (Sum.inr (Exit.exit (0 : Nat), Lay.st L_knownO_0 noU (r, PUnit.unit, PUnit.unit, x1, y1, z1, q1, l1, j1, x2, y2, z2, q2, l2, j2, PUnit.unit)))) := by kernel_rfl

def inv_knownO : Int × Unit × Unit × Int × Int × Int × Int × Int × List V × List Src × List V × Int × Int × Int × List V × List Src × List V × Unit → Prop := fun (r, _, _, n, i, x1, y1, z1, q1, l1, j1, x2, y2, z2, q2, l2, j2, _) => n = j1.length ∧ 0 ≤ i ∧ i ≤ n ∧ okWell q1 l1 j1 ∧ okWell q2 l2 j2
def O_knownO : Int × Unit × Unit × Int × Int × Int × Int × Int × List V × List Src × List V × Int × Int × Int × List V × List Src × List V × Unit → Tree (Exit × St) := fun (r, _, _, n, i, x1, y1, z1, q1, l1, j1, x2, y2, z2, q2, l2, j2, _) => .cond (touchN l1 j1 l2 j2 r i) (.leaf (.ret, L_knownO_1.st noU (((2 : Int)), ((0 : Int)), ()))) (.leaf (.exit 0, L_knownO_0.st noU (r, (), (), x1, y1, z1, q1, l1, j1, x2, y2, z2, q2, l2, j2, ())))
def R_knownO : LRun := runOf 65 L_knownO (fun x => x) (inv_knownO) (O_knownO)
theorem K_knownO : LoopOk P [] 65 none noU C_knownO (R_knownO) := by
  refine loop_of hm (cx := []) [(2, R_knownI)] (xl := X_knownO) (α := Int × Unit × Unit × Int × Int × Int × Int × Int × List V × List Src × List V × Int × Int × Int × List V × List Src × List V × Unit) (fun x => x) (fun (r, _, _, n, i, _) => (n - i).toNat) (fun _ => rfl) (by kernel_rfl) (by kernel_rfl) ?_ (by kernel_rfl) ⟨K_knownI, trivial⟩ ?_
  · intro e L' h
    unfold X_knownO at h
    split at h <;> cases h <;> kernel_rfl
  · rintro ⟨r, ⟨⟩, ⟨⟩, n, i, x1, y1, z1, q1, l1, j1, x2, y2, z2, q2, l2, j2, ⟨⟩⟩ hinv Q hQ
    refine hold_of_eq (B_knownO r n i x1 y1 z1 q1 l1 j1 x2 y2 z2 q2 l2 j2) ?_

    obtain ⟨rfl, h0, h1, h4, h5⟩ := hinv
    have h20 := h4.1
    have h21 := h4.2.2.1
    rw [W_id (n := i + 1) (by omega) (by omega)]
    unfold O_knownO touchN at hQ
    dsimp only at hQ
    refine ⟨fun hi => ?_, fun hi => ?_⟩
    · simp only [decide_eq_true_eq] at hi
      have hm : ((j1.length : Int) - (i + 1)).toNat < ((j1.length : Int) - i).toNat := by omega
      rw [anyN_step hi] at hQ
      rw [show ((j2.length : Int) - 0).toNat = j2.length by omega]
      refine ⟨⟨rfl, by omega, by omega, h0, hi, h4, h5⟩, fun hc => ?_, fun hc => ?_⟩
      · rw [hc, Bool.true_or] at hQ
        exact hQ.1 rfl
      · rw [hc, Bool.false_or] at hQ
        exact ⟨⟨⟨rfl, by omega, by omega, h4, h5⟩, hm⟩, hQ⟩
    · simp only [decide_eq_false_iff_not] at hi
      rw [anyN_end hi] at hQ
      exact hQ.2 rfl

def knownS (p : Pth) (l : List Src) (p' : Pth) (l' : List Src) (r : Int) : Int × Int :=
  if bothS p l p' l' ≠ 0 then (0, bothS p l p' l') else if r < 1 ∨ r > 4000 then (0, 2)
  else if touchN l (jointsS p) l' (jointsS p') r 0 = true then (2, 0) else if clearW p.2 l (jointsS p) p'.2 l' (jointsS p') r 0 = true then (1, 0) else (3, 0)
theorem T_Known (x y z : Int) (q : List V) (l : List Src) (x' y' z' : Int) (q' : List V) (l' : List Src) (r : Int) : fnTree (P := P) [c_both.gc, c_wof.gc, c_clear.gc] (lpOf [(0, R_knownO)]) Try.f71 (encL 0 [.agg tPath, .val tSrcs, .agg tPath, .val tSrcs, .val tI] (((x, y, z), q), l, ((x', y', z'), q'), l', r, ())) =
  Tree.cond (bothS ((x, y, z), q) l ((x', y', z'), q') l' != (0 : Int)) (Tree.leaf (SV.tup [SV.int IntKind.i64 (0 : Int), SV.int IntKind.i64 (bothS ((x, y, z), q) l ((x', y', z'), q') l')])) (Tree.cond (decide (r < (1 : Int))) (Tree.leaf (SV.tup [SV.int IntKind.i64 (0 : Int), SV.int IntKind.i64 (2 : Int)])) (Tree.cond (decide (r > (4000 : Int))) (Tree.leaf (SV.tup [SV.int IntKind.i64 (0 : Int), SV.int IntKind.i64 (2 : Int)])) (Tree.need (inv_knownO (r, (), (), (↑(List.length (jointsS ((x, y, z), q))) : Int), (0 : Int), x, y, z, q, l, jointsS ((x, y, z), q), x', y', z', q', l', jointsS ((x', y', z'), q'), ())) (Tree.cond (touchN l (jointsS ((x, y, z), q)) l' (jointsS ((x', y', z'), q')) r (0 : Int)) (Tree.leaf (SV.tup [SV.int IntKind.i64 (2 : Int), SV.int IntKind.i64 (0 : Int)])) (Tree.need (okWell q l (jointsS ((x, y, z), q)) ∧ okWell q' l' (jointsS ((x', y', z'), q'))) (Tree.cond (clearW q l (jointsS ((x, y, z), q)) q' l' (jointsS ((x', y', z'), q')) r (0 : Int)) (Tree.leaf (SV.tup [SV.int IntKind.i64 (1 : Int), SV.int IntKind.i64 (0 : Int)])) (Tree.leaf (SV.tup [SV.int IntKind.i64 (3 : Int), SV.int IntKind.i64 (0 : Int)])))))))) := by kernel_rfl

def c_Known : PC P := PC.of (α := Pth × List Src × Pth × List Src × Int × Unit) 71 [.agg tPath, .val tSrcs, .agg tPath, .val tSrcs, .val tI] (fun x => x) (fun x => x) (fun _ => rfl)
  (fun _ => none)
  (fun x => .tup [.int .i64 (knownS x.1 x.2.1 x.2.2.1 x.2.2.2.1 x.2.2.2.2.1).1, .int .i64 (knownS x.1 x.2.1 x.2.2.1 x.2.2.2.1 x.2.2.2.2.1).2]) (by kernel_rfl) (by
    rintro ⟨⟨⟨x, y, z⟩, q⟩, l, ⟨⟨x', y', z'⟩, q'⟩, l', r, ⟨⟩⟩ hp
    refine fn_of hm (by kernel_rfl) (by kernel_rfl) (T_Known x y z q l x' y' z' q' l' r) ⟨K_knownO, trivial⟩ ?_

    show Tree.holds (fun s => s = SV.tup [.int .i64 (knownS ((x, y, z), q) l ((x', y', z'), q') l' r).1, .int .i64 (knownS ((x, y, z), q) l ((x', y', z'), q') l' r).2]) _
    unfold knownS
    refine ⟨fun h => ?_, fun h => ⟨fun h2 => ?_, fun h2 => ⟨fun h3 => ?_, fun h3 => ⟨?_, fun h4 => ?_, fun h4 => ⟨?_, fun h5 => ?_, fun h5 => ?_⟩⟩⟩⟩⟩
    all_goals simp only [bne_iff_ne, ne_eq, bne_eq_false_iff_eq, decide_eq_true_eq, decide_eq_false_iff_not] at *
    · rw [if_pos h]
      exact rfl
    · rw [if_neg (by simp [h]), if_pos (Or.inl h2)]
      exact rfl
    · rw [if_neg (by simp [h]), if_pos (Or.inr h3)]
      exact rfl
    · obtain ⟨f1, f2⟩ := bothS_zero h
      exact ⟨rfl, by omega, by omega, okWell_of f1, okWell_of f2⟩
    · rw [if_neg (by simp [h]), if_neg (by omega), if_pos h4]
      exact rfl
    · obtain ⟨f1, f2⟩ := bothS_zero h
      exact ⟨okWell_of f1, okWell_of f2⟩
    · rw [if_neg (by simp [h]), if_neg (by omega), if_neg (by simp [h4]), if_pos h5]
      exact rfl
    · rw [if_neg (by simp [h]), if_neg (by omega), if_neg (by simp [h4]), if_neg (by simp [h5])]
      exact rfl)

/-! ### The gap -/
def L_gap1 : Lay := { slots := [(0, .val tI), (1, .ptr 1 0), (2, .ptr 2 0)], boxes := [(1, [.ptr 3 0]), (2, [.ptr 4 0]), (3, bWell), (4, bWell)] }
theorem T_gap1 (m : Int) (x1 y1 z1 : Int) (q1 : List V) (l1 : List Src) (j1 : List V) (x2 y2 z2 : Int) (q2 : List V) (l2 : List Src) (j2 : List V) : mTree (P := P) [c_clear.gc] (lpOf []) Try.f128 L_gap1 true (m, (), (), (), (), x1, y1, z1, q1, l1, j1, x2, y2, z2, q2, l2, j2, ()) =
  Tree.need (okWell q1 l1 j1 ∧ okWell q2 l2 j2) (Tree.leaf { res := SV.bool !clearW q1 l1 j1 q2 l2 j2 (IntKind.wrap IntKind.i64 (m + (1 : Int))) (0 : Int), boxes := [[SV.ptr (3 : Nat) (0 : Nat)], [SV.ptr (4 : Nat) (0 : Nat)], [SV.int IntKind.i64 x1, SV.int IntKind.i64 y1, SV.int IntKind.i64 z1, SV.sl tV q1, SV.sl tSrc l1, SV.sl tV j1], [SV.int IntKind.i64 x2, SV.int IntKind.i64 y2, SV.int IntKind.i64 z2, SV.sl tV q2, SV.sl tSrc l2, SV.sl tV j2]] }) := by kernel_rfl

def c_gap1 : MC P := MC.of (α := Int × Unit × Unit × Unit × Unit × Int × Int × Int × List V × List Src × List V × Int × Int × Int × List V × List Src × List V × Unit) 128 L_gap1 (fun x => x) (fun x => x) (fun _ => rfl)
  (fun (m, _, _, _, _, x1, y1, z1, q1, l1, j1, x2, y2, z2, q2, l2, j2, _) => some (0 ≤ m ∧ m ≤ 4000 ∧ okWell q1 l1 j1 ∧ okWell q2 l2 j2))
  (fun (m, _, _, _, _, x1, y1, z1, q1, l1, j1, x2, y2, z2, q2, l2, j2, _) => ⟨.bool (!clearW q1 l1 j1 q2 l2 j2 (m + 1) 0), [[.ptr 3 0], [.ptr 4 0], [.int .i64 x1, .int .i64 y1, .int .i64 z1, .sl tV q1, .sl tSrc l1, .sl tV j1], [.int .i64 x2, .int .i64 y2, .int .i64 z2, .sl tV q2, .sl tSrc l2, .sl tV j2]], []⟩) (by kernel_rfl) (by kernel_rfl) (by kernel_rfl) (by
    rintro ⟨m, ⟨⟩, ⟨⟩, ⟨⟩, ⟨⟩, x1, y1, z1, q1, l1, j1, x2, y2, z2, q2, l2, j2, ⟨⟩⟩ hp
    refine m_of hm (own := true) (by kernel_rfl) (by kernel_rfl) (by kernel_rfl) (T_gap1 m x1 y1 z1 q1 l1 j1 x2 y2 z2 q2 l2 j2) trivial ?_

    obtain ⟨h0, h1, h2, h3⟩ : 0 ≤ m ∧ m ≤ 4000 ∧ okWell q1 l1 j1 ∧ okWell q2 l2 j2 := hp
    rw [W_id (n := m + 1) (by omega) (by omega)]
    exact ⟨⟨h2, h3⟩, rfl⟩)

theorem Wu_id {n : Int} (h1 : 0 ≤ n) (h2 : n ≤ 18446744073709551615) : IntKind.wrap IntKind.u64 n = n := by
  have e : IntKind.wrap IntKind.u64 n = n % 18446744073709551616 := by
    simp [IntKind.wrap, IntKind.signed, IntKind.bits]
  rw [e]
  omega
/-- A search in halves: the first number at which it is so. -/
def searchR (p : Int → Bool) (i j : Int) : Int := if i < j then (if p ((i + j) / 2) = true then searchR p i ((i + j) / 2) else searchR p ((i + j) / 2 + 1) j) else i
termination_by (j - i).toNat
def L_search0 : Lay := { slots := [(0, .val tI), (1, .clo 128 [(1, 0), (2, 0)])], boxes := [(1, [.ptr 3 0]), (2, [.ptr 4 0]), (3, bWell), (4, bWell)] }
def L_searchL : Lay := { slots := [(1, .clo 128 [(1, 0), (2, 0)]), (5, .val tI), (6, .val tI)], boxes := [(1, [.ptr 3 0]), (2, [.ptr 4 0]), (3, bWell), (4, bWell)] }
def L_searchL_0 : Lay := { slots := [(5, .val tI)], boxes := [(1, [.ptr 3 0]), (2, [.ptr 4 0]), (3, bWell), (4, bWell)] }
def X_searchL : Exit → Option Lay
  | .exit 0 => some L_searchL_0
  | _ => none
abbrev C_searchL : Code := loopC (bodyOf Try.f127) 0
theorem B_searchL (i j : Int) (x1 y1 z1 : Int) (q1 : List V) (l1 : List Src) (j1 : List V) (x2 y2 z2 : Int) (q2 : List V) (l2 : List Src) (j2 : List V) : loopBodyA (P := P) [c_gap1.gc] (lpOf []) [] 26 (usd noU (L_search0.ids ++ rowIds rowBase L_search0.shs)) (inner C_searchL) L_searchL X_searchL (α := Unit × Int × Int × Unit × Unit × Int × Int × Int × List V × List Src × List V × Int × Int × Int × List V × List Src × List V × Unit) (fun x => x) (fun x => x) ((), i, j, (), (), x1, y1, z1, q1, l1, j1, x2, y2, z2, q2, l2, j2, ()) =
  Tree.cond (decide (i < j)) (Tree.need ((0 : Int) ≤ (1 : Int)) (Tree.need ((0 : Int) ≤ IntKind.wrap IntKind.i64 (shrI IntKind.u64 (IntKind.wrap IntKind.u64 (IntKind.wrap IntKind.i64 (i + j))) (1 : Int)) ∧ IntKind.wrap IntKind.i64 (shrI IntKind.u64 (IntKind.wrap IntKind.u64 (IntKind.wrap IntKind.i64 (i + j))) (1 : Int)) ≤ (4000 : Int) ∧ okWell q1 l1 j1 ∧ okWell q2 l2 j2) (Tree.cond (!!clearW q1 l1 j1 q2 l2 j2 (IntKind.wrap IntKind.i64 (shrI IntKind.u64 (IntKind.wrap IntKind.u64 (IntKind.wrap IntKind.i64 (i + j))) (1 : Int)) + (1 : Int)) (0 : Int)) (Tree.leaf (Sum.inl (PUnit.unit, IntKind.wrap IntKind.i64 (IntKind.wrap IntKind.i64 (shrI IntKind.u64 (IntKind.wrap IntKind.u64 (IntKind.wrap IntKind.i64 (i + j))) (1 : Int)) + (1 : Int)), j, PUnit.unit, PUnit.unit, x1, y1, z1, q1, l1, j1, x2, y2, z2, q2, l2, j2, PUnit.unit))) (Tree.leaf (Sum.inl (PUnit.unit, i, IntKind.wrap IntKind.i64 (shrI IntKind.u64 (IntKind.wrap IntKind.u64 (IntKind.wrap IntKind.i64 (i + j))) (1 : Int)), PUnit.unit, PUnit.unit, x1, y1, z1, q1, l1, j1, x2, y2, z2, q2, l2, j2, PUnit.unit)))))) (Tree.leaf (Sum.inr (Exit.exit (0 : Nat), Lay.st L_searchL_0 (usd noU (Lay.ids L_search0 ++ rowIds rowBase (Lay.shs L_search0))) (i, PUnit.unit, PUnit.unit, x1, y1, z1, q1, l1, j1, x2, y2, z2, q2, l2, j2, PUnit.unit)))) := by kernel_rfl

def inv_searchL : Unit × Int × Int × Unit × Unit × Int × Int × Int × List V × List Src × List V × Int × Int × Int × List V × List Src × List V × Unit → Prop := fun (_, i, j, _, _, x1, y1, z1, q1, l1, j1, x2, y2, z2, q2, l2, j2, _) => 0 ≤ i ∧ i ≤ j ∧ j ≤ 4000 ∧ okWell q1 l1 j1 ∧ okWell q2 l2 j2
def O_searchL : Unit × Int × Int × Unit × Unit × Int × Int × Int × List V × List Src × List V × Int × Int × Int × List V × List Src × List V × Unit → Tree (Exit × St) := fun (_, i, j, _, _, x1, y1, z1, q1, l1, j1, x2, y2, z2, q2, l2, j2, _) => .leaf (.exit 0, L_searchL_0.st (usd noU (L_search0.ids ++ rowIds rowBase L_search0.shs)) (searchR (fun m => !clearW q1 l1 j1 q2 l2 j2 (m + 1) 0) i j, (), (), x1, y1, z1, q1, l1, j1, x2, y2, z2, q2, l2, j2, ()))
def R_searchL : LRun := runOf 26 L_searchL (fun x => x) (inv_searchL) (O_searchL)
theorem K_searchL : LoopOk P [] 26 none (usd noU (L_search0.ids ++ rowIds rowBase L_search0.shs)) C_searchL (R_searchL) := by
  refine loop_of hm (cx := [c_gap1.gc]) [] (xl := X_searchL) (α := Unit × Int × Int × Unit × Unit × Int × Int × Int × List V × List Src × List V × Int × Int × Int × List V × List Src × List V × Unit) (fun x => x) (fun (_, i, j, _) => (j - i).toNat) (fun _ => rfl) (by kernel_rfl) (by kernel_rfl) ?_ (by kernel_rfl) trivial ?_
  · intro e L' h
    unfold X_searchL at h
    split at h <;> cases h <;> kernel_rfl
  · rintro ⟨⟨⟩, i, j, ⟨⟩, ⟨⟩, x1, y1, z1, q1, l1, j1, x2, y2, z2, q2, l2, j2, ⟨⟩⟩ hinv Q hQ
    refine hold_of_eq (B_searchL i j x1 y1 z1 q1 l1 j1 x2 y2 z2 q2 l2 j2) ?_

    obtain ⟨h0, h1, h2, h3, h4⟩ := hinv
    rw [W_id (n := i + j) (by omega) (by omega)]
    have e1 : IntKind.wrap IntKind.i64 (shrI IntKind.u64 (IntKind.wrap IntKind.u64 (i + j)) 1) = (i + j) / 2 := by
      rw [Wu_id (by omega) (by omega)]
      have e : shrI IntKind.u64 (i + j) 1 = (i + j) / 2 := by
        show (i + j).fdiv 2 = (i + j) / 2
        rw [Int.fdiv_eq_ediv_of_nonneg _ (by decide)]
      rw [e, W_id (by omega) (by omega)]
    rw [e1, W_id (n := (i + j) / 2 + 1) (by omega) (by omega)]
    unfold O_searchL at hQ
    dsimp only at hQ
    refine ⟨fun hi => ?_, fun hi => ?_⟩
    · simp only [decide_eq_true_eq] at hi
      rw [searchR, if_pos hi] at hQ
      refine ⟨by decide, ⟨by omega, by omega, h3, h4⟩, fun hc => ?_, fun hc => ?_⟩
      · have hc' : (!clearW q1 l1 j1 q2 l2 j2 ((i + j) / 2 + 1) 0) = false := by rw [Bool.not_eq_true'] at hc; exact hc
        rw [hc', if_neg (by simp)] at hQ
        exact ⟨⟨⟨by omega, by omega, h2, h3, h4⟩, by show (j - ((i + j) / 2 + 1)).toNat < (j - i).toNat; omega⟩, hQ⟩
      · have hc' : (!clearW q1 l1 j1 q2 l2 j2 ((i + j) / 2 + 1) 0) = true := by rw [Bool.not_eq_false'] at hc; exact hc
        rw [hc', if_pos rfl] at hQ
        exact ⟨⟨⟨by omega, by omega, by omega, h3, h4⟩, by show ((i + j) / 2 - i).toNat < (j - i).toNat; omega⟩, hQ⟩
    · simp only [decide_eq_false_iff_not] at hi
      rw [searchR, if_neg hi] at hQ
      exact hQ

def L_search : Lay := { slots := [(0, .val tI), (1, .clo 128 [(1, 0), (2, 0)])], boxes := [(1, [.ptr 3 0]), (2, [.ptr 4 0]), (3, bWell), (4, bWell)] }
theorem T_search (n : Int) (x1 y1 z1 : Int) (q1 : List V) (l1 : List Src) (j1 : List V) (x2 y2 z2 : Int) (q2 : List V) (l2 : List Src) (j2 : List V) : mTree (P := P) [] (lpOf [(0, R_searchL)]) Try.f127 L_search true (n, (), (), (), x1, y1, z1, q1, l1, j1, x2, y2, z2, q2, l2, j2, ()) =
  Tree.need (inv_searchL ((), (0 : Int), n, (), (), x1, y1, z1, q1, l1, j1, x2, y2, z2, q2, l2, j2, ())) (Tree.leaf { res := SV.int IntKind.i64 (searchR (fun m => !clearW q1 l1 j1 q2 l2 j2 (m + (1 : Int)) (0 : Int)) (0 : Int) n), boxes := [[SV.ptr (3 : Nat) (0 : Nat)], [SV.ptr (4 : Nat) (0 : Nat)], [SV.int IntKind.i64 x1, SV.int IntKind.i64 y1, SV.int IntKind.i64 z1, SV.sl tV q1, SV.sl tSrc l1, SV.sl tV j1], [SV.int IntKind.i64 x2, SV.int IntKind.i64 y2, SV.int IntKind.i64 z2, SV.sl tV q2, SV.sl tSrc l2, SV.sl tV j2]] }) := by kernel_rfl

def c_search : MC P := MC.of (α := Int × Unit × Unit × Unit × Int × Int × Int × List V × List Src × List V × Int × Int × Int × List V × List Src × List V × Unit) 127 L_search (fun x => x) (fun x => x) (fun _ => rfl)
  (fun (n, _, _, _, x1, y1, z1, q1, l1, j1, x2, y2, z2, q2, l2, j2, _) => some (0 ≤ n ∧ n ≤ 4000 ∧ okWell q1 l1 j1 ∧ okWell q2 l2 j2))
  (fun (n, _, _, _, x1, y1, z1, q1, l1, j1, x2, y2, z2, q2, l2, j2, _) => ⟨.int .i64 (searchR (fun m => !clearW q1 l1 j1 q2 l2 j2 (m + 1) 0) 0 n), [[.ptr 3 0], [.ptr 4 0], [.int .i64 x1, .int .i64 y1, .int .i64 z1, .sl tV q1, .sl tSrc l1, .sl tV j1], [.int .i64 x2, .int .i64 y2, .int .i64 z2, .sl tV q2, .sl tSrc l2, .sl tV j2]], []⟩) (by kernel_rfl) (by kernel_rfl) (by kernel_rfl) (by
    rintro ⟨n, ⟨⟩, ⟨⟩, ⟨⟩, x1, y1, z1, q1, l1, j1, x2, y2, z2, q2, l2, j2, ⟨⟩⟩ hp
    refine m_of hm (own := true) (by kernel_rfl) (by kernel_rfl) (by kernel_rfl) (T_search n x1 y1 z1 q1 l1 j1 x2 y2 z2 q2 l2 j2) ⟨K_searchL, trivial⟩ ?_

    obtain ⟨h0, h1, h2, h3⟩ : 0 ≤ n ∧ n ≤ 4000 ∧ okWell q1 l1 j1 ∧ okWell q2 l2 j2 := hp
    exact ⟨⟨by omega, h0, h1, h2, h3⟩, rfl⟩)

def gapS (p : Pth) (l : List Src) (p' : Pth) (l' : List Src) : Int × Int :=
  if bothS p l p' l' ≠ 0 then (0, bothS p l p' l') else (searchR (fun m => !clearW p.2 l (jointsS p) p'.2 l' (jointsS p') (m + 1) 0) 0 4000, 0)
theorem T_Gap (x y z : Int) (q : List V) (l : List Src) (x' y' z' : Int) (q' : List V) (l' : List Src) : fnTree (P := P) [c_both.gc, c_wof.gc, c_search.gc] (lpOf []) Try.f73 (encL 0 [.agg tPath, .val tSrcs, .agg tPath, .val tSrcs] (((x, y, z), q), l, ((x', y', z'), q'), l', ())) =
  Tree.cond (bothS ((x, y, z), q) l ((x', y', z'), q') l' != (0 : Int)) (Tree.leaf (SV.tup [SV.int IntKind.i64 (0 : Int), SV.int IntKind.i64 (bothS ((x, y, z), q) l ((x', y', z'), q') l')])) (Tree.need ((0 : Int) ≤ (4000 : Int) ∧ (4000 : Int) ≤ (4000 : Int) ∧ okWell q l (jointsS ((x, y, z), q)) ∧ okWell q' l' (jointsS ((x', y', z'), q'))) (Tree.leaf (SV.tup [SV.int IntKind.i64 (searchR (fun m => !clearW q l (jointsS ((x, y, z), q)) q' l' (jointsS ((x', y', z'), q')) (m + (1 : Int)) (0 : Int)) (0 : Int) (4000 : Int)), SV.int IntKind.i64 (0 : Int)]))) := by kernel_rfl

def c_Gap : PC P := PC.of (α := Pth × List Src × Pth × List Src × Unit) 73 [.agg tPath, .val tSrcs, .agg tPath, .val tSrcs] (fun x => x) (fun x => x) (fun _ => rfl)
  (fun _ => none)
  (fun x => .tup [.int .i64 (gapS x.1 x.2.1 x.2.2.1 x.2.2.2.1).1, .int .i64 (gapS x.1 x.2.1 x.2.2.1 x.2.2.2.1).2]) (by kernel_rfl) (by
    rintro ⟨⟨⟨x, y, z⟩, q⟩, l, ⟨⟨x', y', z'⟩, q'⟩, l', ⟨⟩⟩ hp
    refine fn_of hm (by kernel_rfl) (by kernel_rfl) (T_Gap x y z q l x' y' z' q' l') trivial ?_

    show Tree.holds (fun s => s = SV.tup [.int .i64 (gapS ((x, y, z), q) l ((x', y', z'), q') l').1, .int .i64 (gapS ((x, y, z), q) l ((x', y', z'), q') l').2]) _
    unfold gapS
    refine ⟨fun h => ?_, fun h => ?_⟩
    all_goals simp only [bne_iff_ne, ne_eq, bne_eq_false_iff_eq] at *
    · rw [if_pos h]
      exact rfl
    · obtain ⟨f1, f2⟩ := bothS_zero h
      rw [if_neg (by simp [h])]
      exact ⟨⟨by decide, by decide, okWell_of f1, okWell_of f2⟩, rfl⟩)

end
end Go.MP
