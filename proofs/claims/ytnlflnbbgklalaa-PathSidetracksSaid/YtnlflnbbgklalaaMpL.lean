/- The reference's place at a depth; the law PathPlaces. -/
import Derived.Test.YtnlflnbbgklalaaMpK
import Derived.Test.YtnlflnbbgklalaaMpI
namespace Go.MP
open Go Go.Sx Go.Proofs
set_option linter.unusedVariables false
set_option linter.unusedSimpArgs false
noncomputable section

theorem T_rFloor (a b : Int) : fnTree (P := P) [] (lpOf []) Try.f89 (encL 0 [.val tI, .val tI] (a, b, ())) =
  Tree.need (b ≠ (0 : Int)) (Tree.need (b ≠ (0 : Int)) (Tree.cond (decide (Int.tmod a b < (0 : Int))) (Tree.leaf (SV.int IntKind.i64 (IntKind.wrap IntKind.i64 (IntKind.wrap IntKind.i64 (Int.tdiv a b) - (1 : Int))))) (Tree.leaf (SV.int IntKind.i64 (IntKind.wrap IntKind.i64 (Int.tdiv a b)))))) := by kernel_rfl

def c_rFloor : PC P := PC.of (α := Int × Int × Unit) 89 [.val tI, .val tI] (fun x => x) (fun x => x) (fun _ => rfl)
  (fun x => some (x.2.1 ≠ 0))
  (fun x => .int .i64 (floorW x.1 x.2.1)) (by kernel_rfl) (by
    rintro ⟨a, b, ⟨⟩⟩ hp
    refine fn_of hm (by kernel_rfl) (by kernel_rfl) (T_rFloor a b) trivial ?_

    refine ⟨hp, hp, fun h => ?_, fun h => ?_⟩
    · simp only [decide_eq_true_eq] at h
      show SV.int _ _ = SV.int _ _
      simp only [floorW, h, if_true]
    · simp only [decide_eq_false_iff_not] at h
      show SV.int _ _ = SV.int _ _
      simp only [floorW, h, if_false])

def refL (d : Int) : V → Int → V → List V → V
  | _, _, acc, [] => acc
  | a, dep, acc, v :: r => refL d (vadd a v) (IntKind.wrap IntKind.i64 (dep + (wholeS v).1)) (if d ≥ dep then atLeg d a dep v else acc) r
theorem refL_over {d : Int} : ∀ {l : List V} {a : V} {dep : Int} {acc : V}, (∀ v ∈ l, legOk v) → d < dep → 0 ≤ dep → dep + 131072 * l.length ≤ 1099511627776 → refL d a dep acc l = acc
  | [], _, _, _, _, _, _, _ => rfl
  | v :: r, a, dep, acc, h, h1, h2, h3 => by
    obtain ⟨_, k1, k2⟩ := h v (by simp)
    simp only [List.length_cons] at h3
    unfold refL
    rw [if_neg (by omega), W_id (n := dep + (wholeS v).1) (by omega) (by omega)]
    exact refL_over (fun u hu => h u (by simp [hu])) (by omega) (by omega) (by omega)
theorem refL_eq {d : Int} : ∀ {l : List V} {a : V} {dep : Int} {acc : V}, (∀ v ∈ l, legOk v) → 0 ≤ dep → dep + 131072 * l.length ≤ 1099511627776 → refL d a dep acc l = (atL d a dep acc l).1
  | [], _, _, _, _, _, _ => rfl
  | v :: r, a, dep, acc, h, h2, h3 => by
    obtain ⟨_, k1, k2⟩ := h v (by simp)
    have hr : ∀ u ∈ r, legOk u := fun u hu => h u (by simp [hu])
    simp only [List.length_cons] at h3
    unfold refL atL
    rw [W_id (n := dep + (wholeS v).1) (by omega) (by omega)]
    by_cases hd : dep > d
    · rw [if_neg (by omega), if_pos hd]
      exact refL_over hr (by omega) (by omega) (by omega)
    · rw [if_pos (by omega), if_neg hd]
      exact refL_eq hr (by omega) (by omega)

def L_rAt : Lay := { slots := [(1, .val tI), (2, .ptr 3089 0), (4, .ptr 5089 0), (6, .val tVs), (7, .ptr 8089 0), (8, .val tI), (9, .val tI)], boxes := [(3089, [.val tI, .val tI, .val tI, .val tVs]), (5089, [.any, .any, .any]), (8089, [.val tI, .val tI, .val tI])] }
def L_rAt_0 : Lay := { slots := [(4, .ptr 5089 0), (7, .ptr 8089 0)], boxes := [(5089, [.any, .any, .any]), (8089, [.val tI, .val tI, .val tI])] }
def X_rAt : Exit → Option Lay
  | .exit 0 => some L_rAt_0
  | _ => none
abbrev C_rAt : Code := loopC (bodyOf Try.f25) 0
theorem B_rAt (d : Int) (j : List V) (s i x y z : Int) (l : List V) (a b c : Int) : loopBodyA (P := P) [c_rlong.gc, c_rFloor.gc, c_rPlus.gc] (lpOf []) [] 89 noU (inner C_rAt) L_rAt X_rAt (α := Int × Unit × Unit × List V × Unit × Int × Int × Int × Int × Int × List V × Unit × Unit × Unit × Int × Int × Int × Unit) (fun x => x) (fun x => x) (d, (), (), j, (), s, i, x, y, z, l, (), (), (), a, b, c, ()) =
  Tree.cond (decide (i < (↑(List.length l) : Int)))
  (Tree.need ((0 : Int) ≤ i ∧ i < (↑(List.length l) : Int)) (Tree.cond (decide (d ≥ s)) (Tree.need ((0 : Int) ≤ i ∧ i < (↑(List.length l) : Int)) (Tree.need ((0 : Int) ≤ i ∧ i < (↑(List.length j) : Int)) (Tree.need ((longS (List.getD l (Int.toNat i) ((0 : Int), (0 : Int), (0 : Int)))).fst ≠ (0 : Int)) (Tree.need ((longS (List.getD l (Int.toNat i) ((0 : Int), (0 : Int), (0 : Int)))).fst ≠ (0 : Int)) (Tree.need ((longS (List.getD l (Int.toNat i) ((0 : Int), (0 : Int), (0 : Int)))).fst ≠ (0 : Int)) (Tree.leaf (Sum.inl (d, PUnit.unit, PUnit.unit, j, PUnit.unit, IntKind.wrap IntKind.i64 (s + (longS (List.getD l (Int.toNat i) ((0 : Int), (0 : Int), (0 : Int)))).fst), IntKind.wrap IntKind.i64 (i + (1 : Int)), x, y, z, l, PUnit.unit, PUnit.unit, PUnit.unit, (vadd (List.getD j (Int.toNat i) ((0 : Int), (0 : Int), (0 : Int))) (floorW (IntKind.wrap IntKind.i64 ((List.getD l (Int.toNat i) ((0 : Int), (0 : Int), (0 : Int))).fst * minI (IntKind.wrap IntKind.i64 (d - s)) (longS (List.getD l (Int.toNat i) ((0 : Int), (0 : Int), (0 : Int)))).fst)) (longS (List.getD l (Int.toNat i) ((0 : Int), (0 : Int), (0 : Int)))).fst, floorW (IntKind.wrap IntKind.i64 ((List.getD l (Int.toNat i) ((0 : Int), (0 : Int), (0 : Int))).snd.fst * minI (IntKind.wrap IntKind.i64 (d - s)) (longS (List.getD l (Int.toNat i) ((0 : Int), (0 : Int), (0 : Int)))).fst)) (longS (List.getD l (Int.toNat i) ((0 : Int), (0 : Int), (0 : Int)))).fst, floorW (IntKind.wrap IntKind.i64 ((List.getD l (Int.toNat i) ((0 : Int), (0 : Int), (0 : Int))).snd.snd * minI (IntKind.wrap IntKind.i64 (d - s)) (longS (List.getD l (Int.toNat i) ((0 : Int), (0 : Int), (0 : Int)))).fst)) (longS (List.getD l (Int.toNat i) ((0 : Int), (0 : Int), (0 : Int)))).fst)).fst, (vadd (List.getD j (Int.toNat i) ((0 : Int), (0 : Int), (0 : Int))) (floorW (IntKind.wrap IntKind.i64 ((List.getD l (Int.toNat i) ((0 : Int), (0 : Int), (0 : Int))).fst * minI (IntKind.wrap IntKind.i64 (d - s)) (longS (List.getD l (Int.toNat i) ((0 : Int), (0 : Int), (0 : Int)))).fst)) (longS (List.getD l (Int.toNat i) ((0 : Int), (0 : Int), (0 : Int)))).fst, floorW (IntKind.wrap IntKind.i64 ((List.getD l (Int.toNat i) ((0 : Int), (0 : Int), (0 : Int))).snd.fst * minI (IntKind.wrap IntKind.i64 (d - s)) (longS (List.getD l (Int.toNat i) ((0 : Int), (0 : Int), (0 : Int)))).fst)) (longS (List.getD l (Int.toNat i) ((0 : Int), (0 : Int), (0 : Int)))).fst, floorW (IntKind.wrap IntKind.i64 ((List.getD l (Int.toNat i) ((0 : Int), (0 : Int), (0 : Int))).snd.snd * minI (IntKind.wrap IntKind.i64 (d - s)) (longS (List.getD l (Int.toNat i) ((0 : Int), (0 : Int), (0 : Int)))).fst)) (longS (List.getD l (Int.toNat i) ((0 : Int), (0 : Int), (0 : Int)))).fst)).snd.fst, (vadd (List.getD j (Int.toNat i) ((0 : Int), (0 : Int), (0 : Int))) (floorW (IntKind.wrap IntKind.i64 ((List.getD l (Int.toNat i) ((0 : Int), (0 : Int), (0 : Int))).fst * minI (IntKind.wrap IntKind.i64 (d - s)) (longS (List.getD l (Int.toNat i) ((0 : Int), (0 : Int), (0 : Int)))).fst)) (longS (List.getD l (Int.toNat i) ((0 : Int), (0 : Int), (0 : Int)))).fst, floorW (IntKind.wrap IntKind.i64 ((List.getD l (Int.toNat i) ((0 : Int), (0 : Int), (0 : Int))).snd.fst * minI (IntKind.wrap IntKind.i64 (d - s)) (longS (List.getD l (Int.toNat i) ((0 : Int), (0 : Int), (0 : Int)))).fst)) (longS (List.getD l (Int.toNat i) ((0 : Int), (0 : Int), (0 : Int)))).fst, floorW (IntKind.wrap IntKind.i64 ((List.getD l (Int.toNat i) ((0 : Int), (0 : Int), (0 : Int))).snd.snd * minI (IntKind.wrap IntKind.i64 (d - s)) (longS (List.getD l (Int.toNat i) ((0 : Int), (0 : Int), (0 : Int)))).fst)) (longS (List.getD l (Int.toNat i) ((0 : Int), (0 : Int), (0 : Int)))).fst)).snd.snd, PUnit.unit)))))))) (Tree.leaf (Sum.inl (d, PUnit.unit, PUnit.unit, j, PUnit.unit, IntKind.wrap IntKind.i64 (s + (longS (List.getD l (Int.toNat i) ((0 : Int), (0 : Int), (0 : Int)))).fst), IntKind.wrap IntKind.i64 (i + (1 : Int)), x, y, z, l, PUnit.unit, PUnit.unit, PUnit.unit, a, b, c, PUnit.unit)))))
  (Tree.leaf (Sum.inr (Exit.exit (0 : Nat), Lay.st L_rAt_0 noU (PUnit.unit, PUnit.unit, PUnit.unit, PUnit.unit, PUnit.unit, a, b, c, PUnit.unit)))) := by kernel_rfl

def inv_rAt : Int × Unit × Unit × List V × Unit × Int × Int × Int × Int × Int × List V × Unit × Unit × Unit × Int × Int × Int × Unit → Prop := fun (d, _, _, j, _, s, i, x, y, z, l, _, _, _, a, b, c, _) => 0 ≤ i ∧ i ≤ l.length ∧ l.length ≤ 20 ∧ (∀ v ∈ l, legOk v) ∧ j = jl (x, y, z) l
def O_rAt : Int × Unit × Unit × List V × Unit × Int × Int × Int × Int × Int × List V × Unit × Unit × Unit × Int × Int × Int × Unit → Tree (Exit × St) := fun (d, _, _, j, _, s, i, x, y, z, l, _, _, _, a, b, c, _) => .leaf (.exit 0, L_rAt_0.st noU ((), (), (), (), (), (refL d (j.getD i.toNat (0, 0, 0)) s (a, b, c) (l.drop i.toNat)).1, (refL d (j.getD i.toNat (0, 0, 0)) s (a, b, c) (l.drop i.toNat)).2.1, (refL d (j.getD i.toNat (0, 0, 0)) s (a, b, c) (l.drop i.toNat)).2.2, ()))
def R_rAt : LRun := runOf 89 L_rAt (fun x => x) (inv_rAt) (O_rAt)
theorem K_rAt : LoopOk P [] 89 none noU C_rAt (R_rAt) := by
  refine loop_of hm (cx := [c_rlong.gc, c_rFloor.gc, c_rPlus.gc]) [] (xl := X_rAt) (α := Int × Unit × Unit × List V × Unit × Int × Int × Int × Int × Int × List V × Unit × Unit × Unit × Int × Int × Int × Unit) (fun x => x) (fun (d, _, _, j, _, s, i, x, y, z, l, _) => (l.length - i).toNat) (fun _ => rfl) (by kernel_rfl) (by kernel_rfl) ?_ (by kernel_rfl) trivial ?_
  · intro e L' h
    unfold X_rAt at h
    split at h <;> cases h <;> kernel_rfl
  · rintro ⟨d, ⟨⟩, ⟨⟩, j, ⟨⟩, s, i, x, y, z, l, ⟨⟩, ⟨⟩, ⟨⟩, a, b, c, ⟨⟩⟩ hinv Q hQ
    refine hold_of_eq (B_rAt d j s i x y z l a b c) ?_

    obtain ⟨h0, h1, h2, h3, h4⟩ := hinv
    rw [W_id (n := i + 1) (by omega) (by omega)]
    unfold O_rAt at hQ
    dsimp only at hQ
    have hjl := jl_length l (x, y, z)
    refine ⟨fun hi => ?_, fun hi => ?_⟩
    · simp only [decide_eq_true_eq] at hi
      have hu := h3 _ (getD_mem (d := (0, 0, 0)) (show i.toNat < l.length by omega))
      have hn := jl_next l (x, y, z) i.toNat (by omega)
      rw [← h4, show i.toNat + 1 = (i + 1).toNat by omega] at hn
      rw [drop_step (0, 0, 0) h0 hi, refL, ← hn] at hQ
      rw [long_leg hu]
      generalize hgu : l.getD i.toNat (0, 0, 0) = u at *
      obtain ⟨_, g2, g3⟩ := hu
      have hlen : i < (j.length : Int) := by rw [h4, hjl]; omega
      have hm : ((l.length : Int) - (i + 1)).toNat < ((l.length : Int) - i).toNat := by omega
      refine ⟨⟨h0, hi⟩, fun hd => ?_, fun hd => ?_⟩
      · rw [if_pos (by simpa using hd)] at hQ
        exact ⟨⟨h0, hi⟩, ⟨h0, hlen⟩, by dsimp only; omega, by dsimp only; omega, by dsimp only; omega, ⟨⟨by omega, by omega, h2, h3, h4⟩, hm⟩, hQ⟩
      · rw [if_neg (by simpa using hd)] at hQ
        exact ⟨⟨⟨by omega, by omega, h2, h3, h4⟩, hm⟩, hQ⟩
    · simp only [decide_eq_false_iff_not] at hi
      rw [drop_end hi] at hQ
      exact hQ

theorem T_rAt (x y z : Int) (l : List V) (d : Int) : fnTree (P := P) [c_rCheck.gc, c_rLength.gc, c_rjoints.gc] (lpOf [(0, R_rAt)]) Try.f25 (encL 0 [.agg tPath, .val tI] (((x, y, z), l), d, ())) =
  Tree.cond (checkS ((x, y, z), l) != (0 : Int)) (Tree.leaf (SV.tup [SV.agg [SV.int IntKind.i64 (0 : Int), SV.int IntKind.i64 (0 : Int), SV.int IntKind.i64 (0 : Int)], SV.bool false])) (Tree.cond (decide (d < (0 : Int))) (Tree.leaf (SV.tup [SV.agg [SV.int IntKind.i64 (0 : Int), SV.int IntKind.i64 (0 : Int), SV.int IntKind.i64 (0 : Int)], SV.bool false])) (Tree.cond (decide (d > lenS ((x, y, z), l))) (Tree.leaf (SV.tup [SV.agg [SV.int IntKind.i64 (0 : Int), SV.int IntKind.i64 (0 : Int), SV.int IntKind.i64 (0 : Int)], SV.bool false])) (Tree.need (List.length l ≤ (20 : Nat)) (Tree.need (inv_rAt (d, (), (), jl (x, y, z) l, (), (0 : Int), (0 : Int), x, y, z, l, (), (), (), x, y, z, ())) (Tree.leaf (SV.tup [SV.agg [SV.int IntKind.i64 (refL d (List.getD (jl (x, y, z) l) (Int.toNat (0 : Int)) ((0 : Int), (0 : Int), (0 : Int))) (0 : Int) (x, y, z) (List.drop (Int.toNat (0 : Int)) l)).fst, SV.int IntKind.i64 (refL d (List.getD (jl (x, y, z) l) (Int.toNat (0 : Int)) ((0 : Int), (0 : Int), (0 : Int))) (0 : Int) (x, y, z) (List.drop (Int.toNat (0 : Int)) l)).snd.fst, SV.int IntKind.i64 (refL d (List.getD (jl (x, y, z) l) (Int.toNat (0 : Int)) ((0 : Int), (0 : Int), (0 : Int))) (0 : Int) (x, y, z) (List.drop (Int.toNat (0 : Int)) l)).snd.snd], SV.bool true])))))) := by kernel_rfl

def c_rAt : PC P := PC.of (α := Pth × Int × Unit) 25 [.agg tPath, .val tI] (fun x => x) (fun x => x) (fun _ => rfl)
  (fun _ => none)
  (fun x => .tup [svV (atS x.1 x.2.1).1, .bool (atS x.1 x.2.1).2]) (by kernel_rfl) (by
    rintro ⟨⟨⟨x, y, z⟩, l⟩, d, ⟨⟩⟩ hp
    refine fn_of hm (by kernel_rfl) (by kernel_rfl) (T_rAt x y z l d) ⟨K_rAt, trivial⟩ ?_

    show Tree.holds (fun s => s = SV.tup [svV (atS ((x, y, z), l) d).1, .bool (atS ((x, y, z), l) d).2]) _
    unfold atS
    refine ⟨fun h => ?_, fun h => ⟨fun h2 => ?_, fun h2 => ⟨fun h3 => ?_, fun h3 => ?_⟩⟩⟩
    all_goals simp only [decide_eq_true_eq, decide_eq_false_iff_not, bne_iff_ne, ne_eq, bne_eq_false_iff_eq] at *
    · show SV.tup _ = _
      rw [if_neg (by omega)]
    · show SV.tup _ = _
      rw [if_neg (by omega)]
    · show SV.tup _ = _
      rw [if_neg (by omega)]
    · rw [if_pos (by omega)]
      have hl := checkS_len h
      have hg := checkS_legs h
      have hl' : l.length ≤ 20 := hl
      have e0 : (jl (x, y, z) l).getD (Int.toNat 0) (0, 0, 0) = (x, y, z) := by cases l <;> rfl
      have e1 := refL_eq (d := d) (l := l) (a := (x, y, z)) (dep := 0) (acc := (x, y, z)) hg (by omega) (by omega)
      simp only [e0, Int.toNat_zero, List.drop_zero]
      rw [show (jl (x, y, z) l).getD 0 (0, 0, 0) = (x, y, z) from e0, e1]
      exact ⟨hl, ⟨by omega, by omega, hl, hg, rfl⟩, rfl⟩)

theorem sumL_rng : ∀ {l : List V} {s : Int}, (∀ v ∈ l, legOk v) → 0 ≤ s → s + 131072 * l.length ≤ 1099511627776 → 0 ≤ sumL s l ∧ sumL s l ≤ s + 131072 * l.length
  | [], s, _, h, _ => ⟨h, by simp [sumL]⟩
  | v :: r, s, h, h1, h2 => by
    obtain ⟨_, k1, k2⟩ := h v (by simp)
    simp only [List.length_cons] at h2 ⊢
    have e : sumL s (v :: r) = sumL (s + (wholeS v).1) r := by
      unfold sumL
      rw [List.foldl_cons, W_id (by omega) (by omega)]
    rw [e]
    obtain ⟨a1, a2⟩ := sumL_rng (l := r) (s := s + (wholeS v).1) (fun u hu => h u (by simp [hu])) (by omega) (by omega)
    exact ⟨a1, by omega⟩
theorem lenS_rng (p : Pth) : 0 ≤ lenS p ∧ lenS p ≤ 2621440 := by
  unfold lenS
  split
  · rename_i h
    have h1 := checkS_len h
    have := sumL_rng (s := 0) (checkS_legs h) (by omega) (by omega)
    omega
  · omega

abbrev tPaths : Ty := .sl tPath
def L_PlacesI : Lay := { slots := [(1, .val tIs), (7, .val tPaths), (8, .val tI), (9, .val tI), (10, .val tI)] }
def L_PlacesI_0 : Lay := { slots := [(1, .val tIs), (7, .val tPaths), (8, .val tI)] }
def L_PlacesI_1 : Lay := { slots := [(6, .val .bool)] }
def X_PlacesI : Exit → Option Lay
  | .exit 2 => some L_PlacesI_0
  | .ret => some L_PlacesI_1
  | _ => none
abbrev C_PlacesI : Code := loopC (inner (loopC (bodyOf Try.f3) 0)) 2
theorem B_PlacesI (ds : List Int) (m : List Pth) (k n i : Int) : loopBodyA (P := P) [c_Mod64.gc, c_At.gc, c_rAt.gc] (lpOf []) [] 83 noU (inner C_PlacesI) L_PlacesI X_PlacesI (α := List Int × List Pth × Int × Int × Int × Unit) (fun x => x) (fun x => x) (ds, m, k, n, i, ()) =
  Tree.cond (decide (i < (↑(List.length ds) : Int))) (Tree.need ((0 : Int) ≤ i ∧ i < (↑(List.length ds) : Int)) (Tree.need ((2 : Int) ≠ (0 : Int)) (Tree.cond (Int.tmod i (2 : Int) == (0 : Int)) (Tree.need ((0 : Int) < IntKind.wrap IntKind.i64 (n + (3 : Int)) ∧ R64 (IntKind.wrap IntKind.i64 (n + (3 : Int)))) (Tree.need ((0 : Int) ≤ k ∧ k < (↑(List.length m) : Int)) (Tree.need ((0 : Int) ≤ k ∧ k < (↑(List.length m) : Int)) (Tree.cond (!((atS (List.getD m (Int.toNat k) (((0 : Int), (0 : Int), (0 : Int)), [])) (IntKind.wrap IntKind.i64 (List.getD ds (Int.toNat i) (0 : Int) % IntKind.wrap IntKind.i64 (n + (3 : Int)) - (1 : Int)))).fst.fst == (atS (List.getD m (Int.toNat k) (((0 : Int), (0 : Int), (0 : Int)), [])) (IntKind.wrap IntKind.i64 (List.getD ds (Int.toNat i) (0 : Int) % IntKind.wrap IntKind.i64 (n + (3 : Int)) - (1 : Int)))).fst.fst && ((atS (List.getD m (Int.toNat k) (((0 : Int), (0 : Int), (0 : Int)), [])) (IntKind.wrap IntKind.i64 (List.getD ds (Int.toNat i) (0 : Int) % IntKind.wrap IntKind.i64 (n + (3 : Int)) - (1 : Int)))).fst.snd.fst == (atS (List.getD m (Int.toNat k) (((0 : Int), (0 : Int), (0 : Int)), [])) (IntKind.wrap IntKind.i64 (List.getD ds (Int.toNat i) (0 : Int) % IntKind.wrap IntKind.i64 (n + (3 : Int)) - (1 : Int)))).fst.snd.fst && ((atS (List.getD m (Int.toNat k) (((0 : Int), (0 : Int), (0 : Int)), [])) (IntKind.wrap IntKind.i64 (List.getD ds (Int.toNat i) (0 : Int) % IntKind.wrap IntKind.i64 (n + (3 : Int)) - (1 : Int)))).fst.snd.snd == (atS (List.getD m (Int.toNat k) (((0 : Int), (0 : Int), (0 : Int)), [])) (IntKind.wrap IntKind.i64 (List.getD ds (Int.toNat i) (0 : Int) % IntKind.wrap IntKind.i64 (n + (3 : Int)) - (1 : Int)))).fst.snd.snd && true)))) (Tree.leaf (Sum.inr (Exit.ret, Lay.st L_PlacesI_1 noU (false, PUnit.unit)))) (Tree.cond (!(atS (List.getD m (Int.toNat k) (((0 : Int), (0 : Int), (0 : Int)), [])) (IntKind.wrap IntKind.i64 (List.getD ds (Int.toNat i) (0 : Int) % IntKind.wrap IntKind.i64 (n + (3 : Int)) - (1 : Int)))).snd == (atS (List.getD m (Int.toNat k) (((0 : Int), (0 : Int), (0 : Int)), [])) (IntKind.wrap IntKind.i64 (List.getD ds (Int.toNat i) (0 : Int) % IntKind.wrap IntKind.i64 (n + (3 : Int)) - (1 : Int)))).snd) (Tree.leaf (Sum.inr (Exit.ret, Lay.st L_PlacesI_1 noU (false, PUnit.unit)))) (Tree.leaf (Sum.inl (ds, m, k, n, IntKind.wrap IntKind.i64 (i + (1 : Int)), PUnit.unit)))))))) (Tree.need ((0 : Int) ≤ k ∧ k < (↑(List.length m) : Int)) (Tree.need ((0 : Int) ≤ k ∧ k < (↑(List.length m) : Int)) (Tree.cond (!((atS (List.getD m (Int.toNat k) (((0 : Int), (0 : Int), (0 : Int)), [])) (List.getD ds (Int.toNat i) (0 : Int))).fst.fst == (atS (List.getD m (Int.toNat k) (((0 : Int), (0 : Int), (0 : Int)), [])) (List.getD ds (Int.toNat i) (0 : Int))).fst.fst && ((atS (List.getD m (Int.toNat k) (((0 : Int), (0 : Int), (0 : Int)), [])) (List.getD ds (Int.toNat i) (0 : Int))).fst.snd.fst == (atS (List.getD m (Int.toNat k) (((0 : Int), (0 : Int), (0 : Int)), [])) (List.getD ds (Int.toNat i) (0 : Int))).fst.snd.fst && ((atS (List.getD m (Int.toNat k) (((0 : Int), (0 : Int), (0 : Int)), [])) (List.getD ds (Int.toNat i) (0 : Int))).fst.snd.snd == (atS (List.getD m (Int.toNat k) (((0 : Int), (0 : Int), (0 : Int)), [])) (List.getD ds (Int.toNat i) (0 : Int))).fst.snd.snd && true)))) (Tree.leaf (Sum.inr (Exit.ret, Lay.st L_PlacesI_1 noU (false, PUnit.unit)))) (Tree.cond (!(atS (List.getD m (Int.toNat k) (((0 : Int), (0 : Int), (0 : Int)), [])) (List.getD ds (Int.toNat i) (0 : Int))).snd == (atS (List.getD m (Int.toNat k) (((0 : Int), (0 : Int), (0 : Int)), [])) (List.getD ds (Int.toNat i) (0 : Int))).snd) (Tree.leaf (Sum.inr (Exit.ret, Lay.st L_PlacesI_1 noU (false, PUnit.unit)))) (Tree.leaf (Sum.inl (ds, m, k, n, IntKind.wrap IntKind.i64 (i + (1 : Int)), PUnit.unit)))))))))) (Tree.leaf (Sum.inr (Exit.exit (2 : Nat), Lay.st L_PlacesI_0 noU (ds, m, k, PUnit.unit)))) := by kernel_rfl

def inv_PlacesI : List Int × List Pth × Int × Int × Int × Unit → Prop := fun (ds, m, k, n, i, _) => ds.length ≤ 30 ∧ m.length = 2 ∧ 0 ≤ k ∧ k < 2 ∧ 0 ≤ n ∧ n ≤ 2621440 ∧ 0 ≤ i ∧ i ≤ ds.length
def O_PlacesI : List Int × List Pth × Int × Int × Int × Unit → Tree (Exit × St) := fun (ds, m, k, n, i, _) => .leaf (.exit 2, L_PlacesI_0.st noU (ds, m, k, ()))
def R_PlacesI : LRun := runOf 83 L_PlacesI (fun x => x) (inv_PlacesI) (O_PlacesI)
theorem K_PlacesI : LoopOk P [] 83 none noU C_PlacesI (R_PlacesI) := by
  refine loop_of hm (cx := [c_Mod64.gc, c_At.gc, c_rAt.gc]) [] (xl := X_PlacesI) (α := List Int × List Pth × Int × Int × Int × Unit) (fun x => x) (fun (ds, m, k, n, i, _) => (ds.length - i).toNat) (fun _ => rfl) (by kernel_rfl) (by kernel_rfl) ?_ (by kernel_rfl) trivial ?_
  · intro e L' h
    unfold X_PlacesI at h
    split at h <;> cases h <;> kernel_rfl
  · rintro ⟨ds, m, k, n, i, ⟨⟩⟩ hinv Q hQ
    refine hold_of_eq (B_PlacesI ds m k n i) ?_

    obtain ⟨h0, h1, h2, h3, h4, h5, h6, h7⟩ := hinv
    rw [W_id (n := i + 1) (by omega) (by omega), W_id (n := n + 3) (by omega) (by omega)]
    have hm : ((ds.length : Int) - (i + 1)).toNat < ((ds.length : Int) - i).toNat ∨ ¬ i < (ds.length : Int) := by omega
    refine ⟨fun hi => ?_, fun hi => hQ⟩
    simp only [decide_eq_true_eq] at hi
    have hm : ((ds.length : Int) - (i + 1)).toNat < ((ds.length : Int) - i).toNat := by omega
    refine ⟨⟨h6, hi⟩, by decide, fun _ => ?_, fun _ => ?_⟩
    · generalize atS _ _ = r
      exact ⟨⟨by omega, by unfold R64; omega⟩, ⟨h2, by omega⟩, ⟨h2, by omega⟩, fun h => by simp at h, fun _ => ⟨fun h => by simp at h, fun _ => ⟨⟨⟨h0, h1, h2, h3, h4, h5, by omega, by omega⟩, hm⟩, hQ⟩⟩⟩
    · generalize atS _ _ = r
      exact ⟨⟨h2, by omega⟩, ⟨h2, by omega⟩, fun h => by simp at h, fun _ => ⟨fun h => by simp at h, fun _ => ⟨⟨⟨h0, h1, h2, h3, h4, h5, by omega, by omega⟩, hm⟩, hQ⟩⟩⟩

def L_PlacesO : Lay := { slots := [(1, .val tIs), (7, .val tPaths), (8, .val tI)] }
def L_PlacesO_0 : Lay := { slots := [] }
def L_PlacesO_1 : Lay := { slots := [(6, .val .bool)] }
def X_PlacesO : Exit → Option Lay
  | .exit 0 => some L_PlacesO_0
  | .ret => some L_PlacesO_1
  | _ => none
abbrev C_PlacesO : Code := loopC (bodyOf Try.f3) 0
theorem B_PlacesO (ds : List Int) (m : List Pth) (k : Int) : loopBodyA (P := P) [c_rLength.gc] (lpOf [(2, R_PlacesI)]) [] 83 noU (inner C_PlacesO) L_PlacesO X_PlacesO (α := List Int × List Pth × Int × Unit) (fun x => x) (fun x => x) (ds, m, k, ()) =
  Tree.cond (decide (k < (2 : Int))) (Tree.need ((0 : Int) ≤ k ∧ k < (↑(List.length m) : Int)) (Tree.need (inv_PlacesI (ds, m, k, lenS (List.getD m (Int.toNat k) (((0 : Int), (0 : Int), (0 : Int)), [])), (0 : Int), ())) (Tree.leaf (Sum.inl (ds, m, IntKind.wrap IntKind.i64 (k + (1 : Int)), PUnit.unit))))) (Tree.leaf (Sum.inr (Exit.exit (0 : Nat), Lay.st L_PlacesO_0 noU PUnit.unit))) := by kernel_rfl

def inv_PlacesO : List Int × List Pth × Int × Unit → Prop := fun (ds, m, k, _) => ds.length ≤ 30 ∧ m.length = 2 ∧ 0 ≤ k ∧ k ≤ 2
def O_PlacesO : List Int × List Pth × Int × Unit → Tree (Exit × St) := fun (ds, m, k, _) => .leaf (.exit 0, L_PlacesO_0.st noU ())
def R_PlacesO : LRun := runOf 83 L_PlacesO (fun x => x) (inv_PlacesO) (O_PlacesO)
theorem K_PlacesO : LoopOk P [] 83 none noU C_PlacesO (R_PlacesO) := by
  refine loop_of hm (cx := [c_rLength.gc]) [(2, R_PlacesI)] (xl := X_PlacesO) (α := List Int × List Pth × Int × Unit) (fun x => x) (fun (ds, m, k, _) => (2 - k).toNat) (fun _ => rfl) (by kernel_rfl) (by kernel_rfl) ?_ (by kernel_rfl) ⟨K_PlacesI, trivial⟩ ?_
  · intro e L' h
    unfold X_PlacesO at h
    split at h <;> cases h <;> kernel_rfl
  · rintro ⟨ds, m, k, ⟨⟩⟩ hinv Q hQ
    refine hold_of_eq (B_PlacesO ds m k) ?_

    obtain ⟨h0, h1, h2, h3⟩ := hinv
    rw [W_id (n := k + 1) (by omega) (by omega)]
    refine ⟨fun hi => ?_, fun hi => hQ⟩
    simp only [decide_eq_true_eq] at hi
    have hl := lenS_rng (m.getD k.toNat (((0 : Int), (0 : Int), (0 : Int)), []))
    exact ⟨⟨h2, by omega⟩, ⟨h0, h1, h2, by omega, hl.1, hl.2, by omega, by omega⟩, ⟨⟨h0, h1, by omega, by omega⟩, by show (2 - (k + 1)).toNat < (2 - k).toNat; omega⟩, hQ⟩

theorem T_PathPlaces (x y z : Int) (l : List V) (ds : List Int) (nums : List Int) : fnTree (P := P) [c_BigPath.gc, c_awake.gc, c_NewRing.gc, c_kPath.gc] (lpOf [(0, R_PlacesO)]) Try.f3 (encL 0 [.agg tPath, .val tIs, .val tIs] (((x, y, z), l), ds, nums, ())) =
  Tree.cond (decide ((↑(List.length l) : Int) > (24 : Int))) (Tree.leaf (SV.bool true)) (Tree.cond (decide ((↑(List.length ds) : Int) > (30 : Int))) (Tree.leaf (SV.bool true)) (Tree.need (pr_kPath ((), (6 : Int), nums, (0 : Int), ())) (Tree.need (inv_PlacesO (ds, [((x, y, z), l), (V_kPath ((), (6 : Int), nums, (0 : Int), ())).fst], (0 : Int), ())) (Tree.leaf (SV.bool true))))) := by kernel_rfl

def c_PathPlaces : PC P := PC.of (α := Pth × List Int × List Int × Unit) 3 [.agg tPath, .val tIs, .val tIs] (fun x => x) (fun x => x) (fun _ => rfl)
  (fun _ => none)
  (fun x => .bool true) (by kernel_rfl) (by
    rintro ⟨⟨⟨x, y, z⟩, l⟩, ds, nums, ⟨⟩⟩ hp
    refine fn_of hm (by kernel_rfl) (by kernel_rfl) (T_PathPlaces x y z l ds nums) ⟨K_PlacesO, trivial⟩ ?_

    refine ⟨fun _ => rfl, fun _ => ⟨fun _ => rfl, fun h => ⟨⟨by decide, by decide, by decide, by decide⟩, ⟨?_, rfl, by decide, by decide⟩, rfl⟩⟩⟩
    simp only [gt_iff_lt, decide_eq_false_iff_not] at h
    omega)

end
end Go.MP
