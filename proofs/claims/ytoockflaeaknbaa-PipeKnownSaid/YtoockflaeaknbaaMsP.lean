/- Tallies: tubes added and lengths dropped; the law PipeBack. -/
import Derived.Test.YtoockflaeaknbaaMsL
namespace Go.MP
open Go Go.Sx Go.Proofs
set_option linter.unusedVariables false
set_option linter.unusedSimpArgs false
noncomputable section
def L_cloneT : Lay := { slots := [(0, .val tTs)] }
theorem T_cloneT (l : List Tb) : mTree (P := P) [] (lpOf []) Try.f92 L_cloneT true (l, ()) =
  Tree.need (l ≠ []) (Tree.cond false (Tree.leaf { res := SV.nils, boxes := [] }) (Tree.need (((0 : Nat) + List.length l) * (72 : Nat) ≤ (140737488355328 : Nat)) (Tree.leaf { res := SV.own (nat_lit 100), boxes := [], news := [Ob.row (50 : Nat) (Ty.pair (Ty.int IntKind.i64) (Ty.pair (Ty.int IntKind.i64) (Ty.pair (Ty.int IntKind.i64) (Ty.pair (Ty.int IntKind.i64) (Ty.pair (Ty.int IntKind.i64) (Ty.pair (Ty.int IntKind.i64) (Ty.pair (Ty.int IntKind.i64) (Ty.pair (Ty.int IntKind.i64) (Ty.int IntKind.i64))))))))) l] }))) := by kernel_rfl
def c_cloneT : XC P := XC.of (α := List Tb × Unit) 92 L_cloneT (fun x => x) (fun x => x) (fun _ => rfl)
  (fun x => some (x.1 ≠ [] ∧ x.1.length ≤ 1000))
  (fun x => ⟨.own 100, [], [.row 50 tT x.1]⟩) (by kernel_rfl) (by kernel_rfl) (by
    rintro ⟨l, ⟨⟩⟩ hp
    refine m_of hm (own := true) (by kernel_rfl) (by kernel_rfl) (by kernel_rfl) (T_cloneT l) trivial ?_
    obtain ⟨h1, h2⟩ := hp
    have h3 : l.length ≤ 1000 := h2
    exact ⟨h1, fun h => (by cases h), fun _ => ⟨by show (0 + l.length) * 72 ≤ 140737488355328; omega, rfl⟩⟩)
def cntL : List Tb → Int
  | [] => 0
  | t :: r => t.1 + cntL r
theorem cntL_append (a b : List Tb) : cntL (a ++ b) = cntL a + cntL b := by
  induction a with
  | nil => simp [cntL]
  | cons t r ih => rw [List.cons_append, cntL, cntL, ih]; omega
theorem cntL_rng (l : List Tb) : AllF l → 0 ≤ cntL l ∧ cntL l ≤ 400 * l.length := by
  induction l with
  | nil => intro _; simp [cntL]
  | cons t r ih =>
    intro h
    have h1 := (h t (by simp)).cnt
    have h2 := ih fun u hu => h u (by simp [hu])
    rw [cntL, List.length_cons]; omega
theorem cntL_step {l : List Tb} {i : Int} (h0 : 0 ≤ i) (h : i < l.length) : cntL (l.drop i.toNat) = (l.getD i.toNat zT).1 + cntL (l.drop (i + 1).toNat) := by
  rw [drop_step zT h0 h]; rfl
def dropR : List Tb → Int → List Tb
  | [], _ => []
  | t :: r, n => if n ≤ 0 then t :: r else if t.1 > n then (t.1 - n, t.2) :: r else dropR r (n - t.1)
def dropE (l : List Tb) (n : Int) : List Tb := (dropR l.reverse n).reverse
theorem dropE_nil (l : List Tb) {n : Int} (h : n ≤ 0) : dropE l n = l := by
  unfold dropE
  cases e : l.reverse with
  | nil => rw [dropR, ← e, List.reverse_reverse]
  | cons t r => rw [dropR, if_pos h, ← e, List.reverse_reverse]
theorem dropE_snoc (a : List Tb) (t : Tb) {n : Int} (h : 0 < n) : dropE (a ++ [t]) n = if t.1 > n then a ++ [(t.1 - n, t.2)] else dropE a (n - t.1) := by
  unfold dropE
  rw [List.reverse_append, List.reverse_singleton, List.singleton_append, dropR, if_neg (by omega)]
  split
  · rw [List.reverse_cons, List.reverse_reverse]
  · rfl
theorem snoc_of {l : List Tb} (h : l ≠ []) : l = l.take (l.length - 1) ++ [l.getD (l.length - 1) zT] := by
  have hp : 0 < l.length := List.length_pos_iff.2 h
  have h1 : l.drop (l.length - 1) = [l.getD (l.length - 1) zT] := by
    have := drop_step (zT : Tb) (l := l) (i := ((l.length - 1 : Nat) : Int)) (by omega) (by omega)
    rw [Int.toNat_natCast] at this
    rw [this, show (((l.length - 1 : Nat) : Int) + 1).toNat = l.length by omega, List.drop_length]
  rw [← h1, List.take_append_drop]
theorem set_last {l : List Tb} (h : l ≠ []) (v : Tb) : l.set (l.length - 1) v = l.take (l.length - 1) ++ [v] := by
  have hp : 0 < l.length := List.length_pos_iff.2 h
  rw [List.set_eq_take_append_cons_drop, if_pos (by omega), show l.length - 1 + 1 = l.length by omega, List.drop_length]
theorem cnt_last {l : List Tb} (h : l ≠ []) (hf : AllF l) : (l.getD (l.length - 1) zT).1 ≤ cntL l ∧ Fair (l.getD (l.length - 1) zT) := by
  have hp : 0 < l.length := List.length_pos_iff.2 h
  have hm : l.getD (l.length - 1) zT ∈ l := by
    have := mem_getD (d := zT) (l := l) (i := ((l.length - 1 : Nat) : Int)) (by omega) (by omega)
    rwa [Int.toNat_natCast] at this
  refine ⟨?_, hf _ hm⟩
  have e := snoc_of h
  have h2 := (cntL_rng (l.take (l.length - 1)) fun t ht => hf t (List.mem_of_mem_take ht)).1
  have : cntL l = cntL (l.take (l.length - 1)) + cntL [l.getD (l.length - 1) zT] := by rw [← cntL_append, ← e]
  rw [this, cntL, cntL]; omega
def L_DropA : Lay := { slots := [(1, .val tI), (2, .ptr 3072 0), (4, .ptr 5072 0), (7, .val tI), (19, .val tTs), (20, .val tI), (21, .val tI)], boxes := [(3072, [.val tTs]), (5072, [.val tTs])] }
def L_DropA_0 : Lay := { slots := [(1, .val tI), (2, .ptr 3072 0), (4, .ptr 5072 0), (7, .val tI)], boxes := [(3072, [.val tTs]), (5072, [.val tTs])] }
def X_DropA : Exit → St → Option Lay
  | .exit 0, _ => some L_DropA_0
  | _, _ => none
abbrev C_DropA : Code := loopC (bodyOf Try.f52) 0
theorem B_DropA (n all : Int) (l : List Tb) (len i : Int) (q_0 z_0 : List Tb) : loopBodyA (P := P) [] (lpOf []) [] 72 noU (inner C_DropA) L_DropA X_DropA (α := Int × Unit × Unit × Int × List Tb × Int × Int × List Tb × List Tb × Unit) (fun x => x) (fun x => x) (n, (), (), all, l, len, i, q_0, z_0, ()) =
  Tree.cond (decide (i < len)) (Tree.need ((0 : Int) ≤ i ∧ i < (↑(List.length l) : Int)) (Tree.leaf (Sum.inl (n, PUnit.unit, PUnit.unit, IntKind.wrap IntKind.i64 (all + (List.getD l (Int.toNat i) ((0 : Int), (0 : Int), (0 : Int), (0 : Int), (0 : Int), (0 : Int), (0 : Int), (0 : Int), (0 : Int))).fst), l, len, IntKind.wrap IntKind.i64 (i + (1 : Int)), q_0, z_0, PUnit.unit)))) (Tree.leaf (Sum.inr (Exit.exit (0 : Nat), Lay.st L_DropA_0 noU (n, PUnit.unit, PUnit.unit, all, q_0, z_0, PUnit.unit)))) := by kernel_rfl
def inv_DropA : Int × Unit × Unit × Int × List Tb × Int × Int × List Tb × List Tb × Unit → Prop := fun (n, (), (), all, l, len, i, q_0, z_0, ()) => len = l.length ∧ 0 ≤ i ∧ i ≤ len ∧ l.length ≤ 8 ∧ AllF l ∧ 0 ≤ all ∧ all ≤ 400 * i
def O_DropA : Int × Unit × Unit × Int × List Tb × Int × Int × List Tb × List Tb × Unit → Tree (Exit × St) := fun (n, (), (), all, l, len, i, q_0, z_0, ()) => (.leaf (.exit 0, L_DropA_0.st noU (n, (), (), (all + cntL (l.drop i.toNat)), q_0, z_0, ())))
def R_DropA : LRun := runOf 72 L_DropA (fun x => x) (inv_DropA) (O_DropA)
theorem K_DropA : LoopOk P [] 72 none noU C_DropA (R_DropA) := by
  refine loop_of hm (cx := []) [] (xl := X_DropA) (α := Int × Unit × Unit × Int × List Tb × Int × Int × List Tb × List Tb × Unit) (fun x => x) (fun (n, (), (), all, l, len, i, q_0, z_0, ()) => (len - i).toNat) (fun _ => rfl) (by kernel_rfl) (by kernel_rfl) ?_ (by kernel_rfl) trivial ?_
  · intro e S L' h
    unfold X_DropA at h
    split at h <;> first | (cases h; done) | (cases h; kernel_rfl) | (rcases bif_some h with h | h <;> cases h <;> kernel_rfl)
  · rintro ⟨n, ⟨⟩, ⟨⟩, all, l, len, i, q_0, z_0, ⟨⟩⟩ hinv Q hQ
    refine hold_of_eq (B_DropA n all l len i q_0 z_0) ?_
    obtain ⟨rfl, h0, h1, h2, h3, h4, h5⟩ := hinv
    rw [W_id (n := i + 1) (by omega) (by omega)]
    unfold O_DropA at hQ
    dsimp only at hQ
    refine ⟨fun c1 => ?_, fun c1 => ?_⟩
    · have c1 := of_decide_eq_true c1
      have hf := (h3 _ (mem_getD (d := zT) h0 c1)).cnt
      rw [cntL_step h0 c1, ← Int.add_assoc] at hQ
      generalize l.getD i.toNat zT = u at *
      rw [W_id (n := all + u.1) (by omega) (by omega)]
      exact ⟨⟨h0, c1⟩, ⟨⟨rfl, by omega, by omega, h2, h3, by omega, by omega⟩, by show ((l.length : Int) - (i + 1)).toNat < ((l.length : Int) - i).toNat; omega⟩, hQ⟩
    · have c1 := of_decide_eq_false c1
      rw [drop_end c1, show cntL [] = 0 from rfl, Int.add_zero] at hQ
      exact hQ
end
end Go.MP
