/- Tallies: tubes added and lengths dropped; the law PipeBack. -/
import Derived.Test.YtoockflaeaknbaaMsL
namespace Go.MP
open Go Go.Sx Go.Proofs
set_option linter.unusedVariables false
set_option linter.unusedSimpArgs false
noncomputable section
def L_cloneT : Lay := { slots := [(0, .val tTs)] }
theorem T_cloneT (l : List Tb) : mTree (P := P) [] (lpOf []) Try.f92 L_cloneT true (l, ()) =
  Tree.need (l ≠ []) (Tree.cond false (Tree.leaf { res := SV.nils, boxes := [] }) (Tree.need (((0 : Nat) + List.length l) * (72 : Nat) ≤ (140737488355328 : Nat)) (Tree.leaf { res := SV.own (nat_lit 100), boxes := [], news := [Ob.row (50 : Nat) (Ty.pair (Ty.int IntKind.i64) (Ty.pair (Ty.int IntKind.i64) (Ty.pair (Ty.int IntKind.i64) (Ty.pair (Ty.int IntKind.i64) (Ty.pair (Ty.int IntKind.i64) (Ty.pair (Ty.int IntKind.i64) (Ty.pair (Ty.int IntKind.i64) (Ty.pair (Ty.int IntKind.i64) (Ty.int IntKind.i64))))))))) l] }))) := by kernel_rfl
def c_cloneT : XC P := XC.of (α := List Tb × Unit) 92 L_cloneT (fun x => x) (fun x => x) (fun _ => rfl)
  (fun x => some (x.1 ≠ [] ∧ x.1.length ≤ 1000))
  (fun x => ⟨.own 100, [], [.row 50 tT x.1]⟩) (by kernel_rfl) (by kernel_rfl) (by
    rintro ⟨l, ⟨⟩⟩ hp
    refine m_of hm (own := true) (by kernel_rfl) (by kernel_rfl) (by kernel_rfl) (T_cloneT l) trivial ?_
    obtain ⟨h1, h2⟩ := hp
    have h3 : l.length ≤ 1000 := h2
    exact ⟨h1, fun h => (by cases h), fun _ => ⟨by show (0 + l.length) * 72 ≤ 140737488355328; omega, rfl⟩⟩)
def addSp (l : List Tb) (t : Tb) : List Tb × Int := if checkT l ≠ 0 then ([], checkT l) else if checkT (l ++ [t]) ≠ 0 then ([], checkT (l ++ [t])) else (l ++ [t], 0)
theorem T_Add (l_0 : List Tb) (t_0 t_1 t_2 t_3 t_4 t_5 t_6 t_7 t_8 : Int) : fnTree (P := P) [c_TCheck.gc, c_cloneT.gc] (lpOf []) Try.f50 (encL 0 [.agg tTs, .agg tT] (l_0, (t_0, (t_1, (t_2, (t_3, (t_4, (t_5, (t_6, (t_7, t_8)))))))), ())) =
  Tree.need ((↑(List.length l_0) : Int) < (2 : Int) ^ (62 : Nat)) (Tree.cond (decide ((↑(List.length l_0) : Int) > (0 : Int))) (Tree.cond (checkT l_0 != (0 : Int)) (Tree.leaf (SV.tup [SV.agg [SV.nils], SV.int IntKind.i64 (checkT l_0)])) (Tree.need (l_0 ≠ [] ∧ List.length l_0 ≤ (1000 : Nat)) (Tree.need ((List.length l_0 + List.length [(t_0, t_1, t_2, t_3, t_4, t_5, t_6, t_7, t_8)]) * (72 : Nat) ≤ (140737488355328 : Nat)) (Tree.need ((↑(List.length (l_0 ++ [(t_0, t_1, t_2, t_3, t_4, t_5, t_6, t_7, t_8)])) : Int) < (2 : Int) ^ (62 : Nat)) (Tree.cond (checkT (l_0 ++ [(t_0, t_1, t_2, t_3, t_4, t_5, t_6, t_7, t_8)]) != (0 : Int)) (Tree.leaf (SV.tup [SV.agg [SV.nils], SV.int IntKind.i64 (checkT (l_0 ++ [(t_0, t_1, t_2, t_3, t_4, t_5, t_6, t_7, t_8)]))])) (Tree.leaf (SV.tup [SV.agg [SV.sl (Ty.pair tI (Ty.pair tI (Ty.pair tI (Ty.pair tI (Ty.pair tI (Ty.pair tI (Ty.pair tI (Ty.pair tI tI)))))))) (l_0 ++ [(t_0, t_1, t_2, t_3, t_4, t_5, t_6, t_7, t_8)])], SV.int IntKind.i64 (0 : Int)]))))))) (Tree.need (l_0 ≠ [] ∧ List.length l_0 ≤ (1000 : Nat)) (Tree.need ((List.length l_0 + List.length [(t_0, t_1, t_2, t_3, t_4, t_5, t_6, t_7, t_8)]) * (72 : Nat) ≤ (140737488355328 : Nat)) (Tree.need ((↑(List.length (l_0 ++ [(t_0, t_1, t_2, t_3, t_4, t_5, t_6, t_7, t_8)])) : Int) < (2 : Int) ^ (62 : Nat)) (Tree.cond (checkT (l_0 ++ [(t_0, t_1, t_2, t_3, t_4, t_5, t_6, t_7, t_8)]) != (0 : Int)) (Tree.leaf (SV.tup [SV.agg [SV.nils], SV.int IntKind.i64 (checkT (l_0 ++ [(t_0, t_1, t_2, t_3, t_4, t_5, t_6, t_7, t_8)]))])) (Tree.leaf (SV.tup [SV.agg [SV.sl (Ty.pair tI (Ty.pair tI (Ty.pair tI (Ty.pair tI (Ty.pair tI (Ty.pair tI (Ty.pair tI (Ty.pair tI tI)))))))) (l_0 ++ [(t_0, t_1, t_2, t_3, t_4, t_5, t_6, t_7, t_8)])], SV.int IntKind.i64 (0 : Int)]))))))) := by kernel_rfl
def c_Add : PC P := PC.of (α := List Tb × Tb × Unit) 50 [.agg tTs, .agg tT] (fun x => x) (fun x => x) (fun _ => rfl)
  (fun x => some (x.1 ≠ [] ∧ x.1.length ≤ 10))
  (fun x => .tup [.agg [.sl tT (addSp x.1 x.2.1).1], .int .i64 (addSp x.1 x.2.1).2]) (by kernel_rfl) (by
    rintro ⟨l_0, ⟨t_0, ⟨t_1, ⟨t_2, ⟨t_3, ⟨t_4, ⟨t_5, ⟨t_6, ⟨t_7, t_8⟩⟩⟩⟩⟩⟩⟩⟩, ⟨⟩⟩ hp
    refine fn_le hm (by kernel_rfl) (by kernel_rfl) (T_Add l_0 t_0 t_1 t_2 t_3 t_4 t_5 t_6 t_7 t_8) trivial (by kernel_rfl) ?_
    try dsimp only at hp
    try dsimp only
    obtain ⟨h1, h2⟩ : l_0 ≠ [] ∧ l_0.length ≤ 10 := hp
    have hlen : (l_0.length : Int) < 2 ^ 62 := by omega
    have hpos : 0 < l_0.length := List.length_pos_iff.2 h1
    have n1 : (l_0.length + [(t_0, t_1, t_2, t_3, t_4, t_5, t_6, t_7, t_8)].length) * 72 ≤ 140737488355328 := by simp only [List.length_cons, List.length_nil]; omega
    have n2 : ((l_0 ++ [(t_0, t_1, t_2, t_3, t_4, t_5, t_6, t_7, t_8)]).length : Int) < 2 ^ 62 := by simp only [List.length_append, List.length_cons, List.length_nil]; omega
    show Tree.holds (fun s => LeS s (SV.tup [.agg [.sl tT (addSp l_0 (t_0, t_1, t_2, t_3, t_4, t_5, t_6, t_7, t_8)).1], .int .i64 (addSp l_0 (t_0, t_1, t_2, t_3, t_4, t_5, t_6, t_7, t_8)).2])) _
    unfold addSp
    refine ⟨hlen, fun c1 => ⟨fun c2 => ?_, fun c2 => ⟨⟨h1, by omega⟩, n1, n2, fun c3 => ?_, fun c3 => ?_⟩⟩, fun c1 => absurd (of_decide_eq_false c1) (by omega)⟩
    all_goals simp only [bne_iff_ne, bne_eq_false_iff_eq, ne_eq] at *
    · rw [if_pos c2]; exact ⟨⟨rfl, trivial⟩, rfl, trivial⟩
    · rw [if_neg (by simp [c2]), if_pos c3]; exact ⟨⟨rfl, trivial⟩, rfl, trivial⟩
    · rw [if_neg (by simp [c2]), if_neg (by simp [c3])]; exact ⟨⟨rfl, trivial⟩, rfl, trivial⟩)
def cntL : List Tb → Int
  | [] => 0
  | t :: r => t.1 + cntL r
theorem cntL_append (a b : List Tb) : cntL (a ++ b) = cntL a + cntL b := by
  induction a with
  | nil => simp [cntL]
  | cons t r ih => rw [List.cons_append, cntL, cntL, ih]; omega
theorem cntL_rng (l : List Tb) : AllF l → 0 ≤ cntL l ∧ cntL l ≤ 400 * l.length := by
  induction l with
  | nil => intro _; simp [cntL]
  | cons t r ih =>
    intro h
    have h1 := (h t (by simp)).cnt
    have h2 := ih fun u hu => h u (by simp [hu])
    rw [cntL, List.length_cons]; omega
theorem cntL_step {l : List Tb} {i : Int} (h0 : 0 ≤ i) (h : i < l.length) : cntL (l.drop i.toNat) = (l.getD i.toNat zT).1 + cntL (l.drop (i + 1).toNat) := by
  rw [drop_step zT h0 h]; rfl
theorem snoc_of {l : List Tb} (h : l ≠ []) : l = l.take (l.length - 1) ++ [l.getD (l.length - 1) zT] := by
  have hp : 0 < l.length := List.length_pos_iff.2 h
  have h1 : l.drop (l.length - 1) = [l.getD (l.length - 1) zT] := by
    have := drop_step (zT : Tb) (l := l) (i := ((l.length - 1 : Nat) : Int)) (by omega) (by omega)
    rw [Int.toNat_natCast] at this
    rw [this, show (((l.length - 1 : Nat) : Int) + 1).toNat = l.length by omega, List.drop_length]
  rw [← h1, List.take_append_drop]
def dropX (l : List Tb) (n : Int) : List Tb := if n ≤ 0 then l else l.take (l.length - 1)
theorem cnt_last {l : List Tb} (h : l ≠ []) (hf : AllF l) : (l.getD (l.length - 1) zT).1 ≤ cntL l ∧ Fair (l.getD (l.length - 1) zT) := by
  have hp : 0 < l.length := List.length_pos_iff.2 h
  have hm : l.getD (l.length - 1) zT ∈ l := by
    have := mem_getD (d := zT) (l := l) (i := ((l.length - 1 : Nat) : Int)) (by omega) (by omega)
    rwa [Int.toNat_natCast] at this
  refine ⟨?_, hf _ hm⟩
  have e := snoc_of h
  have h2 := (cntL_rng (l.take (l.length - 1)) fun t ht => hf t (List.mem_of_mem_take ht)).1
  have : cntL l = cntL (l.take (l.length - 1)) + cntL [l.getD (l.length - 1) zT] := by rw [← cntL_append, ← e]
  rw [this, cntL, cntL]; omega
def L_DropA : Lay := { slots := [(1, .val tI), (2, .ptr 3072 0), (4, .ptr 5072 0), (7, .val tI), (19, .val tTs), (20, .val tI), (21, .val tI)], boxes := [(3072, [.val tTs]), (5072, [.val tTs])] }
def L_DropA_0 : Lay := { slots := [(1, .val tI), (2, .ptr 3072 0), (4, .ptr 5072 0), (7, .val tI)], boxes := [(3072, [.val tTs]), (5072, [.val tTs])] }
def X_DropA : Exit → St → Option Lay
  | .exit 0, _ => some L_DropA_0
  | _, _ => none
abbrev C_DropA : Code := loopC (bodyOf Try.f52) 0
theorem B_DropA (n all : Int) (l : List Tb) (len i : Int) (q_0 z_0 : List Tb) : loopBodyA (P := P) [] (lpOf []) [] 72 noU (inner C_DropA) L_DropA X_DropA (α := Int × Unit × Unit × Int × List Tb × Int × Int × List Tb × List Tb × Unit) (fun x => x) (fun x => x) (n, (), (), all, l, len, i, q_0, z_0, ()) =
  Tree.cond (decide (i < len)) (Tree.need ((0 : Int) ≤ i ∧ i < (↑(List.length l) : Int)) (Tree.leaf (Sum.inl (n, PUnit.unit, PUnit.unit, IntKind.wrap IntKind.i64 (all + (List.getD l (Int.toNat i) ((0 : Int), (0 : Int), (0 : Int), (0 : Int), (0 : Int), (0 : Int), (0 : Int), (0 : Int), (0 : Int))).fst), l, len, IntKind.wrap IntKind.i64 (i + (1 : Int)), q_0, z_0, PUnit.unit)))) (Tree.leaf (Sum.inr (Exit.exit (0 : Nat), Lay.st L_DropA_0 noU (n, PUnit.unit, PUnit.unit, all, q_0, z_0, PUnit.unit)))) := by kernel_rfl
def inv_DropA : Int × Unit × Unit × Int × List Tb × Int × Int × List Tb × List Tb × Unit → Prop := fun (n, (), (), all, l, len, i, q_0, z_0, ()) => len = l.length ∧ 0 ≤ i ∧ i ≤ len ∧ l.length ≤ 8 ∧ AllF l ∧ 0 ≤ all ∧ all ≤ 400 * i
def O_DropA : Int × Unit × Unit × Int × List Tb × Int × Int × List Tb × List Tb × Unit → Tree (Exit × St) := fun (n, (), (), all, l, len, i, q_0, z_0, ()) => (.leaf (.exit 0, L_DropA_0.st noU (n, (), (), (all + cntL (l.drop i.toNat)), q_0, z_0, ())))
def R_DropA : LRun := runOf 72 L_DropA (fun x => x) (inv_DropA) (O_DropA)
theorem K_DropA : LoopOk P [] 72 none noU C_DropA (R_DropA) := by
  refine loop_of hm (cx := []) [] (xl := X_DropA) (α := Int × Unit × Unit × Int × List Tb × Int × Int × List Tb × List Tb × Unit) (fun x => x) (fun (n, (), (), all, l, len, i, q_0, z_0, ()) => (len - i).toNat) (fun _ => rfl) (by kernel_rfl) (by kernel_rfl) ?_ (by kernel_rfl) trivial ?_
  · intro e S L' h
    unfold X_DropA at h
    split at h <;> first | (cases h; done) | (cases h; kernel_rfl) | (rcases bif_some h with h | h <;> cases h <;> kernel_rfl)
  · rintro ⟨n, ⟨⟩, ⟨⟩, all, l, len, i, q_0, z_0, ⟨⟩⟩ hinv Q hQ
    refine hold_of_eq (B_DropA n all l len i q_0 z_0) ?_
    obtain ⟨rfl, h0, h1, h2, h3, h4, h5⟩ := hinv
    rw [W_id (n := i + 1) (by omega) (by omega)]
    unfold O_DropA at hQ
    dsimp only at hQ
    refine ⟨fun c1 => ?_, fun c1 => ?_⟩
    · have c1 := of_decide_eq_true c1
      have hf := (h3 _ (mem_getD (d := zT) h0 c1)).cnt
      rw [cntL_step h0 c1, ← Int.add_assoc] at hQ
      generalize l.getD i.toNat zT = u at *
      rw [W_id (n := all + u.1) (by omega) (by omega)]
      exact ⟨⟨h0, c1⟩, ⟨⟨rfl, by omega, by omega, h2, h3, by omega, by omega⟩, by show ((l.length : Int) - (i + 1)).toNat < ((l.length : Int) - i).toNat; omega⟩, hQ⟩
    · have c1 := of_decide_eq_false c1
      rw [drop_end c1, show cntL [] = 0 from rfl, Int.add_zero] at hQ
      exact hQ
def L_DropB : Lay := { slots := [(1, .val tI), (4, .ptr 5072 0), (10, .val tTs)], boxes := [(5072, [.val tTs])] }
def L_DropB_0 : Lay := { slots := [(4, .ptr 5072 0), (10, .val tTs)], boxes := [(5072, [.val tTs])] }
def X_DropB : Exit → St → Option Lay
  | .exit 2, _ => some L_DropB_0
  | _, _ => none
abbrev C_DropB : Code := loopC (bodyOf Try.f52) 2
theorem B_DropB (n : Int) (r z_0 : List Tb) : loopBodyA (P := P) [] (lpOf []) [] 72 noU (inner C_DropB) L_DropB X_DropB (α := Int × Unit × List Tb × List Tb × Unit) (fun x => x) (fun x => x) (n, (), r, z_0, ()) =
  Tree.cond (decide (n > (0 : Int))) (Tree.need ((0 : Int) ≤ IntKind.wrap IntKind.i64 ((↑(List.length r) : Int) - (1 : Int)) ∧ IntKind.wrap IntKind.i64 ((↑(List.length r) : Int) - (1 : Int)) < (↑(List.length r) : Int)) (Tree.cond (decide ((List.getD r (Int.toNat (IntKind.wrap IntKind.i64 ((↑(List.length r) : Int) - (1 : Int)))) ((0 : Int), (0 : Int), (0 : Int), (0 : Int), (0 : Int), (0 : Int), (0 : Int), (0 : Int), (0 : Int))).fst > n)) (Tree.fail (2 : Nat)) (Tree.need ((0 : Int) ≤ (0 : Int) ∧ (0 : Int) ≤ IntKind.wrap IntKind.i64 ((↑(List.length r) : Int) - (1 : Int)) ∧ IntKind.wrap IntKind.i64 ((↑(List.length r) : Int) - (1 : Int)) ≤ (↑(List.length r) : Int)) (Tree.leaf (Sum.inl (IntKind.wrap IntKind.i64 (n - (List.getD r (Int.toNat (IntKind.wrap IntKind.i64 ((↑(List.length r) : Int) - (1 : Int)))) ((0 : Int), (0 : Int), (0 : Int), (0 : Int), (0 : Int), (0 : Int), (0 : Int), (0 : Int), (0 : Int))).fst), PUnit.unit, List.drop (Int.toNat (0 : Int)) (List.take (Int.toNat (IntKind.wrap IntKind.i64 ((↑(List.length r) : Int) - (1 : Int)))) r), z_0, PUnit.unit)))))) (Tree.leaf (Sum.inr (Exit.exit (2 : Nat), Lay.st L_DropB_0 noU (PUnit.unit, r, z_0, PUnit.unit)))) := by kernel_rfl
def inv_DropB : Int × Unit × List Tb × List Tb × Unit → Prop := fun (n, (), r, z_0, ()) => AllF r ∧ r.length ≤ 8 ∧ (n = 0 ∨ r ≠ [] ∧ n = (r.getD (r.length - 1) zT).1)
def O_DropB : Int × Unit × List Tb × List Tb × Unit → Tree (Exit × St) := fun (n, (), r, z_0, ()) => (.leaf (.exit 2, L_DropB_0.st noU ((), (dropX r n), z_0, ())))
def R_DropB : LRun := runOf 72 L_DropB (fun x => x) (inv_DropB) (O_DropB)
theorem K_DropB : LoopOk P [] 72 none noU C_DropB (R_DropB) := by
  refine loop_of hm (cx := []) [] (xl := X_DropB) (α := Int × Unit × List Tb × List Tb × Unit) (fun x => x) (fun (n, (), r, z_0, ()) => r.length) (fun _ => rfl) (by kernel_rfl) (by kernel_rfl) ?_ (by kernel_rfl) trivial ?_
  · intro e S L' h
    unfold X_DropB at h
    split at h <;> first | (cases h; done) | (cases h; kernel_rfl) | (rcases bif_some h with h | h <;> cases h <;> kernel_rfl)
  · rintro ⟨n, ⟨⟩, r, z_0, ⟨⟩⟩ hinv Q hQ
    refine hold_of_eq (B_DropB n r z_0) ?_
    obtain ⟨h1, h2, h3⟩ := hinv
    unfold O_DropB at hQ
    dsimp only at hQ
    refine ⟨fun c1 => ?_, fun c1 => ?_⟩
    · have c1 := of_decide_eq_true c1
      obtain ⟨hne, hn⟩ : r ≠ [] ∧ n = (r.getD (r.length - 1) zT).1 := by
        rcases h3 with h | h
        · omega
        · exact h
      have hn' : n = (r.getD (r.length - 1) (0, 0, 0, 0, 0, 0, 0, 0, 0)).1 := hn
      have hpos : 0 < r.length := List.length_pos_iff.2 hne
      rw [W_id (n := (r.length : Int) - 1) (by omega) (by omega)]
      have e1 : ((r.length : Int) - 1).toNat = r.length - 1 := by omega
      rw [e1]
      have e2 : dropX r n = dropX (r.take (r.length - 1)) 0 := by unfold dropX; rw [if_neg (by omega), if_pos (by decide)]
      rw [e2] at hQ
      refine ⟨by omega, fun c2 => absurd (of_decide_eq_true c2) (by rw [hn']; omega), fun c2 => ⟨by omega, ?_⟩⟩
      rw [show n - (r.getD (r.length - 1) (0, 0, 0, 0, 0, 0, 0, 0, 0)).1 = 0 by rw [hn']; omega]
      exact ⟨⟨⟨fun t ht => h1 t (List.mem_of_mem_take ht), by show (r.take (r.length - 1)).length ≤ 8; rw [List.length_take]; omega, .inl rfl⟩, by show (r.take (r.length - 1)).length < r.length; rw [List.length_take]; omega⟩, hQ⟩
    · have c1 := of_decide_eq_false c1
      have e2 : dropX r n = r := by unfold dropX; rw [if_pos (by omega)]
      rw [e2] at hQ
      exact hQ
theorem T_Drop (l_0 : List Tb) (n : Int) : fnTree (P := P) [c_TCheck.gc, c_twithin.gc, c_cloneT.gc] (lpOf [(0, R_DropA), (2, R_DropB)]) Try.f52 (encL 0 [.agg tTs, .val tI] (l_0, n, ())) =
  Tree.need ((↑(List.length l_0) : Int) < (2 : Int) ^ (62 : Nat)) (Tree.cond (checkT l_0 != (0 : Int)) (Tree.leaf (SV.tup [SV.agg [SV.nils], SV.int IntKind.i64 (checkT l_0)])) (Tree.need (inv_DropA (n, (), (), (0 : Int), l_0, (↑(List.length l_0) : Int), (0 : Int), l_0, [], ())) (Tree.cond (!wi n (1 : Int) ((0 : Int) + cntL (List.drop (Int.toNat (0 : Int)) l_0))) (Tree.leaf (SV.tup [SV.agg [SV.nils], SV.int IntKind.i64 (7 : Int)])) (Tree.need (l_0 ≠ [] ∧ List.length l_0 ≤ (1000 : Nat)) (Tree.need (inv_DropB (n, (), l_0, [], ())) (Tree.leaf (SV.tup [SV.agg [SV.sl (Ty.pair tI (Ty.pair tI (Ty.pair tI (Ty.pair tI (Ty.pair tI (Ty.pair tI (Ty.pair tI (Ty.pair tI tI)))))))) (dropX l_0 n)], SV.int IntKind.i64 (0 : Int)]))))))) := by kernel_rfl
def c_Drop : PC P := PC.of (α := List Tb × Int × Unit) 52 [.agg tTs, .val tI] (fun x => x) (fun x => x) (fun _ => rfl)
  (fun x => some (checkT x.1 = 0 ∧ x.2.1 = (x.1.getD (x.1.length - 1) zT).1))
  (fun x => .tup [.agg [.sl tT (x.1.take (x.1.length - 1))], .int .i64 0]) (by kernel_rfl) (by
    rintro ⟨l_0, n, ⟨⟩⟩ hp
    refine fn_le hm (by kernel_rfl) (by kernel_rfl) (T_Drop l_0 n) ⟨K_DropA, K_DropB, trivial⟩ (by kernel_rfl) ?_
    try dsimp only at hp
    try dsimp only
    obtain ⟨hk, hn⟩ : checkT l_0 = 0 ∧ n = (l_0.getD (l_0.length - 1) zT).1 := hp
    obtain ⟨g1, g2, g3, g4⟩ := checkT_ok hk
    have hne : l_0 ≠ [] := fun e => g1 (by rw [e]; rfl)
    obtain ⟨k1, k2⟩ := cnt_last hne g3
    have k3 := k2.cnt
    have hw : wi n 1 (0 + cntL (l_0.drop (0 : Int).toNat)) = true := by
      rw [wi_iff]
      show 1 ≤ n ∧ n ≤ 0 + cntL l_0
      omega
    have e : dropX l_0 n = l_0.take (l_0.length - 1) := by unfold dropX; rw [if_neg (by omega)]
    rw [hw, e]
    refine ⟨by omega, fun c1 => absurd hk (by simpa using c1), fun c1 => ⟨⟨rfl, by decide, by omega, g2, g3, by decide, by decide⟩, fun c2 => (by cases c2), fun c2 => ⟨⟨hne, by omega⟩, ⟨g3, g2, .inr ⟨hne, hn⟩⟩, ?_⟩⟩⟩
    exact ⟨⟨rfl, trivial⟩, rfl, trivial⟩)
theorem jntL_append : ∀ (a b : List Tb) (x : Int), jntL x (a ++ b) = jntL x a ++ jntL (x + sumT a) b
  | [], b, x => by rw [List.nil_append, jntL, List.nil_append, sumT, Int.add_zero]
  | t :: r, b, x => by
    rw [List.cons_append, jntL, jntL, jntL_append r b, List.append_assoc, sumT, Int.add_assoc]
theorem T_PipeBack (s0 : List Int) : fnTree (P := P) [c_made.gc, c_awake.gc, c_NewRing.gc, c_kTube.gc, c_Add.gc, c_Drop.gc, c_TJoints.gc, c_rSame.gc, c_SameLongs.gc] (lpOf []) Try.f12 (encL 0 [.val tIs] (s0, ())) =
  Tree.need (pr_made (s0, ())) (Tree.cond (!(V_made (s0, ())).snd.snd.snd) (Tree.leaf (SV.bool true)) (Tree.need ((0 : Int) ≤ (0 : Int) ∧ (0 : Int) < (1000000000 : Int)) (Tree.need ((V_made (s0, ())).snd.fst ≠ [] ∧ List.length (V_made (s0, ())).snd.fst ≤ (10 : Nat)) (Tree.cond ((addSp (V_made (s0, ())).snd.fst (tubeK s0 (0 : Int)).fst).snd != (0 : Int)) (Tree.cond ((addSp (V_made (s0, ())).snd.fst (tubeK s0 (0 : Int)).fst).snd == (5 : Int)) (Tree.leaf (SV.bool true)) (Tree.leaf (SV.bool false))) (Tree.need (checkT (addSp (V_made (s0, ())).snd.fst (tubeK s0 (0 : Int)).fst).fst = (0 : Int) ∧ (tubeK s0 (0 : Int)).fst.fst = (List.getD (addSp (V_made (s0, ())).snd.fst (tubeK s0 (0 : Int)).fst).fst (List.length (addSp (V_made (s0, ())).snd.fst (tubeK s0 (0 : Int)).fst).fst - (1 : Nat)) zT).fst) (Tree.need ((↑(List.length (V_made (s0, ())).snd.fst) : Int) < (2 : Int) ^ (62 : Nat)) (Tree.need ((↑(List.length (addSp (V_made (s0, ())).snd.fst (tubeK s0 (0 : Int)).fst).fst) : Int) < (2 : Int) ^ (62 : Nat)) (Tree.cond false (Tree.leaf (SV.bool false)) (Tree.need (List.take (List.length (addSp (V_made (s0, ())).snd.fst (tubeK s0 (0 : Int)).fst).fst - (1 : Nat)) (addSp (V_made (s0, ())).snd.fst (tubeK s0 (0 : Int)).fst).fst = (V_made (s0, ())).snd.fst ∧ (↑(List.length (List.take (List.length (addSp (V_made (s0, ())).snd.fst (tubeK s0 (0 : Int)).fst).fst - (1 : Nat)) (addSp (V_made (s0, ())).snd.fst (tubeK s0 (0 : Int)).fst).fst)) : Int) < (2 : Int) ^ (62 : Nat)) (Tree.cond false (Tree.leaf (SV.bool false)) (Tree.cond ((↑(List.length (jntT (addSp (V_made (s0, ())).snd.fst (tubeK s0 (0 : Int)).fst).fst)) : Int) != IntKind.wrap IntKind.i64 ((↑(List.length (jntT (V_made (s0, ())).snd.fst)) : Int) + (tubeK s0 (0 : Int)).fst.fst)) (Tree.leaf (SV.bool false)) (Tree.need ((0 : Int) ≤ (0 : Int) ∧ (0 : Int) ≤ (↑(List.length (jntT (V_made (s0, ())).snd.fst)) : Int) ∧ (↑(List.length (jntT (V_made (s0, ())).snd.fst)) : Int) ≤ (↑(List.length (jntT (addSp (V_made (s0, ())).snd.fst (tubeK s0 (0 : Int)).fst).fst)) : Int)) (Tree.need (List.drop (Int.toNat (0 : Int)) (List.take (Int.toNat (↑(List.length (jntT (V_made (s0, ())).snd.fst)) : Int)) (jntT (addSp (V_made (s0, ())).snd.fst (tubeK s0 (0 : Int)).fst).fst)) = jntT (V_made (s0, ())).snd.fst ∧ (↑(List.length (List.drop (Int.toNat (0 : Int)) (List.take (Int.toNat (↑(List.length (jntT (V_made (s0, ())).snd.fst)) : Int)) (jntT (addSp (V_made (s0, ())).snd.fst (tubeK s0 (0 : Int)).fst).fst)))) : Int) < (2 : Int) ^ (62 : Nat)) (Tree.cond true (Tree.leaf (SV.bool true)) (Tree.leaf (SV.bool false)))))))))))))))) := by kernel_rfl
def c_PipeBack : PC P := PC.of (α := List Int × Unit) 12 [.val tIs] (fun x => x) (fun x => x) (fun _ => rfl)
  (fun _ => none)
  (fun x => .bool true) (by kernel_rfl) (by
    rintro ⟨s0, ⟨⟩⟩ hp
    refine fn_of hm (by kernel_rfl) (by kernel_rfl) (T_PipeBack s0) trivial ?_
    try dsimp only at hp
    try dsimp only
    have hS := S_made (s0, ()) trivial
    generalize V_made (s0, ()) = m at *
    obtain ⟨p, l, c, is⟩ := m
    obtain ⟨h1, h2, h3, h4, h5, h6, h7, h8, h9, h10⟩ := hS
    dsimp only at h1 h2 h3 h4 h5 h6 h7 h8 h9 h10 ⊢
    have hpr : (0 : Int) ≤ 0 ∧ (0 : Int) < 1000000000 := by decide
    obtain ⟨t1, t2, t3, _, _, _⟩ := tubeK_ok (l := s0) (k := 0) (by decide)
    generalize (tubeK s0 0).1 = t at *
    refine ⟨trivial, fun d1 => rfl, fun d1 => ?_⟩
    obtain ⟨hf, _⟩ := h2 (by simpa using d1)
    obtain ⟨f1, f2, f3⟩ := fitsS_ok hf
    obtain ⟨g1, g2, g3, g4⟩ := checkT_ok f1
    have hne : l ≠ [] := fun e => g1 (by rw [e]; rfl)
    have hcnt := t1.cnt
    have hle := t1.len
    have hprod := (mul_rng (a := t.1) (b := t.2.1) (A := 12) (B := 1600) (by omega) (by omega) (by omega) (by omega)).2
    have hA : AllF (l ++ [t]) := by
      intro u hu
      rcases List.mem_append.1 hu with hu | hu
      · exact g3 u hu
      · rw [List.mem_singleton.1 hu]; exact t1
    have hsum : sumT (l ++ [t]) = sumT l + t.1 * t.2.1 := by rw [sumT_append, sumT, sumT, Int.add_zero]
    have hln : (l ++ [t]).length = l.length + 1 := by rw [List.length_append]; rfl
    have hck : checkT (l ++ [t]) = 0 := by
      unfold checkT
      rw [if_neg (by omega), if_neg (by omega), if_neg (by rw [hA.any]; decide), if_neg (by omega)]
    have ea : addSp l t = (l ++ [t], 0) := by unfold addSp; rw [if_neg (by simp [f1]), if_neg (by simp [hck])]
    rw [ea]
    dsimp only
    have eg : (l ++ [t]).getD ((l ++ [t]).length - 1) zT = t := by simp [List.getD_eq_getElem?_getD]
    have et : (l ++ [t]).take ((l ++ [t]).length - 1) = l := by simp
    have ej0 : jntL (sumT l) [t] = stepsJ t.1.toNat (sumT l) t.2.1 := by rw [jntL, jntL_nil, List.append_nil]
    have ej : jntT (l ++ [t]) = jntT l ++ stepsJ t.1.toNat (sumT l) t.2.1 := by
      unfold jntT; rw [if_pos hck, if_pos f1, jntL_append, Int.zero_add, List.cons_append, ej0]
    have hjl := jntT_len l
    have e3 : ((jntT (l ++ [t])).length : Int) = (jntT l).length + t.1 := by rw [ej, List.length_append, stepsJ_len]; omega
    have ed : List.drop (0 : Int).toNat (List.take ((jntT l).length : Int).toNat (jntT (l ++ [t]))) = jntT l := by
      rw [ej, Int.toNat_natCast]
      show List.drop 0 _ = _
      rw [List.drop_zero, List.take_left' rfl]
    rw [eg, et, ed, e3, W_id (n := ((jntT l).length : Int) + t.1) (by omega) (by omega)]
    refine ⟨hpr, ⟨hne, by omega⟩, fun d2 => absurd d2 (by decide), fun _ => ⟨⟨hck, rfl⟩, by omega, by omega, fun d3 => (by cases d3), fun _ => ⟨⟨rfl, by omega⟩, fun d4 => (by cases d4), fun _ => ⟨fun d5 => absurd d5 (by simp), fun _ => ⟨⟨by decide, by omega, by omega⟩, ⟨rfl, by omega⟩, fun _ => rfl, fun d6 => (by cases d6)⟩⟩⟩⟩⟩)
end
end Go.MP
