/- Strong, and the law PipeBounds. -/
import Derived.Test.YtoockflaeaknbaaMsQ
namespace Go.MP
open Go Go.Sx Go.Proofs
set_option linter.unusedVariables false
set_option linter.unusedSimpArgs false
noncomputable section
theorem tubeP_idx {ks : List K2} {i top : Int} : ∀ (n : Nat) (to : Int), ∀ q ∈ tubeP ks i top n to, q.1 = i := by
  intro n
  induction n with
  | zero => intro to q hq; cases hq
  | succ n ih =>
    intro to q hq
    rw [tubeP] at hq
    split at hq
    · cases hq
    · rcases List.mem_cons.1 hq with h | h
      · rw [h]
      · exact ih _ _ h
theorem pcsL_idx {ks : List K2} (l : List Tb) : ∀ (i to : Int), ∀ q ∈ pcsL ks i to l, i ≤ q.1 ∧ q.1 < i + l.length := by
  induction l with
  | nil => intro i to q hq; rw [pcsL] at hq; cases hq
  | cons t r ih =>
    intro i to q hq
    rw [pcsL] at hq
    rw [List.length_cons]
    rcases List.mem_append.1 hq with h | h
    · have := tubeP_idx _ _ q h; omega
    · have := ih _ _ q h; omega
theorem pcsS_idx {l : List Tb} {p : Pth} {q : Pc} (h : q ∈ pcsS l p) : 0 ≤ q.1 ∧ q.1 < l.length := by
  unfold pcsS at h
  split at h
  · have := pcsL_idx l 0 _ q h; omega
  · cases h
def weakH (t : Tb) (h : Hg) : Bool := decide (h.2.1.2 > t.2.2.2.2.2.1) || decide (h.2.2.2 > t.2.2.2.2.2.2.1)
def strL (l : List Tb) (a : List Hg) : List Pc → Int → Bool
  | [], _ => true
  | q :: r, i => !weakH (pcT l q) (a.getD i.toNat (0, (0, 0), (0, 0))) && strL l a r (i + 1)
def wkI (l : List Tb) (a : List Hg) : List Pc → Int → Int
  | [], _ => -1
  | q :: r, i => if weakH (pcT l q) (a.getD i.toNat (0, (0, 0), (0, 0))) = true then i else wkI l a r (i + 1)
theorem strL_step {l : List Tb} {a : List Hg} {m : List Pc} {i : Int} (h0 : 0 ≤ i) (h : i < m.length) : strL l a (m.drop i.toNat) i = (!weakH (pcT l (m.getD i.toNat (0, 0, 0, 0))) (a.getD i.toNat (0, (0, 0), (0, 0))) && strL l a (m.drop (i + 1).toNat) (i + 1)) := by
  rw [drop_step (0, 0, 0, 0) h0 h]; rfl
theorem wkI_step {l : List Tb} {a : List Hg} {m : List Pc} {i : Int} (h0 : 0 ≤ i) (h : i < m.length) : wkI l a (m.drop i.toNat) i = if weakH (pcT l (m.getD i.toNat (0, 0, 0, 0))) (a.getD i.toNat (0, (0, 0), (0, 0))) = true then i else wkI l a (m.drop (i + 1).toNat) (i + 1) := by
  rw [drop_step (0, 0, 0, 0) h0 h]; rfl
theorem strL_mono {l : List Tb} {a b : List Hg} (hab : AllB RIns a b) : ∀ (m : List Pc) (i : Int), 0 ≤ i → i + m.length ≤ a.length → strL l a m i = true → strL l b m i = true := by
  intro m
  induction m with
  | nil => intro i _ _ _; rfl
  | cons q r ih =>
    intro i h0 h1 h
    rw [List.length_cons] at h1
    rw [strL, Bool.and_eq_true] at h ⊢
    refine ⟨?_, ih (i + 1) (by omega) (by omega) h.2⟩
    obtain ⟨_, _, hi, _, hj, _⟩ := hab.2 i.toNat (by omega)
    have hw := h.1
    unfold weakH at *
    simp only [Bool.not_eq_true', Bool.or_eq_false_iff, decide_eq_false_iff_not] at hw ⊢
    exact ⟨by omega, by omega⟩
def strongS (l : List Tb) (p : Pth) (c : Cs) : Bool × Int × Int :=
  if (loadsS l p c).2.2 ≠ 0 then (false, 0, (loadsS l p c).2.2)
  else (strL l (loadsS l p c).1 (pcsS l p) 0, if strL l (loadsS l p c).1 (pcsS l p) 0 = true then -1 else wkI l (loadsS l p c).1 (pcsS l p) 0, 0)
theorem loads_ok0 {l : List Tb} {p : Pth} {c : Cs} (he : (loadsS l p c).2.2 = 0) : (loadsS l p c).1.length = (pcsS l p).length ∧ (pcsS l p).length ≤ 160 := by
  unfold loadsS at *
  split at he
  · rename_i h; exact absurd he h
  rename_i a1
  split at he
  · rename_i h; exact absurd he h
  rename_i a2
  split at he
  · rename_i a3
    rw [if_neg a1, if_neg a2, if_pos a3]
    exact ⟨(runS_len _ _ _ _ _ _ a3).1, pcsS_few (by simpa using a1)⟩
  · cases he
theorem strong_ok {l : List Tb} {p : Pth} {c : Cs} (e : (loadsS l p c).2.2 = 0) : (strongS l p c).1 = strL l (loadsS l p c).1 (pcsS l p) 0 ∧ (strongS l p c).2.2 = 0 := by
  unfold strongS
  rw [if_neg (fun h => h e)]
  exact ⟨rfl, rfl⟩
theorem loads_err2 {l : List Tb} {p : Pth} {c : Cs} (hf : fitsS l p = 0) (hc : caseS l c = 0) (he : (loadsS l p c).2.2 ≠ 2) : (loadsS l p c).2.2 = 0 := by
  unfold loadsS at *
  rw [if_neg (by simp [hf]), if_neg (by simp [hc])] at he ⊢
  split
  · rfl
  · rename_i h; rw [if_neg h] at he; exact absurd rfl he
def L_StrongL : Lay := { slots := [(3, .ptr 4063 0), (9, .val (.sl (.pair tI (.pair tPart tPart)))), (28, .val (.sl (.pair tI tV))), (29, .val tI), (30, .val tI)], boxes := [(4063, [.val tTs])] }
def L_StrongL_0 : Lay := { slots := [(6, .val .bool), (7, .val tI), (8, .val tI)] }
def L_StrongL_1 : Lay := { slots := [] }
def X_StrongL : Exit → St → Option Lay
  | .ret, _ => some L_StrongL_0
  | .exit 0, _ => some L_StrongL_1
  | _, _ => none
abbrev C_StrongL : Code := loopC (bodyOf Try.f49) 0
theorem B_StrongL (a : List (Int × ((Int × Int) × (Int × Int)))) (m : List (Int × V)) (n i : Int) (l : List Tb) : loopBodyA (P := P) [] (lpOf []) [] 63 noU (inner C_StrongL) L_StrongL X_StrongL (α := Unit × List (Int × ((Int × Int) × (Int × Int))) × List (Int × V) × Int × Int × List Tb × Unit) (fun x => x) (fun x => x) ((), a, m, n, i, l, ()) =
  Tree.cond (decide (i < n)) (Tree.need ((0 : Int) ≤ i ∧ i < (↑(List.length m) : Int)) (Tree.need ((0 : Int) ≤ (List.getD m (Int.toNat i) ((0 : Int), (0 : Int), (0 : Int), (0 : Int))).fst ∧ (List.getD m (Int.toNat i) ((0 : Int), (0 : Int), (0 : Int), (0 : Int))).fst < (↑(List.length l) : Int)) (Tree.need ((0 : Int) ≤ i ∧ i < (↑(List.length a) : Int)) (Tree.cond (decide ((List.getD a (Int.toNat i) ((0 : Int), ((0 : Int), (0 : Int)), (0 : Int), (0 : Int))).snd.fst.snd > (List.getD l (Int.toNat (List.getD m (Int.toNat i) ((0 : Int), (0 : Int), (0 : Int), (0 : Int))).fst) ((0 : Int), (0 : Int), (0 : Int), (0 : Int), (0 : Int), (0 : Int), (0 : Int), (0 : Int), (0 : Int))).snd.snd.snd.snd.snd.fst)) (Tree.leaf (Sum.inr (Exit.ret, Lay.st L_StrongL_0 noU (false, i, (0 : Int), PUnit.unit)))) (Tree.need ((0 : Int) ≤ i ∧ i < (↑(List.length a) : Int)) (Tree.cond (decide ((List.getD a (Int.toNat i) ((0 : Int), ((0 : Int), (0 : Int)), (0 : Int), (0 : Int))).snd.snd.snd > (List.getD l (Int.toNat (List.getD m (Int.toNat i) ((0 : Int), (0 : Int), (0 : Int), (0 : Int))).fst) ((0 : Int), (0 : Int), (0 : Int), (0 : Int), (0 : Int), (0 : Int), (0 : Int), (0 : Int), (0 : Int))).snd.snd.snd.snd.snd.snd.fst)) (Tree.leaf (Sum.inr (Exit.ret, Lay.st L_StrongL_0 noU (false, i, (0 : Int), PUnit.unit)))) (Tree.leaf (Sum.inl (PUnit.unit, a, m, n, IntKind.wrap IntKind.i64 (i + (1 : Int)), l, PUnit.unit))))))))) (Tree.leaf (Sum.inr (Exit.exit (0 : Nat), Lay.st L_StrongL_1 noU PUnit.unit))) := by kernel_rfl
def inv_StrongL : Unit × List (Int × ((Int × Int) × (Int × Int))) × List (Int × V) × Int × Int × List Tb × Unit → Prop := fun ((), a, m, n, i, l, ()) => n = m.length ∧ 0 ≤ i ∧ i ≤ n ∧ m.length = a.length ∧ m.length ≤ 160 ∧ ∀ q ∈ m, 0 ≤ q.1 ∧ q.1 < l.length
def O_StrongL : Unit × List (Int × ((Int × Int) × (Int × Int))) × List (Int × V) × Int × Int × List Tb × Unit → Tree (Exit × St) := fun ((), a, m, n, i, l, ()) => .cond (strL l a (m.drop i.toNat) i) (.leaf (.exit 0, L_StrongL_1.st noU ())) (.leaf (.ret, L_StrongL_0.st noU ((false), (wkI l a (m.drop i.toNat) i), ((0 : Int)), ())))
def R_StrongL : LRun := runOf 63 L_StrongL (fun x => x) (inv_StrongL) (O_StrongL)
theorem K_StrongL : LoopOk P [] 63 none noU C_StrongL (R_StrongL) := by
  refine loop_of hm (cx := []) [] (xl := X_StrongL) (α := Unit × List (Int × ((Int × Int) × (Int × Int))) × List (Int × V) × Int × Int × List Tb × Unit) (fun x => x) (fun ((), a, m, n, i, l, ()) => (n - i).toNat) (fun _ => rfl) (by kernel_rfl) (by kernel_rfl) ?_ (by kernel_rfl) trivial ?_
  · intro e S L' h
    unfold X_StrongL at h
    split at h <;> first | (cases h; done) | (cases h; kernel_rfl) | (rcases bif_some h with h | h <;> cases h <;> kernel_rfl)
  · rintro ⟨⟨⟩, a, m, n, i, l, ⟨⟩⟩ hinv Q hQ
    refine hold_of_eq (B_StrongL a m n i l) ?_
    obtain ⟨rfl, h0, h1, h2, h3, h4⟩ := hinv
    rw [W_id (n := i + 1) (by omega) (by omega)]
    unfold O_StrongL at hQ
    dsimp only at hQ
    refine ⟨fun c1 => ?_, fun c1 => ?_⟩
    · have c1 := of_decide_eq_true c1
      have hq := h4 _ (mem_getD (d := (0, 0, 0, 0)) h0 c1)
      have i1 : 0 ≤ i ∧ i < (m.length : Int) := ⟨h0, c1⟩
      have i2 : 0 ≤ i ∧ i < (a.length : Int) := by omega
      rw [strL_step h0 c1, wkI_step h0 c1] at hQ
      refine ⟨i1, hq, i2, fun d1 => ?_, fun d1 => ⟨i2, fun d2 => ?_, fun d2 => ?_⟩⟩
      · have w : weakH (pcT l (m.getD i.toNat (0, 0, 0, 0))) (a.getD i.toNat (0, (0, 0), (0, 0))) = true := by
          unfold weakH; rw [Bool.or_eq_true]; exact .inl d1
        rw [w, if_pos rfl] at hQ
        exact hQ.2 rfl
      · have w : weakH (pcT l (m.getD i.toNat (0, 0, 0, 0))) (a.getD i.toNat (0, (0, 0), (0, 0))) = true := by
          unfold weakH; rw [Bool.or_eq_true]; exact .inr d2
        rw [w, if_pos rfl] at hQ
        exact hQ.2 rfl
      · have w : weakH (pcT l (m.getD i.toNat (0, 0, 0, 0))) (a.getD i.toNat (0, (0, 0), (0, 0))) = false := by
          unfold weakH; rw [Bool.or_eq_false_iff]; exact ⟨d1, d2⟩
        rw [w, if_neg (show ¬ (false = true) by decide)] at hQ
        exact ⟨⟨⟨rfl, by omega, by omega, h2, h3, h4⟩, by show ((m.length : Int) - (i + 1)).toNat < ((m.length : Int) - i).toNat; omega⟩, hQ⟩
    · have c1 := of_decide_eq_false c1
      rw [drop_end c1] at hQ
      exact hQ.1 rfl
theorem T_Strong (l_0 : List Tb) (p_0 p_1 p_2 : Int) (p_3 : List V) (c_0 c_1 c_2 c_3 c_4 : Int) : fnTree (P := P) [c_loads.gc, c_Pieces.gc] (lpOf [(0, R_StrongL)]) Try.f49 (encL 0 [.agg tTs, .agg (.pair tV tVs), .agg (.pair tI (.pair tI (.pair tPart tI)))] (l_0, ((p_0, (p_1, p_2)), p_3), (c_0, (c_1, ((c_2, c_3), c_4))), ())) =
  Tree.need ((↑(List.length l_0) : Int) < (2 : Int) ^ (62 : Nat)) (Tree.cond ((loadsS l_0 ((p_0, p_1, p_2), p_3) (c_0, c_1, (c_2, c_3), c_4)).snd.snd != (0 : Int)) (Tree.leaf (SV.tup [SV.bool false, SV.int IntKind.i64 (0 : Int), SV.int IntKind.i64 (loadsS l_0 ((p_0, p_1, p_2), p_3) (c_0, c_1, (c_2, c_3), c_4)).snd.snd])) (Tree.need ((↑(List.length l_0) : Int) < (2 : Int) ^ (62 : Nat)) (Tree.need (inv_StrongL ((), (loadsS l_0 ((p_0, p_1, p_2), p_3) (c_0, c_1, (c_2, c_3), c_4)).fst, pcsS l_0 ((p_0, p_1, p_2), p_3), (↑(List.length (pcsS l_0 ((p_0, p_1, p_2), p_3))) : Int), (0 : Int), l_0, ())) (Tree.cond (strL l_0 (loadsS l_0 ((p_0, p_1, p_2), p_3) (c_0, c_1, (c_2, c_3), c_4)).fst (List.drop (Int.toNat (0 : Int)) (pcsS l_0 ((p_0, p_1, p_2), p_3))) (0 : Int)) (Tree.leaf (SV.tup [SV.bool true, SV.int IntKind.i64 (-1 : Int), SV.int IntKind.i64 (0 : Int)])) (Tree.leaf (SV.tup [SV.bool false, SV.int IntKind.i64 (wkI l_0 (loadsS l_0 ((p_0, p_1, p_2), p_3) (c_0, c_1, (c_2, c_3), c_4)).fst (List.drop (Int.toNat (0 : Int)) (pcsS l_0 ((p_0, p_1, p_2), p_3))) (0 : Int)), SV.int IntKind.i64 (0 : Int)])))))) := by kernel_rfl
def c_Strong : PC P := PC.of (α := List Tb × (V × List V) × (Int × (Int × ((Int × Int) × Int))) × Unit) 49 [.agg tTs, .agg (.pair tV tVs), .agg (.pair tI (.pair tI (.pair tPart tI)))] (fun x => x) (fun x => x) (fun _ => rfl)
  (fun x => some ((x.1.length : Int) < 2 ^ 62))
  (fun x => .tup [.bool (strongS x.1 x.2.1 x.2.2.1).1, .int .i64 (strongS x.1 x.2.1 x.2.2.1).2.1, .int .i64 (strongS x.1 x.2.1 x.2.2.1).2.2]) (by kernel_rfl) (by
    rintro ⟨l_0, ⟨⟨p_0, ⟨p_1, p_2⟩⟩, p_3⟩, ⟨c_0, ⟨c_1, ⟨⟨c_2, c_3⟩, c_4⟩⟩⟩, ⟨⟩⟩ hp
    refine fn_of hm (by kernel_rfl) (by kernel_rfl) (T_Strong l_0 p_0 p_1 p_2 p_3 c_0 c_1 c_2 c_3 c_4) ⟨K_StrongL, trivial⟩ ?_
    try dsimp only at hp
    try dsimp only
    have h62 : (l_0.length : Int) < 2 ^ 62 := hp
    show Tree.holds (fun s => s = SV.tup [.bool (strongS l_0 ((p_0, p_1, p_2), p_3) (c_0, c_1, (c_2, c_3), c_4)).1, .int .i64 (strongS l_0 ((p_0, p_1, p_2), p_3) (c_0, c_1, (c_2, c_3), c_4)).2.1, .int .i64 (strongS l_0 ((p_0, p_1, p_2), p_3) (c_0, c_1, (c_2, c_3), c_4)).2.2]) _
    unfold strongS
    generalize (c_0, c_1, (c_2, c_3), c_4) = C
    generalize ((p_0, p_1, p_2), p_3) = P
    refine ⟨h62, fun d1 => ?_, fun d1 => ⟨h62, ?_, fun d2 => ?_, fun d2 => ?_⟩⟩
    · rw [if_pos (show (loadsS l_0 P C).2.2 ≠ 0 by simpa using d1)]; exact rfl
    · have e : (loadsS l_0 P C).2.2 = 0 := by simpa using d1
      obtain ⟨q1, q2⟩ := loads_ok0 e
      exact ⟨rfl, by decide, by omega, q1.symm, q2, fun q hq => pcsS_idx hq⟩
    · have e : (loadsS l_0 P C).2.2 = 0 := by simpa using d1
      have d2 : strL l_0 (loadsS l_0 P C).1 (pcsS l_0 P) 0 = true := d2
      rw [if_neg (fun h => h e), d2, if_pos rfl]; exact rfl
    · have e : (loadsS l_0 P C).2.2 = 0 := by simpa using d1
      have d2 : strL l_0 (loadsS l_0 P C).1 (pcsS l_0 P) 0 = false := d2
      rw [if_neg (fun h => h e), d2, if_neg (show ¬ (false = true) by decide)]; exact rfl)
def L_insideL : Lay := { slots := [(0, .val (.sl (.pair tI (.pair tPart tPart)))), (1, .val (.sl (.pair tI (.pair tPart tPart)))), (5, .val tI)] }
def L_insideL_0 : Lay := { slots := [(4, .val .bool)] }
def L_insideL_1 : Lay := { slots := [] }
def X_insideL : Exit → St → Option Lay
  | .ret, _ => some L_insideL_0
  | .exit 0, _ => some L_insideL_1
  | _, _ => none
abbrev C_insideL : Code := loopC (bodyOf Try.f48) 0
theorem B_insideL (a b : List (Int × ((Int × Int) × (Int × Int)))) (i : Int) : loopBodyA (P := P) [] (lpOf []) [] 86 noU (inner C_insideL) L_insideL X_insideL (α := List (Int × ((Int × Int) × (Int × Int))) × List (Int × ((Int × Int) × (Int × Int))) × Int × Unit) (fun x => x) (fun x => x) (a, b, i, ()) =
  Tree.cond (decide (i < (↑(List.length a) : Int))) (Tree.need ((0 : Int) ≤ i ∧ i < (↑(List.length a) : Int)) (Tree.need ((0 : Int) ≤ i ∧ i < (↑(List.length b) : Int)) (Tree.cond ((List.getD a (Int.toNat i) ((0 : Int), ((0 : Int), (0 : Int)), (0 : Int), (0 : Int))).fst != (List.getD b (Int.toNat i) ((0 : Int), ((0 : Int), (0 : Int)), (0 : Int), (0 : Int))).fst) (Tree.leaf (Sum.inr (Exit.ret, Lay.st L_insideL_0 noU (false, PUnit.unit)))) (Tree.cond (decide ((List.getD a (Int.toNat i) ((0 : Int), ((0 : Int), (0 : Int)), (0 : Int), (0 : Int))).snd.fst.fst < (List.getD b (Int.toNat i) ((0 : Int), ((0 : Int), (0 : Int)), (0 : Int), (0 : Int))).snd.fst.fst)) (Tree.leaf (Sum.inr (Exit.ret, Lay.st L_insideL_0 noU (false, PUnit.unit)))) (Tree.cond (decide ((List.getD a (Int.toNat i) ((0 : Int), ((0 : Int), (0 : Int)), (0 : Int), (0 : Int))).snd.fst.snd > (List.getD b (Int.toNat i) ((0 : Int), ((0 : Int), (0 : Int)), (0 : Int), (0 : Int))).snd.fst.snd)) (Tree.leaf (Sum.inr (Exit.ret, Lay.st L_insideL_0 noU (false, PUnit.unit)))) (Tree.cond (decide ((List.getD a (Int.toNat i) ((0 : Int), ((0 : Int), (0 : Int)), (0 : Int), (0 : Int))).snd.snd.fst < (List.getD b (Int.toNat i) ((0 : Int), ((0 : Int), (0 : Int)), (0 : Int), (0 : Int))).snd.snd.fst)) (Tree.leaf (Sum.inr (Exit.ret, Lay.st L_insideL_0 noU (false, PUnit.unit)))) (Tree.cond (decide ((List.getD a (Int.toNat i) ((0 : Int), ((0 : Int), (0 : Int)), (0 : Int), (0 : Int))).snd.snd.snd > (List.getD b (Int.toNat i) ((0 : Int), ((0 : Int), (0 : Int)), (0 : Int), (0 : Int))).snd.snd.snd)) (Tree.leaf (Sum.inr (Exit.ret, Lay.st L_insideL_0 noU (false, PUnit.unit)))) (Tree.cond (decide ((List.getD a (Int.toNat i) ((0 : Int), ((0 : Int), (0 : Int)), (0 : Int), (0 : Int))).snd.fst.fst > (List.getD a (Int.toNat i) ((0 : Int), ((0 : Int), (0 : Int)), (0 : Int), (0 : Int))).snd.fst.snd)) (Tree.leaf (Sum.inr (Exit.ret, Lay.st L_insideL_0 noU (false, PUnit.unit)))) (Tree.cond (decide ((List.getD a (Int.toNat i) ((0 : Int), ((0 : Int), (0 : Int)), (0 : Int), (0 : Int))).snd.snd.fst > (List.getD a (Int.toNat i) ((0 : Int), ((0 : Int), (0 : Int)), (0 : Int), (0 : Int))).snd.snd.snd)) (Tree.leaf (Sum.inr (Exit.ret, Lay.st L_insideL_0 noU (false, PUnit.unit)))) (Tree.leaf (Sum.inl (a, b, IntKind.wrap IntKind.i64 (i + (1 : Int)), PUnit.unit)))))))))))) (Tree.leaf (Sum.inr (Exit.exit (0 : Nat), Lay.st L_insideL_1 noU PUnit.unit))) := by kernel_rfl
def inv_insideL : List (Int × ((Int × Int) × (Int × Int))) × List (Int × ((Int × Int) × (Int × Int))) × Int × Unit → Prop := fun (a, b, i, ()) => 0 ≤ i ∧ i ≤ a.length ∧ a.length ≤ 160 ∧ AllB RIns b a
def O_insideL : List (Int × ((Int × Int) × (Int × Int))) × List (Int × ((Int × Int) × (Int × Int))) × Int × Unit → Tree (Exit × St) := fun (a, b, i, ()) => (.leaf (.exit 0, L_insideL_1.st noU ()))
def R_insideL : LRun := runOf 86 L_insideL (fun x => x) (inv_insideL) (O_insideL)
theorem K_insideL : LoopOk P [] 86 none noU C_insideL (R_insideL) := by
  refine loop_of hm (cx := []) [] (xl := X_insideL) (α := List (Int × ((Int × Int) × (Int × Int))) × List (Int × ((Int × Int) × (Int × Int))) × Int × Unit) (fun x => x) (fun (a, b, i, ()) => (a.length - i).toNat) (fun _ => rfl) (by kernel_rfl) (by kernel_rfl) ?_ (by kernel_rfl) trivial ?_
  · intro e S L' h
    unfold X_insideL at h
    split at h <;> first | (cases h; done) | (cases h; kernel_rfl) | (rcases bif_some h with h | h <;> cases h <;> kernel_rfl)
  · rintro ⟨a, b, i, ⟨⟩⟩ hinv Q hQ
    refine hold_of_eq (B_insideL a b i) ?_
    obtain ⟨h0, h1, h2, h3, h4⟩ := hinv
    rw [W_id (n := i + 1) (by omega) (by omega)]
    refine ⟨fun c1 => ?_, fun c1 => hQ⟩
    have c1 := of_decide_eq_true c1
    obtain ⟨r1, r2, r3, r4, r5, r6, r7⟩ := h4 i.toNat (by omega)
    have i1 : 0 ≤ i ∧ i < (a.length : Int) := ⟨h0, c1⟩
    have i2 : 0 ≤ i ∧ i < (b.length : Int) := by omega
    refine ⟨i1, i2, fun d => absurd d (by rw [r1]; simp), fun _ => ⟨fun d => absurd (of_decide_eq_true d) (by omega), fun _ => ⟨fun d => absurd (of_decide_eq_true d) (by omega), fun _ => ⟨fun d => absurd (of_decide_eq_true d) (by omega), fun _ => ⟨fun d => absurd (of_decide_eq_true d) (by omega), fun _ => ⟨fun d => absurd (of_decide_eq_true d) (by omega), fun _ => ⟨fun d => absurd (of_decide_eq_true d) (by omega), fun _ => ⟨⟨⟨by omega, by omega, h2, h3, h4⟩, by show ((a.length : Int) - (i + 1)).toNat < ((a.length : Int) - i).toNat; omega⟩, hQ⟩⟩⟩⟩⟩⟩⟩⟩
theorem T_insideH (a b : List (Int × ((Int × Int) × (Int × Int)))) : fnTree (P := P) [] (lpOf [(0, R_insideL)]) Try.f48 (encL 0 [.val (.sl (.pair tI (.pair tPart tPart))), .val (.sl (.pair tI (.pair tPart tPart)))] (a, b, ())) =
  Tree.cond ((↑(List.length a) : Int) != (↑(List.length b) : Int)) (Tree.leaf (SV.bool false)) (Tree.need (inv_insideL (a, b, (0 : Int), ())) (Tree.leaf (SV.bool true))) := by kernel_rfl
def c_insideH : PC P := PC.of (α := List (Int × ((Int × Int) × (Int × Int))) × List (Int × ((Int × Int) × (Int × Int))) × Unit) 48 [.val (.sl (.pair tI (.pair tPart tPart))), .val (.sl (.pair tI (.pair tPart tPart)))] (fun x => x) (fun x => x) (fun _ => rfl)
  (fun x => some (AllB RIns x.2.1 x.1 ∧ x.1.length ≤ 160))
  (fun x => .bool true) (by kernel_rfl) (by
    rintro ⟨a, b, ⟨⟩⟩ hp
    refine fn_of hm (by kernel_rfl) (by kernel_rfl) (T_insideH a b) ⟨K_insideL, trivial⟩ ?_
    try dsimp only at hp
    try dsimp only
    obtain ⟨h1, h2⟩ : AllB RIns b a ∧ a.length ≤ 160 := hp
    have h3 := h1.1
    exact ⟨fun d => absurd d (by rw [h3]; simp), fun _ => ⟨⟨by decide, by omega, h2, h1⟩, rfl⟩⟩)
theorem T_PipeBounds (s0 : List Int) (m n : Int) : fnTree (P := P) [c_made.gc, c_awake.gc, c_Mod64.gc, c_Loads.gc, c_insideH.gc, c_Strong.gc] (lpOf []) Try.f10 (encL 0 [.val tIs, .val tI, .val tI] (s0, m, n, ())) =
  Tree.need (pr_made (s0, ())) (Tree.cond (!(V_made (s0, ())).snd.snd.snd) (Tree.leaf (SV.bool true)) (Tree.need ((0 : Int) < IntKind.wrap IntKind.i64 (IntKind.wrap IntKind.i64 ((V_made (s0, ())).snd.snd.fst.snd.snd.fst.snd - (V_made (s0, ())).snd.snd.fst.snd.snd.fst.fst) + (1 : Int)) ∧ R64 (IntKind.wrap IntKind.i64 (IntKind.wrap IntKind.i64 ((V_made (s0, ())).snd.snd.fst.snd.snd.fst.snd - (V_made (s0, ())).snd.snd.fst.snd.snd.fst.fst) + (1 : Int)))) (Tree.need ((0 : Int) < IntKind.wrap IntKind.i64 (IntKind.wrap IntKind.i64 ((V_made (s0, ())).snd.snd.fst.snd.snd.fst.snd - IntKind.wrap IntKind.i64 ((V_made (s0, ())).snd.snd.fst.snd.snd.fst.fst + m % IntKind.wrap IntKind.i64 (IntKind.wrap IntKind.i64 ((V_made (s0, ())).snd.snd.fst.snd.snd.fst.snd - (V_made (s0, ())).snd.snd.fst.snd.snd.fst.fst) + (1 : Int)))) + (1 : Int)) ∧ R64 (IntKind.wrap IntKind.i64 (IntKind.wrap IntKind.i64 ((V_made (s0, ())).snd.snd.fst.snd.snd.fst.snd - IntKind.wrap IntKind.i64 ((V_made (s0, ())).snd.snd.fst.snd.snd.fst.fst + m % IntKind.wrap IntKind.i64 (IntKind.wrap IntKind.i64 ((V_made (s0, ())).snd.snd.fst.snd.snd.fst.snd - (V_made (s0, ())).snd.snd.fst.snd.snd.fst.fst) + (1 : Int)))) + (1 : Int)))) (Tree.need ((↑(List.length (V_made (s0, ())).snd.fst) : Int) < (2 : Int) ^ (62 : Nat)) (Tree.need ((↑(List.length (V_made (s0, ())).snd.fst) : Int) < (2 : Int) ^ (62 : Nat)) (Tree.cond ((loadsS (V_made (s0, ())).snd.fst (V_made (s0, ())).fst (V_made (s0, ())).snd.snd.fst).snd.snd == (2 : Int)) (Tree.leaf (SV.bool true)) (Tree.cond ((loadsS (V_made (s0, ())).snd.fst (V_made (s0, ())).fst (V_made (s0, ())).snd.snd.fst).snd.snd != (0 : Int)) (Tree.leaf (SV.bool false)) (Tree.cond ((loadsS (V_made (s0, ())).snd.fst (V_made (s0, ())).fst ((V_made (s0, ())).snd.snd.fst.fst, (V_made (s0, ())).snd.snd.fst.snd.fst, (IntKind.wrap IntKind.i64 ((V_made (s0, ())).snd.snd.fst.snd.snd.fst.fst + m % IntKind.wrap IntKind.i64 (IntKind.wrap IntKind.i64 ((V_made (s0, ())).snd.snd.fst.snd.snd.fst.snd - (V_made (s0, ())).snd.snd.fst.snd.snd.fst.fst) + (1 : Int))), IntKind.wrap IntKind.i64 (IntKind.wrap IntKind.i64 ((V_made (s0, ())).snd.snd.fst.snd.snd.fst.fst + m % IntKind.wrap IntKind.i64 (IntKind.wrap IntKind.i64 ((V_made (s0, ())).snd.snd.fst.snd.snd.fst.snd - (V_made (s0, ())).snd.snd.fst.snd.snd.fst.fst) + (1 : Int))) + n % IntKind.wrap IntKind.i64 (IntKind.wrap IntKind.i64 ((V_made (s0, ())).snd.snd.fst.snd.snd.fst.snd - IntKind.wrap IntKind.i64 ((V_made (s0, ())).snd.snd.fst.snd.snd.fst.fst + m % IntKind.wrap IntKind.i64 (IntKind.wrap IntKind.i64 ((V_made (s0, ())).snd.snd.fst.snd.snd.fst.snd - (V_made (s0, ())).snd.snd.fst.snd.snd.fst.fst) + (1 : Int)))) + (1 : Int)))), (V_made (s0, ())).snd.snd.fst.snd.snd.snd)).snd.snd != (0 : Int)) (Tree.leaf (SV.bool false)) (Tree.need (AllB RIns (loadsS (V_made (s0, ())).snd.fst (V_made (s0, ())).fst (V_made (s0, ())).snd.snd.fst).fst (loadsS (V_made (s0, ())).snd.fst (V_made (s0, ())).fst ((V_made (s0, ())).snd.snd.fst.fst, (V_made (s0, ())).snd.snd.fst.snd.fst, (IntKind.wrap IntKind.i64 ((V_made (s0, ())).snd.snd.fst.snd.snd.fst.fst + m % IntKind.wrap IntKind.i64 (IntKind.wrap IntKind.i64 ((V_made (s0, ())).snd.snd.fst.snd.snd.fst.snd - (V_made (s0, ())).snd.snd.fst.snd.snd.fst.fst) + (1 : Int))), IntKind.wrap IntKind.i64 (IntKind.wrap IntKind.i64 ((V_made (s0, ())).snd.snd.fst.snd.snd.fst.fst + m % IntKind.wrap IntKind.i64 (IntKind.wrap IntKind.i64 ((V_made (s0, ())).snd.snd.fst.snd.snd.fst.snd - (V_made (s0, ())).snd.snd.fst.snd.snd.fst.fst) + (1 : Int))) + n % IntKind.wrap IntKind.i64 (IntKind.wrap IntKind.i64 ((V_made (s0, ())).snd.snd.fst.snd.snd.fst.snd - IntKind.wrap IntKind.i64 ((V_made (s0, ())).snd.snd.fst.snd.snd.fst.fst + m % IntKind.wrap IntKind.i64 (IntKind.wrap IntKind.i64 ((V_made (s0, ())).snd.snd.fst.snd.snd.fst.snd - (V_made (s0, ())).snd.snd.fst.snd.snd.fst.fst) + (1 : Int)))) + (1 : Int)))), (V_made (s0, ())).snd.snd.fst.snd.snd.snd)).fst ∧ List.length (loadsS (V_made (s0, ())).snd.fst (V_made (s0, ())).fst ((V_made (s0, ())).snd.snd.fst.fst, (V_made (s0, ())).snd.snd.fst.snd.fst, (IntKind.wrap IntKind.i64 ((V_made (s0, ())).snd.snd.fst.snd.snd.fst.fst + m % IntKind.wrap IntKind.i64 (IntKind.wrap IntKind.i64 ((V_made (s0, ())).snd.snd.fst.snd.snd.fst.snd - (V_made (s0, ())).snd.snd.fst.snd.snd.fst.fst) + (1 : Int))), IntKind.wrap IntKind.i64 (IntKind.wrap IntKind.i64 ((V_made (s0, ())).snd.snd.fst.snd.snd.fst.fst + m % IntKind.wrap IntKind.i64 (IntKind.wrap IntKind.i64 ((V_made (s0, ())).snd.snd.fst.snd.snd.fst.snd - (V_made (s0, ())).snd.snd.fst.snd.snd.fst.fst) + (1 : Int))) + n % IntKind.wrap IntKind.i64 (IntKind.wrap IntKind.i64 ((V_made (s0, ())).snd.snd.fst.snd.snd.fst.snd - IntKind.wrap IntKind.i64 ((V_made (s0, ())).snd.snd.fst.snd.snd.fst.fst + m % IntKind.wrap IntKind.i64 (IntKind.wrap IntKind.i64 ((V_made (s0, ())).snd.snd.fst.snd.snd.fst.snd - (V_made (s0, ())).snd.snd.fst.snd.snd.fst.fst) + (1 : Int)))) + (1 : Int)))), (V_made (s0, ())).snd.snd.fst.snd.snd.snd)).fst ≤ (160 : Nat)) (Tree.cond false (Tree.leaf (SV.bool false)) (Tree.need ((↑(List.length (V_made (s0, ())).snd.fst) : Int) < (2 : Int) ^ (62 : Nat)) (Tree.need ((↑(List.length (V_made (s0, ())).snd.fst) : Int) < (2 : Int) ^ (62 : Nat)) (Tree.cond ((strongS (V_made (s0, ())).snd.fst (V_made (s0, ())).fst (V_made (s0, ())).snd.snd.fst).snd.snd == (0 : Int)) (Tree.cond ((strongS (V_made (s0, ())).snd.fst (V_made (s0, ())).fst ((V_made (s0, ())).snd.snd.fst.fst, (V_made (s0, ())).snd.snd.fst.snd.fst, (IntKind.wrap IntKind.i64 ((V_made (s0, ())).snd.snd.fst.snd.snd.fst.fst + m % IntKind.wrap IntKind.i64 (IntKind.wrap IntKind.i64 ((V_made (s0, ())).snd.snd.fst.snd.snd.fst.snd - (V_made (s0, ())).snd.snd.fst.snd.snd.fst.fst) + (1 : Int))), IntKind.wrap IntKind.i64 (IntKind.wrap IntKind.i64 ((V_made (s0, ())).snd.snd.fst.snd.snd.fst.fst + m % IntKind.wrap IntKind.i64 (IntKind.wrap IntKind.i64 ((V_made (s0, ())).snd.snd.fst.snd.snd.fst.snd - (V_made (s0, ())).snd.snd.fst.snd.snd.fst.fst) + (1 : Int))) + n % IntKind.wrap IntKind.i64 (IntKind.wrap IntKind.i64 ((V_made (s0, ())).snd.snd.fst.snd.snd.fst.snd - IntKind.wrap IntKind.i64 ((V_made (s0, ())).snd.snd.fst.snd.snd.fst.fst + m % IntKind.wrap IntKind.i64 (IntKind.wrap IntKind.i64 ((V_made (s0, ())).snd.snd.fst.snd.snd.fst.snd - (V_made (s0, ())).snd.snd.fst.snd.snd.fst.fst) + (1 : Int)))) + (1 : Int)))), (V_made (s0, ())).snd.snd.fst.snd.snd.snd)).snd.snd == (0 : Int)) (Tree.cond (!(strongS (V_made (s0, ())).snd.fst (V_made (s0, ())).fst (V_made (s0, ())).snd.snd.fst).fst) (Tree.leaf (SV.bool true)) (Tree.cond (strongS (V_made (s0, ())).snd.fst (V_made (s0, ())).fst ((V_made (s0, ())).snd.snd.fst.fst, (V_made (s0, ())).snd.snd.fst.snd.fst, (IntKind.wrap IntKind.i64 ((V_made (s0, ())).snd.snd.fst.snd.snd.fst.fst + m % IntKind.wrap IntKind.i64 (IntKind.wrap IntKind.i64 ((V_made (s0, ())).snd.snd.fst.snd.snd.fst.snd - (V_made (s0, ())).snd.snd.fst.snd.snd.fst.fst) + (1 : Int))), IntKind.wrap IntKind.i64 (IntKind.wrap IntKind.i64 ((V_made (s0, ())).snd.snd.fst.snd.snd.fst.fst + m % IntKind.wrap IntKind.i64 (IntKind.wrap IntKind.i64 ((V_made (s0, ())).snd.snd.fst.snd.snd.fst.snd - (V_made (s0, ())).snd.snd.fst.snd.snd.fst.fst) + (1 : Int))) + n % IntKind.wrap IntKind.i64 (IntKind.wrap IntKind.i64 ((V_made (s0, ())).snd.snd.fst.snd.snd.fst.snd - IntKind.wrap IntKind.i64 ((V_made (s0, ())).snd.snd.fst.snd.snd.fst.fst + m % IntKind.wrap IntKind.i64 (IntKind.wrap IntKind.i64 ((V_made (s0, ())).snd.snd.fst.snd.snd.fst.snd - (V_made (s0, ())).snd.snd.fst.snd.snd.fst.fst) + (1 : Int)))) + (1 : Int)))), (V_made (s0, ())).snd.snd.fst.snd.snd.snd)).fst (Tree.leaf (SV.bool true)) (Tree.leaf (SV.bool false)))) (Tree.leaf (SV.bool false))) (Tree.leaf (SV.bool false))))))))))))))) := by kernel_rfl
def c_PipeBounds : PC P := PC.of (α := List Int × Int × Int × Unit) 10 [.val tIs, .val tI, .val tI] (fun x => x) (fun x => x) (fun _ => rfl)
  (fun _ => none)
  (fun x => .bool true) (by kernel_rfl) (by
    rintro ⟨s0, m, n, ⟨⟩⟩ hp
    refine fn_of hm (by kernel_rfl) (by kernel_rfl) (T_PipeBounds s0 m n) trivial ?_
    try dsimp only at hp
    try dsimp only
    have hS := S_made (s0, ()) trivial
    generalize V_made (s0, ()) = v at *
    obtain ⟨p, l, c, is⟩ := v
    obtain ⟨h1, h2, h3, h4, h5, h6, h7, h8, h9, h10⟩ := hS
    dsimp only at h1 h2 h3 h4 h5 h6 h7 h8 h9 h10 ⊢
    obtain ⟨u0, u1, u2⟩ := h9
    have hlen : (l.length : Int) < 2 ^ 62 := by omega
    rw [W_id (n := c.2.2.1.2 - c.2.2.1.1) (by omega) (by omega), W_id (n := c.2.2.1.2 - c.2.2.1.1 + 1) (by omega) (by omega)]
    have ha := Int.emod_nonneg m (show c.2.2.1.2 - c.2.2.1.1 + 1 ≠ 0 by omega)
    have ha2 := Int.emod_lt_of_pos m (show 0 < c.2.2.1.2 - c.2.2.1.1 + 1 by omega)
    generalize m % (c.2.2.1.2 - c.2.2.1.1 + 1) = x at *
    rw [W_id (n := c.2.2.1.1 + x) (by omega) (by omega), W_id (n := c.2.2.1.2 - (c.2.2.1.1 + x)) (by omega) (by omega), W_id (n := c.2.2.1.2 - (c.2.2.1.1 + x) + 1) (by omega) (by omega)]
    have hb := Int.emod_nonneg n (show c.2.2.1.2 - (c.2.2.1.1 + x) + 1 ≠ 0 by omega)
    have hb2 := Int.emod_lt_of_pos n (show 0 < c.2.2.1.2 - (c.2.2.1.1 + x) + 1 by omega)
    generalize n % (c.2.2.1.2 - (c.2.2.1.1 + x) + 1) = y at *
    rw [W_id (n := c.2.2.1.1 + x + y) (by omega) (by omega)]
    have E : (c.1, c.2.1, (c.2.2.1.1 + x, c.2.2.1.1 + x + y), c.2.2.2) = muC c (c.2.2.1.1 + x, c.2.2.1.1 + x + y) := rfl
    rw [E]
    refine ⟨trivial, fun d1 => rfl, fun d1 => ?_⟩
    obtain ⟨hf, _⟩ := h2 (by simpa using d1)
    have hck := (fitsS_ok hf).1
    have hca : caseS l c = 0 := caseS_of hck ⟨h7, by omega, ⟨u0, u1, u2⟩, by omega, fun t ht => h3 t ht _ h8.1 h8.2⟩
    refine ⟨⟨by omega, by omega, by omega⟩, ⟨by omega, by omega, by omega⟩, hlen, hlen, fun d2 => rfl, fun d2 => ?_⟩
    have he := loads_err2 (c := c) hf hca (by simpa using d2)
    obtain ⟨b1, b2, b3, _⟩ := bounds_ok (m := (c.2.2.1.1 + x, c.2.2.1.1 + x + y)) (l := l) (p := p) (c := c) (by dsimp only; omega) (by dsimp only; omega) (by dsimp only; omega) he
    obtain ⟨q1, q2⟩ := loads_ok0 he
    refine ⟨fun d3 => absurd d3 (by rw [he]; decide), fun _ => ⟨fun d4 => absurd d4 (by rw [b1]; decide), fun _ => ?_⟩⟩
    obtain ⟨k1, k2⟩ := strong_ok he
    obtain ⟨k3, k4⟩ := strong_ok b1
    have hm := strL_mono (l := l) b2 (pcsS l p) 0 (by decide) (by omega)
    have hl2 := b2.1
    rw [k1, k2, k3, k4]
    refine ⟨⟨b2, by omega⟩, fun d => (by cases d), fun _ => ⟨hlen, hlen, fun _ => ⟨fun _ => ⟨fun _ => rfl, fun d5 => ⟨fun _ => rfl, fun d6 => ?_⟩⟩, fun d => absurd d (by decide)⟩, fun d => absurd d (by decide)⟩⟩
    rw [hm (by simpa using d5)] at d6
    cases d6)
end
end Go.MP
