/- Loads, and strings and cases made of numbers. -/
import Derived.Test.YtoockflaeaknbaaMsJ
namespace Go.MP
open Go Go.Sx Go.Proofs
set_option linter.unusedVariables false
set_option linter.unusedSimpArgs false
noncomputable section
def L_dry1 : Lay := { slots := [(0, .agg tT), (1, .ptr 1 0)], boxes := [(1, [.val tI, .val tI, .val tI, .val tI, .val tI])] }
theorem T_dry1 (t_0 t_1 t_2 t_3 t_4 t_5 t_6 t_7 t_8 a m b c d : Int) : mTree (P := P) [c_Wet.gc] (lpOf []) Try.f94 L_dry1 true ((t_0, (t_1, (t_2, (t_3, (t_4, (t_5, (t_6, (t_7, t_8)))))))), (), a, m, b, c, d, ()) =
  Tree.leaf { res := SV.bool (decide (wetS (t_0, t_1, t_2, t_3, t_4, t_5, t_6, t_7, t_8) m ≤ (0 : Int))), boxes := [[SV.int IntKind.i64 a, SV.int IntKind.i64 m, SV.int IntKind.i64 b, SV.int IntKind.i64 c, SV.int IntKind.i64 d]] } := by kernel_rfl
def c_dry1 : MC P := MC.of (α := Tb × Unit × Int × Int × Int × Int × Int × Unit) 94 L_dry1 (fun x => x) (fun x => x) (fun _ => rfl)
  (fun _ => none)
  (fun x => ⟨.bool (dryT x.2.2.2.1 x.1), [[.int .i64 x.2.2.1, .int .i64 x.2.2.2.1, .int .i64 x.2.2.2.2.1, .int .i64 x.2.2.2.2.2.1, .int .i64 x.2.2.2.2.2.2.1]], []⟩) (by kernel_rfl) (by kernel_rfl) (by kernel_rfl) (by
    rintro ⟨⟨t_0, ⟨t_1, ⟨t_2, ⟨t_3, ⟨t_4, ⟨t_5, ⟨t_6, ⟨t_7, t_8⟩⟩⟩⟩⟩⟩⟩⟩, ⟨⟩, a, m, b, c, d, ⟨⟩⟩ hp
    refine m_of hm (own := true) (by kernel_rfl) (by kernel_rfl) (by kernel_rfl) (T_dry1 t_0 t_1 t_2 t_3 t_4 t_5 t_6 t_7 t_8 a m b c d) trivial ?_
    exact rfl)
def L_ixD0 : Lay := { slots := [(0, .val (.sl tT)), (1, .clo 94 [(1, 0)])], boxes := [(1, [.val tI, .val tI, .val tI, .val tI, .val tI])] }
def L_ixDL : Lay := { slots := [(0, .val (.sl tT)), (1, .clo 94 [(1, 0)]), (7, .val tI), (8, .val tI)], boxes := [(1, [.val tI, .val tI, .val tI, .val tI, .val tI])] }
def L_ixDL_0 : Lay := { slots := [], boxes := [(1, [.val tI, .val tI, .val tI, .val tI, .val tI])] }
def L_ixDL_1 : Lay := { slots := [(4, .val tI)], boxes := [(1, [.val tI, .val tI, .val tI, .val tI, .val tI])] }
def X_ixDL : Exit → St → Option Lay
  | .exit 0, _ => some L_ixDL_0
  | .ret, _ => some L_ixDL_1
  | _, _ => none
abbrev C_ixDL : Code := loopC (bodyOf Try.f115) 0
theorem B_ixDL (l : List Tb) (n i : Int) (a m b c d : Int) : loopBodyA (P := P) [c_dry1.gc] (lpOf []) [] 19 (usd noU (L_ixD0.ids ++ rowIds rowBase L_ixD0.shs)) (inner C_ixDL) L_ixDL X_ixDL (α := List Tb × Unit × Int × Int × Int × Int × Int × Int × Int × Unit) (fun x => x) (fun x => x) (l, (), n, i, a, m, b, c, d, ()) =
  Tree.cond (decide (i < n)) (Tree.need ((0 : Int) ≤ i ∧ i < (↑(List.length l) : Int)) (Tree.cond (dryT m (List.getD l (Int.toNat i) ((0 : Int), (0 : Int), (0 : Int), (0 : Int), (0 : Int), (0 : Int), (0 : Int), (0 : Int), (0 : Int)))) (Tree.leaf (Sum.inr (Exit.ret, Lay.st L_ixDL_1 (usd noU (Lay.ids L_ixD0 ++ rowIds rowBase (Lay.shs L_ixD0))) (i, a, m, b, c, d, PUnit.unit)))) (Tree.leaf (Sum.inl (l, PUnit.unit, n, IntKind.wrap IntKind.i64 (i + (1 : Int)), a, m, b, c, d, PUnit.unit))))) (Tree.leaf (Sum.inr (Exit.exit (0 : Nat), Lay.st L_ixDL_0 (usd noU (Lay.ids L_ixD0 ++ rowIds rowBase (Lay.shs L_ixD0))) (a, m, b, c, d, PUnit.unit)))) := by kernel_rfl
def inv_ixDL : List Tb × Unit × Int × Int × Int × Int × Int × Int × Int × Unit → Prop := fun (l, _, n, i, a, m, b, c, d, _) => n = l.length ∧ 0 ≤ i ∧ i ≤ n ∧ (l.length : Int) < 2 ^ 62
def O_ixDL : List Tb × Unit × Int × Int × Int × Int × Int × Int × Int × Unit → Tree (Exit × St) := fun (l, _, n, i, a, m, b, c, d, _) => .cond ((l.drop i.toNat).any (dryT m)) (.leaf (.ret, L_ixDL_1.st (usd noU (L_ixD0.ids ++ rowIds rowBase L_ixD0.shs)) (ixR (dryT m) l i, a, m, b, c, d, ()))) (.leaf (.exit 0, L_ixDL_0.st (usd noU (L_ixD0.ids ++ rowIds rowBase L_ixD0.shs)) (a, m, b, c, d, ())))
def R_ixDL : LRun := runOf 19 L_ixDL (fun x => x) (inv_ixDL) (O_ixDL)
theorem K_ixDL : LoopOk P [] 19 none (usd noU (L_ixD0.ids ++ rowIds rowBase L_ixD0.shs)) C_ixDL (R_ixDL) := by
  refine loop_of hm (cx := [c_dry1.gc]) [] (xl := X_ixDL) (α := List Tb × Unit × Int × Int × Int × Int × Int × Int × Int × Unit) (fun x => x) (fun (l, _, n, i, a, m, b, c, d, _) => (n - i).toNat) (fun _ => rfl) (by kernel_rfl) (by kernel_rfl) ?_ (by kernel_rfl) trivial ?_
  · intro e S L' h
    unfold X_ixDL at h
    split at h <;> first | (cases h; done) | (cases h; kernel_rfl) | (rcases bif_some h with h | h <;> cases h <;> kernel_rfl)
  · rintro ⟨l, ⟨⟩, n, i, a, m, b, c, d, ⟨⟩⟩ hinv Q hQ
    refine hold_of_eq (B_ixDL l n i a m b c d) ?_
    obtain ⟨rfl, h0, h1, h2⟩ := hinv
    rw [W_id (n := i + 1) (by omega) (by omega)]
    unfold O_ixDL at hQ
    dsimp only at hQ
    refine ⟨fun hi => ?_, fun hi => ?_⟩
    · simp only [decide_eq_true_eq] at hi
      have hm : ((l.length : Int) - (i + 1)).toNat < ((l.length : Int) - i).toNat := by omega
      obtain ⟨e1, e2, e3⟩ := ix_step (p := dryT m) (zT : Tb) h0 hi
      rw [e1] at hQ
      refine ⟨⟨h0, hi⟩, fun hp => ?_, fun hp => ?_⟩
      · replace hp : (dryT m) (l.getD i.toNat (zT : Tb)) = true := hp
        rw [hp, Bool.true_or, e2 hp] at hQ
        exact hQ.1 rfl
      · replace hp : (dryT m) (l.getD i.toNat (zT : Tb)) = false := hp
        rw [hp, Bool.false_or, e3 hp] at hQ
        exact ⟨⟨⟨rfl, by omega, by omega, h2⟩, hm⟩, hQ⟩
    · simp only [decide_eq_false_iff_not] at hi
      rw [drop_end hi] at hQ
      exact hQ.2 rfl
def L_ixD : Lay := { slots := [(0, .val (.sl tT)), (1, .clo 94 [(1, 0)])], boxes := [(1, [.val tI, .val tI, .val tI, .val tI, .val tI])] }
theorem T_ixD (l : List Tb) (a m b c d : Int) : mTree (P := P) [] (lpOf [(0, R_ixDL)]) Try.f115 L_ixD true (l, (), a, m, b, c, d, ()) =
  Tree.need (inv_ixDL (l, (), (↑(List.length l) : Int), (0 : Int), a, m, b, c, d, ())) (Tree.cond (List.any (List.drop (Int.toNat (0 : Int)) l) (dryT m)) (Tree.leaf { res := SV.int IntKind.i64 (ixR (dryT m) l (0 : Int)), boxes := [[SV.int IntKind.i64 a, SV.int IntKind.i64 m, SV.int IntKind.i64 b, SV.int IntKind.i64 c, SV.int IntKind.i64 d]] }) (Tree.leaf { res := SV.int IntKind.i64 (-1 : Int), boxes := [[SV.int IntKind.i64 a, SV.int IntKind.i64 m, SV.int IntKind.i64 b, SV.int IntKind.i64 c, SV.int IntKind.i64 d]] })) := by kernel_rfl
def c_ixD : MC P := MC.of (α := List Tb × Unit × Int × Int × Int × Int × Int × Unit) 115 L_ixD (fun x => x) (fun x => x) (fun _ => rfl)
  (fun (l, _, a, m, b, c, d, _) => some ((l.length : Int) < 2 ^ 62))
  (fun (l, _, a, m, b, c, d, _) => ⟨.int .i64 (ixS (dryT m) l), [[.int .i64 a, .int .i64 m, .int .i64 b, .int .i64 c, .int .i64 d]], []⟩) (by kernel_rfl) (by kernel_rfl) (by kernel_rfl) (by
    rintro ⟨l, ⟨⟩, a, m, b, c, d, ⟨⟩⟩ hp
    refine m_of hm (own := true) (by kernel_rfl) (by kernel_rfl) (by kernel_rfl) (T_ixD l a m b c d) ⟨K_ixDL, trivial⟩ ?_
    refine ⟨⟨rfl, by omega, by omega, hp⟩, fun h => ?_, fun h => ?_⟩
    · simp only [Int.toNat_zero, List.drop_zero] at h
      have e : ixR (dryT m) l 0 = ixS (dryT m) l := by
        unfold ixS ixR
        rw [if_pos h]
        simp only [Int.toNat_zero, List.drop_zero, Int.zero_add]
      exact congrArg (fun k : Int => (⟨.int .i64 k, [[.int .i64 a, .int .i64 m, .int .i64 b, .int .i64 c, .int .i64 d]], []⟩ : MOut)) e
    · simp only [Int.toNat_zero, List.drop_zero] at h
      have e : -1 = ixS (dryT m) l := by
        unfold ixS
        rw [if_neg (by simp only [h]; decide)]
      exact congrArg (fun k : Int => (⟨.int .i64 k, [[.int .i64 a, .int .i64 m, .int .i64 b, .int .i64 c, .int .i64 d]], []⟩ : MOut)) e)
def L_ixDC : Lay := { slots := [(0, .val (.sl tT)), (1, .clo 94 [(1, 0)])], boxes := [(1, [.val tI, .val tI, .val tI, .val tI, .val tI])] }
theorem T_ixDC (l : List Tb) (a m b c d : Int) : mTree (P := P) [c_ixD.gc] (lpOf []) Try.f85 L_ixDC true (l, (), a, m, b, c, d, ()) =
  Tree.need ((↑(List.length l) : Int) < (2 : Int) ^ (62 : Nat)) (Tree.leaf { res := SV.bool (decide (ixS (dryT m) l ≥ (0 : Int))), boxes := [[SV.int IntKind.i64 a, SV.int IntKind.i64 m, SV.int IntKind.i64 b, SV.int IntKind.i64 c, SV.int IntKind.i64 d]] }) := by kernel_rfl
def c_ixDC : MC P := MC.of (α := List Tb × Unit × Int × Int × Int × Int × Int × Unit) 85 L_ixDC (fun x => x) (fun x => x) (fun _ => rfl)
  (fun (l, _, a, m, b, c, d, _) => some ((l.length : Int) < 2 ^ 62))
  (fun (l, _, a, m, b, c, d, _) => ⟨.bool (l.any (dryT m)), [[.int .i64 a, .int .i64 m, .int .i64 b, .int .i64 c, .int .i64 d]], []⟩) (by kernel_rfl) (by kernel_rfl) (by kernel_rfl) (by
    rintro ⟨l, ⟨⟩, a, m, b, c, d, ⟨⟩⟩ hp
    refine m_of hm (own := true) (by kernel_rfl) (by kernel_rfl) (by kernel_rfl) (T_ixDC l a m b c d) trivial ?_
    exact ⟨hp, congrArg (fun k : Bool => (⟨.bool k, [[.int .i64 a, .int .i64 m, .int .i64 b, .int .i64 c, .int .i64 d]], []⟩ : MOut)) (ixS_ge (dryT m) l)⟩)
theorem T_CheckCase (l_0 : List Tb) (c_0 c_1 c_2 c_3 c_4 : Int) : fnTree (P := P) [c_TCheck.gc, c_twithin.gc, c_ixDC.gc] (lpOf []) Try.f58 (encL 0 [.agg tTs, .agg (.pair tI (.pair tI (.pair tPart tI)))] (l_0, (c_0, (c_1, ((c_2, c_3), c_4))), ())) =
  Tree.need ((↑(List.length l_0) : Int) < (2 : Int) ^ (62 : Nat)) (Tree.cond (checkT l_0 != (0 : Int)) (Tree.leaf (SV.int IntKind.i64 (checkT l_0))) (Tree.cond (decide (c_0 < (1 : Int))) (Tree.leaf (SV.int IntKind.i64 (4 : Int))) (Tree.cond (decide (c_0 > (3 : Int))) (Tree.leaf (SV.int IntKind.i64 (4 : Int))) (Tree.cond (!wi c_1 (0 : Int) (40000 : Int)) (Tree.leaf (SV.int IntKind.i64 (2 : Int))) (Tree.cond (decide (c_2 < (0 : Int))) (Tree.leaf (SV.int IntKind.i64 (2 : Int))) (Tree.cond (decide (c_2 > c_3)) (Tree.leaf (SV.int IntKind.i64 (2 : Int))) (Tree.cond (decide (c_3 > (600 : Int))) (Tree.leaf (SV.int IntKind.i64 (2 : Int))) (Tree.cond (!wi c_4 (0 : Int) (1099511627776 : Int)) (Tree.leaf (SV.int IntKind.i64 (2 : Int))) (Tree.need ((↑(List.length l_0) : Int) < (2 : Int) ^ (62 : Nat)) (Tree.cond (List.any l_0 (dryT c_1)) (Tree.leaf (SV.int IntKind.i64 (10 : Int))) (Tree.leaf (SV.int IntKind.i64 (0 : Int))))))))))))) := by kernel_rfl
def c_CheckCase : PC P := PC.of (α := List Tb × (Int × (Int × ((Int × Int) × Int))) × Unit) 58 [.agg tTs, .agg (.pair tI (.pair tI (.pair tPart tI)))] (fun x => x) (fun x => x) (fun _ => rfl)
  (fun x => some ((x.1.length : Int) < 2 ^ 62))
  (fun x => .int .i64 (caseS x.1 x.2.1)) (by kernel_rfl) (by
    rintro ⟨l_0, ⟨c_0, ⟨c_1, ⟨⟨c_2, c_3⟩, c_4⟩⟩⟩, ⟨⟩⟩ hp
    refine fn_of hm (by kernel_rfl) (by kernel_rfl) (T_CheckCase l_0 c_0 c_1 c_2 c_3 c_4) trivial ?_
    try dsimp only at hp
    try dsimp only
    have h62 : (l_0.length : Int) < 2 ^ 62 := hp
    show Tree.holds (fun s => s = SV.int .i64 (caseS l_0 (c_0, c_1, (c_2, c_3), c_4))) _
    have e : (fun t => decide (wetS t c_1 ≤ 0)) = dryT c_1 := rfl
    unfold caseS
    dsimp only
    rw [e]
    refine ⟨h62, fun d1 => ?_, fun d1 => ⟨fun d2 => ?_, fun d2 => ⟨fun d3 => ?_, fun d3 => ⟨fun d4 => ?_, fun d4 => ⟨fun d5 => ?_, fun d5 => ⟨fun d6 => ?_, fun d6 => ⟨fun d7 => ?_, fun d7 => ⟨fun d8 => ?_, fun d8 => ⟨h62, fun d9 => ?_, fun d9 => ?_⟩⟩⟩⟩⟩⟩⟩⟩⟩
    all_goals simp only [bne_iff_ne, bne_eq_false_iff_eq, ne_eq, decide_eq_true_eq, decide_eq_false_iff_not, Bool.not_eq_true', Bool.not_eq_false'] at *
    · rw [if_pos d1]; exact rfl
    all_goals rw [if_neg (by simp [d1])]
    · rw [if_pos (.inl d2)]; exact rfl
    · rw [if_pos (.inr d3)]; exact rfl
    all_goals rw [if_neg (by omega)]
    · rw [if_pos (.inl d4)]; exact rfl
    · rw [if_pos (.inr (.inl d5))]; exact rfl
    · rw [if_pos (.inr (.inr (.inl d6)))]; exact rfl
    · rw [if_pos (.inr (.inr (.inr (.inl d7))))]; exact rfl
    · rw [if_pos (.inr (.inr (.inr (.inr d8))))]; exact rfl
    all_goals rw [if_neg (by rintro (h | h | h | h | h) <;> first | omega | (rw [h] at d4; cases d4) | (rw [h] at d8; cases d8))]
    · rw [if_pos d9]; exact rfl
    · rw [if_neg (by rw [d9]; exact Bool.false_ne_true)]; exact rfl)
theorem folS_eq (sl : List Tb) (p : Pth) (c : Cs) : folS sl p c = if (runS sl p c (-1) (startS c) (pcsS sl p)).1 = true then (true, (runS sl p c (-1) (startS c) (pcsS sl p)).2.1, (runS sl p c (-1) (startS c) (pcsS sl p)).2.2) else (false, [], []) := by
  obtain ⟨h1, h2⟩ := runF_S sl p c (pcsS sl p) (-1) (startS c) [] []
  unfold folS
  rw [h1]
  split
  · rename_i h
    obtain ⟨h3, h4⟩ := h2 h
    rw [h3, h4, List.nil_append, List.nil_append]
  · rfl
theorem T_loads (l_0 : List Tb) (p_0 p_1 p_2 : Int) (p_3 : List V) (c_0 c_1 c_2 c_3 c_4 : Int) : fnTree (P := P) [c_Fits.gc, c_CheckCase.gc, c_follow.gc] (lpOf []) Try.f91 (encL 0 [.agg tTs, .agg (.pair tV tVs), .agg (.pair tI (.pair tI (.pair tPart tI)))] (l_0, ((p_0, (p_1, p_2)), p_3), (c_0, (c_1, ((c_2, c_3), c_4))), ())) =
  Tree.need ((↑(List.length l_0) : Int) < (2 : Int) ^ (62 : Nat)) (Tree.cond (fitsS l_0 ((p_0, p_1, p_2), p_3) != (0 : Int)) (Tree.leaf (SV.tup [SV.nils, SV.nils, SV.int IntKind.i64 (fitsS l_0 ((p_0, p_1, p_2), p_3))])) (Tree.need ((↑(List.length l_0) : Int) < (2 : Int) ^ (62 : Nat)) (Tree.cond (caseS l_0 (c_0, c_1, (c_2, c_3), c_4) != (0 : Int)) (Tree.leaf (SV.tup [SV.nils, SV.nils, SV.int IntKind.i64 (caseS l_0 (c_0, c_1, (c_2, c_3), c_4))])) (Tree.need (EnvOk l_0 ((p_0, p_1, p_2), p_3) (c_0, c_1, (c_2, c_3), c_4)) (Tree.cond (!(folS l_0 ((p_0, p_1, p_2), p_3) (c_0, c_1, (c_2, c_3), c_4)).fst) (Tree.leaf (SV.tup [SV.nils, SV.nils, SV.int IntKind.i64 (2 : Int)])) (Tree.leaf (SV.tup [SV.sl (Ty.pair tI (Ty.pair tPart tPart)) (folS l_0 ((p_0, p_1, p_2), p_3) (c_0, c_1, (c_2, c_3), c_4)).snd.fst, SV.sl (Ty.pair tI tI) (folS l_0 ((p_0, p_1, p_2), p_3) (c_0, c_1, (c_2, c_3), c_4)).snd.snd, SV.int IntKind.i64 (0 : Int)]))))))) := by kernel_rfl
def c_loads : PC P := PC.of (α := List Tb × (V × List V) × (Int × (Int × ((Int × Int) × Int))) × Unit) 91 [.agg tTs, .agg (.pair tV tVs), .agg (.pair tI (.pair tI (.pair tPart tI)))] (fun x => x) (fun x => x) (fun _ => rfl)
  (fun x => some ((x.1.length : Int) < 2 ^ 62))
  (fun x => .tup [.sl tHg (loadsS x.1 x.2.1 x.2.2.1).1, .sl tPart (loadsS x.1 x.2.1 x.2.2.1).2.1, .int .i64 (loadsS x.1 x.2.1 x.2.2.1).2.2]) (by kernel_rfl) (by
    rintro ⟨l_0, ⟨⟨p_0, ⟨p_1, p_2⟩⟩, p_3⟩, ⟨c_0, ⟨c_1, ⟨⟨c_2, c_3⟩, c_4⟩⟩⟩, ⟨⟩⟩ hp
    refine fn_le hm (by kernel_rfl) (by kernel_rfl) (T_loads l_0 p_0 p_1 p_2 p_3 c_0 c_1 c_2 c_3 c_4) trivial (by kernel_rfl) ?_
    try dsimp only at hp
    try dsimp only
    have h62 : (l_0.length : Int) < 2 ^ 62 := hp
    show Tree.holds (fun s => LeS s (SV.tup [.sl tHg (loadsS l_0 ((p_0, p_1, p_2), p_3) (c_0, c_1, (c_2, c_3), c_4)).1, .sl tPart (loadsS l_0 ((p_0, p_1, p_2), p_3) (c_0, c_1, (c_2, c_3), c_4)).2.1, .int .i64 (loadsS l_0 ((p_0, p_1, p_2), p_3) (c_0, c_1, (c_2, c_3), c_4)).2.2])) _
    unfold loadsS
    refine ⟨h62, fun d1 => ?_, fun d1 => ⟨h62, fun d2 => ?_, fun d2 => ⟨?_, fun d3 => ?_, fun d3 => ?_⟩⟩⟩
    all_goals simp only [bne_iff_ne, bne_eq_false_iff_eq, ne_eq, Bool.not_eq_true', Bool.not_eq_false'] at *
    · rw [if_pos d1]; exact ⟨rfl, rfl, rfl, trivial⟩
    all_goals try rw [if_neg (by simp [d1])]
    · rw [if_pos d2]; exact ⟨rfl, rfl, rfl, trivial⟩
    all_goals try rw [if_neg (by simp [d2])]
    · exact ⟨d1, (caseS_ok d2).2⟩
    · rw [folS_eq] at d3
      split at d3
      · cases d3
      · rename_i h
        rw [if_neg h]; exact ⟨rfl, rfl, rfl, trivial⟩
    · rw [folS_eq] at d3 ⊢
      split at d3
      · rename_i h
        simp only [if_pos h]
        exact ⟨rfl, rfl, rfl, trivial⟩
      · cases d3)
theorem T_Loads (l_0 : List Tb) (p_0 p_1 p_2 : Int) (p_3 : List V) (c_0 c_1 c_2 c_3 c_4 : Int) : fnTree (P := P) [c_loads.gc] (lpOf []) Try.f47 (encL 0 [.agg tTs, .agg (.pair tV tVs), .agg (.pair tI (.pair tI (.pair tPart tI)))] (l_0, ((p_0, (p_1, p_2)), p_3), (c_0, (c_1, ((c_2, c_3), c_4))), ())) =
  Tree.need ((↑(List.length l_0) : Int) < (2 : Int) ^ (62 : Nat)) (Tree.leaf (SV.tup [SV.sl (Ty.pair tI (Ty.pair tPart tPart)) (loadsS l_0 ((p_0, p_1, p_2), p_3) (c_0, c_1, (c_2, c_3), c_4)).fst, SV.int IntKind.i64 (loadsS l_0 ((p_0, p_1, p_2), p_3) (c_0, c_1, (c_2, c_3), c_4)).snd.snd])) := by kernel_rfl
def c_Loads : PC P := PC.of (α := List Tb × (V × List V) × (Int × (Int × ((Int × Int) × Int))) × Unit) 47 [.agg tTs, .agg (.pair tV tVs), .agg (.pair tI (.pair tI (.pair tPart tI)))] (fun x => x) (fun x => x) (fun _ => rfl)
  (fun x => some ((x.1.length : Int) < 2 ^ 62))
  (fun x => .tup [.sl tHg (loadsS x.1 x.2.1 x.2.2.1).1, .int .i64 (loadsS x.1 x.2.1 x.2.2.1).2.2]) (by kernel_rfl) (by
    rintro ⟨l_0, ⟨⟨p_0, ⟨p_1, p_2⟩⟩, p_3⟩, ⟨c_0, ⟨c_1, ⟨⟨c_2, c_3⟩, c_4⟩⟩⟩, ⟨⟩⟩ hp
    refine fn_le hm (by kernel_rfl) (by kernel_rfl) (T_Loads l_0 p_0 p_1 p_2 p_3 c_0 c_1 c_2 c_3 c_4) trivial (by kernel_rfl) ?_
    try dsimp only at hp
    try dsimp only
    have h62 : (l_0.length : Int) < 2 ^ 62 := hp
    exact ⟨h62, rfl, rfl, trivial⟩)
def shownT : List Tb := [(10, 1000, 3000000, 100, 20, 1099511627776, 1099511627776, 0, 0), (60, 1000, 300000, 30, 13, 1099511627776, 1099511627776, 0, 0)]
def wayP : Pth := ((0, 0, 0), [(0, 0, 50000), (0, 30000, 40000)])
theorem T_shown (_ : Unit) : fnTree (P := P) [] (lpOf []) Try.f56 (encL 0 [] ()) =
  Tree.leaf (SV.agg [SV.sl (Ty.pair (Ty.int IntKind.i64) (Ty.pair (Ty.int IntKind.i64) (Ty.pair (Ty.int IntKind.i64) (Ty.pair (Ty.int IntKind.i64) (Ty.pair (Ty.int IntKind.i64) (Ty.pair (Ty.int IntKind.i64) (Ty.pair (Ty.int IntKind.i64) (Ty.pair (Ty.int IntKind.i64) (Ty.int IntKind.i64))))))))) [((10 : Int), (1000 : Int), (3000000 : Int), (100 : Int), (20 : Int), (1099511627776 : Int), (1099511627776 : Int), (0 : Int), (0 : Int)), ((60 : Int), (1000 : Int), (300000 : Int), (30 : Int), (13 : Int), (1099511627776 : Int), (1099511627776 : Int), (0 : Int), (0 : Int))]]) := by kernel_rfl
def c_shown : PC P := PC.of (α := Unit) 56 [] (fun x => x) (fun x => x) (fun _ => rfl)
  (fun _ => none)
  (fun x => .agg [.sl tT shownT]) (by kernel_rfl) (by
    rintro ⟨⟩ hp
    refine fn_of hm (by kernel_rfl) (by kernel_rfl) (T_shown ()) trivial ?_
    exact rfl)
theorem T_way (_ : Unit) : fnTree (P := P) [] (lpOf []) Try.f57 (encL 0 [] ()) =
  Tree.leaf (SV.agg [SV.int IntKind.i64 (0 : Int), SV.int IntKind.i64 (0 : Int), SV.int IntKind.i64 (0 : Int), SV.sl (Ty.pair (Ty.int IntKind.i64) (Ty.pair (Ty.int IntKind.i64) (Ty.int IntKind.i64))) [((0 : Int), (0 : Int), (50000 : Int)), ((0 : Int), (30000 : Int), (40000 : Int))]]) := by kernel_rfl
def c_way : PC P := PC.of (α := Unit) 57 [] (fun x => x) (fun x => x) (fun _ => rfl)
  (fun _ => none)
  (fun x => .agg [.int .i64 0, .int .i64 0, .int .i64 0, .sl tV wayP.2]) (by kernel_rfl) (by
    rintro ⟨⟩ hp
    refine fn_of hm (by kernel_rfl) (by kernel_rfl) (T_way ()) trivial ?_
    exact rfl)
theorem awake2 : (loadsS shownT wayP (1, 0, (0, 0), 0)).1.length = 3 := by kernel_rfl
theorem T_awake (_ : Unit) : fnTree (P := P) [c_shown.gc, c_way.gc, c_Loads.gc, c_TLength.gc] (lpOf []) Try.f18 (encL 0 [] ()) =
  Tree.need ((↑(List.length shownT) : Int) < (2 : Int) ^ (62 : Nat)) (Tree.cond true (Tree.cond true (Tree.need ((0 : Int) ≤ (2 : Int) ∧ (2 : Int) < (↑(List.length (loadsS shownT (((0 : Int), (0 : Int), (0 : Int)), wayP.snd) ((1 : Int), (0 : Int), ((0 : Int), (0 : Int)), (0 : Int))).fst) : Int)) (Tree.cond true (Tree.need ((↑(List.length shownT) : Int) < (2 : Int) ^ (62 : Nat)) (Tree.leaf (SV.bool true))) (Tree.leaf (SV.bool false)))) (Tree.leaf (SV.bool false))) (Tree.leaf (SV.bool false))) := by kernel_rfl
def c_awake : PC P := PC.of (α := Unit) 18 [] (fun x => x) (fun x => x) (fun _ => rfl)
  (fun _ => none)
  (fun x => .bool true) (by kernel_rfl) (by
    rintro ⟨⟩ hp
    refine fn_of hm (by kernel_rfl) (by kernel_rfl) (T_awake ()) trivial ?_
    try dsimp only at hp
    try dsimp only
    refine ⟨by decide, fun _ => ⟨fun _ => ⟨?_, fun _ => ⟨by decide, rfl⟩, fun h => (by cases h)⟩, fun h => (by cases h)⟩, fun h => (by cases h)⟩
    have e : loadsS shownT ((0, 0, 0), wayP.2) (1, 0, (0, 0), 0) = loadsS shownT wayP (1, 0, (0, 0), 0) := rfl
    rw [e, awake2]; decide)
def tubeK (l : List Int) (k : Int) : Tb × Int :=
  ((1 + nextS l k 12, 100 + nextS l (k + 1) 1500, 22000 * (1 + nextS l (k + 1 + 1) 150) + (1 + nextS l (k + 1 + 1 + 1 + 1 + 1 + 1) 600000), 1 + nextS l (k + 1 + 1) 150, 2 + nextS l (k + 1 + 1 + 1) 30,
    (if nextS l (k + 1 + 1 + 1 + 1 + 1 + 1 + 1) 3 = 0 then (1 + nextS l (k + 1 + 1 + 1 + 1 + 1 + 1 + 1 + 1) 1048576) * 1024 else 274877906944), (if nextS l (k + 1 + 1 + 1 + 1 + 1 + 1 + 1) 3 = 0 then (1 + nextS l (k + 1 + 1 + 1 + 1 + 1 + 1 + 1 + 1 + 1) 1048576) * 4096 else 17592186044416), nextS l (k + 1 + 1 + 1 + 1) 1048576, nextS l (k + 1 + 1 + 1 + 1 + 1) 1000),
   if nextS l (k + 1 + 1 + 1 + 1 + 1 + 1 + 1) 3 = 0 then (k + 1 + 1 + 1 + 1 + 1 + 1 + 1 + 1 + 1 + 1) else (k + 1 + 1 + 1 + 1 + 1 + 1 + 1 + 1))
theorem tubeK_ok {l : List Int} {k : Int} (h : 0 ≤ k) : Fair (tubeK l k).1 ∧ (tubeK l k).1.1 ≤ 12 ∧ (tubeK l k).1.2.1 ≤ 1600 ∧ (∀ m, 0 ≤ m → m ≤ 22000 → 0 < wetS (tubeK l k).1 m) ∧ k ≤ (tubeK l k).2 ∧ (tubeK l k).2 ≤ k + 10 := by
  have n0 := nextS_rng (l := l) (k := k) (n := 12) h (by decide)
  have n1 := nextS_rng (l := l) (k := k + 1) (n := 1500) (by omega) (by decide)
  have n2 := nextS_rng (l := l) (k := k + 1 + 1) (n := 150) (by omega) (by decide)
  have n3 := nextS_rng (l := l) (k := k + 1 + 1 + 1) (n := 30) (by omega) (by decide)
  have n4 := nextS_rng (l := l) (k := k + 1 + 1 + 1 + 1) (n := 1048576) (by omega) (by decide)
  have n5 := nextS_rng (l := l) (k := k + 1 + 1 + 1 + 1 + 1) (n := 1000) (by omega) (by decide)
  have n6 := nextS_rng (l := l) (k := k + 1 + 1 + 1 + 1 + 1 + 1) (n := 600000) (by omega) (by decide)
  have n8 := nextS_rng (l := l) (k := k + 1 + 1 + 1 + 1 + 1 + 1 + 1 + 1) (n := 1048576) (by omega) (by decide)
  have n9 := nextS_rng (l := l) (k := k + 1 + 1 + 1 + 1 + 1 + 1 + 1 + 1 + 1) (n := 1048576) (by omega) (by decide)
  have hf : Fair (tubeK l k).1 := by
    unfold tubeK
    refine ⟨?_, ?_, ?_, ?_, ?_, ?_, ?_, ?_, ?_⟩ <;> dsimp only <;> first | omega | (split <;> omega)
  refine ⟨hf, by show 1 + nextS l k 12 ≤ 12; omega, by show 100 + nextS l (k + 1) 1500 ≤ 1600; omega, fun m h0 h1 => ?_, ?_, ?_⟩
  · rw [(hf.wet h0 (show m ≤ 40000 by omega)).1]
    show 0 < 22000 * (1 + nextS l (k + 1 + 1) 150) + (1 + nextS l (k + 1 + 1 + 1 + 1 + 1 + 1) 600000) - m * (1 + nextS l (k + 1 + 1) 150)
    have := Int.mul_le_mul_of_nonneg_right h1 (show 0 ≤ 1 + nextS l (k + 1 + 1) 150 by omega)
    omega
  · unfold tubeK; dsimp only; split <;> omega
  · unfold tubeK; dsimp only; split <;> omega
theorem shl10 (a : Int) : shlI .i64 a 10 = IntKind.wrap IntKind.i64 (a * 1024) := rfl
theorem shl12 (a : Int) : shlI .i64 a 12 = IntKind.wrap IntKind.i64 (a * 4096) := rfl
def L_kTube : Lay := { slots := [(0, .ptr 1 0)], boxes := [(1, [.val tIs, .val tI])] }
theorem T_kTube (l : List Int) (k : Int) : mTree (P := P) [c_Next.gc] (lpOf []) Try.f55 L_kTube true ((), l, k, ()) =
  Tree.need ((0 : Int) ≤ k ∧ k < (1099511627776 : Int) ∧ (0 : Int) < (12 : Int)) (Tree.need ((0 : Int) ≤ k + (1 : Int) ∧ k + (1 : Int) < (1099511627776 : Int) ∧ (0 : Int) < (1500 : Int)) (Tree.need ((0 : Int) ≤ k + (1 : Int) + (1 : Int) ∧ k + (1 : Int) + (1 : Int) < (1099511627776 : Int) ∧ (0 : Int) < (150 : Int)) (Tree.need ((0 : Int) ≤ k + (1 : Int) + (1 : Int) + (1 : Int) ∧ k + (1 : Int) + (1 : Int) + (1 : Int) < (1099511627776 : Int) ∧ (0 : Int) < (30 : Int)) (Tree.need ((0 : Int) ≤ k + (1 : Int) + (1 : Int) + (1 : Int) + (1 : Int) ∧ k + (1 : Int) + (1 : Int) + (1 : Int) + (1 : Int) < (1099511627776 : Int) ∧ (0 : Int) < (1048576 : Int)) (Tree.need ((0 : Int) ≤ k + (1 : Int) + (1 : Int) + (1 : Int) + (1 : Int) + (1 : Int) ∧ k + (1 : Int) + (1 : Int) + (1 : Int) + (1 : Int) + (1 : Int) < (1099511627776 : Int) ∧ (0 : Int) < (1000 : Int)) (Tree.need ((0 : Int) ≤ k + (1 : Int) + (1 : Int) + (1 : Int) + (1 : Int) + (1 : Int) + (1 : Int) ∧ k + (1 : Int) + (1 : Int) + (1 : Int) + (1 : Int) + (1 : Int) + (1 : Int) < (1099511627776 : Int) ∧ (0 : Int) < (600000 : Int)) (Tree.need ((0 : Int) ≤ k + (1 : Int) + (1 : Int) + (1 : Int) + (1 : Int) + (1 : Int) + (1 : Int) + (1 : Int) ∧ k + (1 : Int) + (1 : Int) + (1 : Int) + (1 : Int) + (1 : Int) + (1 : Int) + (1 : Int) < (1099511627776 : Int) ∧ (0 : Int) < (3 : Int)) (Tree.cond (nextS l (k + (1 : Int) + (1 : Int) + (1 : Int) + (1 : Int) + (1 : Int) + (1 : Int) + (1 : Int)) (3 : Int) == (0 : Int)) (Tree.need ((0 : Int) ≤ k + (1 : Int) + (1 : Int) + (1 : Int) + (1 : Int) + (1 : Int) + (1 : Int) + (1 : Int) + (1 : Int) ∧ k + (1 : Int) + (1 : Int) + (1 : Int) + (1 : Int) + (1 : Int) + (1 : Int) + (1 : Int) + (1 : Int) < (1099511627776 : Int) ∧ (0 : Int) < (1048576 : Int)) (Tree.need ((0 : Int) ≤ (10 : Int)) (Tree.need ((0 : Int) ≤ k + (1 : Int) + (1 : Int) + (1 : Int) + (1 : Int) + (1 : Int) + (1 : Int) + (1 : Int) + (1 : Int) + (1 : Int) ∧ k + (1 : Int) + (1 : Int) + (1 : Int) + (1 : Int) + (1 : Int) + (1 : Int) + (1 : Int) + (1 : Int) + (1 : Int) < (1099511627776 : Int) ∧ (0 : Int) < (1048576 : Int)) (Tree.need ((0 : Int) ≤ (12 : Int)) (Tree.leaf { res := SV.agg [SV.int IntKind.i64 (IntKind.wrap IntKind.i64 ((1 : Int) + nextS l k (12 : Int))), SV.int IntKind.i64 (IntKind.wrap IntKind.i64 ((100 : Int) + nextS l (k + (1 : Int)) (1500 : Int))), SV.int IntKind.i64 (IntKind.wrap IntKind.i64 (IntKind.wrap IntKind.i64 ((22000 : Int) * IntKind.wrap IntKind.i64 ((1 : Int) + nextS l (k + (1 : Int) + (1 : Int)) (150 : Int))) + IntKind.wrap IntKind.i64 ((1 : Int) + nextS l (k + (1 : Int) + (1 : Int) + (1 : Int) + (1 : Int) + (1 : Int) + (1 : Int)) (600000 : Int)))), SV.int IntKind.i64 (IntKind.wrap IntKind.i64 ((1 : Int) + nextS l (k + (1 : Int) + (1 : Int)) (150 : Int))), SV.int IntKind.i64 (IntKind.wrap IntKind.i64 ((2 : Int) + nextS l (k + (1 : Int) + (1 : Int) + (1 : Int)) (30 : Int))), SV.int IntKind.i64 (shlI IntKind.i64 (IntKind.wrap IntKind.i64 ((1 : Int) + nextS l (k + (1 : Int) + (1 : Int) + (1 : Int) + (1 : Int) + (1 : Int) + (1 : Int) + (1 : Int) + (1 : Int)) (1048576 : Int))) (10 : Int)), SV.int IntKind.i64 (shlI IntKind.i64 (IntKind.wrap IntKind.i64 ((1 : Int) + nextS l (k + (1 : Int) + (1 : Int) + (1 : Int) + (1 : Int) + (1 : Int) + (1 : Int) + (1 : Int) + (1 : Int) + (1 : Int)) (1048576 : Int))) (12 : Int)), SV.int IntKind.i64 (nextS l (k + (1 : Int) + (1 : Int) + (1 : Int) + (1 : Int)) (1048576 : Int)), SV.int IntKind.i64 (nextS l (k + (1 : Int) + (1 : Int) + (1 : Int) + (1 : Int) + (1 : Int)) (1000 : Int))], boxes := [[SV.sl tI l, SV.int IntKind.i64 (k + (1 : Int) + (1 : Int) + (1 : Int) + (1 : Int) + (1 : Int) + (1 : Int) + (1 : Int) + (1 : Int) + (1 : Int) + (1 : Int))]] }))))) (Tree.leaf { res := SV.agg [SV.int IntKind.i64 (IntKind.wrap IntKind.i64 ((1 : Int) + nextS l k (12 : Int))), SV.int IntKind.i64 (IntKind.wrap IntKind.i64 ((100 : Int) + nextS l (k + (1 : Int)) (1500 : Int))), SV.int IntKind.i64 (IntKind.wrap IntKind.i64 (IntKind.wrap IntKind.i64 ((22000 : Int) * IntKind.wrap IntKind.i64 ((1 : Int) + nextS l (k + (1 : Int) + (1 : Int)) (150 : Int))) + IntKind.wrap IntKind.i64 ((1 : Int) + nextS l (k + (1 : Int) + (1 : Int) + (1 : Int) + (1 : Int) + (1 : Int) + (1 : Int)) (600000 : Int)))), SV.int IntKind.i64 (IntKind.wrap IntKind.i64 ((1 : Int) + nextS l (k + (1 : Int) + (1 : Int)) (150 : Int))), SV.int IntKind.i64 (IntKind.wrap IntKind.i64 ((2 : Int) + nextS l (k + (1 : Int) + (1 : Int) + (1 : Int)) (30 : Int))), SV.int IntKind.i64 (274877906944 : Int), SV.int IntKind.i64 (17592186044416 : Int), SV.int IntKind.i64 (nextS l (k + (1 : Int) + (1 : Int) + (1 : Int) + (1 : Int)) (1048576 : Int)), SV.int IntKind.i64 (nextS l (k + (1 : Int) + (1 : Int) + (1 : Int) + (1 : Int) + (1 : Int)) (1000 : Int))], boxes := [[SV.sl tI l, SV.int IntKind.i64 (k + (1 : Int) + (1 : Int) + (1 : Int) + (1 : Int) + (1 : Int) + (1 : Int) + (1 : Int) + (1 : Int))]] }))))))))) := by kernel_rfl
def c_kTube : MC P := MC.of (α := Unit × List Int × Int × Unit) 55 L_kTube (fun x => x) (fun x => x) (fun _ => rfl)
  (fun x => some (0 ≤ x.2.2.1 ∧ x.2.2.1 < 1000000000))
  (fun x => ⟨.agg [.int .i64 (tubeK x.2.1 x.2.2.1).1.1, .int .i64 (tubeK x.2.1 x.2.2.1).1.2.1, .int .i64 (tubeK x.2.1 x.2.2.1).1.2.2.1, .int .i64 (tubeK x.2.1 x.2.2.1).1.2.2.2.1, .int .i64 (tubeK x.2.1 x.2.2.1).1.2.2.2.2.1, .int .i64 (tubeK x.2.1 x.2.2.1).1.2.2.2.2.2.1, .int .i64 (tubeK x.2.1 x.2.2.1).1.2.2.2.2.2.2.1, .int .i64 (tubeK x.2.1 x.2.2.1).1.2.2.2.2.2.2.2.1, .int .i64 (tubeK x.2.1 x.2.2.1).1.2.2.2.2.2.2.2.2], [[.sl tI x.2.1, .int .i64 (tubeK x.2.1 x.2.2.1).2]], []⟩) (by kernel_rfl) (by kernel_rfl) (by kernel_rfl) (by
    rintro ⟨⟨⟩, l, k, ⟨⟩⟩ hp
    refine m_of hm (own := true) (by kernel_rfl) (by kernel_rfl) (by kernel_rfl) (T_kTube l k) trivial ?_
    try dsimp only at hp
    try dsimp only
    obtain ⟨h0, h1⟩ : 0 ≤ k ∧ k < 1000000000 := hp
    have n0 := nextS_rng (l := l) (k := k) (n := 12) h0 (by decide)
    have n1 := nextS_rng (l := l) (k := k + 1) (n := 1500) (by omega) (by decide)
    have n2 := nextS_rng (l := l) (k := k + 1 + 1) (n := 150) (by omega) (by decide)
    have n3 := nextS_rng (l := l) (k := k + 1 + 1 + 1) (n := 30) (by omega) (by decide)
    have n6 := nextS_rng (l := l) (k := k + 1 + 1 + 1 + 1 + 1 + 1) (n := 600000) (by omega) (by decide)
    have n8 := nextS_rng (l := l) (k := k + 1 + 1 + 1 + 1 + 1 + 1 + 1 + 1) (n := 1048576) (by omega) (by decide)
    have n9 := nextS_rng (l := l) (k := k + 1 + 1 + 1 + 1 + 1 + 1 + 1 + 1 + 1) (n := 1048576) (by omega) (by decide)
    rw [shl10, shl12, W_id (n := 1 + nextS l k 12) (by omega) (by omega), W_id (n := 100 + nextS l (k + 1) 1500) (by omega) (by omega), W_id (n := 1 + nextS l (k + 1 + 1) 150) (by omega) (by omega), W_id (n := 2 + nextS l (k + 1 + 1 + 1) 30) (by omega) (by omega), W_id (n := 1 + nextS l (k + 1 + 1 + 1 + 1 + 1 + 1) 600000) (by omega) (by omega), W_id (n := 22000 * (1 + nextS l (k + 1 + 1) 150)) (by omega) (by omega), W_id (n := 22000 * (1 + nextS l (k + 1 + 1) 150) + (1 + nextS l (k + 1 + 1 + 1 + 1 + 1 + 1) 600000)) (by omega) (by omega), W_id (n := 1 + nextS l (k + 1 + 1 + 1 + 1 + 1 + 1 + 1 + 1) 1048576) (by omega) (by omega), W_id (n := (1 + nextS l (k + 1 + 1 + 1 + 1 + 1 + 1 + 1 + 1) 1048576) * 1024) (by omega) (by omega), W_id (n := 1 + nextS l (k + 1 + 1 + 1 + 1 + 1 + 1 + 1 + 1 + 1) 1048576) (by omega) (by omega), W_id (n := (1 + nextS l (k + 1 + 1 + 1 + 1 + 1 + 1 + 1 + 1 + 1) 1048576) * 4096) (by omega) (by omega)]
    unfold tubeK
    refine ⟨by omega, by omega, by omega, by omega, by omega, by omega, by omega, by omega, fun c1 => ⟨by omega, by decide, by omega, by decide, ?_⟩, fun c1 => ?_⟩
    · have c1 : nextS l (k + 1 + 1 + 1 + 1 + 1 + 1 + 1) 3 = 0 := eq_of_beq c1
      simp only [if_pos c1]
      exact rfl
    · have c1 : ¬ nextS l (k + 1 + 1 + 1 + 1 + 1 + 1 + 1) 3 = 0 := by simpa using c1
      simp only [if_neg c1]
      exact rfl)
def caseK (l : List Int) (k : Int) : Cs := (1 + nextS l k 3, nextS l (k + 1) 22001, (nextS l (k + 1 + 1 + 1 + 1) 300, nextS l (k + 1 + 1 + 1 + 1) 300 + nextS l (k + 1 + 1 + 1 + 1 + 1) 300), nextS l (k + 1 + 1) 3 * nextS l (k + 1 + 1 + 1) 1048576 * 1024)
def L_kCase : Lay := { slots := [(0, .ptr 1 0)], boxes := [(1, [.val tIs, .val tI])] }
theorem T_kCase (l : List Int) (k : Int) : mTree (P := P) [c_Next.gc] (lpOf []) Try.f68 L_kCase true ((), l, k, ()) =
  Tree.need ((0 : Int) ≤ k ∧ k < (1099511627776 : Int) ∧ (0 : Int) < (3 : Int)) (Tree.need ((0 : Int) ≤ k + (1 : Int) ∧ k + (1 : Int) < (1099511627776 : Int) ∧ (0 : Int) < (22001 : Int)) (Tree.need ((0 : Int) ≤ k + (1 : Int) + (1 : Int) ∧ k + (1 : Int) + (1 : Int) < (1099511627776 : Int) ∧ (0 : Int) < (3 : Int)) (Tree.need ((0 : Int) ≤ k + (1 : Int) + (1 : Int) + (1 : Int) ∧ k + (1 : Int) + (1 : Int) + (1 : Int) < (1099511627776 : Int) ∧ (0 : Int) < (1048576 : Int)) (Tree.need ((0 : Int) ≤ (10 : Int)) (Tree.need ((0 : Int) ≤ k + (1 : Int) + (1 : Int) + (1 : Int) + (1 : Int) ∧ k + (1 : Int) + (1 : Int) + (1 : Int) + (1 : Int) < (1099511627776 : Int) ∧ (0 : Int) < (300 : Int)) (Tree.need ((0 : Int) ≤ k + (1 : Int) + (1 : Int) + (1 : Int) + (1 : Int) + (1 : Int) ∧ k + (1 : Int) + (1 : Int) + (1 : Int) + (1 : Int) + (1 : Int) < (1099511627776 : Int) ∧ (0 : Int) < (300 : Int)) (Tree.leaf { res := SV.agg [SV.int IntKind.i64 (IntKind.wrap IntKind.i64 ((1 : Int) + nextS l k (3 : Int))), SV.int IntKind.i64 (nextS l (k + (1 : Int)) (22001 : Int)), SV.int IntKind.i64 (nextS l (k + (1 : Int) + (1 : Int) + (1 : Int) + (1 : Int)) (300 : Int)), SV.int IntKind.i64 (IntKind.wrap IntKind.i64 (nextS l (k + (1 : Int) + (1 : Int) + (1 : Int) + (1 : Int)) (300 : Int) + nextS l (k + (1 : Int) + (1 : Int) + (1 : Int) + (1 : Int) + (1 : Int)) (300 : Int))), SV.int IntKind.i64 (shlI IntKind.i64 (IntKind.wrap IntKind.i64 (nextS l (k + (1 : Int) + (1 : Int)) (3 : Int) * nextS l (k + (1 : Int) + (1 : Int) + (1 : Int)) (1048576 : Int))) (10 : Int))], boxes := [[SV.sl tI l, SV.int IntKind.i64 (k + (1 : Int) + (1 : Int) + (1 : Int) + (1 : Int) + (1 : Int) + (1 : Int))]] }))))))) := by kernel_rfl
def c_kCase : MC P := MC.of (α := Unit × List Int × Int × Unit) 68 L_kCase (fun x => x) (fun x => x) (fun _ => rfl)
  (fun x => some (0 ≤ x.2.2.1 ∧ x.2.2.1 < 1000000000))
  (fun x => ⟨.agg [.int .i64 (caseK x.2.1 x.2.2.1).1, .int .i64 (caseK x.2.1 x.2.2.1).2.1, .int .i64 (caseK x.2.1 x.2.2.1).2.2.1.1, .int .i64 (caseK x.2.1 x.2.2.1).2.2.1.2, .int .i64 (caseK x.2.1 x.2.2.1).2.2.2], [[.sl tI x.2.1, .int .i64 (x.2.2.1 + 1 + 1 + 1 + 1 + 1 + 1)]], []⟩) (by kernel_rfl) (by kernel_rfl) (by kernel_rfl) (by
    rintro ⟨⟨⟩, l, k, ⟨⟩⟩ hp
    refine m_of hm (own := true) (by kernel_rfl) (by kernel_rfl) (by kernel_rfl) (T_kCase l k) trivial ?_
    try dsimp only at hp
    try dsimp only
    obtain ⟨h0, h1⟩ : 0 ≤ k ∧ k < 1000000000 := hp
    have n0 := nextS_rng (l := l) (k := k) (n := 3) h0 (by decide)
    have n2 := nextS_rng (l := l) (k := k + 1 + 1) (n := 3) (by omega) (by decide)
    have n3 := nextS_rng (l := l) (k := k + 1 + 1 + 1) (n := 1048576) (by omega) (by decide)
    have n4 := nextS_rng (l := l) (k := k + 1 + 1 + 1 + 1) (n := 300) (by omega) (by decide)
    have n5 := nextS_rng (l := l) (k := k + 1 + 1 + 1 + 1 + 1) (n := 300) (by omega) (by decide)
    have hm := mul_rng (a := nextS l (k + 1 + 1) 3) (b := nextS l (k + 1 + 1 + 1) 1048576) (A := 2) (B := 1048576) n2.1 (by omega) n3.1 (by omega)
    rw [shl10, W_id (n := 1 + nextS l k 3) (by omega) (by omega), W_id (n := nextS l (k + 1 + 1) 3 * nextS l (k + 1 + 1 + 1) 1048576) (by omega) (by omega), W_id (n := nextS l (k + 1 + 1) 3 * nextS l (k + 1 + 1 + 1) 1048576 * 1024) (by omega) (by omega), W_id (n := nextS l (k + 1 + 1 + 1 + 1) 300 + nextS l (k + 1 + 1 + 1 + 1 + 1) 300) (by omega) (by omega)]
    exact ⟨by omega, by omega, by omega, by omega, by decide, by omega, by omega, rfl⟩)
theorem sumL_nn : ∀ (l : List V) (d : Int), (∀ v ∈ l, legOk v) → 0 ≤ d → d + 131072 * l.length ≤ 1048576000 → 0 ≤ sumL d l
  | [], d, _, h, _ => h
  | v :: r, d, hl, h0, h1 => by
    obtain ⟨_, w1, w2⟩ := hl v (by simp)
    rw [List.length_cons] at h1
    have hw : IntKind.wrap IntKind.i64 (d + (wholeS v).1) = d + (wholeS v).1 := W_id (by omega) (by omega)
    have := sumL_nn r (d + (wholeS v).1) (fun u hu => hl u (by simp [hu])) (by omega) (by omega)
    have e : sumL d (v :: r) = sumL (d + (wholeS v).1) r := by unfold sumL; rw [List.foldl_cons, hw]
    rw [e]; exact this
theorem lenS_nn (p : Pth) : 0 ≤ lenS p := by
  unfold lenS
  split
  · rename_i h
    have := checkS_len h
    exact sumL_nn p.2 0 (checkS_legs h) (by decide) (by omega)
  · decide
def cutT (n : Int) (s : List Tb) (t : Tb) : Tb := (if (n - sumT s) / t.2.1 < t.1 then (n - sumT s) / t.2.1 else t.1, t.2)
def addT (n : Int) (s : List Tb) (t : Tb) : List Tb := if 0 < (cutT n s t).1 then s ++ [cutT n s t] else s
def strK (l : List Int) (n : Int) : Nat → Int → List Tb → List Tb × Int
  | 0, k, s => (s, k)
  | m + 1, k, s => strK l n m (tubeK l k).2 (addT n s (tubeK l k).1)
theorem strK_succ (l : List Int) (n : Int) (m : Nat) (k : Int) (s : List Tb) : strK l n (m + 1) k s = strK l n m (tubeK l k).2 (addT n s (tubeK l k).1) := rfl
structure StrOk (n : Int) (s : List Tb) : Prop where
  fair : AllF s
  le : sumT s ≤ n
  few : sumT s ≤ 19200 * s.length
  wet : ∀ t ∈ s, ∀ m, 0 ≤ m → m ≤ 22000 → 0 < wetS t m
theorem sumT_append (a b : List Tb) : sumT (a ++ b) = sumT a + sumT b := by
  induction a with
  | nil => simp [sumT]
  | cons t r ih => rw [List.cons_append, sumT, sumT, ih]; omega
theorem addT_ok {l : List Int} {n k : Int} {s : List Tb} (h : StrOk n s) (hk : 0 ≤ k) : StrOk n (addT n s (tubeK l k).1) ∧ (addT n s (tubeK l k).1).length ≤ s.length + 1 := by
  obtain ⟨hf, h1, h2, h3, _, _⟩ := tubeK_ok (l := l) hk
  generalize (tubeK l k).1 = t at *
  unfold addT
  by_cases hc : 0 < (cutT n s t).1
  · rw [if_pos hc]
    have hlen := hf.len
    have hq : (n - sumT s) / t.2.1 * t.2.1 ≤ n - sumT s := Int.ediv_mul_le _ (by omega)
    have hle : (cutT n s t).1 * t.2.1 ≤ n - sumT s ∧ (cutT n s t).1 ≤ t.1 := by
      unfold cutT
      dsimp only
      split
      · exact ⟨hq, by omega⟩
      · rename_i hn
        refine ⟨?_, Int.le_refl _⟩
        have : t.1 * t.2.1 ≤ (n - sumT s) / t.2.1 * t.2.1 := Int.mul_le_mul_of_nonneg_right (by omega) (by omega)
        omega
    have hcut : Fair (cutT n s t) := ⟨⟨by omega, by have := hf.cnt; omega⟩, hf.len, hf.air, hf.ste, hf.out, hf.yld, hf.twi, hf.sti, hf.use⟩
    have hsum : sumT [cutT n s t] = (cutT n s t).1 * t.2.1 := by
      show (cutT n s t).1 * (cutT n s t).2.1 + 0 = _
      rw [Int.add_zero]; rfl
    have hb := mul_rng (a := (cutT n s t).1) (b := t.2.1) (A := 12) (B := 1600) (by omega) (by omega) (by omega) h2
    refine ⟨⟨?_, ?_, ?_, ?_⟩, by rw [List.length_append]; simp⟩
    · intro u hu
      rcases List.mem_append.1 hu with hu | hu
      · exact h.fair u hu
      · rw [List.mem_singleton.1 hu]; exact hcut
    · rw [sumT_append, hsum]; omega
    · rw [sumT_append, hsum, List.length_append, List.length_singleton]
      have := h.few
      omega
    · intro u hu
      rcases List.mem_append.1 hu with hu | hu
      · exact h.wet u hu
      · rw [List.mem_singleton.1 hu]
        intro m m0 m1
        have := h3 m m0 m1
        exact this
  · rw [if_neg hc]
    exact ⟨h, by omega⟩
theorem strK_ok {l : List Int} {n : Int} : ∀ (m : Nat) (k : Int) (s : List Tb), 0 ≤ k → StrOk n s → StrOk n (strK l n m k s).1 ∧ (strK l n m k s).1.length ≤ s.length + m ∧ k ≤ (strK l n m k s).2 ∧ (strK l n m k s).2 ≤ k + 10 * m
  | 0, k, s, hk, h => ⟨h, by show s.length ≤ s.length + 0; omega, Int.le_refl _, by show k ≤ k + 10 * ((0 : Nat) : Int); omega⟩
  | m + 1, k, s, hk, h => by
    obtain ⟨_, _, _, _, h1, h2⟩ := tubeK_ok (l := l) hk
    obtain ⟨h3, h4⟩ := addT_ok (l := l) h hk
    obtain ⟨a, b, c, d⟩ := strK_ok m (tubeK l k).2 (addT n s (tubeK l k).1) (by omega) h3
    rw [strK_succ]
    exact ⟨a, by omega, by omega, by omega⟩
theorem lenT_str {n : Int} {s : List Tb} (h : StrOk n s) (h2 : s.length ≤ 4) : lenT s = sumT s ∧ (s ≠ [] → checkT s = 0) := by
  have hc : s ≠ [] → checkT s = 0 := by
    intro hn
    have := h.few
    unfold checkT
    rw [if_neg (by simpa using hn), if_neg (by omega), if_neg (by rw [h.fair.any]; exact Bool.false_ne_true), if_neg (by omega)]
  refine ⟨?_, hc⟩
  unfold lenT
  by_cases hn : s = []
  · subst hn
    rw [if_neg (by decide)]; rfl
  · rw [if_pos (hc hn)]
def L_kStr0 : Lay := { slots := [(0, .ptr 1 0), (1, .agg tPath)], boxes := [(1, [.val tIs, .val tI])] }
def L_kStrL : Lay := { slots := [(0, .ptr 1 0), (4, .ptr 5049 0), (6, .val tI), (7, .ptr 8049 0), (8, .val tI)], boxes := [(1, [.val tIs, .val tI]), (5049, [.val tTs]), (8049, [.row 50 tT])] }
def L_kStrL_0 : Lay := { slots := [(4, .ptr 5049 0), (7, .ptr 8049 0)], boxes := [(1, [.val tIs, .val tI]), (5049, [.val tTs]), (8049, [.row 50 tT])] }
def X_kStrL : Exit → St → Option Lay
  | .exit 0, _ => some L_kStrL_0
  | _, _ => none
abbrev C_kStrL : Code := loopC (bodyOf Try.f26) 0
theorem B_kStrL (n m : Int) (l : List Int) (k : Int) (b4_0 s_0 : List Tb) : loopBodyA (P := P) [c_kTube.gc, c_rTLength.gc] (lpOf []) [] 49 (usd noU (L_kStr0.ids ++ rowIds rowBase L_kStr0.shs)) (inner C_kStrL) L_kStrL X_kStrL (α := Unit × Unit × Int × Unit × Int × List Int × Int × List Tb × List Tb × Unit) (fun x => x) (fun x => x) ((), (), n, (), m, l, k, b4_0, s_0, ()) =
  Tree.cond (decide (m > (0 : Int))) (Tree.need ((0 : Int) ≤ k ∧ k < (1000000000 : Int)) (Tree.need ((tubeK l k).fst.snd.fst ≠ (0 : Int)) (Tree.cond (decide (IntKind.wrap IntKind.i64 (Int.tdiv (IntKind.wrap IntKind.i64 (n - lenT s_0)) (tubeK l k).fst.snd.fst) < (tubeK l k).fst.fst)) (Tree.cond (decide (IntKind.wrap IntKind.i64 (Int.tdiv (IntKind.wrap IntKind.i64 (n - lenT s_0)) (tubeK l k).fst.snd.fst) > (0 : Int))) (Tree.need ((List.length s_0 + List.length [(IntKind.wrap IntKind.i64 (Int.tdiv (IntKind.wrap IntKind.i64 (n - lenT s_0)) (tubeK l k).fst.snd.fst), (tubeK l k).fst.snd)]) * (72 : Nat) ≤ (140737488355328 : Nat)) (Tree.leaf (Sum.inl (PUnit.unit, PUnit.unit, n, PUnit.unit, IntKind.wrap IntKind.i64 (m - (1 : Int)), l, (tubeK l k).snd, b4_0, s_0 ++ [(IntKind.wrap IntKind.i64 (Int.tdiv (IntKind.wrap IntKind.i64 (n - lenT s_0)) (tubeK l k).fst.snd.fst), (tubeK l k).fst.snd)], PUnit.unit)))) (Tree.leaf (Sum.inl (PUnit.unit, PUnit.unit, n, PUnit.unit, IntKind.wrap IntKind.i64 (m - (1 : Int)), l, (tubeK l k).snd, b4_0, s_0, PUnit.unit)))) (Tree.cond (decide ((tubeK l k).fst.fst > (0 : Int))) (Tree.need ((List.length s_0 + List.length [(tubeK l k).fst]) * (72 : Nat) ≤ (140737488355328 : Nat)) (Tree.leaf (Sum.inl (PUnit.unit, PUnit.unit, n, PUnit.unit, IntKind.wrap IntKind.i64 (m - (1 : Int)), l, (tubeK l k).snd, b4_0, s_0 ++ [(tubeK l k).fst], PUnit.unit)))) (Tree.leaf (Sum.inl (PUnit.unit, PUnit.unit, n, PUnit.unit, IntKind.wrap IntKind.i64 (m - (1 : Int)), l, (tubeK l k).snd, b4_0, s_0, PUnit.unit))))))) (Tree.leaf (Sum.inr (Exit.exit (0 : Nat), Lay.st L_kStrL_0 (usd noU (Lay.ids L_kStr0 ++ rowIds rowBase (Lay.shs L_kStr0))) (PUnit.unit, PUnit.unit, l, k, b4_0, s_0, PUnit.unit)))) := by kernel_rfl
def inv_kStrL : Unit × Unit × Int × Unit × Int × List Int × Int × List Tb × List Tb × Unit → Prop := fun ((), (), n, (), m, l, k, b4_0, s_0, ()) => 0 ≤ n ∧ n ≤ 1048576000 ∧ 0 ≤ m ∧ m ≤ 4 ∧ 0 ≤ k ∧ k + 10 * m ≤ 500000000 ∧ StrOk n s_0 ∧ (s_0.length : Int) + m ≤ 4
def O_kStrL : Unit × Unit × Int × Unit × Int × List Int × Int × List Tb × List Tb × Unit → Tree (Exit × St) := fun ((), (), n, (), m, l, k, b4_0, s_0, ()) => (.leaf (.exit 0, L_kStrL_0.st (usd noU (L_kStr0.ids ++ rowIds rowBase L_kStr0.shs)) ((), (), l, ((strK l n m.toNat k s_0).2), b4_0, ((strK l n m.toNat k s_0).1), ())))
def R_kStrL : LRun := runOf 49 L_kStrL (fun x => x) (inv_kStrL) (O_kStrL)
theorem K_kStrL : LoopOk P [] 49 none (usd noU (L_kStr0.ids ++ rowIds rowBase L_kStr0.shs)) C_kStrL (R_kStrL) := by
  refine loop_of hm (cx := [c_kTube.gc, c_rTLength.gc]) [] (xl := X_kStrL) (α := Unit × Unit × Int × Unit × Int × List Int × Int × List Tb × List Tb × Unit) (fun x => x) (fun ((), (), n, (), m, l, k, b4_0, s_0, ()) => m.toNat) (fun _ => rfl) (by kernel_rfl) (by kernel_rfl) ?_ (by kernel_rfl) trivial ?_
  · intro e S L' h
    unfold X_kStrL at h
    split at h <;> first | (cases h; done) | (cases h; kernel_rfl) | (rcases bif_some h with h | h <;> cases h <;> kernel_rfl)
  · rintro ⟨⟨⟩, ⟨⟩, n, ⟨⟩, m, l, k, b4_0, s_0, ⟨⟩⟩ hinv Q hQ
    refine hold_of_eq (B_kStrL n m l k b4_0 s_0) ?_
    obtain ⟨h0, h1, h2, h3, h4, h5, h6, h7⟩ := hinv
    obtain ⟨hf, t1, t2, t3, t4, t5⟩ := tubeK_ok (l := l) h4
    obtain ⟨hL, _⟩ := lenT_str h6 (by omega)
    have hs := (sumT_rng s_0 h6.fair).1
    have hle := h6.le
    obtain ⟨h8, h9⟩ := addT_ok (l := l) h6 h4
    have hQ' : Q (.exit 0, L_kStrL_0.st (usd noU (L_kStr0.ids ++ rowIds rowBase L_kStr0.shs)) ((), (), l, (strK l n m.toNat k s_0).2, b4_0, (strK l n m.toNat k s_0).1, ())) := hQ
    refine ⟨fun c1 => ?_, fun c1 => ?_⟩
    · have c1 := of_decide_eq_true c1
      rw [show m.toNat = (m - 1).toNat + 1 by omega, strK_succ] at hQ'
      have hd : Int.tdiv (n - sumT s_0) (tubeK l k).1.2.1 = (n - sumT s_0) / (tubeK l k).1.2.1 := Int.tdiv_eq_ediv_of_nonneg (by omega)
      have hlen := hf.len
      have hdr := div_rng (x := n - sumT s_0) (b := (tubeK l k).1.2.1) (M := 1048576000) (by omega) (by decide) (by omega) (by omega)
      rw [hL, W_id (n := n - sumT s_0) (by omega) (by omega), hd, W_id (n := (n - sumT s_0) / (tubeK l k).1.2.1) (by omega) (by omega), W_id (n := m - 1) (by omega) (by omega)]
      have fin : ∀ u, addT n s_0 (tubeK l k).1 = u → roundB inv_kStrL (fun (_, _, n, _, m, _) => m.toNat) O_kStrL Q ((), (), n, (), m, l, k, b4_0, s_0, ()) (Sum.inl ((), (), n, (), m - 1, l, (tubeK l k).2, b4_0, u, ())) := by
        rintro u rfl
        exact ⟨⟨⟨h0, h1, by omega, by omega, by omega, by omega, h8, by omega⟩, by show (m - 1).toNat < m.toNat; omega⟩, hQ'⟩
      refine ⟨⟨h4, by omega⟩, by omega, fun c2 => ⟨fun c3 => ⟨?_, ?_⟩, fun c3 => ?_⟩, fun c2 => ⟨fun c4 => ⟨?_, ?_⟩, fun c4 => ?_⟩⟩
      all_goals simp only [decide_eq_true_eq, decide_eq_false_iff_not] at *
      · simp only [List.length_cons, List.length_nil]; omega
      · refine fin _ ?_
        unfold addT cutT
        dsimp only
        rw [if_pos c2, if_pos (by omega)]
      · refine fin _ ?_
        unfold addT cutT
        dsimp only
        rw [if_pos c2, if_neg (by omega)]
      · simp only [List.length_cons, List.length_nil]; omega
      · refine fin _ ?_
        unfold addT cutT
        dsimp only
        rw [if_neg c2, if_pos (by omega)]
      · exact absurd hf.cnt.1 (by omega)
    · have c1 := of_decide_eq_false c1
      rw [show m.toNat = 0 by omega] at hQ'
      exact hQ'
def L_kStr : Lay := { slots := [(0, .ptr 1 0), (1, .agg (.pair tV tVs))], boxes := [(1, [.val tIs, .val tI])] }
theorem T_kStr (p_0 p_1 p_2 : Int) (p_3 : List V) (l : List Int) (k : Int) : mTree (P := P) [c_rLength.gc, c_Next.gc] (lpOf [(0, R_kStrL)]) Try.f26 L_kStr true ((), ((p_0, (p_1, p_2)), p_3), l, k, ()) =
  Tree.need ((0 : Int) ≤ k ∧ k < (1099511627776 : Int) ∧ (0 : Int) < (4 : Int)) (Tree.need (inv_kStrL ((), (), lenS ((p_0, p_1, p_2), p_3), (), IntKind.wrap IntKind.i64 ((1 : Int) + nextS l k (4 : Int)), l, k + (1 : Int), [], [], ())) (Tree.leaf { res := SV.tup [SV.agg [SV.own (nat_lit 100)], SV.bool (decide ((↑(List.length (strK l (lenS ((p_0, p_1, p_2), p_3)) (Int.toNat (IntKind.wrap IntKind.i64 ((1 : Int) + nextS l k (4 : Int)))) (k + (1 : Int)) []).fst) : Int) > (0 : Int)))], boxes := [[SV.sl tI l, SV.int IntKind.i64 (strK l (lenS ((p_0, p_1, p_2), p_3)) (Int.toNat (IntKind.wrap IntKind.i64 ((1 : Int) + nextS l k (4 : Int)))) (k + (1 : Int)) []).snd]], news := [Ob.row (50 : TypeId) tT (strK l (lenS ((p_0, p_1, p_2), p_3)) (Int.toNat (IntKind.wrap IntKind.i64 ((1 : Int) + nextS l k (4 : Int)))) (k + (1 : Int)) []).fst] })) := by kernel_rfl
def c_kStr : MC P := MC.of (α := Unit × (V × List V) × List Int × Int × Unit) 26 L_kStr (fun x => x) (fun x => x) (fun _ => rfl)
  (fun x => some (0 ≤ x.2.2.2.1 ∧ x.2.2.2.1 ≤ 400000000))
  (fun x => ⟨.tup [.agg [.own 100], .bool (decide (((strK x.2.2.1 (lenS x.2.1) (1 + nextS x.2.2.1 x.2.2.2.1 4).toNat (x.2.2.2.1 + 1) []).1.length : Int) > 0))], [[.sl tI x.2.2.1, .int .i64 (strK x.2.2.1 (lenS x.2.1) (1 + nextS x.2.2.1 x.2.2.2.1 4).toNat (x.2.2.2.1 + 1) []).2]], [.row 50 tT (strK x.2.2.1 (lenS x.2.1) (1 + nextS x.2.2.1 x.2.2.2.1 4).toNat (x.2.2.2.1 + 1) []).1]⟩) (by kernel_rfl) (by kernel_rfl) (by kernel_rfl) (by
    rintro ⟨⟨⟩, ⟨⟨p_0, ⟨p_1, p_2⟩⟩, p_3⟩, l, k, ⟨⟩⟩ hp
    refine m_of hm (own := true) (by kernel_rfl) (by kernel_rfl) (by kernel_rfl) (T_kStr p_0 p_1 p_2 p_3 l k) ⟨K_kStrL, trivial⟩ ?_
    try dsimp only at hp
    try dsimp only
    obtain ⟨h0, h1⟩ : 0 ≤ k ∧ k ≤ 400000000 := hp
    have n0 := nextS_rng (l := l) (k := k) (n := 4) h0 (by decide)
    have hn := lenS_le ((p_0, p_1, p_2), p_3)
    have hn0 : 0 ≤ lenS ((p_0, p_1, p_2), p_3) := lenS_nn _
    rw [W_id (n := 1 + nextS l k 4) (by omega) (by omega)]
    exact ⟨⟨h0, by omega, by decide⟩, ⟨hn0, hn, by omega, by omega, by omega, by omega, ⟨fun t ht => (by cases ht), hn0, by decide, fun t ht => (by cases ht)⟩, by show (0 : Int) + (1 + nextS l k 4) ≤ 4; omega⟩, rfl⟩)
end
end Go.MP
