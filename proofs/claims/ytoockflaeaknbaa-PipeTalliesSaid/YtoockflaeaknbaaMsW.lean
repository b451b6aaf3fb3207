/- Tallies in general; the law PipeTallies. -/
import Derived.Test.YtoockflaeaknbaaMsV
namespace Go.MP
open Go Go.Sx Go.Proofs
set_option linter.unusedVariables false
set_option linter.unusedSimpArgs false
noncomputable section
theorem nilS_own : NilS .nils (.own 100) := by simp [NilS, newBase]
def L_cloneN : Lay := { slots := [(0, .oval tT)] }
theorem T_cloneN (l : List Tb) (b : Bool) : mTree (P := P) [] (lpOf []) Try.f92 L_cloneN true ((l, b), ()) =
  Tree.cond b (Tree.leaf { res := SV.nils, boxes := [] }) (Tree.need (((0 : Nat) + List.length l) * (72 : Nat) ≤ (140737488355328 : Nat)) (Tree.leaf { res := SV.own (nat_lit 100), boxes := [], news := [Ob.row (50 : Nat) (Ty.pair (Ty.int IntKind.i64) (Ty.pair (Ty.int IntKind.i64) (Ty.pair (Ty.int IntKind.i64) (Ty.pair (Ty.int IntKind.i64) (Ty.pair (Ty.int IntKind.i64) (Ty.pair (Ty.int IntKind.i64) (Ty.pair (Ty.int IntKind.i64) (Ty.pair (Ty.int IntKind.i64) (Ty.int IntKind.i64))))))))) l] })) := by kernel_rfl
def c_cloneN : XC P := XC.of (α := (List Tb × Bool) × Unit) 92 L_cloneN (fun x => x) (fun x => x) (fun _ => rfl)
  (fun x => some ((x.1.2 = true → x.1.1 = []) ∧ x.1.1.length ≤ 1000))
  (fun x => ⟨.own 100, [], [.row 50 tT x.1.1]⟩) (by kernel_rfl) (by kernel_rfl) (by
    rintro ⟨⟨l, b⟩, ⟨⟩⟩ hp
    refine m_nil hm (own := true) (by kernel_rfl) (by kernel_rfl) (by kernel_rfl) (T_cloneN l b) trivial (by kernel_rfl) (by kernel_rfl) ?_
    obtain ⟨h1, h2⟩ : (b = true → l = []) ∧ l.length ≤ 1000 := hp
    refine ⟨fun h => .inr ⟨rfl, rfl, h1 h, nilS_own⟩, fun _ => ⟨by show (0 + l.length) * 72 ≤ 140737488355328; omega, .inl rfl⟩⟩)
def c_cloneG : XC P where
  f := c_cloneN.f
  L := { slots := [(0, .val tTs)] }
  pre := fun x => some (List.length (α := Tb) x.1 ≤ 1000)
  out := fun x => ⟨.own 100, [], [.row 50 tT x.1]⟩
  ent := c_cloneN.ent
  lok := rfl
  ok := fun x h => MFnOk.byNil fun b hb => c_cloneN.ok ((x.1, b), ()) ⟨hb, h⟩
def L_TCheckX : Lay := { slots := [(0, .agg tTs)] }
theorem T_TCheckX (l_0 : List Tb) : mTree (P := P) [c_ixTC.gc, c_plength.gc] (lpOf []) Try.f35 L_TCheckX true (l_0, ()) =
  Tree.cond ((↑(List.length l_0) : Int) == (0 : Int)) (Tree.leaf { res := SV.int IntKind.i64 (6 : Int), boxes := [] }) (Tree.cond (decide ((↑(List.length l_0) : Int) > (8 : Int))) (Tree.leaf { res := SV.int IntKind.i64 (8 : Int), boxes := [] }) (Tree.need ((↑(List.length l_0) : Int) < (2 : Int) ^ (62 : Nat)) (Tree.cond (List.any l_0 badT) (Tree.leaf { res := SV.int IntKind.i64 (2 : Int), boxes := [] }) (Tree.need (List.length l_0 ≤ (8 : Nat) ∧ AllF l_0) (Tree.cond (decide (sumT l_0 > (1048576 : Int))) (Tree.leaf { res := SV.int IntKind.i64 (5 : Int), boxes := [] }) (Tree.leaf { res := SV.int IntKind.i64 (0 : Int), boxes := [] })))))) := by kernel_rfl
def c_TCheckX : XC P := XC.of (α := List Tb × Unit) 35 L_TCheckX (fun x => x) (fun x => x) (fun _ => rfl)
  (fun x => some ((x.1.length : Int) < 2 ^ 62))
  (fun x => ⟨.int .i64 (checkT x.1), [], []⟩) (by kernel_rfl) (by kernel_rfl) (by
    rintro ⟨l_0, ⟨⟩⟩ hp
    refine m_of hm (own := true) (by kernel_rfl) (by kernel_rfl) (by kernel_rfl) (T_TCheckX l_0) trivial ?_
    try dsimp only at hp
    try dsimp only
    show Tree.holds (fun s => s = (⟨SV.int .i64 (checkT l_0), [], []⟩ : MOut)) _
    have h62 : (l_0.length : Int) < 2 ^ 62 := hp
    have fin : ∀ n : Int, checkT l_0 = n → (⟨SV.int .i64 n, [], []⟩ : MOut) = ⟨SV.int .i64 (checkT l_0), [], []⟩ := fun n h => by rw [h]
    refine ⟨fun c1 => fin _ ?_, fun c1 => ⟨fun c2 => fin _ ?_, fun c2 => ⟨h62, ⟨fun c3 => fin _ ?_, fun c3 => ⟨?_, ⟨fun c4 => fin _ ?_, fun c4 => fin _ ?_⟩⟩⟩⟩⟩⟩
    all_goals simp only [beq_iff_eq, beq_eq_false_iff_ne, decide_eq_true_eq, decide_eq_false_iff_not, ne_eq] at *
    · unfold checkT; rw [if_pos (by omega)]
    · unfold checkT; rw [if_neg (by omega), if_pos (by omega)]
    · unfold checkT; rw [if_neg (by omega), if_neg (by omega), if_pos c3]
    · exact ⟨by omega, AllF.of_any c3⟩
    · unfold checkT; rw [if_neg (by omega), if_neg (by omega), if_neg (by rw [c3]; decide), if_pos c4]
    · unfold checkT; rw [if_neg (by omega), if_neg (by omega), if_neg (by rw [c3]; decide), if_neg c4])
def L_AddX : Lay := { slots := [(0, .agg tTs), (1, .agg tT)] }
theorem T_AddX (l_0 : List Tb) (t_0 t_1 t_2 t_3 t_4 t_5 t_6 t_7 t_8 : Int) : mTree (P := P) [c_TCheckX.gc, c_cloneG.gc] (lpOf []) Try.f50 L_AddX true (l_0, (t_0, (t_1, (t_2, (t_3, (t_4, (t_5, (t_6, (t_7, t_8)))))))), ()) =
  Tree.need ((↑(List.length l_0) : Int) < (2 : Int) ^ (62 : Nat)) (Tree.cond (decide ((↑(List.length l_0) : Int) > (0 : Int))) (Tree.cond (checkT l_0 != (0 : Int)) (Tree.leaf { res := SV.tup [SV.agg [SV.nils], SV.int IntKind.i64 (checkT l_0)], boxes := [] }) (Tree.need (List.length l_0 ≤ (1000 : Nat)) (Tree.need ((List.length l_0 + List.length [(t_0, t_1, t_2, t_3, t_4, t_5, t_6, t_7, t_8)]) * (72 : Nat) ≤ (140737488355328 : Nat)) (Tree.need ((↑(List.length (l_0 ++ [(t_0, t_1, t_2, t_3, t_4, t_5, t_6, t_7, t_8)])) : Int) < (2 : Int) ^ (62 : Nat)) (Tree.cond (checkT (l_0 ++ [(t_0, t_1, t_2, t_3, t_4, t_5, t_6, t_7, t_8)]) != (0 : Int)) (Tree.leaf { res := SV.tup [SV.agg [SV.nils], SV.int IntKind.i64 (checkT (l_0 ++ [(t_0, t_1, t_2, t_3, t_4, t_5, t_6, t_7, t_8)]))], boxes := [] }) (Tree.leaf { res := SV.tup [SV.agg [SV.own (nat_lit 100)], SV.int IntKind.i64 (0 : Int)], boxes := [], news := [Ob.row (50 : TypeId) tT (l_0 ++ [(t_0, t_1, t_2, t_3, t_4, t_5, t_6, t_7, t_8)])] })))))) (Tree.need (List.length l_0 ≤ (1000 : Nat)) (Tree.need ((List.length l_0 + List.length [(t_0, t_1, t_2, t_3, t_4, t_5, t_6, t_7, t_8)]) * (72 : Nat) ≤ (140737488355328 : Nat)) (Tree.need ((↑(List.length (l_0 ++ [(t_0, t_1, t_2, t_3, t_4, t_5, t_6, t_7, t_8)])) : Int) < (2 : Int) ^ (62 : Nat)) (Tree.cond (checkT (l_0 ++ [(t_0, t_1, t_2, t_3, t_4, t_5, t_6, t_7, t_8)]) != (0 : Int)) (Tree.leaf { res := SV.tup [SV.agg [SV.nils], SV.int IntKind.i64 (checkT (l_0 ++ [(t_0, t_1, t_2, t_3, t_4, t_5, t_6, t_7, t_8)]))], boxes := [] }) (Tree.leaf { res := SV.tup [SV.agg [SV.own (nat_lit 100)], SV.int IntKind.i64 (0 : Int)], boxes := [], news := [Ob.row (50 : TypeId) tT (l_0 ++ [(t_0, t_1, t_2, t_3, t_4, t_5, t_6, t_7, t_8)])] })))))) := by kernel_rfl
def c_AddX : XC P := XC.of (α := List Tb × Tb × Unit) 50 L_AddX (fun x => x) (fun x => x) (fun _ => rfl)
  (fun x => some (x.1.length ≤ 10))
  (fun x => ⟨.tup [.agg [.own 100], .int .i64 (addG x.1 x.2.1).2], [], [.row 50 tT (addG x.1 x.2.1).1]⟩) (by kernel_rfl) (by kernel_rfl) (by
    rintro ⟨l_0, ⟨t_0, ⟨t_1, ⟨t_2, ⟨t_3, ⟨t_4, ⟨t_5, ⟨t_6, ⟨t_7, t_8⟩⟩⟩⟩⟩⟩⟩⟩, ⟨⟩⟩ hp
    refine m_nil hm (own := true) (by kernel_rfl) (by kernel_rfl) (by kernel_rfl) (T_AddX l_0 t_0 t_1 t_2 t_3 t_4 t_5 t_6 t_7 t_8) trivial (by kernel_rfl) (by kernel_rfl) ?_
    try dsimp only at hp
    try dsimp only
    have hp' : l_0.length ≤ 10 := hp
    have n2 : (l_0.length + [(t_0, t_1, t_2, t_3, t_4, t_5, t_6, t_7, t_8)].length) * 72 ≤ 140737488355328 := by simp only [List.length_cons, List.length_nil]; omega
    have n3 : ((l_0 ++ [(t_0, t_1, t_2, t_3, t_4, t_5, t_6, t_7, t_8)]).length : Int) < 2 ^ 62 := by simp only [List.length_append, List.length_cons, List.length_nil]; omega
    generalize (t_0, t_1, t_2, t_3, t_4, t_5, t_6, t_7, t_8) = t at *
    have bad : ∀ e : Int, addG l_0 t = ([], e) → (fun s : MOut => s = ⟨.tup [.agg [.own 100], .int .i64 (addG l_0 t).2], [], [.row 50 tT (addG l_0 t).1]⟩ ∨ (s.boxes = [] ∧ s.news = [] ∧ (addG l_0 t).1 = [] ∧ NilS s.res (.tup [.agg [.own 100], .int .i64 (addG l_0 t).2]))) ⟨.tup [.agg [.nils], .int .i64 e], [], []⟩ := fun e h => .inr ⟨rfl, rfl, by rw [h], by rw [h]; exact nilS_dr e⟩
    have good : addG l_0 t = (l_0 ++ [t], 0) → (fun s : MOut => s = ⟨.tup [.agg [.own 100], .int .i64 (addG l_0 t).2], [], [.row 50 tT (addG l_0 t).1]⟩ ∨ (s.boxes = [] ∧ s.news = [] ∧ (addG l_0 t).1 = [] ∧ NilS s.res (.tup [.agg [.own 100], .int .i64 (addG l_0 t).2]))) ⟨.tup [.agg [.own 100], .int .i64 0], [], [.row 50 tT (l_0 ++ [t])]⟩ := fun h => .inl (by rw [h])
    refine ⟨by omega, fun c1 => ⟨fun c2 => bad _ ?_, fun c2 => ⟨by omega, n2, n3, fun c3 => bad _ ?_, fun c3 => good ?_⟩⟩, fun c1 => ⟨by omega, n2, n3, fun c3 => bad _ ?_, fun c3 => good ?_⟩⟩
    all_goals simp only [decide_eq_true_eq, decide_eq_false_iff_not, bne_iff_ne, bne_eq_false_iff_eq, ne_eq] at *
    all_goals unfold addG
    · rw [if_pos ⟨by omega, c2⟩]
    · rw [if_neg (fun h => h.2 c2), if_pos c3]
    · rw [if_neg (fun h => h.2 c2), if_neg (fun h => h c3)]
    · rw [if_neg (fun h => by omega), if_pos c3]
    · rw [if_neg (fun h => by omega), if_neg (fun h => h c3)])
def L_rSameX : Lay := { slots := [(0, .agg tTs), (1, .agg tTs)] }
theorem T_rSameX (l_0 m_0 : List Tb) : mTree (P := P) [] (lpOf [(0, R_rSmL)]) Try.f46 L_rSameX true (l_0, m_0, ()) =
  Tree.cond ((↑(List.length l_0) : Int) != (↑(List.length m_0) : Int)) (Tree.leaf { res := SV.bool false, boxes := [] }) (Tree.need (inv_rSmL ((), (), (0 : Int), l_0, m_0, ())) (Tree.cond (eqTs (List.drop (Int.toNat (0 : Int)) l_0) (List.drop (Int.toNat (0 : Int)) m_0)) (Tree.leaf { res := SV.bool true, boxes := [] }) (Tree.leaf { res := SV.bool false, boxes := [] }))) := by kernel_rfl
def c_rSameX : XC P := XC.of (α := List Tb × List Tb × Unit) 46 L_rSameX (fun x => x) (fun x => x) (fun _ => rfl)
  (fun x => some ((x.1.length : Int) < 2 ^ 62 ∧ (x.2.1.length : Int) < 2 ^ 62))
  (fun x => ⟨.bool (eqTs x.1 x.2.1), [], []⟩) (by kernel_rfl) (by kernel_rfl) (by
    rintro ⟨l_0, m_0, ⟨⟩⟩ hp
    refine m_of hm (own := true) (by kernel_rfl) (by kernel_rfl) (by kernel_rfl) (T_rSameX l_0 m_0) ⟨K_rSmL, trivial⟩ ?_
    try dsimp only at hp
    try dsimp only
    have hl : (l_0.length : Int) < 2 ^ 62 ∧ (m_0.length : Int) < 2 ^ 62 := hp
    have fin : ∀ n : Bool, eqTs l_0 m_0 = n → (⟨SV.bool n, [], []⟩ : MOut) = ⟨SV.bool (eqTs l_0 m_0), [], []⟩ := fun n h => by rw [h]
    refine ⟨fun c1 => ?_, fun c1 => ?_⟩
    · have c1 : l_0.length ≠ m_0.length := by
        have c1 : (l_0.length : Int) ≠ m_0.length := by simpa using c1
        omega
      exact fin _ (by
        rw [← Bool.not_eq_true]
        exact fun h => c1 (eqTs_len h))
    · have c1 : (l_0.length : Int) = m_0.length := by simpa using c1
      refine ⟨⟨by decide, by omega, by omega, hl.1⟩, fun c2 => fin _ c2, fun c2 => fin _ c2⟩)
theorem addG_len (l : List Tb) (t : Tb) : (addG l t).1.length ≤ l.length + 1 := by
  unfold addG
  split
  · simp
  · split
    · simp
    · simp
theorem dropR_len : ∀ (l : List Tb) (n : Int), (dropR l n).length ≤ l.length
  | [], n => by simp [dropR]
  | t :: r, n => by
    rw [dropR]
    split
    · exact Nat.le_refl _
    · split
      · simp
      · have := dropR_len r (n - t.1)
        rw [List.length_cons]; omega
theorem dropS_len (l : List Tb) (n : Int) : (dropS l n).1.length ≤ l.length := by
  unfold dropS
  split
  · simp
  · split
    · simp
    · unfold dropE
      have := dropR_len l.reverse n
      rw [List.length_reverse] at this ⊢
      exact this
def L_tal0 : Lay := { slots := [(4, .ptr 5130 0), (9, .ptr 10130 0), (10, .ptr 11130 0), (14, .ptr 15130 0), (18, .val tI)], boxes := [(5130, [.val tTs]), (10130, [.val tTs]), (11130, [.row 50 tT]), (15130, [.row 50 tT])] }
def L_tal0_0 : Lay := { slots := [(4, .ptr 5130 0), (9, .ptr 10130 0), (14, .ptr 15130 0)], boxes := [(5130, [.val tTs]), (10130, [.val tTs]), (15130, [.row 50 tT])] }
def X_tal0 : Exit → St → Option Lay
  | .exit 0, _ => some L_tal0_0
  | _, _ => none
abbrev C_tal0 : Code := loopC (bodyOf Try.f11) 0
theorem B_tal0 (i : Int) (sl own a x : List Tb) : loopBodyA (P := P) [] (lpOf []) [] 130 noU (inner C_tal0) L_tal0 X_tal0 (α := Unit × Unit × Unit × Unit × Int × List Tb × List Tb × List Tb × List Tb × Unit) (fun x => x) (fun x => x) ((), (), (), (), i, sl, own, a, x, ()) =
  Tree.cond (decide (i < (↑(List.length a) : Int))) (Tree.need ((0 : Int) ≤ i ∧ i < (↑(List.length a) : Int)) (Tree.need (Int.toNat i < List.length a) (Tree.need ((0 : Int) ≤ i ∧ i < (↑(List.length a) : Int)) (Tree.need (Int.toNat i < List.length a) (Tree.leaf (Sum.inl (PUnit.unit, PUnit.unit, PUnit.unit, PUnit.unit, IntKind.wrap IntKind.i64 (i + (1 : Int)), sl, own, List.set a (Int.toNat i) ((List.getD a (Int.toNat i) ((0 : Int), (0 : Int), (0 : Int), (0 : Int), (0 : Int), (0 : Int), (0 : Int), (0 : Int), (0 : Int))).fst, IntKind.wrap IntKind.i64 ((List.getD a (Int.toNat i) ((0 : Int), (0 : Int), (0 : Int), (0 : Int), (0 : Int), (0 : Int), (0 : Int), (0 : Int), (0 : Int))).snd.fst + (1 : Int)), (List.getD a (Int.toNat i) ((0 : Int), (0 : Int), (0 : Int), (0 : Int), (0 : Int), (0 : Int), (0 : Int), (0 : Int), (0 : Int))).snd.snd), x, PUnit.unit))))))) (Tree.leaf (Sum.inr (Exit.exit (0 : Nat), Lay.st L_tal0_0 noU (PUnit.unit, PUnit.unit, PUnit.unit, sl, own, x, PUnit.unit)))) := by kernel_rfl
def inv_tal0 : Unit × Unit × Unit × Unit × Int × List Tb × List Tb × List Tb × List Tb × Unit → Prop := fun ((), (), (), (), i, sl, own, a, x, ()) => 0 ≤ i ∧ i ≤ a.length ∧ (a.length : Int) ≤ 1000
def O_tal0 : Unit × Unit × Unit × Unit × Int × List Tb × List Tb × List Tb × List Tb × Unit → Tree (Exit × St) := fun ((), (), (), (), i, sl, own, a, x, ()) => (.leaf (.exit 0, L_tal0_0.st noU ((), (), (), sl, own, x, ())))
def R_tal0 : LRun := runOf 130 L_tal0 (fun x => x) (inv_tal0) (O_tal0)
theorem K_tal0 : LoopOk P [] 130 none noU C_tal0 (R_tal0) := by
  refine loop_of hm (cx := []) [] (xl := X_tal0) (α := Unit × Unit × Unit × Unit × Int × List Tb × List Tb × List Tb × List Tb × Unit) (fun x => x) (fun ((), (), (), (), i, sl, own, a, x, ()) => (a.length - i).toNat) (fun _ => rfl) (by kernel_rfl) (by kernel_rfl) ?_ (by kernel_rfl) trivial ?_
  · intro e S L' h
    unfold X_tal0 at h
    split at h <;> first | (cases h; done) | (cases h; kernel_rfl) | (rcases bif_some h with h | h <;> cases h <;> kernel_rfl)
  · rintro ⟨⟨⟩, ⟨⟩, ⟨⟩, ⟨⟩, i, sl, own, a, x, ⟨⟩⟩ hinv Q hQ
    refine hold_of_eq (B_tal0 i sl own a x) ?_
    obtain ⟨h0, h1, h2⟩ := hinv
    rw [W_id (n := i + 1) (by omega) (by omega)]
    refine ⟨fun c1 => ?_, fun c1 => hQ⟩
    have c1 := of_decide_eq_true c1
    refine ⟨⟨h0, c1⟩, by omega, ⟨h0, c1⟩, by omega, ⟨⟨by omega, by rw [List.length_set]; omega, by rw [List.length_set]; exact h2⟩, ?_⟩, hQ⟩
    show (((a.set i.toNat _).length : Int) - (i + 1)).toNat < ((a.length : Int) - i).toNat
    rw [List.length_set]
    omega
def L_tal2 : Lay := { slots := [(4, .ptr 5130 0), (9, .ptr 10130 0), (14, .ptr 15130 0), (19, .val tI)], boxes := [(5130, [.val tTs]), (10130, [.val tTs]), (15130, [.row 50 tT])] }
def L_tal2_0 : Lay := { slots := [(4, .ptr 5130 0), (9, .ptr 10130 0)], boxes := [(5130, [.val tTs]), (10130, [.val tTs])] }
def X_tal2 : Exit → St → Option Lay
  | .exit 2, _ => some L_tal2_0
  | _, _ => none
abbrev C_tal2 : Code := loopC (bodyOf Try.f11) 2
theorem B_tal2 (j : Int) (sl own x : List Tb) : loopBodyA (P := P) [] (lpOf []) [] 130 noU (inner C_tal2) L_tal2 X_tal2 (α := Unit × Unit × Unit × Int × List Tb × List Tb × List Tb × Unit) (fun x => x) (fun x => x) ((), (), (), j, sl, own, x, ()) =
  Tree.cond (decide (j < (↑(List.length x) : Int))) (Tree.need ((0 : Int) ≤ j ∧ j < (↑(List.length x) : Int)) (Tree.need (Int.toNat j < List.length x) (Tree.need ((0 : Int) ≤ j ∧ j < (↑(List.length x) : Int)) (Tree.need (Int.toNat j < List.length x) (Tree.leaf (Sum.inl (PUnit.unit, PUnit.unit, PUnit.unit, IntKind.wrap IntKind.i64 (j + (1 : Int)), sl, own, List.set x (Int.toNat j) ((List.getD x (Int.toNat j) ((0 : Int), (0 : Int), (0 : Int), (0 : Int), (0 : Int), (0 : Int), (0 : Int), (0 : Int), (0 : Int))).fst, IntKind.wrap IntKind.i64 ((List.getD x (Int.toNat j) ((0 : Int), (0 : Int), (0 : Int), (0 : Int), (0 : Int), (0 : Int), (0 : Int), (0 : Int), (0 : Int))).snd.fst + (1 : Int)), (List.getD x (Int.toNat j) ((0 : Int), (0 : Int), (0 : Int), (0 : Int), (0 : Int), (0 : Int), (0 : Int), (0 : Int), (0 : Int))).snd.snd), PUnit.unit))))))) (Tree.leaf (Sum.inr (Exit.exit (2 : Nat), Lay.st L_tal2_0 noU (PUnit.unit, PUnit.unit, sl, own, PUnit.unit)))) := by kernel_rfl
def inv_tal2 : Unit × Unit × Unit × Int × List Tb × List Tb × List Tb × Unit → Prop := fun ((), (), (), j, sl, own, x, ()) => 0 ≤ j ∧ j ≤ x.length ∧ (x.length : Int) ≤ 1000
def O_tal2 : Unit × Unit × Unit × Int × List Tb × List Tb × List Tb × Unit → Tree (Exit × St) := fun ((), (), (), j, sl, own, x, ()) => (.leaf (.exit 2, L_tal2_0.st noU ((), (), sl, own, ())))
def R_tal2 : LRun := runOf 130 L_tal2 (fun x => x) (inv_tal2) (O_tal2)
theorem K_tal2 : LoopOk P [] 130 none noU C_tal2 (R_tal2) := by
  refine loop_of hm (cx := []) [] (xl := X_tal2) (α := Unit × Unit × Unit × Int × List Tb × List Tb × List Tb × Unit) (fun x => x) (fun ((), (), (), j, sl, own, x, ()) => (x.length - j).toNat) (fun _ => rfl) (by kernel_rfl) (by kernel_rfl) ?_ (by kernel_rfl) trivial ?_
  · intro e S L' h
    unfold X_tal2 at h
    split at h <;> first | (cases h; done) | (cases h; kernel_rfl) | (rcases bif_some h with h | h <;> cases h <;> kernel_rfl)
  · rintro ⟨⟨⟩, ⟨⟩, ⟨⟩, j, sl, own, x, ⟨⟩⟩ hinv Q hQ
    refine hold_of_eq (B_tal2 j sl own x) ?_
    obtain ⟨h0, h1, h2⟩ := hinv
    rw [W_id (n := j + 1) (by omega) (by omega)]
    refine ⟨fun c1 => ?_, fun c1 => hQ⟩
    have c1 := of_decide_eq_true c1
    refine ⟨⟨h0, c1⟩, by omega, ⟨h0, c1⟩, by omega, ⟨⟨by omega, by rw [List.length_set]; omega, by rw [List.length_set]; exact h2⟩, ?_⟩, hQ⟩
    show (((x.set j.toNat _).length : Int) - (j + 1)).toNat < ((x.length : Int) - j).toNat
    rw [List.length_set]
    omega
theorem T_PipeTallies (s_0 o_0 : List Tb) (t_0 t_1 t_2 t_3 t_4 t_5 t_6 t_7 t_8 n : Int) : fnTree (P := P) [c_OwnString.gc, c_AddX.gc, c_rAdd.gc, c_Dropg.gc, c_rDropg.gc, c_rSameX.gc, c_pSame.gc, c_rSameG.gc, c_awake.gc] (lpOf [(0, R_tal0), (2, R_tal2)]) Try.f11 (encL 0 [.agg tTs, .agg tTs, .agg tT, .val tI] (s_0, o_0, (t_0, (t_1, (t_2, (t_3, (t_4, (t_5, (t_6, (t_7, t_8)))))))), n, ())) =
  Tree.cond (decide ((↑(List.length s_0) : Int) > (10 : Int))) (Tree.leaf (SV.bool true)) (Tree.cond (decide ((↑(List.length o_0) : Int) > (10 : Int))) (Tree.leaf (SV.bool true)) (Tree.need ((↑(List.length s_0) : Int) < (1000000 : Int)) (Tree.need (List.length s_0 ≤ (10 : Nat)) (Tree.need (List.length s_0 ≤ (10 : Nat)) (Tree.need ((↑(List.length s_0) : Int) < (2 : Int) ^ (62 : Nat)) (Tree.need ((↑(List.length s_0) : Int) < (2 : Int) ^ (62 : Nat)) (Tree.need ((↑(List.length (addG s_0 (t_0, t_1, t_2, t_3, t_4, t_5, t_6, t_7, t_8)).fst) : Int) < (2 : Int) ^ (62 : Nat) ∧ (↑(List.length (addG s_0 (t_0, t_1, t_2, t_3, t_4, t_5, t_6, t_7, t_8)).fst) : Int) < (2 : Int) ^ (62 : Nat)) (Tree.cond (!eqTs (addG s_0 (t_0, t_1, t_2, t_3, t_4, t_5, t_6, t_7, t_8)).fst (addG s_0 (t_0, t_1, t_2, t_3, t_4, t_5, t_6, t_7, t_8)).fst) (Tree.leaf (SV.bool false)) (Tree.cond ((addG s_0 (t_0, t_1, t_2, t_3, t_4, t_5, t_6, t_7, t_8)).snd != (addG s_0 (t_0, t_1, t_2, t_3, t_4, t_5, t_6, t_7, t_8)).snd) (Tree.leaf (SV.bool false)) (Tree.need ((↑(List.length (dropS s_0 n).fst) : Int) < (2 : Int) ^ (62 : Nat) ∧ (↑(List.length (dropS s_0 n).fst) : Int) < (2 : Int) ^ (62 : Nat)) (Tree.cond (!eqTs (dropS s_0 n).fst (dropS s_0 n).fst) (Tree.leaf (SV.bool false)) (Tree.cond ((dropS s_0 n).snd != (dropS s_0 n).snd) (Tree.leaf (SV.bool false)) (Tree.need ((↑(List.length s_0) : Int) < (2 : Int) ^ (62 : Nat) ∧ (↑(List.length o_0) : Int) < (2 : Int) ^ (62 : Nat)) (Tree.need ((↑(List.length s_0) : Int) < (2 : Int) ^ (62 : Nat) ∧ (↑(List.length o_0) : Int) < (2 : Int) ^ (62 : Nat)) (Tree.cond (!eqTs s_0 o_0 == eqTs s_0 o_0) (Tree.leaf (SV.bool false)) (Tree.need ((↑(List.length s_0) : Int) < (2 : Int) ^ (62 : Nat) ∧ (↑(List.length s_0) : Int) < (2 : Int) ^ (62 : Nat)) (Tree.cond (!eqTs s_0 s_0) (Tree.leaf (SV.bool false)) (Tree.need (inv_tal0 ((), (), (), (), (0 : Int), s_0, s_0, (addG s_0 (t_0, t_1, t_2, t_3, t_4, t_5, t_6, t_7, t_8)).fst, (dropS s_0 n).fst, ())) (Tree.need (inv_tal2 ((), (), (), (0 : Int), s_0, s_0, (dropS s_0 n).fst, ())) (Tree.need ((↑(List.length s_0) : Int) < (2 : Int) ^ (62 : Nat) ∧ (↑(List.length s_0) : Int) < (2 : Int) ^ (62 : Nat)) (Tree.cond (eqTs s_0 s_0) (Tree.leaf (SV.bool true)) (Tree.leaf (SV.bool false))))))))))))))))))))))) := by kernel_rfl
def c_PipeTallies : PC P := PC.of (α := List Tb × List Tb × Tb × Int × Unit) 11 [.agg tTs, .agg tTs, .agg tT, .val tI] (fun x => x) (fun x => x) (fun _ => rfl)
  (fun _ => none)
  (fun x => .bool true) (by kernel_rfl) (by
    rintro ⟨s_0, o_0, ⟨t_0, ⟨t_1, ⟨t_2, ⟨t_3, ⟨t_4, ⟨t_5, ⟨t_6, ⟨t_7, t_8⟩⟩⟩⟩⟩⟩⟩⟩, n, ⟨⟩⟩ hp
    refine fn_of hm (by kernel_rfl) (by kernel_rfl) (T_PipeTallies s_0 o_0 t_0 t_1 t_2 t_3 t_4 t_5 t_6 t_7 t_8 n) ⟨K_tal0, K_tal2, trivial⟩ ?_
    try dsimp only at hp
    try dsimp only
    generalize (t_0, t_1, t_2, t_3, t_4, t_5, t_6, t_7, t_8) = t
    have e1 : ∀ z : Int, (z != z) = false := fun z => by simp
    have e2 : ∀ z : List Tb, (!eqTs z z) = false := fun z => by rw [eqTs_refl]; rfl
    have e3 : ∀ z : Bool, (!(z == z)) = false := fun z => by cases z <;> rfl
    have ha := addG_len s_0 t
    have hd := dropS_len s_0 n
    simp only [e1, e2, e3]
    refine ⟨fun _ => rfl, fun c1 => ⟨fun _ => rfl, fun c2 => ?_⟩⟩
    have c1 := of_decide_eq_false c1
    have c2 := of_decide_eq_false c2
    have ls : (s_0.length : Int) < 2 ^ 62 := by omega
    have lo : (o_0.length : Int) < 2 ^ 62 := by omega
    refine ⟨by omega, by omega, by omega, ls, ls, ⟨by omega, by omega⟩, fun h => (by cases h), fun _ => ⟨fun h => (by cases h), fun _ => ⟨⟨by omega, by omega⟩, fun h => (by cases h), fun _ => ⟨fun h => (by cases h), fun _ => ⟨⟨ls, lo⟩, ⟨ls, lo⟩, fun h => (by cases h), fun _ => ⟨⟨ls, ls⟩, fun h => (by cases h), fun _ => ⟨⟨by decide, by omega, by omega⟩, ⟨by decide, by omega, by omega⟩, ⟨ls, ls⟩, fun _ => rfl, fun h => ?_⟩⟩⟩⟩⟩⟩⟩
    rw [eqTs_refl] at h
    cases h)
end
end Go.MP
