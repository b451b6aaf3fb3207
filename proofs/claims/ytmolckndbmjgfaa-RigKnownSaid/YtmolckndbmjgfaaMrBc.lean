/- rig.Merge. -/
import Derived.Test.YtmolckndbmjgfaaMrBb
import Derived.Test.YtmolckndbmjgfaaMrV
namespace Go.MR
open Go Go.Sx Go.Proofs
set_option linter.unusedVariables false
set_option linter.unusedSimpArgs false
noncomputable section
def mrgE (n : Int) : List Req → Int
  | [] => 0
  | x :: q => if wi x.1 0 (n - 1) = false then 7 else if (wi x.2.1 (-1) 1 && wi x.2.2 0 99) = false then 2 else mrgE n q
theorem mrgE_nil (n : Int) : mrgE n [] = 0 := rfl
theorem mrgE_step {n i : Int} {q : List Req} (h0 : 0 ≤ i) (h : i < q.length) : mrgE n (q.drop i.toNat) = if wi (q.getD i.toNat zReq).1 0 (n - 1) = false then 7 else if (wi (q.getD i.toNat zReq).2.1 (-1) 1 && wi (q.getD i.toNat zReq).2.2 0 99) = false then 2 else mrgE n (q.drop (i + 1).toNat) := by
  rw [drop_step zReq h0 h, mrgE]
def cntI : Nat → Int → List Int
  | 0, _ => []
  | k + 1, i => i :: cntI k (i + 1)
def mgS (r : Rig) (s : List Int) (q : List Req) : List Int → List Int × List Bool × List Int → List Int × List Bool × List Int
  | [], x => x
  | i :: o, (m, g, t) =>
    if g.getD (q.getD i.toNat zReq).1.toNat false = true then mgS r s q o (m, g, t)
    else if (allowS r s (m.set (q.getD i.toNat zReq).1.toNat (q.getD i.toNat zReq).2.1)).1 = true then mgS r s q o (m.set (q.getD i.toNat zReq).1.toNat (q.getD i.toNat zReq).2.1, g.set (q.getD i.toNat zReq).1.toNat true, t ++ [i])
    else mgS r s q o (m.set (q.getD i.toNat zReq).1.toNat 0, g, t)
theorem mgS_step {r : Rig} {s : List Int} {q : List Req} {o : List Int} {i : Int} {m : List Int} {g : List Bool} {t : List Int} (h0 : 0 ≤ i) (h : i < o.length) : mgS r s q (o.drop i.toNat) (m, g, t) =
    if g.getD (q.getD (o.getD i.toNat 0).toNat zReq).1.toNat false = true then mgS r s q (o.drop (i + 1).toNat) (m, g, t)
    else if (allowS r s (m.set (q.getD (o.getD i.toNat 0).toNat zReq).1.toNat (q.getD (o.getD i.toNat 0).toNat zReq).2.1)).1 = true then mgS r s q (o.drop (i + 1).toNat) (m.set (q.getD (o.getD i.toNat 0).toNat zReq).1.toNat (q.getD (o.getD i.toNat 0).toNat zReq).2.1, g.set (q.getD (o.getD i.toNat 0).toNat zReq).1.toNat true, t ++ [o.getD i.toNat 0])
    else mgS r s q (o.drop (i + 1).toNat) (m.set (q.getD (o.getD i.toNat 0).toNat zReq).1.toNat 0, g, t) := by
  rw [drop_step (0 : Int) h0 h, mgS]
theorem mgS_nil (r : Rig) (s : List Int) (q : List Req) (x : List Int × List Bool × List Int) : mgS r s q [] x = x := rfl
def ordS (q : List Req) : List Int := isO (ltR q) 0 ((q.length : Int) - 1).toNat 1 (cntI q.length 0)
def mg0 (r : Rig) (s : List Int) (q : List Req) : List Int × List Bool × List Int := mgS r s q (ordS q) (List.replicate s.length 0, List.replicate s.length false, [])
def mrgErr (r : Rig) (s : List Int) (q : List Req) : Int := if stateS r s ≠ 0 then stateS r s else if q.length > 12 then 8 else mrgE s.length q
def mrgS (r : Rig) (s : List Int) (q : List Req) : List Int × List Int × Int :=
  if mrgErr r s q ≠ 0 then ([], [], mrgErr r s q)
  else ((mg0 r s q).1, isO ltI 0 (((mg0 r s q).2.2.length : Int) - 1).toNat 1 (mg0 r s q).2.2, 0)
theorem leS_n3 (e : Int) : LeS (.tup [.nils, .nils, .int .i64 e]) (.tup [.sl tI [], .sl tI [], .int .i64 e]) := by simp [LeS, LeL]
theorem leS_t3 (a b : List Int) (e : Int) : LeS (.tup [.sl tI a, .sl tI b, .int .i64 e]) (.tup [.sl tI a, .sl tI b, .int .i64 e]) := by simp [LeS, LeL]
theorem mrgE_ok {n : Int} : ∀ {q : List Req}, mrgE n q = 0 → ∀ x ∈ q, (0 ≤ x.1 ∧ x.1 < n) ∧ (-1 ≤ x.2.1 ∧ x.2.1 ≤ 1) ∧ (0 ≤ x.2.2 ∧ x.2.2 ≤ 99)
  | [], _, x, hx => by cases hx
  | y :: q, h, x, hx => by
    rw [mrgE] at h
    split at h
    · cases h
    split at h
    · cases h
    rename_i h1 h2
    rcases List.mem_cons.1 hx with rfl | hx
    · have w1 : wi x.1 0 (n - 1) = true := by simpa using h1
      have w2 : (wi x.2.1 (-1) 1 && wi x.2.2 0 99) = true := by simpa using h2
      rw [Bool.and_eq_true] at w2
      obtain ⟨w2, w3⟩ := w2
      unfold wi at w1 w2 w3
      rw [Bool.and_eq_true, decide_eq_true_eq, decide_eq_true_eq] at w1 w2 w3
      omega
    · exact mrgE_ok h x hx
theorem cntI_len : ∀ (k : Nat) (i : Int), (cntI k i).length = k
  | 0, _ => rfl
  | k + 1, i => by rw [cntI, List.length_cons, cntI_len]
theorem cntI_mem : ∀ (k : Nat) (i x : Int), x ∈ cntI k i ↔ i ≤ x ∧ x < i + k
  | 0, i, x => by rw [cntI]; exact ⟨fun h => (by cases h), fun h => by omega⟩
  | k + 1, i, x => by
    rw [cntI, List.mem_cons, cntI_mem k (i + 1) x]
    omega
theorem inQ_isO {q : List Req} {lt : Int → Int → Bool} {a : Int} (ha : 0 ≤ a) : ∀ (k : Nat) (i : Int) (l : List Int), inQ q l → a ≤ i → i + k ≤ l.length → inQ q (isO lt a k i l)
  | 0, _, _, h, _, _ => h
  | k + 1, i, l, h, h0, h1 => by
    rw [isO]
    exact inQ_isO ha k (i + 1) _ (inQ_insJ ha _ _ _ h h0 (by omega)) (by omega) (by rw [insJ_len]; omega)
theorem inQ_cnt (q : List Req) : inQ q (cntI q.length 0) := fun x hx => by
  have := (cntI_mem _ _ _).1 hx
  omega
theorem ordS_len (q : List Req) : (ordS q).length = q.length := by unfold ordS; rw [isO_len, cntI_len]
theorem ordS_in (q : List Req) : inQ q (ordS q) := by
  unfold ordS
  by_cases h : q.length = 0
  · rw [h]
    intro x hx
    cases hx
  · exact inQ_isO (by decide) _ _ _ (inQ_cnt q) (by decide) (by rw [cntI_len]; omega)
theorem mgS_len {r : Rig} {s : List Int} {q : List Req} : ∀ (o : List Int) (x : List Int × List Bool × List Int), (mgS r s q o x).1.length = x.1.length ∧ (mgS r s q o x).2.1.length = x.2.1.length ∧ (mgS r s q o x).2.2.length ≤ x.2.2.length + o.length
  | [], x => ⟨rfl, rfl, Nat.le_refl _⟩
  | i :: o, (m, g, t) => by
    rw [mgS]
    split
    · obtain ⟨h1, h2, h3⟩ := mgS_len o (m, g, t)
      exact ⟨h1, h2, by rw [List.length_cons]; dsimp only at h3 ⊢; omega⟩
    split
    · obtain ⟨h1, h2, h3⟩ := mgS_len o (m.set (q.getD i.toNat zReq).1.toNat (q.getD i.toNat zReq).2.1, g.set (q.getD i.toNat zReq).1.toNat true, t ++ [i])
      dsimp only at h1 h2 h3
      rw [List.length_append, List.length_singleton] at h3
      exact ⟨by rw [h1, List.length_set], by rw [h2, List.length_set], by rw [List.length_cons]; dsimp only; omega⟩
    · obtain ⟨h1, h2, h3⟩ := mgS_len o (m.set (q.getD i.toNat zReq).1.toNat 0, g, t)
      exact ⟨by rw [h1]; exact List.length_set, h2, by rw [List.length_cons]; dsimp only at h3 ⊢; omega⟩
theorem T_AllowedX (s0_0 : List Int) (s0_1 : List (Int × (Int × (Int × V)))) (s1 s2 : List Int) : frTree (P := P) [c_State.gc, c_move.gc, c_ways.gc, c_bans.gc] (lpOf []) Try.f37 (encL 0 [.agg (.pair tIs (.sl (.pair tI (.pair tI (.pair tI tV))))), .val tIs, .val tIs] ((s0_0, s0_1), s1, s2, ())) =
  Tree.cond (stateS (s0_0, s0_1) s1 != (0 : Int)) (Tree.leaf (SV.tup [SV.bool false, SV.int IntKind.i64 (-1 : Int)])) (Tree.need ((↑(List.length s2) : Int) < (2 : Int) ^ (62 : Nat)) (Tree.cond (!moveS (s0_0, s0_1) s2) (Tree.leaf (SV.tup [SV.bool false, SV.int IntKind.i64 (-1 : Int)])) (Tree.need (List.length s1 ≤ (1000 : Nat) ∧ List.length s1 ≤ List.length s2 ∧ List.length s1 ≤ List.length s0_0) (Tree.cond (!(waysS s1 s2 s0_0).snd) (Tree.leaf (SV.tup [SV.bool false, SV.int IntKind.i64 (-1 : Int)])) (Tree.need ((↑(List.length s0_1) : Int) < (2 : Int) ^ (62 : Nat) ∧ ∀ (b : Ban), b ∈ s0_1 → okB (List.length (waysS s1 s2 s0_0).fst) b) (Tree.leaf (SV.tup [SV.bool (decide (ixS (banS (waysS s1 s2 s0_0).fst) s0_1 < (0 : Int))), SV.int IntKind.i64 (ixS (banS (waysS s1 s2 s0_0).fst) s0_1)]))))))) := by kernel_rfl
def c_AllowedX : XF P := XF.of (α := (List Int × List (Int × (Int × (Int × V)))) × List Int × List Int × Unit) 37 [.agg (.pair tIs (.sl (.pair tI (.pair tI (.pair tI tV))))), .val tIs, .val tIs] (fun x => x) (fun x => x) (fun _ => rfl)
  (fun x => some ((x.2.2.1.length : Int) < 2 ^ 62))
  (fun x => .tup [.bool (allowS x.1 x.2.1 x.2.2.1).1, .int .i64 (allowS x.1 x.2.1 x.2.2.1).2]) (by kernel_rfl) (by
    rintro ⟨⟨s0_0, s0_1⟩, s1, s2, ⟨⟩⟩ hp
    refine fr_of hm (by kernel_rfl) (by kernel_rfl) (T_AllowedX s0_0 s0_1 s1 s2) trivial ?_
    try dsimp only at hp
    try dsimp only
    have hp' : (s2.length : Int) < 2 ^ 62 := hp
    have fin : ∀ k : Bool × Int, allowS (s0_0, s0_1) s1 s2 = k → SV.tup [.bool k.1, .int .i64 k.2] = SV.tup [.bool (allowS (s0_0, s0_1) s1 s2).1, .int .i64 (allowS (s0_0, s0_1) s1 s2).2] := fun k h => by rw [h]
    refine ⟨fun c1 => ?_, fun c1 => ⟨hp', fun c2 => ?_, fun c2 => ?_⟩⟩
    · have d1 : stateS (s0_0, s0_1) s1 ≠ 0 := by simpa using c1
      exact fin (false, -1) (by unfold allowS; rw [if_pos (.inl d1)])
    · have d2 : moveS (s0_0, s0_1) s2 = false := by simpa using c2
      exact fin (false, -1) (by unfold allowS; rw [if_pos (.inr d2)])
    have d1 : stateS (s0_0, s0_1) s1 = 0 := by simpa using c1
    have d2 : moveS (s0_0, s0_1) s2 = true := by simpa using c2
    obtain ⟨a1, a2, a3⟩ := stateS_in (.inl d1)
    obtain ⟨k1, k2, k3, k4, k5⟩ := checkS_ok a1
    have b1 := moveS_len d2
    dsimp only at a2 k1 k2 k3 k4 k5 b1
    have hn : ¬ (stateS (s0_0, s0_1) s1 ≠ 0 ∨ moveS (s0_0, s0_1) s2 = false) := by rw [d1, d2]; simp
    refine ⟨⟨by omega, by omega, by omega⟩, fun c3 => ?_, fun c3 => ⟨⟨by omega, ?_⟩, ?_⟩⟩
    · have d3 : (waysS s1 s2 s0_0).2 = false := by simpa using c3
      exact fin (false, -1) (by unfold allowS; rw [if_neg hn, if_pos d3])
    · have d3 : (waysS s1 s2 s0_0).2 = true := by simpa using c3
      intro b hb
      rw [waysS_len d3 (by omega), a2]
      exact banEs_all k5 b hb
    · have d3 : (waysS s1 s2 s0_0).2 = true := by simpa using c3
      exact fin (decide (ixS (banS (waysS s1 s2 s0_0).1) s0_1 < 0), ixS (banS (waysS s1 s2 s0_0).1) s0_1) (by unfold allowS; rw [if_neg hn, if_neg (by rw [d3]; simp)]))
def L_mrg0 : Lay := { slots := [(1, .val tIs), (3, .ptr 4117 0), (5, .ptr 6117 0), (10, .row 3 tI), (30, .val tVs), (31, .val tI), (32, .val tI)], boxes := [(4117, [.val tIs, .val (.sl (.pair tI (.pair tI (.pair tI tV))))]), (6117, [.val tVs])] }
def L_mrg0_0 : Lay := { slots := [(6, .nils), (7, .nils), (8, .val tI)] }
def L_mrg0_1 : Lay := { slots := [(1, .val tIs), (3, .ptr 4117 0), (5, .ptr 6117 0), (10, .row 3 tI)], boxes := [(4117, [.val tIs, .val (.sl (.pair tI (.pair tI (.pair tI tV))))]), (6117, [.val tVs])] }
def X_mrg0 : Exit → St → Option Lay
  | .ret, _ => some L_mrg0_0
  | .exit 0, _ => some L_mrg0_1
  | _, _ => none
abbrev C_mrg0 : Code := loopC (bodyOf Try.f64) 0
theorem B_mrg0 (s o : List Int) (l : List V) (n i : Int) (ps : List Int) (bs : List (Int × (Int × (Int × V)))) (q : List V) : loopBodyA (P := P) [c_within.gc] (lpOf []) [] 117 noU (inner C_mrg0) L_mrg0 X_mrg0 (α := List Int × Unit × Unit × List Int × List V × Int × Int × List Int × List (Int × (Int × (Int × V))) × List V × Unit) (fun x => x) (fun x => x) (s, (), (), o, l, n, i, ps, bs, q, ()) =
  Tree.cond (decide (i < n)) (Tree.need ((0 : Int) ≤ i ∧ i < (↑(List.length l) : Int)) (Tree.cond (!wi (List.getD l (Int.toNat i) ((0 : Int), (0 : Int), (0 : Int))).fst (0 : Int) (IntKind.wrap IntKind.i64 ((↑(List.length s) : Int) - (1 : Int)))) (Tree.leaf (Sum.inr (Exit.ret, Lay.st L_mrg0_0 noU (PUnit.unit, PUnit.unit, (7 : Int), PUnit.unit)))) (Tree.cond (!wi (List.getD l (Int.toNat i) ((0 : Int), (0 : Int), (0 : Int))).snd.fst (-1 : Int) (1 : Int)) (Tree.leaf (Sum.inr (Exit.ret, Lay.st L_mrg0_0 noU (PUnit.unit, PUnit.unit, (2 : Int), PUnit.unit)))) (Tree.cond (!wi (List.getD l (Int.toNat i) ((0 : Int), (0 : Int), (0 : Int))).snd.snd (0 : Int) (99 : Int)) (Tree.leaf (Sum.inr (Exit.ret, Lay.st L_mrg0_0 noU (PUnit.unit, PUnit.unit, (2 : Int), PUnit.unit)))) (Tree.need ((List.length o + List.length [i]) * (8 : Nat) ≤ (140737488355328 : Nat)) (Tree.leaf (Sum.inl (s, PUnit.unit, PUnit.unit, o ++ [i], l, n, IntKind.wrap IntKind.i64 (i + (1 : Int)), ps, bs, q, PUnit.unit)))))))) (Tree.leaf (Sum.inr (Exit.exit (0 : Nat), Lay.st L_mrg0_1 noU (s, PUnit.unit, PUnit.unit, o, ps, bs, q, PUnit.unit)))) := by kernel_rfl
def inv_mrg0 : List Int × Unit × Unit × List Int × List V × Int × Int × List Int × List (Int × (Int × (Int × V))) × List V × Unit → Prop := fun (s, (), (), o, l, n, i, ps, bs, q, ()) => n = l.length ∧ 0 ≤ i ∧ i ≤ n ∧ (l.length : Int) ≤ 12 ∧ (o.length : Int) ≤ i ∧ (s.length : Int) ≤ 4
def O_mrg0 : List Int × Unit × Unit × List Int × List V × Int × Int × List Int × List (Int × (Int × (Int × V))) × List V × Unit → Tree (Exit × St) := fun (s, (), (), o, l, n, i, ps, bs, q, ()) => .cond (decide (mrgE s.length (l.drop i.toNat) = 0)) (.leaf (.exit 0, L_mrg0_1.st noU (s, (), (), (o ++ cntI (n - i).toNat i), ps, bs, q, ()))) (.leaf (.ret, L_mrg0_0.st noU ((), (), (mrgE s.length (l.drop i.toNat)), ())))
def R_mrg0 : LRun := runOf 117 L_mrg0 (fun x => x) (inv_mrg0) (O_mrg0)
theorem K_mrg0 : LoopOk P [] 117 none noU C_mrg0 (R_mrg0) := by
  refine loop_of hm (cx := [c_within.gc]) [] (xl := X_mrg0) (α := List Int × Unit × Unit × List Int × List V × Int × Int × List Int × List (Int × (Int × (Int × V))) × List V × Unit) (fun x => x) (fun (s, (), (), o, l, n, i, ps, bs, q, ()) => (n - i).toNat) (fun _ => rfl) (by kernel_rfl) (by kernel_rfl) ?_ (by kernel_rfl) trivial ?_
  · intro e S L' h
    unfold X_mrg0 at h
    split at h <;> first | (cases h; done) | (cases h; kernel_rfl) | (rcases bif_some h with h | h <;> cases h <;> kernel_rfl)
  · rintro ⟨s, ⟨⟩, ⟨⟩, o, l, n, i, ps, bs, q, ⟨⟩⟩ hinv Q hQ
    refine hold_of_eq (B_mrg0 s o l n i ps bs q) ?_
    obtain ⟨rfl, h0, h1, h2, h3, h4⟩ := hinv
    rw [W_id (n := i + 1) (by omega) (by omega), W_id (n := (s.length : Int) - 1) (by omega) (by omega)]
    unfold O_mrg0 at hQ
    dsimp only at hQ
    refine ⟨fun c1 => ?_, fun c1 => ?_⟩
    · have d1 : i < l.length := of_decide_eq_true c1
      have hm : ((l.length : Int) - (i + 1)).toNat < ((l.length : Int) - i).toNat := by omega
      rw [mrgE_step h0 d1, show ((l.length : Int) - i).toNat = ((l.length : Int) - (i + 1)).toNat + 1 by omega, cntI] at hQ
      refine ⟨⟨h0, d1⟩, fun c2 => ?_, fun c2 => ⟨fun c3 => ?_, fun c3 => ⟨fun c4 => ?_, fun c4 => ⟨by show (o.length + 1) * 8 ≤ 140737488355328; omega, ?_⟩⟩⟩⟩
      · have d2 : wi (l.getD i.toNat zReq).1 0 ((s.length : Int) - 1) = false := by simpa using c2
        rw [if_pos d2] at hQ
        exact hQ.2 rfl
      all_goals
        have d2 : wi (l.getD i.toNat zReq).1 0 ((s.length : Int) - 1) = true := by simpa using c2
        rw [if_neg (by rw [d2]; decide)] at hQ
      · have d3 : wi (l.getD i.toNat zReq).2.1 (-1) 1 = false := by simpa using c3
        rw [if_pos (by rw [d3, Bool.false_and])] at hQ
        exact hQ.2 rfl
      all_goals
        have d3 : wi (l.getD i.toNat zReq).2.1 (-1) 1 = true := by simpa using c3
      · have d4 : wi (l.getD i.toNat zReq).2.2 0 99 = false := by simpa using c4
        rw [if_pos (by rw [d4, Bool.and_false])] at hQ
        exact hQ.2 rfl
      · have d4 : wi (l.getD i.toNat zReq).2.2 0 99 = true := by simpa using c4
        rw [if_neg (by rw [d3, d4]; decide), List.append_cons] at hQ
        exact ⟨⟨⟨rfl, by omega, by omega, h2, by rw [List.length_append, List.length_singleton]; omega, h4⟩, hm⟩, hQ⟩
    · have d1 : ¬ i < l.length := of_decide_eq_false c1
      rw [drop_end d1, mrgE_nil, show ((l.length : Int) - i).toNat = 0 by omega, cntI, List.append_nil] at hQ
      exact hQ.1 rfl
def L_mrg3 : Lay := { slots := [(1, .val tIs), (3, .ptr 4117 0), (5, .ptr 6117 0), (13, .row 3 tI), (14, .row 4 .bool), (15, .row 3 tI), (70, .row 3 tI), (71, .val tI), (72, .val tI)], boxes := [(4117, [.val tIs, .val (.sl (.pair tI (.pair tI (.pair tI tV))))]), (6117, [.val tVs])] }
def L_mrg3_0 : Lay := { slots := [(13, .row 3 tI), (15, .row 3 tI)] }
def X_mrg3 : Exit → St → Option Lay
  | .exit 3, _ => some L_mrg3_0
  | _, _ => none
abbrev C_mrg3 : Code := loopC (bodyOf Try.f64) 3
theorem B_mrg3 (s m : List Int) (g : List Bool) (t l : List Int) (n i : Int) (ps : List Int) (bs : List (Int × (Int × (Int × V)))) (q : List V) : loopBodyA (P := P) [c_AllowedX.gc] (lpOf []) [] 117 noU (inner C_mrg3) L_mrg3 X_mrg3 (α := List Int × Unit × Unit × List Int × List Bool × List Int × List Int × Int × Int × List Int × List (Int × (Int × (Int × V))) × List V × Unit) (fun x => x) (fun x => x) (s, (), (), m, g, t, l, n, i, ps, bs, q, ()) =
  Tree.cond (decide (i < n)) (Tree.need ((0 : Int) ≤ i ∧ i < (↑(List.length l) : Int)) (Tree.need (Int.toNat i < List.length l) (Tree.need ((0 : Int) ≤ List.getD l (Int.toNat i) (0 : Int) ∧ List.getD l (Int.toNat i) (0 : Int) < (↑(List.length q) : Int)) (Tree.need ((0 : Int) ≤ (List.getD q (Int.toNat (List.getD l (Int.toNat i) (0 : Int))) ((0 : Int), (0 : Int), (0 : Int))).fst ∧ (List.getD q (Int.toNat (List.getD l (Int.toNat i) (0 : Int))) ((0 : Int), (0 : Int), (0 : Int))).fst < (↑(List.length g) : Int)) (Tree.need (Int.toNat (List.getD q (Int.toNat (List.getD l (Int.toNat i) (0 : Int))) ((0 : Int), (0 : Int), (0 : Int))).fst < List.length g) (Tree.cond (List.getD g (Int.toNat (List.getD q (Int.toNat (List.getD l (Int.toNat i) (0 : Int))) ((0 : Int), (0 : Int), (0 : Int))).fst) false) (Tree.leaf (Sum.inl (s, PUnit.unit, PUnit.unit, m, g, t, l, n, IntKind.wrap IntKind.i64 (i + (1 : Int)), ps, bs, q, PUnit.unit))) (Tree.need ((0 : Int) ≤ (List.getD q (Int.toNat (List.getD l (Int.toNat i) (0 : Int))) ((0 : Int), (0 : Int), (0 : Int))).fst ∧ (List.getD q (Int.toNat (List.getD l (Int.toNat i) (0 : Int))) ((0 : Int), (0 : Int), (0 : Int))).fst < (↑(List.length m) : Int)) (Tree.need (Int.toNat (List.getD q (Int.toNat (List.getD l (Int.toNat i) (0 : Int))) ((0 : Int), (0 : Int), (0 : Int))).fst < List.length m) (Tree.need ((↑(List.length (List.set m (Int.toNat (List.getD q (Int.toNat (List.getD l (Int.toNat i) (0 : Int))) ((0 : Int), (0 : Int), (0 : Int))).fst) (List.getD q (Int.toNat (List.getD l (Int.toNat i) (0 : Int))) ((0 : Int), (0 : Int), (0 : Int))).snd.fst)) : Int) < (2 : Int) ^ (62 : Nat)) (Tree.cond (!(allowS (ps, bs) s (List.set m (Int.toNat (List.getD q (Int.toNat (List.getD l (Int.toNat i) (0 : Int))) ((0 : Int), (0 : Int), (0 : Int))).fst) (List.getD q (Int.toNat (List.getD l (Int.toNat i) (0 : Int))) ((0 : Int), (0 : Int), (0 : Int))).snd.fst)).fst) (Tree.need ((0 : Int) ≤ (List.getD q (Int.toNat (List.getD l (Int.toNat i) (0 : Int))) ((0 : Int), (0 : Int), (0 : Int))).fst ∧ (List.getD q (Int.toNat (List.getD l (Int.toNat i) (0 : Int))) ((0 : Int), (0 : Int), (0 : Int))).fst < (↑(List.length (List.set m (Int.toNat (List.getD q (Int.toNat (List.getD l (Int.toNat i) (0 : Int))) ((0 : Int), (0 : Int), (0 : Int))).fst) (List.getD q (Int.toNat (List.getD l (Int.toNat i) (0 : Int))) ((0 : Int), (0 : Int), (0 : Int))).snd.fst)) : Int)) (Tree.need (Int.toNat (List.getD q (Int.toNat (List.getD l (Int.toNat i) (0 : Int))) ((0 : Int), (0 : Int), (0 : Int))).fst < List.length (List.set m (Int.toNat (List.getD q (Int.toNat (List.getD l (Int.toNat i) (0 : Int))) ((0 : Int), (0 : Int), (0 : Int))).fst) (List.getD q (Int.toNat (List.getD l (Int.toNat i) (0 : Int))) ((0 : Int), (0 : Int), (0 : Int))).snd.fst)) (Tree.leaf (Sum.inl (s, PUnit.unit, PUnit.unit, List.set (List.set m (Int.toNat (List.getD q (Int.toNat (List.getD l (Int.toNat i) (0 : Int))) ((0 : Int), (0 : Int), (0 : Int))).fst) (List.getD q (Int.toNat (List.getD l (Int.toNat i) (0 : Int))) ((0 : Int), (0 : Int), (0 : Int))).snd.fst) (Int.toNat (List.getD q (Int.toNat (List.getD l (Int.toNat i) (0 : Int))) ((0 : Int), (0 : Int), (0 : Int))).fst) (0 : Int), g, t, l, n, IntKind.wrap IntKind.i64 (i + (1 : Int)), ps, bs, q, PUnit.unit))))) (Tree.need ((0 : Int) ≤ (List.getD q (Int.toNat (List.getD l (Int.toNat i) (0 : Int))) ((0 : Int), (0 : Int), (0 : Int))).fst ∧ (List.getD q (Int.toNat (List.getD l (Int.toNat i) (0 : Int))) ((0 : Int), (0 : Int), (0 : Int))).fst < (↑(List.length g) : Int)) (Tree.need (Int.toNat (List.getD q (Int.toNat (List.getD l (Int.toNat i) (0 : Int))) ((0 : Int), (0 : Int), (0 : Int))).fst < List.length g) (Tree.need ((List.length t + List.length [List.getD l (Int.toNat i) (0 : Int)]) * (8 : Nat) ≤ (140737488355328 : Nat)) (Tree.leaf (Sum.inl (s, PUnit.unit, PUnit.unit, List.set m (Int.toNat (List.getD q (Int.toNat (List.getD l (Int.toNat i) (0 : Int))) ((0 : Int), (0 : Int), (0 : Int))).fst) (List.getD q (Int.toNat (List.getD l (Int.toNat i) (0 : Int))) ((0 : Int), (0 : Int), (0 : Int))).snd.fst, List.set g (Int.toNat (List.getD q (Int.toNat (List.getD l (Int.toNat i) (0 : Int))) ((0 : Int), (0 : Int), (0 : Int))).fst) true, t ++ [List.getD l (Int.toNat i) (0 : Int)], l, n, IntKind.wrap IntKind.i64 (i + (1 : Int)), ps, bs, q, PUnit.unit)))))))))))))))) (Tree.leaf (Sum.inr (Exit.exit (3 : Nat), Lay.st L_mrg3_0 noU (m, t, PUnit.unit)))) := by kernel_rfl
def inv_mrg3 : List Int × Unit × Unit × List Int × List Bool × List Int × List Int × Int × Int × List Int × List (Int × (Int × (Int × V))) × List V × Unit → Prop := fun (s, (), (), m, g, t, l, n, i, ps, bs, q, ()) => n = l.length ∧ 0 ≤ i ∧ i ≤ n ∧ (l.length : Int) ≤ 12 ∧ inQ q l ∧ (∀ x ∈ q, 0 ≤ x.1 ∧ x.1 < s.length) ∧ m.length = s.length ∧ g.length = s.length ∧ (s.length : Int) ≤ 4 ∧ (t.length : Int) ≤ i
def O_mrg3 : List Int × Unit × Unit × List Int × List Bool × List Int × List Int × Int × Int × List Int × List (Int × (Int × (Int × V))) × List V × Unit → Tree (Exit × St) := fun (s, (), (), m, g, t, l, n, i, ps, bs, q, ()) => (.leaf (.exit 3, L_mrg3_0.st noU (((mgS (ps, bs) s q (l.drop i.toNat) (m, g, t)).1), ((mgS (ps, bs) s q (l.drop i.toNat) (m, g, t)).2.2), ())))
def R_mrg3 : LRun := runOf 117 L_mrg3 (fun x => x) (inv_mrg3) (O_mrg3)
theorem K_mrg3 : LoopOk P [] 117 none noU C_mrg3 (R_mrg3) := by
  refine loop_of hm (cx := [c_AllowedX.gc]) [] (xl := X_mrg3) (α := List Int × Unit × Unit × List Int × List Bool × List Int × List Int × Int × Int × List Int × List (Int × (Int × (Int × V))) × List V × Unit) (fun x => x) (fun (s, (), (), m, g, t, l, n, i, ps, bs, q, ()) => (n - i).toNat) (fun _ => rfl) (by kernel_rfl) (by kernel_rfl) ?_ (by kernel_rfl) trivial ?_
  · intro e S L' h
    unfold X_mrg3 at h
    split at h <;> first | (cases h; done) | (cases h; kernel_rfl) | (rcases bif_some h with h | h <;> cases h <;> kernel_rfl)
  · rintro ⟨s, ⟨⟩, ⟨⟩, m, g, t, l, n, i, ps, bs, q, ⟨⟩⟩ hinv Q hQ
    refine hold_of_eq (B_mrg3 s m g t l n i ps bs q) ?_
    obtain ⟨rfl, h0, h1, h2, h3, h4, h5, h6, h7, h8⟩ := hinv
    rw [W_id (n := i + 1) (by omega) (by omega)]
    have hQ' : Q (.exit 3, L_mrg3_0.st noU ((mgS (ps, bs) s q (l.drop i.toNat) (m, g, t)).1, (mgS (ps, bs) s q (l.drop i.toNat) (m, g, t)).2.2, ())) := hQ
    refine ⟨fun c1 => ?_, fun c1 => ?_⟩
    · have d1 : i < l.length := of_decide_eq_true c1
      have hm : ((l.length : Int) - (i + 1)).toNat < ((l.length : Int) - i).toNat := by omega
      obtain ⟨x0, x1⟩ := h3 _ (getD_mem (d := (0 : Int)) (show i.toNat < l.length by omega))
      obtain ⟨y0, y1⟩ := h4 _ (getD_mem (d := zReq) (show (l.getD i.toNat 0).toNat < q.length by omega))
      rw [mgS_step h0 d1] at hQ'
      generalize q.getD (l.getD i.toNat 0).toNat zReq = x at *
      have b1 : x.1.toNat < g.length := by omega
      have b2 : x.1.toNat < m.length := by omega
      refine ⟨⟨h0, d1⟩, by omega, ⟨x0, x1⟩, ⟨y0, by omega⟩, b1, fun c2 => ?_, fun c2 => ⟨⟨y0, by omega⟩, b2, by rw [List.length_set]; omega, fun c3 => ⟨⟨y0, by rw [List.length_set]; omega⟩, by rw [List.length_set]; exact b2, ?_⟩, fun c3 => ⟨⟨y0, by omega⟩, b1, by show (t.length + 1) * 8 ≤ 140737488355328; omega, ?_⟩⟩⟩
      · rw [if_pos (show g.getD x.1.toNat false = true from c2)] at hQ'
        exact ⟨⟨⟨rfl, by omega, by omega, h2, h3, h4, h5, h6, h7, by omega⟩, hm⟩, hQ'⟩
      all_goals
        rw [if_neg (by rw [show g.getD x.1.toNat false = false from c2]; decide)] at hQ'
      · have d3 : (allowS (ps, bs) s (m.set x.1.toNat x.2.1)).1 = false := by simpa using c3
        rw [if_neg (by rw [d3]; decide)] at hQ'
        rw [List.set_set]
        exact ⟨⟨⟨rfl, by omega, by omega, h2, h3, h4, by rw [List.length_set]; exact h5, h6, h7, by omega⟩, hm⟩, hQ'⟩
      · have d3 : (allowS (ps, bs) s (m.set x.1.toNat x.2.1)).1 = true := by simpa using c3
        rw [if_pos d3] at hQ'
        exact ⟨⟨⟨rfl, by omega, by omega, h2, h3, h4, by rw [List.length_set]; exact h5, by rw [List.length_set]; exact h6, h7, by rw [List.length_append, List.length_singleton]; omega⟩, hm⟩, hQ'⟩
    · rw [drop_end (of_decide_eq_false c1), mgS_nil] at hQ'
      exact hQ'
theorem T_Merge (ps : List Int) (bs : List (Int × (Int × (Int × V)))) (s : List Int) (q : List V) : fnTree (P := P) [c_State.gc, c_SortStable.gc, c_Sort.gc] (lpOf [(0, R_mrg0), (3, R_mrg3)]) Try.f64 (encL 0 [.agg (.pair tIs (.sl (.pair tI (.pair tI (.pair tI tV))))), .val tIs, .val tVs] ((ps, bs), s, q, ())) =
  Tree.cond (stateS (ps, bs) s != (0 : Int)) (Tree.leaf (SV.tup [SV.nils, SV.nils, SV.int IntKind.i64 (stateS (ps, bs) s)])) (Tree.cond (decide ((↑(List.length q) : Int) > (12 : Int))) (Tree.leaf (SV.tup [SV.nils, SV.nils, SV.int IntKind.i64 (8 : Int)])) (Tree.need (inv_mrg0 (s, (), (), [], q, (↑(List.length q) : Int), (0 : Int), ps, bs, q, ())) (Tree.cond (decide (mrgE (↑(List.length s) : Int) (List.drop (Int.toNat (0 : Int)) q) = (0 : Int))) (Tree.need (List.length (cntI (Int.toNat ((↑(List.length q) : Int) - (0 : Int))) (0 : Int)) ≤ (12 : Nat) ∧ inQ q (cntI (Int.toNat ((↑(List.length q) : Int) - (0 : Int))) (0 : Int))) (Tree.need ((0 : Int) ≤ (↑(List.length s) : Int) ∧ (↑(List.length s) : Int) = (↑(List.length s) : Int) ∧ (↑(List.length s) : Int) ≤ (70368744177664 : Int) ∧ (↑(8 : Nat) : Int) * (↑(List.length s) : Int) ≤ (140737488355328 : Int)) (Tree.need ((0 : Int) ≤ (↑(List.length s) : Int) ∧ (↑(List.length s) : Int) = (↑(List.length s) : Int) ∧ (↑(List.length s) : Int) ≤ (70368744177664 : Int) ∧ (↑(1 : Nat) : Int) * (↑(List.length s) : Int) ≤ (140737488355328 : Int)) (Tree.need (inv_mrg3 (s, (), (), List.replicate (Int.toNat (↑(List.length s) : Int)) (0 : Int), List.replicate (Int.toNat (↑(List.length s) : Int)) false, [], isO (ltR q) (0 : Int) (Int.toNat ((↑(List.length (cntI (Int.toNat ((↑(List.length q) : Int) - (0 : Int))) (0 : Int))) : Int) - (1 : Int))) (1 : Int) (cntI (Int.toNat ((↑(List.length q) : Int) - (0 : Int))) (0 : Int)), (↑(List.length (isO (ltR q) (0 : Int) (Int.toNat ((↑(List.length (cntI (Int.toNat ((↑(List.length q) : Int) - (0 : Int))) (0 : Int))) : Int) - (1 : Int))) (1 : Int) (cntI (Int.toNat ((↑(List.length q) : Int) - (0 : Int))) (0 : Int)))) : Int), (0 : Int), ps, bs, q, ())) (Tree.need (List.length (mgS (ps, bs) s q (List.drop (Int.toNat (0 : Int)) (isO (ltR q) (0 : Int) (Int.toNat ((↑(List.length (cntI (Int.toNat ((↑(List.length q) : Int) - (0 : Int))) (0 : Int))) : Int) - (1 : Int))) (1 : Int) (cntI (Int.toNat ((↑(List.length q) : Int) - (0 : Int))) (0 : Int)))) (List.replicate (Int.toNat (↑(List.length s) : Int)) (0 : Int), List.replicate (Int.toNat (↑(List.length s) : Int)) false, [])).snd.snd ≤ (12 : Nat)) (Tree.leaf (SV.tup [SV.sl (Ty.int IntKind.i64) (mgS (ps, bs) s q (List.drop (Int.toNat (0 : Int)) (isO (ltR q) (0 : Int) (Int.toNat ((↑(List.length (cntI (Int.toNat ((↑(List.length q) : Int) - (0 : Int))) (0 : Int))) : Int) - (1 : Int))) (1 : Int) (cntI (Int.toNat ((↑(List.length q) : Int) - (0 : Int))) (0 : Int)))) (List.replicate (Int.toNat (↑(List.length s) : Int)) (0 : Int), List.replicate (Int.toNat (↑(List.length s) : Int)) false, [])).fst, SV.sl (Ty.int IntKind.i64) (isO ltI (0 : Int) (Int.toNat ((↑(List.length (mgS (ps, bs) s q (List.drop (Int.toNat (0 : Int)) (isO (ltR q) (0 : Int) (Int.toNat ((↑(List.length (cntI (Int.toNat ((↑(List.length q) : Int) - (0 : Int))) (0 : Int))) : Int) - (1 : Int))) (1 : Int) (cntI (Int.toNat ((↑(List.length q) : Int) - (0 : Int))) (0 : Int)))) (List.replicate (Int.toNat (↑(List.length s) : Int)) (0 : Int), List.replicate (Int.toNat (↑(List.length s) : Int)) false, [])).snd.snd) : Int) - (1 : Int))) (1 : Int) (mgS (ps, bs) s q (List.drop (Int.toNat (0 : Int)) (isO (ltR q) (0 : Int) (Int.toNat ((↑(List.length (cntI (Int.toNat ((↑(List.length q) : Int) - (0 : Int))) (0 : Int))) : Int) - (1 : Int))) (1 : Int) (cntI (Int.toNat ((↑(List.length q) : Int) - (0 : Int))) (0 : Int)))) (List.replicate (Int.toNat (↑(List.length s) : Int)) (0 : Int), List.replicate (Int.toNat (↑(List.length s) : Int)) false, [])).snd.snd), SV.int IntKind.i64 (0 : Int)]))))))) (Tree.leaf (SV.tup [SV.nils, SV.nils, SV.int IntKind.i64 (mrgE (↑(List.length s) : Int) (List.drop (Int.toNat (0 : Int)) q))]))))) := by kernel_rfl
def c_Merge : PC P := PC.of (α := (List Int × List (Int × (Int × (Int × V)))) × List Int × List V × Unit) 64 [.agg (.pair tIs (.sl (.pair tI (.pair tI (.pair tI tV))))), .val tIs, .val tVs] (fun x => x) (fun x => x) (fun _ => rfl)
  (fun x => some ((x.2.2.1.length : Int) < 2 ^ 62))
  (fun x => .tup [.sl tI (mrgS (x.1.1, x.1.2) x.2.1 x.2.2.1).1, .sl tI (mrgS (x.1.1, x.1.2) x.2.1 x.2.2.1).2.1, .int .i64 (mrgS (x.1.1, x.1.2) x.2.1 x.2.2.1).2.2]) (by kernel_rfl) (by
    rintro ⟨⟨ps, bs⟩, s, q, ⟨⟩⟩ hp
    refine fn_le hm (by kernel_rfl) (by kernel_rfl) (T_Merge ps bs s q) ⟨K_mrg0, K_mrg3, trivial⟩ (by kernel_rfl) ?_
    try dsimp only at hp
    try dsimp only
    have hp' : (q.length : Int) < 2 ^ 62 := hp
    have bad : ∀ e : Int, mrgErr (ps, bs) s q = e → e ≠ 0 → LeS (.tup [.nils, .nils, .int .i64 e]) (.tup [.sl tI (mrgS (ps, bs) s q).1, .sl tI (mrgS (ps, bs) s q).2.1, .int .i64 (mrgS (ps, bs) s q).2.2]) := fun e q1 q2 => by
      unfold mrgS
      rw [q1, if_pos q2]
      exact leS_n3 e
    refine ⟨fun c1 => ?_, fun c1 => ?_⟩
    · have d1 : stateS (ps, bs) s ≠ 0 := by simpa using c1
      exact bad _ (by unfold mrgErr; rw [if_pos d1]) d1
    have d1 : stateS (ps, bs) s = 0 := by simpa using c1
    obtain ⟨a1, a2, a3⟩ := stateS_in (r := (ps, bs)) (.inl d1)
    obtain ⟨k1, k2, k3, k4, k5⟩ := checkS_ok a1
    dsimp only at a2 k1 k2
    simp only [Int.toNat_zero, List.drop_zero, Int.sub_zero, Int.toNat_natCast]
    refine ⟨fun c2 => ?_, fun c2 => ?_⟩
    · have d2 := of_decide_eq_true c2
      exact bad 8 (by unfold mrgErr; rw [if_neg (by rw [d1]; simp), if_pos (by omega)]) (by decide)
    have d2 := of_decide_eq_false c2
    have n2 : ¬ q.length > 12 := by omega
    refine ⟨⟨rfl, by decide, by omega, by omega, by decide, by omega⟩, fun c3 => ?_, fun c3 => ?_⟩
    · have d3 : mrgE s.length q = 0 := of_decide_eq_true c3
      have hE : mrgErr (ps, bs) s q = 0 := by unfold mrgErr; rw [if_neg (by rw [d1]; simp), if_neg n2, d3]
      have hok := mrgE_ok d3
      have hlen := mgS_len (r := (ps, bs)) (s := s) (q := q) (ordS q) (List.replicate s.length 0, List.replicate s.length false, [])
      have hol := ordS_len q
      have hoi := ordS_in q
      have eo : isO (ltR q) 0 ((((cntI q.length 0).length : Nat) : Int) - 1).toNat 1 (cntI q.length 0) = ordS q := by unfold ordS; rw [cntI_len]
      rw [eo]
      have er : mrgS (ps, bs) s q = ((mg0 (ps, bs) s q).1, isO ltI 0 (((mg0 (ps, bs) s q).2.2.length : Int) - 1).toNat 1 (mg0 (ps, bs) s q).2.2, 0) := by
        unfold mrgS
        rw [hE, if_neg (by decide)]
      rw [er]
      unfold mg0
      generalize ordS q = o at *
      rw [List.length_nil, Nat.zero_add] at hlen
      obtain ⟨g1, g2, g3⟩ := hlen
      refine ⟨⟨by rw [cntI_len]; omega, inQ_cnt q⟩, ⟨by omega, trivial, by omega, by omega⟩, ⟨by omega, trivial, by omega, by omega⟩, ⟨rfl, by decide, by omega, by omega, hoi, fun x hx => (hok x hx).1, List.length_replicate, List.length_replicate, by omega, by decide⟩, by omega, leS_t3 _ _ 0⟩
    · have d3 : ¬ mrgE s.length q = 0 := of_decide_eq_false c3
      exact bad _ (by unfold mrgErr; rw [if_neg (by rw [d1]; simp), if_neg n2]) d3)
end
end Go.MR
