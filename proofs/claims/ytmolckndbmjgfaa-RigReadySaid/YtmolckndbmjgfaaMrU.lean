/- Rigs: all allowed moves. -/
import Derived.Test.YtmolckndbmjgfaaMrQ
import Derived.Test.YtmolckndbmjgfaaMrO
namespace Go.MR
open Go Go.Sx Go.Proofs
set_option linter.unusedVariables false
set_option linter.unusedSimpArgs false
noncomputable section
def accM (p : List Int → Bool) (acc l : List (List Int)) : List (List Int) := acc ++ l.filter p
theorem accM_nil (p : List Int → Bool) (acc : List (List Int)) : accM p acc [] = acc := by unfold accM; rw [List.filter_nil, List.append_nil]
theorem accM_yes {p : List Int → Bool} {acc l : List (List Int)} {m : List Int} (h : p m = true) : accM p acc (m :: l) = accM p (acc ++ [m]) l := by
  unfold accM; rw [List.filter_cons_of_pos h, List.append_cons]
theorem accM_no {p : List Int → Bool} {acc l : List (List Int)} {m : List Int} (h : p m = false) : accM p acc (m :: l) = accM p acc l := by
  unfold accM; rw [List.filter_cons_of_neg (by rw [h]; decide)]
theorem allM_card : ∀ n : Nat, (allM n).length = 3 ^ n
  | 0 => rfl
  | n + 1 => by
    rw [allM, List.length_append, List.length_append, List.length_map, List.length_map, List.length_map, allM_card n, Nat.pow_succ]
    omega
def movesS (r : Rig) (s : List Int) : List (List Int) := if stateS r s ≠ 0 then [] else (allM s.length).filter (okM r.1 r.2 s)
theorem leS_ll (l : List (List Int)) : LeS (.sl tIs l) (.sl tIs l) := by simp [LeS]
theorem leS_nl : LeS .nils (.sl tIs []) := by simp [LeS]
theorem stOk_of {r : Rig} {s : List Int} (h : stateS r s = 0) : StOk r.1 r.2 s := by
  obtain ⟨a1, a2, a3⟩ := stateS_in (r := r) (s := s) (.inl h)
  obtain ⟨k1, k2, k3, k4, k5⟩ := checkS_ok a1
  exact ⟨k1, k2, k3, a2, a3, k4, banEs_all k5⟩
def consR (x : Int) : List (List Int) → List (List Int)
  | m :: l => (x :: m) :: consR x l
  | [] => []
theorem consR_map (x : Int) : ∀ l : List (List Int), consR x l = l.map (x :: ·)
  | [] => rfl
  | m :: l => by rw [consR, consR_map x l, List.map_cons]
theorem consR_step {x i : Int} {l : List (List Int)} (h0 : 0 ≤ i) (h : i < l.length) : consR x (l.drop i.toNat) = (x :: l.getD i.toNat []) :: consR x (l.drop (i + 1).toNat) := by
  rw [drop_step ([] : List Int) h0 h, consR]
def firstsR (l : List (List Int)) : Nat → Int → List (List Int)
  | 0, _ => []
  | k + 1, x => consR x l ++ firstsR l k (x + 1)
def L_rall : Lay := { slots := [(0, .val tI)] }
def pre_rall : Int × Unit → Prop := fun (n, _) => 0 ≤ n ∧ n ≤ 8
def mu_rall : Int × Unit → Nat := fun (n, _) => n.toNat
def out_rall : Int × Unit → MOut := fun (n, _) => ⟨.own 100, [], [.row 22 tIs (allM n.toNat)]⟩
def H_rall (n : Nat) : Prop := ∀ a : Int × Unit, ndP (some (pre_rall a ∧ mu_rall a < n)) → MFnOk P 86 L_rall ((fun x => x) a) (out_rall a)
def r_rall (n : Nat) (hok : H_rall n) : MC P := MC.of (α := Int × Unit) 86 L_rall (fun x => x) (fun x => x) (fun _ => rfl) (fun a => some (pre_rall a ∧ mu_rall a < n)) out_rall (by kernel_rfl) (by kernel_rfl) (by kernel_rfl) hok
def L_rall2 : Lay := { slots := [(3, .row 22 tIs), (4, .val (.sl tIs)), (5, .val tI), (6, .val tI)] }
def L_rall2_0 : Lay := { slots := [(3, .row 22 tIs), (4, .val (.sl tIs)), (5, .val tI)] }
def X_rall2 : Exit → St → Option Lay
  | .exit 2, _ => some L_rall2_0
  | _, _ => none
abbrev C_rall2 : Code := loopC (inner (loopC (bodyOf Try.f86) 0)) 2
theorem B_rall2 (n : Nat) (hok : H_rall n) (r l : List (List Int)) (x i : Int) : loopBodyA (P := P) [] (lpOf []) [] 34 (usd noU (L_rall.ids ++ rowIds rowBase L_rall.shs)) (inner C_rall2) L_rall2 X_rall2 (α := List (List Int) × List (List Int) × Int × Int × Unit) (fun x => x) (fun x => x) (r, l, x, i, ()) =
  Tree.cond (decide (i < (↑(List.length l) : Int))) (Tree.need ((0 : Int) ≤ i ∧ i < (↑(List.length l) : Int)) (Tree.need ((List.length [x] + List.length (List.getD l (Int.toNat i) [])) * (8 : Nat) ≤ (140737488355328 : Nat)) (Tree.need ((List.length r + List.length [[x] ++ List.getD l (Int.toNat i) []]) * (24 : Nat) ≤ (140737488355328 : Nat)) (Tree.leaf (Sum.inl (r ++ [[x] ++ List.getD l (Int.toNat i) []], l, x, IntKind.wrap IntKind.i64 (i + (1 : Int)), PUnit.unit)))))) (Tree.leaf (Sum.inr (Exit.exit (2 : Nat), Lay.st L_rall2_0 (usd noU (Lay.ids L_rall ++ rowIds rowBase (Lay.shs L_rall))) (r, l, x, PUnit.unit)))) := by kernel_rfl
def inv_rall2 (n : Nat) (hok : H_rall n) : List (List Int) × List (List Int) × Int × Int × Unit → Prop := fun (r, l, x, i, ()) => 0 ≤ i ∧ i ≤ l.length ∧ l.length ≤ 10000 ∧ (r.length : Int) + (l.length - i) ≤ 100000 ∧ ∀ m ∈ l, m.length ≤ 10
def O_rall2 (n : Nat) (hok : H_rall n) : List (List Int) × List (List Int) × Int × Int × Unit → Tree (Exit × St) := fun (r, l, x, i, ()) => (.leaf (.exit 2, L_rall2_0.st (usd noU (L_rall.ids ++ rowIds rowBase L_rall.shs)) ((r ++ consR x (l.drop i.toNat)), l, x, ())))
def R_rall2 (n : Nat) (hok : H_rall n) : LRun := runOf 34 L_rall2 (fun x => x) (inv_rall2 n hok) (O_rall2 n hok)
theorem K_rall2 (n : Nat) (hok : H_rall n) : LoopOk P [] 34 none (usd noU (L_rall.ids ++ rowIds rowBase L_rall.shs)) C_rall2 (R_rall2 n hok) := by
  refine loop_of hm (cx := []) [] (xl := X_rall2) (α := List (List Int) × List (List Int) × Int × Int × Unit) (fun x => x) (fun (r, l, x, i, ()) => ((l.length : Int) - i).toNat) (fun _ => rfl) (by kernel_rfl) (by kernel_rfl) ?_ (by kernel_rfl) trivial ?_
  · intro e S L' h
    unfold X_rall2 at h
    split at h <;> first | (cases h; done) | (cases h; kernel_rfl) | (rcases bif_some h with h | h <;> cases h <;> kernel_rfl)
  · rintro ⟨r, l, x, i, ⟨⟩⟩ hinv Q hQ
    refine hold_of_eq (B_rall2 n hok r l x i) ?_
    obtain ⟨h0, h1, h2, h3, h4⟩ := hinv
    rw [W_id (n := i + 1) (by omega) (by omega)]
    have hQ' : Q (.exit 2, L_rall2_0.st (usd noU (L_rall.ids ++ rowIds rowBase L_rall.shs)) (r ++ consR x (l.drop i.toNat), l, x, ())) := hQ
    refine ⟨fun c1 => ?_, fun c1 => ?_⟩
    · have d1 : i < l.length := of_decide_eq_true c1
      have hm : ((l.length : Int) - (i + 1)).toNat < ((l.length : Int) - i).toNat := by omega
      have hl := h4 _ (getD_mem (d := ([] : List Int)) (show i.toNat < l.length by omega))
      rw [consR_step h0 d1, List.append_cons] at hQ'
      refine ⟨⟨h0, d1⟩, ?_, ?_, ⟨⟨by omega, by omega, h2, ?_, h4⟩, hm⟩, hQ'⟩
      · show (1 + (l.getD i.toNat []).length) * 8 ≤ 140737488355328; omega
      · show (r.length + 1) * 24 ≤ 140737488355328; omega
      · show ((r ++ [_]).length : Int) + _ ≤ _
        rw [List.length_append]; show ((r.length + 1 : Nat) : Int) + _ ≤ _; omega
    · have d1 : ¬ i < l.length := of_decide_eq_false c1
      rw [drop_end d1, consR, List.append_nil] at hQ'
      exact hQ'
def L_rall0 : Lay := { slots := [(3, .row 22 tIs), (4, .val (.sl tIs)), (5, .val tI)] }
def L_rall0_0 : Lay := { slots := [(3, .row 22 tIs)] }
def X_rall0 : Exit → St → Option Lay
  | .exit 0, _ => some L_rall0_0
  | _, _ => none
abbrev C_rall0 : Code := loopC (bodyOf Try.f86) 0
theorem B_rall0 (n : Nat) (hok : H_rall n) (r l : List (List Int)) (x : Int) : loopBodyA (P := P) [] (lpOf [(2, R_rall2 n hok)]) [] 34 (usd noU (L_rall.ids ++ rowIds rowBase L_rall.shs)) (inner C_rall0) L_rall0 X_rall0 (α := List (List Int) × List (List Int) × Int × Unit) (fun x => x) (fun x => x) (r, l, x, ()) =
  Tree.cond (decide (x ≤ (1 : Int))) (Tree.need (inv_rall2 n hok (r, l, x, (0 : Int), ())) (Tree.leaf (Sum.inl (r ++ consR x (List.drop (Int.toNat (0 : Int)) l), l, IntKind.wrap IntKind.i64 (x + (1 : Int)), PUnit.unit)))) (Tree.leaf (Sum.inr (Exit.exit (0 : Nat), Lay.st L_rall0_0 (usd noU (Lay.ids L_rall ++ rowIds rowBase (Lay.shs L_rall))) (r, PUnit.unit)))) := by kernel_rfl
def inv_rall0 (n : Nat) (hok : H_rall n) : List (List Int) × List (List Int) × Int × Unit → Prop := fun (r, l, x, ()) => -1 ≤ x ∧ x ≤ 2 ∧ l.length ≤ 10000 ∧ (r.length : Int) ≤ 10000 * (x + 1) ∧ ∀ m ∈ l, m.length ≤ 10
def O_rall0 (n : Nat) (hok : H_rall n) : List (List Int) × List (List Int) × Int × Unit → Tree (Exit × St) := fun (r, l, x, ()) => (.leaf (.exit 0, L_rall0_0.st (usd noU (L_rall.ids ++ rowIds rowBase L_rall.shs)) ((r ++ firstsR l (2 - x).toNat x), ())))
def R_rall0 (n : Nat) (hok : H_rall n) : LRun := runOf 34 L_rall0 (fun x => x) (inv_rall0 n hok) (O_rall0 n hok)
theorem K_rall0 (n : Nat) (hok : H_rall n) : LoopOk P [] 34 none (usd noU (L_rall.ids ++ rowIds rowBase L_rall.shs)) C_rall0 (R_rall0 n hok) := by
  refine loop_of hm (cx := []) [(2, R_rall2 n hok)] (xl := X_rall0) (α := List (List Int) × List (List Int) × Int × Unit) (fun x => x) (fun (r, l, x, ()) => (2 - x).toNat) (fun _ => rfl) (by kernel_rfl) (by kernel_rfl) ?_ (by kernel_rfl) ⟨K_rall2 n hok, trivial⟩ ?_
  · intro e S L' h
    unfold X_rall0 at h
    split at h <;> first | (cases h; done) | (cases h; kernel_rfl) | (rcases bif_some h with h | h <;> cases h <;> kernel_rfl)
  · rintro ⟨r, l, x, ⟨⟩⟩ hinv Q hQ
    refine hold_of_eq (B_rall0 n hok r l x) ?_
    obtain ⟨h0, h1, h2, h3, h4⟩ := hinv
    rw [W_id (n := x + 1) (by omega) (by omega)]
    simp only [Int.toNat_zero, List.drop_zero]
    have hQ' : Q (.exit 0, L_rall0_0.st (usd noU (L_rall.ids ++ rowIds rowBase L_rall.shs)) (r ++ firstsR l (2 - x).toNat x, ())) := hQ
    refine ⟨fun c1 => ?_, fun c1 => ?_⟩
    · have d1 : x ≤ 1 := of_decide_eq_true c1
      have hm : (2 - (x + 1)).toNat < (2 - x).toNat := by omega
      rw [show (2 - x).toNat = (2 - (x + 1)).toNat + 1 by omega, firstsR, ← List.append_assoc] at hQ'
      refine ⟨⟨by decide, by omega, h2, by omega, h4⟩, ⟨⟨by omega, by omega, h2, ?_, h4⟩, hm⟩, hQ'⟩
      show ((r ++ consR x l).length : Int) ≤ _
      rw [List.length_append, consR_map, List.length_map]
      omega
    · have d1 : ¬ x ≤ 1 := of_decide_eq_false c1
      rw [show (2 - x).toNat = 0 by omega, firstsR, List.append_nil] at hQ'
      exact hQ'
theorem firsts_all (n : Nat) : firstsR (allM n) 3 (-1) = allM (n + 1) := by
  rw [firstsR, firstsR, firstsR, firstsR, consR_map, consR_map, consR_map, List.append_nil, allM]
  rfl
theorem T_rall (n : Nat) (hok : H_rall n) (m : Int) : mTree (P := P) [(r_rall n hok).gc] (lpOf [(0, R_rall0 n hok)]) Try.f86 L_rall true (m, ()) =
  Tree.cond (m == (0 : Int)) (Tree.leaf { res := SV.own (nat_lit 100), boxes := [], news := [Ob.row (22 : Nat) (Ty.sl (Ty.int IntKind.i64)) [[]]] }) (Tree.need (pre_rall (IntKind.wrap IntKind.i64 (m - (1 : Int)), ()) ∧ mu_rall (IntKind.wrap IntKind.i64 (m - (1 : Int)), ()) < n) (Tree.need (inv_rall0 n hok ([], allM (Int.toNat (IntKind.wrap IntKind.i64 (m - (1 : Int)))), (-1 : Int), ())) (Tree.leaf { res := SV.own (nat_lit 100), boxes := [], news := [Ob.row (22 : TypeId) tIs (firstsR (allM (Int.toNat (IntKind.wrap IntKind.i64 (m - (1 : Int))))) (Int.toNat ((2 : Int) - (-1 : Int))) (-1 : Int))] }))) := by kernel_rfl
theorem M_rall : ∀ n, H_rall n := by
  intro n
  induction n with
  | zero => exact fun a h => absurd h.2 (Nat.not_lt_zero _)
  | succ n hok =>
    rintro ⟨m, ⟨⟩⟩ hp
    refine m_of hm (own := true) (by kernel_rfl) (by kernel_rfl) (by kernel_rfl) (T_rall n hok m) ⟨K_rall0 n hok, trivial⟩ ?_
    obtain ⟨⟨p1, p2⟩, p3⟩ : (0 ≤ m ∧ m ≤ 8) ∧ m.toNat < n + 1 := hp
    have h3 : 3 ^ (m - 1).toNat ≤ 10000 := by
      have : (m - 1).toNat = 0 ∨ (m - 1).toNat = 1 ∨ (m - 1).toNat = 2 ∨ (m - 1).toNat = 3 ∨ (m - 1).toNat = 4 ∨ (m - 1).toNat = 5 ∨ (m - 1).toNat = 6 ∨ (m - 1).toNat = 7 := by omega
      rcases this with e | e | e | e | e | e | e | e <;> rw [e] <;> decide
    rw [W_id (n := m - 1) (by omega) (by omega)]
    refine ⟨fun c1 => ?_, fun c1 => ?_⟩
    · have d1 : m = 0 := eq_of_beq c1
      subst d1
      rfl
    · have d1 : m ≠ 0 := ne_of_beq_false c1
      refine ⟨⟨⟨by omega, by omega⟩, by show (m - 1).toNat < n; omega⟩, ⟨by decide, by decide, by rw [allM_card]; exact h3, by rw [List.length_nil]; decide, fun x hx => by rw [allM_len hx]; omega⟩, ?_⟩
      have e : firstsR (allM (m - 1).toNat) (2 - -1 : Int).toNat (-1) = allM m.toNat := by
        rw [show (2 - -1 : Int).toNat = 3 by decide, firsts_all, show (m - 1).toNat + 1 = m.toNat by omega]
      exact congrArg (fun k : List (List Int) => (⟨.own 100, [], [.row 22 tIs k]⟩ : MOut)) e
def c_rall : MC P := MC.of (α := Int × Unit) 86 L_rall (fun x => x) (fun x => x) (fun _ => rfl) (fun a => some (pre_rall a)) out_rall (by kernel_rfl) (by kernel_rfl) (by kernel_rfl) (fun a h => M_rall (mu_rall a + 1) a ⟨h, Nat.lt_succ_self _⟩)
theorem moveS_of {r : Rig} {m : List Int} (hl : m.length = r.1.length) (hm : isM m) : moveS r m = true := by
  unfold moveS
  rw [decide_eq_true (by omega), Bool.true_and]
  cases e : m.any badM with
  | false => rfl
  | true =>
    rw [List.any_eq_true] at e
    obtain ⟨x, hx, hb⟩ := e
    have := hm x hx
    unfold badM wi at hb
    rw [decide_eq_true (by omega), decide_eq_true (by omega)] at hb
    cases hb
theorem allow_ok {r : Rig} {s m : List Int} (h : stateS r s = 0) (hm : moveS r m = true) : (allowS r s m).1 = okM r.1 r.2 s m := by
  unfold allowS okM
  rw [if_neg (by rw [h, hm]; simp)]
  cases e : (waysS s m r.1).2 with
  | false => rw [if_pos rfl, Bool.false_and]
  | true => rw [if_neg (by simp), Bool.true_and]
theorem filter_congr' {p q : List Int → Bool} : ∀ {l : List (List Int)}, (∀ x ∈ l, p x = q x) → l.filter p = l.filter q
  | [], _ => rfl
  | x :: l, h => by
    rw [List.filter_cons, List.filter_cons, h x (by simp), filter_congr' (fun y hy => h y (List.mem_cons_of_mem _ hy))]
def L_rmv0 : Lay := { slots := [(1, .val tIs), (2, .ptr 3042 0), (5, .row 22 tIs), (6, .val (.sl tIs)), (7, .val tI)], boxes := [(3042, [.val tIs, .val (.sl (.pair tI (.pair tI (.pair tI tV))))])] }
def L_rmv0_0 : Lay := { slots := [(5, .row 22 tIs)] }
def X_rmv0 : Exit → St → Option Lay
  | .exit 0, _ => some L_rmv0_0
  | _, _ => none
abbrev C_rmv0 : Code := loopC (bodyOf Try.f41) 0
theorem B_rmv0 (s : List Int) (r l : List (List Int)) (i : Int) (ps : List Int) (bs : List (Int × (Int × (Int × V)))) : loopBodyA (P := P) [c_rAllowed.gc] (lpOf []) [] 42 noU (inner C_rmv0) L_rmv0 X_rmv0 (α := List Int × Unit × List (List Int) × List (List Int) × Int × List Int × List (Int × (Int × (Int × V))) × Unit) (fun x => x) (fun x => x) (s, (), r, l, i, ps, bs, ()) =
  Tree.cond (decide (i < (↑(List.length l) : Int))) (Tree.need ((0 : Int) ≤ i ∧ i < (↑(List.length l) : Int)) (Tree.need ((↑(List.length s) : Int) < (2 : Int) ^ (62 : Nat) ∧ (↑(List.length (List.getD l (Int.toNat i) [])) : Int) < (2 : Int) ^ (62 : Nat)) (Tree.cond (allowS (ps, bs) s (List.getD l (Int.toNat i) [])).fst (Tree.need ((0 : Int) ≤ i ∧ i < (↑(List.length l) : Int)) (Tree.need ((List.length r + List.length [List.getD l (Int.toNat i) []]) * (24 : Nat) ≤ (140737488355328 : Nat)) (Tree.leaf (Sum.inl (s, PUnit.unit, r ++ [List.getD l (Int.toNat i) []], l, IntKind.wrap IntKind.i64 (i + (1 : Int)), ps, bs, PUnit.unit))))) (Tree.leaf (Sum.inl (s, PUnit.unit, r, l, IntKind.wrap IntKind.i64 (i + (1 : Int)), ps, bs, PUnit.unit)))))) (Tree.leaf (Sum.inr (Exit.exit (0 : Nat), Lay.st L_rmv0_0 noU (r, PUnit.unit)))) := by kernel_rfl
def inv_rmv0 : List Int × Unit × List (List Int) × List (List Int) × Int × List Int × List (Int × (Int × (Int × V))) × Unit → Prop := fun (s, (), r, l, i, ps, bs, ()) => 0 ≤ i ∧ i ≤ l.length ∧ l.length ≤ 10000 ∧ (r.length : Int) ≤ i ∧ (s.length : Int) < 2 ^ 62 ∧ ∀ m ∈ l, m.length ≤ 10
def O_rmv0 : List Int × Unit × List (List Int) × List (List Int) × Int × List Int × List (Int × (Int × (Int × V))) × Unit → Tree (Exit × St) := fun (s, (), r, l, i, ps, bs, ()) => (.leaf (.exit 0, L_rmv0_0.st noU ((accM (fun m => (allowS (ps, bs) s m).1) r (l.drop i.toNat)), ())))
def R_rmv0 : LRun := runOf 42 L_rmv0 (fun x => x) (inv_rmv0) (O_rmv0)
theorem K_rmv0 : LoopOk P [] 42 none noU C_rmv0 (R_rmv0) := by
  refine loop_of hm (cx := [c_rAllowed.gc]) [] (xl := X_rmv0) (α := List Int × Unit × List (List Int) × List (List Int) × Int × List Int × List (Int × (Int × (Int × V))) × Unit) (fun x => x) (fun (s, (), r, l, i, ps, bs, ()) => ((l.length : Int) - i).toNat) (fun _ => rfl) (by kernel_rfl) (by kernel_rfl) ?_ (by kernel_rfl) trivial ?_
  · intro e S L' h
    unfold X_rmv0 at h
    split at h <;> first | (cases h; done) | (cases h; kernel_rfl) | (rcases bif_some h with h | h <;> cases h <;> kernel_rfl)
  · rintro ⟨s, ⟨⟩, r, l, i, ps, bs, ⟨⟩⟩ hinv Q hQ
    refine hold_of_eq (B_rmv0 s r l i ps bs) ?_
    obtain ⟨h0, h1, h2, h3, h4, h5⟩ := hinv
    rw [W_id (n := i + 1) (by omega) (by omega)]
    have hQ' : Q (.exit 0, L_rmv0_0.st noU (accM (fun m => (allowS (ps, bs) s m).1) r (l.drop i.toNat), ())) := hQ
    refine ⟨fun c1 => ?_, fun c1 => ?_⟩
    · have d1 : i < l.length := of_decide_eq_true c1
      have hm : ((l.length : Int) - (i + 1)).toNat < ((l.length : Int) - i).toNat := by omega
      have hl := h5 _ (getD_mem (d := ([] : List Int)) (show i.toNat < l.length by omega))
      rw [drop_step ([] : List Int) h0 d1] at hQ'
      refine ⟨⟨h0, d1⟩, ⟨h4, by omega⟩, fun c2 => ⟨⟨h0, d1⟩, ?_, ⟨⟨by omega, by omega, h2, ?_, h4, h5⟩, hm⟩, ?_⟩, fun c2 => ⟨⟨⟨by omega, by omega, h2, by omega, h4, h5⟩, hm⟩, ?_⟩⟩
      · show (r.length + 1) * 24 ≤ 140737488355328; omega
      · show ((r ++ [_]).length : Int) ≤ _
        rw [List.length_append]; show ((r.length + 1 : Nat) : Int) ≤ _; omega
      · rw [accM_yes c2] at hQ'
        exact hQ'
      · rw [accM_no c2] at hQ'
        exact hQ'
    · have d1 : ¬ i < l.length := of_decide_eq_false c1
      rw [drop_end d1, accM_nil] at hQ'
      exact hQ'
theorem T_rMoves (s0_0 : List Int) (s0_1 : List (Int × (Int × (Int × V)))) (s1 : List Int) : fnTree (P := P) [c_rState.gc, c_rall.gc] (lpOf [(0, R_rmv0)]) Try.f41 (encL 0 [.agg (.pair tIs (.sl (.pair tI (.pair tI (.pair tI tV))))), .val tIs] ((s0_0, s0_1), s1, ())) =
  Tree.need ((↑(List.length s1) : Int) < (2 : Int) ^ (62 : Nat)) (Tree.cond (stateS (s0_0, s0_1) s1 != (0 : Int)) (Tree.leaf SV.nils) (Tree.need (pre_rall ((↑(List.length s1) : Int), ())) (Tree.need (inv_rmv0 (s1, (), [], allM (Int.toNat (↑(List.length s1) : Int)), (0 : Int), s0_0, s0_1, ())) (Tree.leaf (SV.sl (Ty.sl tI) (accM (fun m => (allowS (s0_0, s0_1) s1 m).fst) [] (List.drop (Int.toNat (0 : Int)) (allM (Int.toNat (↑(List.length s1) : Int)))))))))) := by kernel_rfl
def c_rMoves : PC P := PC.of (α := (List Int × List (Int × (Int × (Int × V)))) × List Int × Unit) 41 [.agg (.pair tIs (.sl (.pair tI (.pair tI (.pair tI tV))))), .val tIs] (fun x => x) (fun x => x) (fun _ => rfl)
  (fun x => some ((x.2.1.length : Int) < 2 ^ 62))
  (fun x => .sl tIs (movesS x.1 x.2.1)) (by kernel_rfl) (by
    rintro ⟨⟨s0_0, s0_1⟩, s1, ⟨⟩⟩ hp
    refine fn_le hm (by kernel_rfl) (by kernel_rfl) (T_rMoves s0_0 s0_1 s1) ⟨K_rmv0, trivial⟩ (by kernel_rfl) ?_
    try dsimp only at hp
    try dsimp only
    have hp' : (s1.length : Int) < 2 ^ 62 := hp
    refine ⟨hp', fun c1 => ?_, fun c1 => ?_⟩
    · have d1 : stateS (s0_0, s0_1) s1 ≠ 0 := by simpa using c1
      have e : movesS (s0_0, s0_1) s1 = [] := by unfold movesS; rw [if_pos d1]
      rw [e]
      exact leS_nl
    · have d1 : stateS (s0_0, s0_1) s1 = 0 := by simpa using c1
      have hs := stOk_of d1
      have l4 := hs.l4
      have sl := hs.sl
      dsimp only at l4 sl
      have h3 : 3 ^ s1.length ≤ 10000 := by
        have : s1.length = 0 ∨ s1.length = 1 ∨ s1.length = 2 ∨ s1.length = 3 ∨ s1.length = 4 := by omega
        rcases this with e | e | e | e | e <;> rw [e] <;> decide
      rw [Int.toNat_natCast]
      refine ⟨⟨by omega, by omega⟩, ⟨by decide, by omega, by rw [allM_card]; exact h3, by decide, hp', fun x hx => by rw [allM_len hx]; omega⟩, ?_⟩
      have e : movesS (s0_0, s0_1) s1 = accM (fun m => (allowS (s0_0, s0_1) s1 m).1) [] (allM s1.length) := by
        unfold movesS accM
        rw [if_neg (by rw [d1]; simp), List.nil_append]
        exact filter_congr' fun x hx => (allow_ok d1 (moveS_of (by rw [allM_len hx]; exact sl) (allM_is hx))).symm
      rw [e]
      exact leS_ll _)
end
end Go.MR
