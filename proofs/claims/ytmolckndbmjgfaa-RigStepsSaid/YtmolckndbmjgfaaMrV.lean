/- Rigs: comparisons. -/
import Derived.Test.YtmolckndbmjgfaaMrS
import Derived.Test.YtmolckndbmjgfaaMrU
namespace Go.MR
open Go Go.Sx Go.Proofs
set_option linter.unusedVariables false
set_option linter.unusedSimpArgs false
noncomputable section

def eqC : List Int → List Int → Bool
  | x :: a, y :: b => (x == y) && eqC a b
  | _, _ => true
theorem eqC_end {a b : List Int} {i : Int} (h : ¬ (i < a.length ∧ i < b.length)) : eqC (a.drop i.toNat) (b.drop i.toNat) = true := by
  by_cases h1 : i < a.length
  · rw [drop_end (l := b) (by omega)]
    cases List.drop i.toNat a <;> rfl
  · rw [drop_end h1]; rfl
theorem eqC_step {a b : List Int} {i : Int} (h0 : 0 ≤ i) (h : i < a.length) (h2 : i < b.length) : eqC (a.drop i.toNat) (b.drop i.toNat) = ((a.getD i.toNat 0 == b.getD i.toNat 0) && eqC (a.drop (i + 1).toNat) (b.drop (i + 1).toNat)) := by
  rw [drop_step (0 : Int) h0 h, drop_step (0 : Int) h0 h2, eqC]
theorem eqC_eq : ∀ (a b : List Int), (eqC a b && ((a.length : Int) == b.length)) = decide (a = b)
  | [], [] => rfl
  | [], y :: b => by
    rw [eqC]
    · have : (([] : List Int).length : Int) ≠ ((y :: b).length : Int) := by simp; omega
      rw [beq_eq_false_iff_ne.2 this]; simp
    · intro _ _ _ _ h; cases h
  | x :: a, [] => by
    rw [eqC]
    · have : ((x :: a).length : Int) ≠ (([] : List Int).length : Int) := by simp; omega
      rw [beq_eq_false_iff_ne.2 this]; simp
    · intro _ _ _ _ _ h; cases h
  | x :: a, y :: b => by
    have ih := eqC_eq a b
    have e : (((x :: a).length : Int) == ((y :: b).length : Int)) = ((a.length : Int) == (b.length : Int)) := by
      by_cases c : (a.length : Int) = b.length
      · rw [beq_iff_eq.2 c, beq_iff_eq.2 (by simp; omega)]
      · rw [beq_eq_false_iff_ne.2 c, beq_eq_false_iff_ne.2 (by simp; omega)]
    rw [eqC, e, Bool.and_assoc, ih]
    by_cases c : x = y
    · subst c
      by_cases d : a = b
      · subst d; simp
      · rw [decide_eq_false d, decide_eq_false (fun h => d (List.cons.inj h).2), Bool.and_false]
    · rw [beq_eq_false_iff_ne.2 c, Bool.false_and, decide_eq_false (fun h => c (List.cons.inj h).1)]
def L_sameI : Lay := { slots := [(0, .val tIs), (1, .val tIs), (5, .val tI)] }
def L_sameI_0 : Lay := { slots := [(4, .val .bool)] }
def L_sameI_1 : Lay := { slots := [(0, .val tIs), (1, .val tIs)] }
def X_sameI : Exit → St → Option Lay
  | .ret, _ => some L_sameI_0
  | .exit 0, _ => some L_sameI_1
  | _, _ => none
abbrev C_sameI : Code := loopC (bodyOf Try.f36) 0
theorem B_sameI (a b : List Int) (i : Int) : loopBodyA (P := P) [] (lpOf []) [] 32 noU (inner C_sameI) L_sameI X_sameI (α := List Int × List Int × Int × Unit) (fun x => x) (fun x => x) (a, b, i, ()) =
  Tree.cond (decide (i < (↑(List.length a) : Int))) (Tree.cond (decide (i < (↑(List.length b) : Int))) (Tree.need ((0 : Int) ≤ i ∧ i < (↑(List.length a) : Int)) (Tree.need ((0 : Int) ≤ i ∧ i < (↑(List.length b) : Int)) (Tree.cond (List.getD a (Int.toNat i) (0 : Int) != List.getD b (Int.toNat i) (0 : Int)) (Tree.leaf (Sum.inr (Exit.ret, Lay.st L_sameI_0 noU (false, PUnit.unit)))) (Tree.leaf (Sum.inl (a, b, IntKind.wrap IntKind.i64 (i + (1 : Int)), PUnit.unit)))))) (Tree.leaf (Sum.inr (Exit.exit (0 : Nat), Lay.st L_sameI_1 noU (a, b, PUnit.unit))))) (Tree.leaf (Sum.inr (Exit.exit (0 : Nat), Lay.st L_sameI_1 noU (a, b, PUnit.unit)))) := by kernel_rfl

def inv_sameI : List Int × List Int × Int × Unit → Prop := fun (a, b, i, ()) => 0 ≤ i ∧ i ≤ a.length ∧ i ≤ b.length ∧ (a.length : Int) < 2 ^ 62
def O_sameI : List Int × List Int × Int × Unit → Tree (Exit × St) := fun (a, b, i, ()) => .cond (eqC (a.drop i.toNat) (b.drop i.toNat)) (.leaf (.exit 0, L_sameI_1.st noU (a, b, ()))) (.leaf (.ret, L_sameI_0.st noU ((false), ())))
def R_sameI : LRun := runOf 32 L_sameI (fun x => x) (inv_sameI) (O_sameI)
theorem K_sameI : LoopOk P [] 32 none noU C_sameI (R_sameI) := by
  refine loop_of hm (cx := []) [] (xl := X_sameI) (α := List Int × List Int × Int × Unit) (fun x => x) (fun (a, b, i, ()) => ((a.length : Int) - i).toNat) (fun _ => rfl) (by kernel_rfl) (by kernel_rfl) ?_ (by kernel_rfl) trivial ?_
  · intro e S L' h
    unfold X_sameI at h
    split at h <;> first | (cases h; done) | (cases h; kernel_rfl) | (rcases bif_some h with h | h <;> cases h <;> kernel_rfl)
  · rintro ⟨a, b, i, ⟨⟩⟩ hinv Q hQ
    refine hold_of_eq (B_sameI a b i) ?_

    obtain ⟨h0, h1, h2, h3⟩ := hinv
    rw [W_id (n := i + 1) (by omega) (by omega)]
    unfold O_sameI at hQ
    dsimp only at hQ
    refine ⟨fun c1 => ⟨fun c2 => ?_, fun c2 => ?_⟩, fun c1 => ?_⟩
    · have d1 := of_decide_eq_true c1
      have d2 := of_decide_eq_true c2
      have hm : ((a.length : Int) - (i + 1)).toNat < ((a.length : Int) - i).toNat := by omega
      rw [eqC_step h0 d1 d2] at hQ
      refine ⟨⟨h0, d1⟩, ⟨h0, d2⟩, fun c3 => ?_, fun c3 => ?_⟩
      · rw [show (a.getD i.toNat 0 == b.getD i.toNat 0) = false by simpa using c3, Bool.false_and] at hQ
        exact hQ.2 rfl
      · rw [show (a.getD i.toNat 0 == b.getD i.toNat 0) = true by simpa using c3, Bool.true_and] at hQ
        exact ⟨⟨⟨by omega, by omega, by omega, h3⟩, hm⟩, hQ⟩
    · have d2 := of_decide_eq_false c2
      rw [eqC_end (fun h => d2 h.2)] at hQ
      exact hQ.1 rfl
    · have d1 := of_decide_eq_false c1
      rw [eqC_end (fun h => d1 h.1)] at hQ
      exact hQ.1 rfl
theorem T_SameInts (a b : List Int) : fnTree (P := P) [] (lpOf [(0, R_sameI)]) Try.f36 (encL 0 [.val tIs, .val tIs] (a, b, ())) =
  Tree.need (inv_sameI (a, b, (0 : Int), ())) (Tree.cond (eqC (List.drop (Int.toNat (0 : Int)) a) (List.drop (Int.toNat (0 : Int)) b)) (Tree.leaf (SV.bool ((↑(List.length a) : Int) == (↑(List.length b) : Int)))) (Tree.leaf (SV.bool false))) := by kernel_rfl

def c_SameInts : PC P := PC.of (α := List Int × List Int × Unit) 36 [.val tIs, .val tIs] (fun x => x) (fun x => x) (fun _ => rfl)
  (fun x => some ((x.1.length : Int) < 2 ^ 62))
  (fun x => .bool (decide (x.1 = x.2.1))) (by kernel_rfl) (by
    rintro ⟨a, b, ⟨⟩⟩ hp
    refine fn_of hm (by kernel_rfl) (by kernel_rfl) (T_SameInts a b) ⟨K_sameI, trivial⟩ ?_

    try dsimp only at hp
    try dsimp only
    have hp' : (a.length : Int) < 2 ^ 62 := hp
    rw [← eqC_eq]
    refine ⟨⟨by decide, by omega, by omega, hp'⟩, fun c1 => ?_, fun c1 => ?_⟩
    · exact congrArg SV.bool (by rw [show eqC a b = true from c1, Bool.true_and])
    · exact congrArg SV.bool (by rw [show eqC a b = false from c1, Bool.false_and]))
def eqM : List (List Int) → List (List Int) → Bool
  | x :: a, y :: b => decide (x = y) && eqM a b
  | _, _ => true
theorem eqM_nil (b : List (List Int)) : eqM [] b = true := by cases b <;> rfl
theorem eqM_step {a b : List (List Int)} {i : Int} (h0 : 0 ≤ i) (h : i < a.length) (h2 : i < b.length) : eqM (a.drop i.toNat) (b.drop i.toNat) = (decide (a.getD i.toNat [] = b.getD i.toNat []) && eqM (a.drop (i + 1).toNat) (b.drop (i + 1).toNat)) := by
  rw [drop_step ([] : List Int) h0 h, drop_step ([] : List Int) h0 h2, eqM]
theorem eqM_self : ∀ a : List (List Int), eqM a a = true
  | [] => rfl
  | x :: a => by rw [eqM, eqM_self a]; simp
def sameMS (a b : List (List Int)) : Bool := ((a.length : Int) == b.length) && eqM a b
theorem sameMS_self (a : List (List Int)) : sameMS a a = true := by unfold sameMS; rw [eqM_self]; simp
def L_sameM : Lay := { slots := [(0, .val (.sl tIs)), (1, .val (.sl tIs)), (5, .val tI)] }
def L_sameM_0 : Lay := { slots := [(4, .val .bool)] }
def L_sameM_1 : Lay := { slots := [] }
def X_sameM : Exit → St → Option Lay
  | .ret, _ => some L_sameM_0
  | .exit 0, _ => some L_sameM_1
  | _, _ => none
abbrev C_sameM : Code := loopC (bodyOf Try.f39) 0
theorem B_sameM (a b : List (List Int)) (i : Int) : loopBodyA (P := P) [c_SameInts.gc] (lpOf []) [] 27 noU (inner C_sameM) L_sameM X_sameM (α := List (List Int) × List (List Int) × Int × Unit) (fun x => x) (fun x => x) (a, b, i, ()) =
  Tree.cond (decide (i < (↑(List.length a) : Int))) (Tree.need ((0 : Int) ≤ i ∧ i < (↑(List.length a) : Int)) (Tree.need ((0 : Int) ≤ i ∧ i < (↑(List.length b) : Int)) (Tree.need ((↑(List.length (List.getD a (Int.toNat i) [])) : Int) < (2 : Int) ^ (62 : Nat)) (Tree.cond (!decide (List.getD a (Int.toNat i) [] = List.getD b (Int.toNat i) [])) (Tree.leaf (Sum.inr (Exit.ret, Lay.st L_sameM_0 noU (false, PUnit.unit)))) (Tree.leaf (Sum.inl (a, b, IntKind.wrap IntKind.i64 (i + (1 : Int)), PUnit.unit))))))) (Tree.leaf (Sum.inr (Exit.exit (0 : Nat), Lay.st L_sameM_1 noU PUnit.unit))) := by kernel_rfl

def inv_sameM : List (List Int) × List (List Int) × Int × Unit → Prop := fun (a, b, i, ()) => 0 ≤ i ∧ i ≤ a.length ∧ a.length = b.length ∧ (a.length : Int) < 2 ^ 62 ∧ ∀ x ∈ a, (x.length : Int) < 2 ^ 62
def O_sameM : List (List Int) × List (List Int) × Int × Unit → Tree (Exit × St) := fun (a, b, i, ()) => .cond (eqM (a.drop i.toNat) (b.drop i.toNat)) (.leaf (.exit 0, L_sameM_1.st noU ())) (.leaf (.ret, L_sameM_0.st noU ((false), ())))
def R_sameM : LRun := runOf 27 L_sameM (fun x => x) (inv_sameM) (O_sameM)
theorem K_sameM : LoopOk P [] 27 none noU C_sameM (R_sameM) := by
  refine loop_of hm (cx := [c_SameInts.gc]) [] (xl := X_sameM) (α := List (List Int) × List (List Int) × Int × Unit) (fun x => x) (fun (a, b, i, ()) => ((a.length : Int) - i).toNat) (fun _ => rfl) (by kernel_rfl) (by kernel_rfl) ?_ (by kernel_rfl) trivial ?_
  · intro e S L' h
    unfold X_sameM at h
    split at h <;> first | (cases h; done) | (cases h; kernel_rfl) | (rcases bif_some h with h | h <;> cases h <;> kernel_rfl)
  · rintro ⟨a, b, i, ⟨⟩⟩ hinv Q hQ
    refine hold_of_eq (B_sameM a b i) ?_

    obtain ⟨h0, h1, h2, h3, h4⟩ := hinv
    rw [W_id (n := i + 1) (by omega) (by omega)]
    unfold O_sameM at hQ
    dsimp only at hQ
    refine ⟨fun c1 => ?_, fun c1 => ?_⟩
    · have d1 := of_decide_eq_true c1
      have hm : ((a.length : Int) - (i + 1)).toNat < ((a.length : Int) - i).toNat := by omega
      have d2 : i < b.length := by omega
      rw [eqM_step h0 d1 d2] at hQ
      refine ⟨⟨h0, d1⟩, ⟨h0, d2⟩, h4 _ (getD_mem (d := ([] : List Int)) (show i.toNat < a.length by omega)), fun c3 => ?_, fun c3 => ?_⟩
      · rw [show decide (a.getD i.toNat [] = b.getD i.toNat []) = false by simpa using c3, Bool.false_and] at hQ
        exact hQ.2 rfl
      · rw [show decide (a.getD i.toNat [] = b.getD i.toNat []) = true by simpa using c3, Bool.true_and] at hQ
        exact ⟨⟨⟨by omega, by omega, h2, h3, h4⟩, hm⟩, hQ⟩
    · have d1 := of_decide_eq_false c1
      rw [drop_end d1, eqM_nil] at hQ
      exact hQ.1 rfl
theorem T_SameMoves (a b : List (List Int)) : fnTree (P := P) [] (lpOf [(0, R_sameM)]) Try.f39 (encL 0 [.val (.sl tIs), .val (.sl tIs)] (a, b, ())) =
  Tree.cond ((↑(List.length a) : Int) != (↑(List.length b) : Int)) (Tree.leaf (SV.bool false)) (Tree.need (inv_sameM (a, b, (0 : Int), ())) (Tree.cond (eqM (List.drop (Int.toNat (0 : Int)) a) (List.drop (Int.toNat (0 : Int)) b)) (Tree.leaf (SV.bool true)) (Tree.leaf (SV.bool false)))) := by kernel_rfl

def c_SameMoves : PC P := PC.of (α := List (List Int) × List (List Int) × Unit) 39 [.val (.sl tIs), .val (.sl tIs)] (fun x => x) (fun x => x) (fun _ => rfl)
  (fun x => some ((x.1.length : Int) < 2 ^ 62 ∧ ∀ y ∈ x.1, (y.length : Int) < 2 ^ 62))
  (fun x => .bool (sameMS x.1 x.2.1)) (by kernel_rfl) (by
    rintro ⟨a, b, ⟨⟩⟩ hp
    refine fn_of hm (by kernel_rfl) (by kernel_rfl) (T_SameMoves a b) ⟨K_sameM, trivial⟩ ?_

    try dsimp only at hp
    try dsimp only
    obtain ⟨p1, p2⟩ : (a.length : Int) < 2 ^ 62 ∧ ∀ x ∈ a, (x.length : Int) < 2 ^ 62 := hp
    refine ⟨fun c1 => ?_, fun c1 => ?_⟩
    · exact congrArg SV.bool (by unfold sameMS; rw [show ((a.length : Int) == b.length) = false by simpa using c1, Bool.false_and])
    · have d1 : (a.length : Int) = b.length := by simpa using c1
      refine ⟨⟨by decide, by omega, by omega, p1, p2⟩, fun c2 => ?_, fun c2 => ?_⟩
      · exact congrArg SV.bool (by unfold sameMS; rw [beq_iff_eq.2 d1, show eqM a b = true from c2]; rfl)
      · exact congrArg SV.bool (by unfold sameMS; rw [beq_iff_eq.2 d1, show eqM a b = false from c2]; rfl))
theorem T_BigRig (s0_0 : List Int) (s0_1 : List (Int × (Int × (Int × V)))) : fnTree (P := P) [] (lpOf []) Try.f26 (encL 0 [.agg (.pair tIs (.sl (.pair tI (.pair tI (.pair tI tV)))))] ((s0_0, s0_1), ())) =
  Tree.cond (decide ((↑(List.length s0_0) : Int) > (6 : Int))) (Tree.leaf (SV.bool true)) (Tree.leaf (SV.bool (decide ((↑(List.length s0_1) : Int) > (30 : Int))))) := by kernel_rfl

def c_BigRig : PC P := PC.of (α := (List Int × List (Int × (Int × (Int × V)))) × Unit) 26 [.agg (.pair tIs (.sl (.pair tI (.pair tI (.pair tI tV)))))] (fun x => x) (fun x => x) (fun _ => rfl)
  (fun _ => none)
  (fun x => .bool (decide ((x.1.1.length : Int) > 6) || decide ((x.1.2.length : Int) > 30))) (by kernel_rfl) (by
    rintro ⟨⟨s0_0, s0_1⟩, ⟨⟩⟩ hp
    refine fn_of hm (by kernel_rfl) (by kernel_rfl) (T_BigRig s0_0 s0_1) trivial ?_

    try dsimp only at hp
    try dsimp only
    refine ⟨fun c1 => ?_, fun c1 => ?_⟩
    · exact congrArg SV.bool (by rw [c1, Bool.true_or])
    · exact congrArg SV.bool (by rw [c1, Bool.false_or]))

/-! ### RigMoves -/
theorem movesS_len (r : Rig) (s : List Int) : (movesS r s).length ≤ 81 ∧ ∀ m ∈ movesS r s, m.length ≤ 4 := by
  unfold movesS
  split
  · exact ⟨by decide, fun m hm => by cases hm⟩
  · rename_i h
    have hs := stOk_of (r := r) (s := s) (by simpa using h)
    have l4 := hs.l4
    have sl := hs.sl
    constructor
    · have h1 := List.length_filter_le (okM r.1 r.2 s) (allM s.length)
      rw [allM_card] at h1
      have h3 : 3 ^ s.length ≤ 81 := by
        have : s.length = 0 ∨ s.length = 1 ∨ s.length = 2 ∨ s.length = 3 ∨ s.length = 4 := by omega
        rcases this with e | e | e | e | e <;> rw [e] <;> decide
      omega
    · intro m hm
      have := allM_len (List.mem_filter.1 hm).1
      omega
theorem mvS_len (l : List Int) : ∀ (n : Nat) (k : Int), (mvS l n k).length = n
  | 0, _ => rfl
  | n + 1, k => by rw [mvS, List.length_cons, mvS_len]
def L_rmvL : Lay := { slots := [(11, .row 27 (.pair tIs (.sl (.pair tI (.pair tI (.pair tI tV)))))), (12, .row 22 tIs), (13, .row 22 tIs), (14, .val tI)] }
def L_rmvL_0 : Lay := { slots := [(8, .val .bool)] }
def L_rmvL_1 : Lay := { slots := [] }
def X_rmvL : Exit → St → Option Lay
  | .ret, _ => some L_rmvL_0
  | .exit 0, _ => some L_rmvL_1
  | _, _ => none
abbrev C_rmvL : Code := loopC (bodyOf Try.f5) 0
theorem B_rmvL (rs : List (List Int × List (Int × (Int × (Int × V))))) (ss ms : List (List Int)) (i : Int) : loopBodyA (P := P) [c_Allowed.gc, c_rAllowed.gc, c_Moves.gc, c_rMoves.gc, c_SameMoves.gc] (lpOf []) [] 118 noU (inner C_rmvL) L_rmvL X_rmvL (α := List (List Int × List (Int × (Int × (Int × V)))) × List (List Int) × List (List Int) × Int × Unit) (fun x => x) (fun x => x) (rs, ss, ms, i, ()) =
  Tree.cond (decide (i < (2 : Int))) (Tree.need ((0 : Int) ≤ i ∧ i < (↑(List.length rs) : Int)) (Tree.need (Int.toNat i < List.length rs) (Tree.need ((0 : Int) ≤ i ∧ i < (↑(List.length ss) : Int)) (Tree.need (Int.toNat i < List.length ss) (Tree.need ((0 : Int) ≤ i ∧ i < (↑(List.length ms) : Int)) (Tree.need (Int.toNat i < List.length ms) (Tree.need ((↑(List.length (List.getD ms (Int.toNat i) [])) : Int) < (2 : Int) ^ (62 : Nat)) (Tree.need ((0 : Int) ≤ i ∧ i < (↑(List.length rs) : Int)) (Tree.need (Int.toNat i < List.length rs) (Tree.need ((0 : Int) ≤ i ∧ i < (↑(List.length ss) : Int)) (Tree.need (Int.toNat i < List.length ss) (Tree.need ((0 : Int) ≤ i ∧ i < (↑(List.length ms) : Int)) (Tree.need (Int.toNat i < List.length ms) (Tree.need ((↑(List.length (List.getD ss (Int.toNat i) [])) : Int) < (2 : Int) ^ (62 : Nat) ∧ (↑(List.length (List.getD ms (Int.toNat i) [])) : Int) < (2 : Int) ^ (62 : Nat)) (Tree.cond (!(allowS (List.getD rs (Int.toNat i) ([], [])) (List.getD ss (Int.toNat i) []) (List.getD ms (Int.toNat i) [])).fst == (allowS (List.getD rs (Int.toNat i) ([], [])) (List.getD ss (Int.toNat i) []) (List.getD ms (Int.toNat i) [])).fst) (Tree.leaf (Sum.inr (Exit.ret, Lay.st L_rmvL_0 noU (false, PUnit.unit)))) (Tree.cond ((allowS (List.getD rs (Int.toNat i) ([], [])) (List.getD ss (Int.toNat i) []) (List.getD ms (Int.toNat i) [])).snd != (allowS (List.getD rs (Int.toNat i) ([], [])) (List.getD ss (Int.toNat i) []) (List.getD ms (Int.toNat i) [])).snd) (Tree.leaf (Sum.inr (Exit.ret, Lay.st L_rmvL_0 noU (false, PUnit.unit)))) (Tree.need ((0 : Int) ≤ i ∧ i < (↑(List.length rs) : Int)) (Tree.need (Int.toNat i < List.length rs) (Tree.need ((0 : Int) ≤ i ∧ i < (↑(List.length ss) : Int)) (Tree.need (Int.toNat i < List.length ss) (Tree.need ((0 : Int) ≤ i ∧ i < (↑(List.length rs) : Int)) (Tree.need (Int.toNat i < List.length rs) (Tree.need ((0 : Int) ≤ i ∧ i < (↑(List.length ss) : Int)) (Tree.need (Int.toNat i < List.length ss) (Tree.need ((↑(List.length (List.getD ss (Int.toNat i) [])) : Int) < (2 : Int) ^ (62 : Nat)) (Tree.need ((↑(List.length (movesS (List.getD rs (Int.toNat i) ([], [])) (List.getD ss (Int.toNat i) []))) : Int) < (2 : Int) ^ (62 : Nat) ∧ ∀ (y : List Int), y ∈ movesS (List.getD rs (Int.toNat i) ([], [])) (List.getD ss (Int.toNat i) []) → (↑(List.length y) : Int) < (2 : Int) ^ (62 : Nat)) (Tree.cond (!sameMS (movesS (List.getD rs (Int.toNat i) ([], [])) (List.getD ss (Int.toNat i) [])) (movesS (List.getD rs (Int.toNat i) ([], [])) (List.getD ss (Int.toNat i) []))) (Tree.leaf (Sum.inr (Exit.ret, Lay.st L_rmvL_0 noU (false, PUnit.unit)))) (Tree.leaf (Sum.inl (rs, ss, ms, IntKind.wrap IntKind.i64 (i + (1 : Int)), PUnit.unit)))))))))))))))))))))))))))))) (Tree.leaf (Sum.inr (Exit.exit (0 : Nat), Lay.st L_rmvL_1 noU PUnit.unit))) := by kernel_rfl

def inv_rmvL : List (List Int × List (Int × (Int × (Int × V)))) × List (List Int) × List (List Int) × Int × Unit → Prop := fun (rs, ss, ms, i, ()) => 0 ≤ i ∧ i ≤ 2 ∧ rs.length = 2 ∧ ss.length = 2 ∧ ms.length = 2 ∧ (∀ x ∈ ss, (x.length : Int) < 2 ^ 62) ∧ ∀ x ∈ ms, (x.length : Int) < 2 ^ 62
def O_rmvL : List (List Int × List (Int × (Int × (Int × V)))) × List (List Int) × List (List Int) × Int × Unit → Tree (Exit × St) := fun (rs, ss, ms, i, ()) => (.leaf (.exit 0, L_rmvL_1.st noU ()))
def R_rmvL : LRun := runOf 118 L_rmvL (fun x => x) (inv_rmvL) (O_rmvL)
theorem K_rmvL : LoopOk P [] 118 none noU C_rmvL (R_rmvL) := by
  refine loop_of hm (cx := [c_Allowed.gc, c_rAllowed.gc, c_Moves.gc, c_rMoves.gc, c_SameMoves.gc]) [] (xl := X_rmvL) (α := List (List Int × List (Int × (Int × (Int × V)))) × List (List Int) × List (List Int) × Int × Unit) (fun x => x) (fun (rs, ss, ms, i, ()) => (2 - i).toNat) (fun _ => rfl) (by kernel_rfl) (by kernel_rfl) ?_ (by kernel_rfl) trivial ?_
  · intro e S L' h
    unfold X_rmvL at h
    split at h <;> first | (cases h; done) | (cases h; kernel_rfl) | (rcases bif_some h with h | h <;> cases h <;> kernel_rfl)
  · rintro ⟨rs, ss, ms, i, ⟨⟩⟩ hinv Q hQ
    refine hold_of_eq (B_rmvL rs ss ms i) ?_

    obtain ⟨h0, h1, h2, h3, h4, h5, h6⟩ := hinv
    rw [W_id (n := i + 1) (by omega) (by omega)]
    have hQ' : Q (.exit 0, L_rmvL_1.st noU ()) := hQ
    refine ⟨fun c1 => ?_, fun c1 => hQ'⟩
    have d1 : i < 2 := of_decide_eq_true c1
    have hm : (2 - (i + 1)).toNat < (2 - i).toNat := by omega
    have n1 : 0 ≤ i ∧ i < (rs.length : Int) := by omega
    have n2 : i.toNat < rs.length := by omega
    have n3 : 0 ≤ i ∧ i < (ss.length : Int) := by omega
    have n4 : i.toNat < ss.length := by omega
    have n5 : 0 ≤ i ∧ i < (ms.length : Int) := by omega
    have n6 : i.toNat < ms.length := by omega
    have b1 := h5 _ (getD_mem (d := ([] : List Int)) n4)
    have b2 := h6 _ (getD_mem (d := ([] : List Int)) n6)
    have b3 := movesS_len (rs.getD i.toNat ([], [])) (ss.getD i.toNat [])
    refine ⟨n1, n2, n3, n4, n5, n6, b2, n1, n2, n3, n4, n5, n6, ⟨b1, b2⟩, fun c2 => ?_, fun c2 => ⟨fun c3 => ?_, fun c3 => ⟨n1, n2, n3, n4, n1, n2, n3, n4, b1, ⟨by omega, fun x hx => by have := b3.2 x hx; omega⟩, fun c4 => ?_, fun c4 => ?_⟩⟩⟩
    · simp at c2
    · simp at c3
    · rw [sameMS_self] at c4; cases c4
    · exact ⟨⟨⟨by omega, by omega, h2, h3, h4, h5, h6⟩, hm⟩, hQ'⟩
theorem T_RigMoves (s0_0 : List Int) (s0_1 : List (Int × (Int × (Int × V)))) (s1 s2 s3 : List Int) : fnTree (P := P) [c_BigRig.gc, c_NewRing.gc, c_RigOf.gc, c_Places.gc, c_Move.gc, c_awake.gc] (lpOf [(0, R_rmvL)]) Try.f5 (encL 0 [.agg (.pair tIs (.sl (.pair tI (.pair tI (.pair tI tV))))), .val tIs, .val tIs, .val tIs] ((s0_0, s0_1), s1, s2, s3, ())) =
  Tree.cond (decide ((↑(List.length s0_0) : Int) > (6 : Int)) || decide ((↑(List.length s0_1) : Int) > (30 : Int))) (Tree.leaf (SV.bool true)) (Tree.cond (decide ((↑(List.length s1) : Int) > (8 : Int))) (Tree.leaf (SV.bool true)) (Tree.cond (decide ((↑(List.length s2) : Int) > (8 : Int))) (Tree.leaf (SV.bool true)) (Tree.need ((0 : Int) ≤ (0 : Int) ∧ (0 : Int) ≤ (500000000 : Int)) (Tree.need (KRig (kRig s3 (0 : Int)) ∧ (0 : Int) ≤ kRigK s3 (0 : Int) ∧ kRigK s3 (0 : Int) ≤ (500000000 : Int)) (Tree.need ((0 : Int) < (↑(List.length (kRig s3 (0 : Int)).fst) : Int) ∧ (↑(List.length (kRig s3 (0 : Int)).fst) : Int) ≤ (10 : Int) ∧ (0 : Int) ≤ kPlcK s3 (kRig s3 (0 : Int)) (kRigK s3 (0 : Int)) ∧ kPlcK s3 (kRig s3 (0 : Int)) (kRigK s3 (0 : Int)) ≤ (500000000 : Int)) (Tree.need (inv_rmvL ([(s0_0, s0_1), kRig s3 (0 : Int)], [s1, kPlc s3 (kRig s3 (0 : Int)) (kRigK s3 (0 : Int))], [s2, mvS s3 (Int.toNat (↑(List.length (kRig s3 (0 : Int)).fst) : Int)) (kPlcK s3 (kRig s3 (0 : Int)) (kRigK s3 (0 : Int)))], (0 : Int), ())) (Tree.leaf (SV.bool true)))))))) := by kernel_rfl

def c_RigMoves : PC P := PC.of (α := (List Int × List (Int × (Int × (Int × V)))) × List Int × List Int × List Int × Unit) 5 [.agg (.pair tIs (.sl (.pair tI (.pair tI (.pair tI tV))))), .val tIs, .val tIs, .val tIs] (fun x => x) (fun x => x) (fun _ => rfl)
  (fun _ => none)
  (fun x => .bool true) (by kernel_rfl) (by
    rintro ⟨⟨s0_0, s0_1⟩, s1, s2, s3, ⟨⟩⟩ hp
    refine fn_of hm (by kernel_rfl) (by kernel_rfl) (T_RigMoves s0_0 s0_1 s1 s2 s3) ⟨K_rmvL, trivial⟩ ?_

    try dsimp only at hp
    try dsimp only
    refine ⟨fun c1 => rfl, fun c1 => ⟨fun c2 => rfl, fun c2 => ⟨fun c3 => rfl, fun c3 => ?_⟩⟩⟩
    obtain ⟨hk, hk1, hk2⟩ := kRig_ok (l := s3) (k := 0) (by decide)
    have l2 := hk.l2
    have l3 := hk.l3
    obtain ⟨v, v1, v2⟩ := kPlc_ok (l := s3) hk hk1
    have d2 : (s1.length : Int) ≤ 8 := by have := of_decide_eq_false c2; omega
    have d3 : (s2.length : Int) ≤ 8 := by have := of_decide_eq_false c3; omega
    refine ⟨⟨by decide, by decide⟩, ⟨hk, hk1, by omega⟩, ⟨by omega, by omega, by omega, by omega⟩, ⟨by decide, by decide, rfl, rfl, rfl, fun x hx => ?_, fun x hx => ?_⟩, rfl⟩
    · rcases List.mem_cons.1 hx with rfl | hx
      · omega
      · rw [List.mem_singleton] at hx
        rw [hx, v.sl]; omega
    · rcases List.mem_cons.1 hx with rfl | hx
      · omega
      · rw [List.mem_singleton] at hx
        rw [hx, mvS_len]; omega)

end
end Go.MR
