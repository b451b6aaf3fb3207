/- The law BarrierProves. -/
import Derived.Test.YtfhomgggbhjglaaMbL
namespace Go.MB
open Go Go.Sx Go.Proofs
set_option linter.unusedVariables false
set_option linter.unusedSimpArgs false
noncomputable section
def L_shares0 : Lay := { slots := [(0, .val tIs), (1, .val tIs), (5, .val tI)] }
def L_shares0_0 : Lay := { slots := [(4, .val .bool)] }
def L_shares0_1 : Lay := { slots := [] }
def X_shares0 : Exit → St → Option Lay
  | .ret, _ => some L_shares0_0
  | .exit 0, _ => some L_shares0_1
  | _, _ => none
abbrev C_shares0 : Code := loopC (bodyOf Try.f37) 0
theorem B_shares0 (a b : List Int) (i : Int) : loopBodyA (P := P) [c_HasInt.gc] (lpOf []) [] 18 noU (inner C_shares0) L_shares0 X_shares0 (α := List Int × List Int × Int × Unit) (fun x => x) (fun x => x) (a, b, i, ()) =
  Tree.cond (decide (i < (↑(List.length a) : Int))) (Tree.need ((0 : Int) ≤ i ∧ i < (↑(List.length a) : Int)) (Tree.need (List.length b ≤ (1000 : Nat)) (Tree.cond (List.any b fun y => y == List.getD a (Int.toNat i) (0 : Int)) (Tree.leaf (Sum.inr (Exit.ret, Lay.st L_shares0_0 noU (true, PUnit.unit)))) (Tree.leaf (Sum.inl (a, b, IntKind.wrap IntKind.i64 (i + (1 : Int)), PUnit.unit)))))) (Tree.leaf (Sum.inr (Exit.exit (0 : Nat), Lay.st L_shares0_1 noU PUnit.unit))) := by kernel_rfl
def inv_shares0 : List Int × List Int × Int × Unit → Prop := fun (a, b, i, ()) => 0 ≤ i ∧ i ≤ a.length ∧ a.length ≤ 1000 ∧ b.length ≤ 1000
def O_shares0 : List Int × List Int × Int × Unit → Tree (Exit × St) := fun (a, b, i, ()) => .cond ((a.drop i.toNat).any fun x => b.any fun y => y == x) (.leaf (.ret, L_shares0_0.st noU ((true), ()))) (.leaf (.exit 0, L_shares0_1.st noU ()))
def R_shares0 : LRun := runOf 18 L_shares0 (fun x => x) (inv_shares0) (O_shares0)
theorem K_shares0 : LoopOk P [] 18 none noU C_shares0 (R_shares0) := by
  refine loop_of hm (cx := [c_HasInt.gc]) [] (xl := X_shares0) (α := List Int × List Int × Int × Unit) (fun x => x) (fun (a, b, i, ()) => ((a.length : Int) - i).toNat) (fun _ => rfl) (by kernel_rfl) (by kernel_rfl) ?_ (by kernel_rfl) trivial ?_
  · intro e S L' h
    unfold X_shares0 at h
    split at h <;> first | (cases h; done) | (cases h; kernel_rfl) | (rcases bif_some h with h | h <;> cases h <;> kernel_rfl)
  · rintro ⟨a, b, i, ⟨⟩⟩ hinv Q hQ
    refine hold_of_eq (B_shares0 a b i) ?_
    obtain ⟨h0, h1, h2, h3⟩ := hinv
    rw [W_id (n := i + 1) (by omega) (by omega)]
    unfold O_shares0 at hQ
    dsimp only at hQ
    refine ⟨fun d1 => ?_, fun d1 => ?_⟩
    · have d1 := of_decide_eq_true d1
      rw [drop_step 0 h0 d1, List.any_cons] at hQ
      refine ⟨⟨h0, d1⟩, h3, fun d2 => ?_, fun d2 => ?_⟩
      · rw [d2, Bool.true_or] at hQ
        exact hQ.1 rfl
      · rw [d2, Bool.false_or] at hQ
        exact ⟨⟨⟨by omega, by omega, h2, h3⟩, by show ((a.length : Int) - (i + 1)).toNat < ((a.length : Int) - i).toNat; omega⟩, hQ⟩
    · have d1 := of_decide_eq_false d1
      rw [drop_end d1] at hQ
      exact hQ.2 rfl
theorem T_shares (a b : List Int) : fnTree (P := P) [] (lpOf [(0, R_shares0)]) Try.f37 (encL 0 [.val tIs, .val tIs] (a, b, ())) =
  Tree.need (inv_shares0 (a, b, (0 : Int), ())) (Tree.cond (List.any (List.drop (Int.toNat (0 : Int)) a) fun x => List.any b fun y => y == x) (Tree.leaf (SV.bool true)) (Tree.leaf (SV.bool false))) := by kernel_rfl
def c_shares : PC P := PC.of (α := List Int × List Int × Unit) 37 [.val tIs, .val tIs] (fun x => x) (fun x => x) (fun _ => rfl)
  (fun x => some (x.1.length ≤ 1000 ∧ x.2.1.length ≤ 1000))
  (fun x => .bool (shS x.1 x.2.1)) (by kernel_rfl) (by
    rintro ⟨a, b, ⟨⟩⟩ hp
    refine fn_of hm (by kernel_rfl) (by kernel_rfl) (T_shares a b) ⟨K_shares0, trivial⟩ ?_
    try dsimp only at hp
    try dsimp only
    obtain ⟨h1, h2⟩ : a.length ≤ 1000 ∧ b.length ≤ 1000 := hp
    have fin : ∀ k : Bool, shS a b = k → SV.bool k = SV.bool (shS a b) := fun k h => by rw [h]
    exact ⟨⟨by decide, by omega, h1, h2⟩, fun d1 => fin _ d1, fun d1 => fin _ d1⟩)
def L_prv02 : Lay := { slots := [(13, .ptr 14194 0), (14, .val tIs), (16, .val tIs), (18, .row 3 tI), (19, .val .bool), (20, .val tI), (21, .val tI)], boxes := [(14194, [.val (.sl (.pair tI tV)), .val (.sl tIs), .val tI])] }
def L_prv02_0 : Lay := { slots := [(13, .ptr 14194 0), (14, .val tIs), (16, .val tIs), (18, .row 3 tI), (19, .val .bool), (20, .val tI)], boxes := [(14194, [.val (.sl (.pair tI tV)), .val (.sl tIs), .val tI])] }
def X_prv02 : Exit → St → Option Lay
  | .exit 2, _ => some L_prv02_0
  | _, _ => none
abbrev C_prv02 : Code := loopC (inner (loopC (bodyOf Try.f8) 0)) 2
theorem B_prv02 (l st so : List Int) (free : Bool) (i k : Int) (els : List (Int × V)) (envs : List (List Int)) (need : Int) : loopBodyA (P := P) [c_shares.gc] (lpOf []) [] 194 noU (inner C_prv02) L_prv02 X_prv02 (α := Unit × List Int × List Int × List Int × Bool × Int × Int × List (Int × V) × List (List Int) × Int × Unit) (fun x => x) (fun x => x) ((), l, st, so, free, i, k, els, envs, need, ()) =
  Tree.cond (decide (k < i)) (Tree.cond free (Tree.need ((0 : Int) ≤ i ∧ i < (↑(List.length so) : Int)) (Tree.need (Int.toNat i < List.length so) (Tree.need ((0 : Int) ≤ List.getD so (Int.toNat i) (0 : Int) ∧ List.getD so (Int.toNat i) (0 : Int) < (↑(List.length envs) : Int)) (Tree.need ((0 : Int) ≤ k ∧ k < (↑(List.length so) : Int)) (Tree.need (Int.toNat k < List.length so) (Tree.need ((0 : Int) ≤ List.getD so (Int.toNat k) (0 : Int) ∧ List.getD so (Int.toNat k) (0 : Int) < (↑(List.length envs) : Int)) (Tree.need (List.length (List.getD envs (Int.toNat (List.getD so (Int.toNat i) (0 : Int))) []) ≤ (1000 : Nat) ∧ List.length (List.getD envs (Int.toNat (List.getD so (Int.toNat k) (0 : Int))) []) ≤ (1000 : Nat)) (Tree.leaf (Sum.inl (PUnit.unit, l, st, so, !shS (List.getD envs (Int.toNat (List.getD so (Int.toNat i) (0 : Int))) []) (List.getD envs (Int.toNat (List.getD so (Int.toNat k) (0 : Int))) []), i, IntKind.wrap IntKind.i64 (k + (1 : Int)), els, envs, need, PUnit.unit)))))))))) (Tree.leaf (Sum.inl (PUnit.unit, l, st, so, false, i, IntKind.wrap IntKind.i64 (k + (1 : Int)), els, envs, need, PUnit.unit)))) (Tree.leaf (Sum.inr (Exit.exit (2 : Nat), Lay.st L_prv02_0 noU (PUnit.unit, l, st, so, free, i, els, envs, need, PUnit.unit)))) := by kernel_rfl
def inv_prv02 : Unit × List Int × List Int × List Int × Bool × Int × Int × List (Int × V) × List (List Int) × Int × Unit → Prop := fun ((), l, st, so, free, i, k, els, envs, need, ()) => (0 ≤ k ∧ k ≤ i ∧ i < so.length) ∧ so.length ≤ 3 ∧ (∀ m ∈ so, 0 ≤ m ∧ m < envs.length) ∧ hOk (els, envs, need)
def O_prv02 : Unit × List Int × List Int × List Int × Bool × Int × Int × List (Int × V) × List (List Int) × Int × Unit → Tree (Exit × St) := fun ((), l, st, so, free, i, k, els, envs, need, ()) => (.leaf (.exit 2, L_prv02_0.st noU ((), l, st, so, (free && (((so.take i.toNat).drop k.toNat).all fun j => !shS (envAt envs (so.getD i.toNat 0)) (envAt envs j))), i, els, envs, need, ())))
def R_prv02 : LRun := runOf 194 L_prv02 (fun x => x) (inv_prv02) (O_prv02)
theorem K_prv02 : LoopOk P [] 194 none noU C_prv02 (R_prv02) := by
  refine loop_of hm (cx := [c_shares.gc]) [] (xl := X_prv02) (α := Unit × List Int × List Int × List Int × Bool × Int × Int × List (Int × V) × List (List Int) × Int × Unit) (fun x => x) (fun ((), l, st, so, free, i, k, els, envs, need, ()) => (i - k).toNat) (fun _ => rfl) (by kernel_rfl) (by kernel_rfl) ?_ (by kernel_rfl) trivial ?_
  · intro e S L' h
    unfold X_prv02 at h
    split at h <;> first | (cases h; done) | (cases h; kernel_rfl) | (rcases bif_some h with h | h <;> cases h <;> kernel_rfl)
  · rintro ⟨⟨⟩, l, st, so, free, i, k, els, envs, need, ⟨⟩⟩ hinv Q hQ
    refine hold_of_eq (B_prv02 l st so free i k els envs need) ?_
    obtain ⟨⟨h0, h1, h2⟩, h3, h4, h5⟩ := hinv
    rw [W_id (n := k + 1) (by omega) (by omega)]
    unfold O_prv02 at hQ
    dsimp only at hQ
    have hl : (so.take i.toNat).length = i.toNat := by rw [List.length_take]; omega
    refine ⟨fun c1 => ?_, fun c1 => ?_⟩
    · have d1 : k < i := of_decide_eq_true c1
      have e : (so.take i.toNat).getD k.toNat 0 = so.getD k.toNat 0 := by
        rw [List.getD_eq_getElem?_getD, List.getElem?_take_of_lt (by omega), ← List.getD_eq_getElem?_getD]
      rw [drop_step 0 h0 (show k < ((so.take i.toNat).length : Int) by omega), List.all_cons, e] at hQ
      have hm : (i - (k + 1)).toNat < (i - k).toNat := by omega
      have m1 := h4 _ (getD_mem (d := 0) (show i.toNat < so.length by omega))
      have m2 := h4 _ (getD_mem (d := 0) (show k.toNat < so.length by omega))
      have q1 := h5.2.2 _ (getD_mem (d := ([] : List Int)) (show (so.getD i.toNat 0).toNat < envs.length by omega))
      have q2 := h5.2.2 _ (getD_mem (d := ([] : List Int)) (show (so.getD k.toNat 0).toNat < envs.length by omega))
      refine ⟨fun c2 => ?_, fun c2 => ?_⟩
      · rw [c2, Bool.true_and] at hQ
        exact ⟨⟨by omega, h2⟩, by omega, m1, ⟨h0, by omega⟩, by omega, m2, ⟨q1, q2⟩, ⟨⟨⟨by omega, by omega, h2⟩, h3, h4, h5⟩, hm⟩, hQ⟩
      · rw [c2, Bool.false_and] at hQ
        refine ⟨⟨⟨⟨by omega, by omega, h2⟩, h3, h4, h5⟩, hm⟩, ?_⟩
        unfold O_prv02
        dsimp only
        rw [Bool.false_and]
        exact hQ
    · have d1 : ¬ k < i := of_decide_eq_false c1
      rw [List.drop_eq_nil_of_le (by omega), List.all_nil, Bool.and_true] at hQ
      exact hQ
def L_prv0 : Lay := { slots := [(13, .ptr 14194 0), (14, .val tIs), (16, .val tIs), (18, .row 3 tI), (19, .val .bool), (20, .val tI)], boxes := [(14194, [.val (.sl (.pair tI tV)), .val (.sl tIs), .val tI])] }
def L_prv0_0 : Lay := { slots := [(14, .val tIs), (19, .val .bool)] }
def X_prv0 : Exit → St → Option Lay
  | .exit 0, _ => some L_prv0_0
  | _, _ => none
abbrev C_prv0 : Code := loopC (bodyOf Try.f8) 0
theorem B_prv0 (l st so : List Int) (free : Bool) (i : Int) (els : List (Int × V)) (envs : List (List Int)) (need : Int) : loopBodyA (P := P) [c_HasInt.gc] (lpOf [(2, R_prv02)]) [] 194 noU (inner C_prv0) L_prv0 X_prv0 (α := Unit × List Int × List Int × List Int × Bool × Int × List (Int × V) × List (List Int) × Int × Unit) (fun x => x) (fun x => x) ((), l, st, so, free, i, els, envs, need, ()) =
  Tree.cond (decide (i < (↑(List.length so) : Int))) (Tree.cond free (Tree.need ((0 : Int) ≤ i ∧ i < (↑(List.length so) : Int)) (Tree.need (Int.toNat i < List.length so) (Tree.need (List.length st ≤ (1000 : Nat)) (Tree.need (inv_prv02 ((), l, st, so, List.any st fun y => y == List.getD so (Int.toNat i) (0 : Int), i, (0 : Int), els, envs, need, ())) (Tree.leaf (Sum.inl (PUnit.unit, l, st, so, (List.any st fun y => y == List.getD so (Int.toNat i) (0 : Int)) && List.all (List.drop (Int.toNat (0 : Int)) (List.take (Int.toNat i) so)) fun j => !shS (envAt envs (List.getD so (Int.toNat i) (0 : Int))) (envAt envs j), IntKind.wrap IntKind.i64 (i + (1 : Int)), els, envs, need, PUnit.unit))))))) (Tree.need (inv_prv02 ((), l, st, so, false, i, (0 : Int), els, envs, need, ())) (Tree.leaf (Sum.inl (PUnit.unit, l, st, so, false, IntKind.wrap IntKind.i64 (i + (1 : Int)), els, envs, need, PUnit.unit))))) (Tree.leaf (Sum.inr (Exit.exit (0 : Nat), Lay.st L_prv0_0 noU (l, free, PUnit.unit)))) := by kernel_rfl
def inv_prv0 : Unit × List Int × List Int × List Int × Bool × Int × List (Int × V) × List (List Int) × Int × Unit → Prop := fun ((), l, st, so, free, i, els, envs, need, ()) => (0 ≤ i ∧ i ≤ so.length) ∧ so.length ≤ 3 ∧ (∀ m ∈ so, 0 ≤ m ∧ m < envs.length) ∧ hOk (els, envs, need) ∧ st.length ≤ 1000
def O_prv0 : Unit × List Int × List Int × List Int × Bool × Int × List (Int × V) × List (List Int) × Int × Unit → Tree (Exit × St) := fun ((), l, st, so, free, i, els, envs, need, ()) => (.leaf (.exit 0, L_prv0_0.st noU (l, (free && frL st envs (so.take i.toNat) (so.drop i.toNat)), ())))
def R_prv0 : LRun := runOf 194 L_prv0 (fun x => x) (inv_prv0) (O_prv0)
theorem K_prv0 : LoopOk P [] 194 none noU C_prv0 (R_prv0) := by
  refine loop_of hm (cx := [c_HasInt.gc]) [(2, R_prv02)] (xl := X_prv0) (α := Unit × List Int × List Int × List Int × Bool × Int × List (Int × V) × List (List Int) × Int × Unit) (fun x => x) (fun ((), l, st, so, free, i, els, envs, need, ()) => ((so.length : Int) - i).toNat) (fun _ => rfl) (by kernel_rfl) (by kernel_rfl) ?_ (by kernel_rfl) ⟨K_prv02, trivial⟩ ?_
  · intro e S L' h
    unfold X_prv0 at h
    split at h <;> first | (cases h; done) | (cases h; kernel_rfl) | (rcases bif_some h with h | h <;> cases h <;> kernel_rfl)
  · rintro ⟨⟨⟩, l, st, so, free, i, els, envs, need, ⟨⟩⟩ hinv Q hQ
    refine hold_of_eq (B_prv0 l st so free i els envs need) ?_
    obtain ⟨⟨h0, h1⟩, h2, h3, h4, h5⟩ := hinv
    rw [W_id (n := i + 1) (by omega) (by omega)]
    unfold O_prv0 at hQ
    dsimp only at hQ
    refine ⟨fun c1 => ?_, fun c1 => ?_⟩
    · have d1 := of_decide_eq_true c1
      have hm : ((so.length : Int) - (i + 1)).toNat < ((so.length : Int) - i).toNat := by omega
      rw [drop_step 0 h0 d1, frL, take_step 0 h0 d1] at hQ
      have hi2 : ∀ b : Bool, inv_prv02 ((), l, st, so, b, i, 0, els, envs, need, ()) := fun b => ⟨⟨by decide, h0, d1⟩, h2, h3, h4⟩
      refine ⟨fun c2 => ⟨⟨h0, d1⟩, by omega, h5, hi2 _, ⟨⟨⟨by omega, by omega⟩, h2, h3, h4, h5⟩, hm⟩, ?_⟩, fun c2 => ⟨hi2 _, ⟨⟨⟨by omega, by omega⟩, h2, h3, h4, h5⟩, hm⟩, ?_⟩⟩
      · rw [c2, Bool.true_and, ← Bool.and_assoc] at hQ
        exact hQ
      · rw [c2, Bool.false_and] at hQ
        unfold O_prv0
        dsimp only
        rw [Bool.false_and]
        exact hQ
    · have d1 := of_decide_eq_false c1
      rw [drop_end d1, frL, Bool.and_true] at hQ
      exact hQ
def L_prv46 : Lay := { slots := [(1, .val tI), (2, .val tI), (13, .ptr 14194 0), (14, .val tIs), (16, .val tIs), (22, .val tI), (23, .val tIs), (24, .val tI)], boxes := [(14194, [.val (.sl (.pair tI tV)), .val (.sl tIs), .val tI])] }
def L_prv46_0 : Lay := { slots := [(12, .val .bool)] }
def L_prv46_1 : Lay := { slots := [(1, .val tI), (2, .val tI), (13, .ptr 14194 0), (14, .val tIs), (16, .val tIs), (22, .val tI), (23, .val tIs)], boxes := [(14194, [.val (.sl (.pair tI tV)), .val (.sl tIs), .val tI])] }
def X_prv46 : Exit → St → Option Lay
  | .ret, _ => some L_prv46_0
  | .exit 6, _ => some L_prv46_1
  | _, _ => none
abbrev C_prv46 : Code := loopC (inner (loopC (bodyOf Try.f8) 4)) 6
theorem B_prv46 (tick press : Int) (l st : List Int) (j : Int) (x : List Int) (a : Int) (els : List (Int × V)) (envs : List (List Int)) (need : Int) : loopBodyA (P := P) [c_Effective.gc] (lpOf []) [] 194 noU (inner C_prv46) L_prv46 X_prv46 (α := Int × Int × Unit × List Int × List Int × Int × List Int × Int × List (Int × V) × List (List Int) × Int × Unit) (fun x => x) (fun x => x) (tick, press, (), l, st, j, x, a, els, envs, need, ()) =
  Tree.cond (decide (a < (↑(List.length x) : Int))) (Tree.need ((0 : Int) ≤ a ∧ a < (↑(List.length x) : Int)) (Tree.need (hOk (els, envs, need)) (Tree.cond (!efS (els, envs, need) (List.getD x (Int.toNat a) (0 : Int)) tick press) (Tree.leaf (Sum.inr (Exit.ret, Lay.st L_prv46_0 noU (false, PUnit.unit)))) (Tree.leaf (Sum.inl (tick, press, PUnit.unit, l, st, j, x, IntKind.wrap IntKind.i64 (a + (1 : Int)), els, envs, need, PUnit.unit)))))) (Tree.leaf (Sum.inr (Exit.exit (6 : Nat), Lay.st L_prv46_1 noU (tick, press, PUnit.unit, l, st, j, x, els, envs, need, PUnit.unit)))) := by kernel_rfl
def inv_prv46 : Int × Int × Unit × List Int × List Int × Int × List Int × Int × List (Int × V) × List (List Int) × Int × Unit → Prop := fun (tick, press, (), l, st, j, x, a, els, envs, need, ()) => 0 ≤ a ∧ a ≤ x.length ∧ x.length ≤ 1000 ∧ (∀ y ∈ x, efS (els, envs, need) y tick press = true) ∧ hOk (els, envs, need)
def O_prv46 : Int × Int × Unit × List Int × List Int × Int × List Int × Int × List (Int × V) × List (List Int) × Int × Unit → Tree (Exit × St) := fun (tick, press, (), l, st, j, x, a, els, envs, need, ()) => (.leaf (.exit 6, L_prv46_1.st noU (tick, press, (), l, st, j, x, els, envs, need, ())))
def R_prv46 : LRun := runOf 194 L_prv46 (fun x => x) (inv_prv46) (O_prv46)
theorem K_prv46 : LoopOk P [] 194 none noU C_prv46 (R_prv46) := by
  refine loop_of hm (cx := [c_Effective.gc]) [] (xl := X_prv46) (α := Int × Int × Unit × List Int × List Int × Int × List Int × Int × List (Int × V) × List (List Int) × Int × Unit) (fun x => x) (fun (tick, press, (), l, st, j, x, a, els, envs, need, ()) => ((x.length : Int) - a).toNat) (fun _ => rfl) (by kernel_rfl) (by kernel_rfl) ?_ (by kernel_rfl) trivial ?_
  · intro e S L' h
    unfold X_prv46 at h
    split at h <;> first | (cases h; done) | (cases h; kernel_rfl) | (rcases bif_some h with h | h <;> cases h <;> kernel_rfl)
  · rintro ⟨tick, press, ⟨⟩, l, st, j, x, a, els, envs, need, ⟨⟩⟩ hinv Q hQ
    refine hold_of_eq (B_prv46 tick press l st j x a els envs need) ?_
    obtain ⟨h0, h1, h2, h3, h4⟩ := hinv
    rw [W_id (n := a + 1) (by omega) (by omega)]
    refine ⟨fun c1 => ?_, fun c1 => hQ⟩
    have d1 := of_decide_eq_true c1
    have e := h3 _ (getD_mem (d := 0) (show a.toNat < x.length by omega))
    rw [e]
    exact ⟨⟨h0, d1⟩, h4, fun h => (by cases h), fun _ => ⟨⟨⟨by omega, by omega, h2, h3, h4⟩, by show ((x.length : Int) - (a + 1)).toNat < ((x.length : Int) - a).toNat; omega⟩, hQ⟩⟩
def L_prv48 : Lay := { slots := [(1, .val tI), (2, .val tI), (13, .ptr 14194 0), (14, .val tIs), (16, .val tIs), (22, .val tI), (23, .val tIs), (25, .val tI)], boxes := [(14194, [.val (.sl (.pair tI tV)), .val (.sl tIs), .val tI])] }
def L_prv48_0 : Lay := { slots := [(12, .val .bool)] }
def L_prv48_1 : Lay := { slots := [(1, .val tI), (2, .val tI), (13, .ptr 14194 0), (14, .val tIs), (16, .val tIs), (22, .val tI)], boxes := [(14194, [.val (.sl (.pair tI tV)), .val (.sl tIs), .val tI])] }
def X_prv48 : Exit → St → Option Lay
  | .ret, _ => some L_prv48_0
  | .exit 8, _ => some L_prv48_1
  | _, _ => none
abbrev C_prv48 : Code := loopC (inner (loopC (bodyOf Try.f8) 4)) 8
theorem B_prv48 (tick press : Int) (l st : List Int) (j : Int) (x : List Int) (c : Int) (els : List (Int × V)) (envs : List (List Int)) (need : Int) : loopBodyA (P := P) [c_shares.gc] (lpOf []) [] 194 noU (inner C_prv48) L_prv48 X_prv48 (α := Int × Int × Unit × List Int × List Int × Int × List Int × Int × List (Int × V) × List (List Int) × Int × Unit) (fun x => x) (fun x => x) (tick, press, (), l, st, j, x, c, els, envs, need, ()) =
  Tree.cond (decide (c < j)) (Tree.need ((0 : Int) ≤ c ∧ c < (↑(List.length l) : Int)) (Tree.need ((0 : Int) ≤ List.getD l (Int.toNat c) (0 : Int) ∧ List.getD l (Int.toNat c) (0 : Int) < (↑(List.length envs) : Int)) (Tree.need (List.length x ≤ (1000 : Nat) ∧ List.length (List.getD envs (Int.toNat (List.getD l (Int.toNat c) (0 : Int))) []) ≤ (1000 : Nat)) (Tree.cond (shS x (List.getD envs (Int.toNat (List.getD l (Int.toNat c) (0 : Int))) [])) (Tree.leaf (Sum.inr (Exit.ret, Lay.st L_prv48_0 noU (false, PUnit.unit)))) (Tree.leaf (Sum.inl (tick, press, PUnit.unit, l, st, j, x, IntKind.wrap IntKind.i64 (c + (1 : Int)), els, envs, need, PUnit.unit))))))) (Tree.leaf (Sum.inr (Exit.exit (8 : Nat), Lay.st L_prv48_1 noU (tick, press, PUnit.unit, l, st, j, els, envs, need, PUnit.unit)))) := by kernel_rfl
def inv_prv48 : Int × Int × Unit × List Int × List Int × Int × List Int × Int × List (Int × V) × List (List Int) × Int × Unit → Prop := fun (tick, press, (), l, st, j, x, c, els, envs, need, ()) => (0 ≤ c ∧ c ≤ j ∧ j < l.length) ∧ PrOk (els, envs, need) tick press l st ∧ hOk (els, envs, need) ∧ x = envs.getD (l.getD j.toNat 0).toNat []
def O_prv48 : Int × Int × Unit × List Int × List Int × Int × List Int × Int × List (Int × V) × List (List Int) × Int × Unit → Tree (Exit × St) := fun (tick, press, (), l, st, j, x, c, els, envs, need, ()) => (.leaf (.exit 8, L_prv48_1.st noU (tick, press, (), l, st, j, els, envs, need, ())))
def R_prv48 : LRun := runOf 194 L_prv48 (fun x => x) (inv_prv48) (O_prv48)
theorem K_prv48 : LoopOk P [] 194 none noU C_prv48 (R_prv48) := by
  refine loop_of hm (cx := [c_shares.gc]) [] (xl := X_prv48) (α := Int × Int × Unit × List Int × List Int × Int × List Int × Int × List (Int × V) × List (List Int) × Int × Unit) (fun x => x) (fun (tick, press, (), l, st, j, x, c, els, envs, need, ()) => (j - c).toNat) (fun _ => rfl) (by kernel_rfl) (by kernel_rfl) ?_ (by kernel_rfl) trivial ?_
  · intro e S L' h
    unfold X_prv48 at h
    split at h <;> first | (cases h; done) | (cases h; kernel_rfl) | (rcases bif_some h with h | h <;> cases h <;> kernel_rfl)
  · rintro ⟨tick, press, ⟨⟩, l, st, j, x, c, els, envs, need, ⟨⟩⟩ hinv Q hQ
    refine hold_of_eq (B_prv48 tick press l st j x c els envs need) ?_
    obtain ⟨⟨h0, h1, h2⟩, h3, h4, rfl⟩ := hinv
    have hf := h3.few
    rw [W_id (n := c + 1) (by omega) (by omega)]
    refine ⟨fun c1 => ?_, fun c1 => hQ⟩
    have d1 : c < j := of_decide_eq_true c1
    have r1 : 0 ≤ l.getD j.toNat 0 ∧ l.getD j.toNat 0 < envs.length := h3.rng j.toNat (by omega)
    have r2 : 0 ≤ l.getD c.toNat 0 ∧ l.getD c.toNat 0 < envs.length := h3.rng c.toNat (by omega)
    have e : shS (envs.getD (l.getD j.toNat 0).toNat []) (envs.getD (l.getD c.toNat 0).toNat []) = false := h3.dis c.toNat j.toNat (by omega) (by omega)
    have q1 := h4.2.2 _ (getD_mem (d := ([] : List Int)) (show (l.getD j.toNat 0).toNat < envs.length by omega))
    have q2 := h4.2.2 _ (getD_mem (d := ([] : List Int)) (show (l.getD c.toNat 0).toNat < envs.length by omega))
    exact ⟨⟨h0, by omega⟩, r2, ⟨q1, q2⟩, fun h => absurd (h.symm.trans e) (by decide), fun _ => ⟨⟨⟨⟨by omega, by omega, h2⟩, h3, h4, rfl⟩, by show (j - (c + 1)).toNat < (j - c).toNat; omega⟩, hQ⟩⟩
def L_prv4 : Lay := { slots := [(1, .val tI), (2, .val tI), (13, .ptr 14194 0), (14, .val tIs), (16, .val tIs), (22, .val tI)], boxes := [(14194, [.val (.sl (.pair tI tV)), .val (.sl tIs), .val tI])] }
def L_prv4_0 : Lay := { slots := [(12, .val .bool)] }
def L_prv4_1 : Lay := { slots := [] }
def X_prv4 : Exit → St → Option Lay
  | .ret, _ => some L_prv4_0
  | .exit 4, _ => some L_prv4_1
  | _, _ => none
abbrev C_prv4 : Code := loopC (bodyOf Try.f8) 4
theorem B_prv4 (tick press : Int) (l st : List Int) (j : Int) (els : List (Int × V)) (envs : List (List Int)) (need : Int) : loopBodyA (P := P) [c_HasInt.gc] (lpOf [(6, R_prv46), (8, R_prv48)]) [] 194 noU (inner C_prv4) L_prv4 X_prv4 (α := Int × Int × Unit × List Int × List Int × Int × List (Int × V) × List (List Int) × Int × Unit) (fun x => x) (fun x => x) (tick, press, (), l, st, j, els, envs, need, ()) =
  Tree.cond (decide (j < (↑(List.length l) : Int))) (Tree.need ((0 : Int) ≤ j ∧ j < (↑(List.length l) : Int)) (Tree.need (List.length st ≤ (1000 : Nat)) (Tree.cond (!List.any st fun y => y == List.getD l (Int.toNat j) (0 : Int)) (Tree.leaf (Sum.inr (Exit.ret, Lay.st L_prv4_0 noU (false, PUnit.unit)))) (Tree.cond (decide (j > (0 : Int))) (Tree.need ((0 : Int) ≤ j ∧ j < (↑(List.length l) : Int)) (Tree.need ((0 : Int) ≤ IntKind.wrap IntKind.i64 (j - (1 : Int)) ∧ IntKind.wrap IntKind.i64 (j - (1 : Int)) < (↑(List.length l) : Int)) (Tree.cond (decide (List.getD l (Int.toNat j) (0 : Int) ≤ List.getD l (Int.toNat (IntKind.wrap IntKind.i64 (j - (1 : Int)))) (0 : Int))) (Tree.leaf (Sum.inr (Exit.ret, Lay.st L_prv4_0 noU (false, PUnit.unit)))) (Tree.need ((0 : Int) ≤ j ∧ j < (↑(List.length l) : Int)) (Tree.need ((0 : Int) ≤ List.getD l (Int.toNat j) (0 : Int) ∧ List.getD l (Int.toNat j) (0 : Int) < (↑(List.length envs) : Int)) (Tree.need (inv_prv46 (tick, press, (), l, st, j, List.getD envs (Int.toNat (List.getD l (Int.toNat j) (0 : Int))) [], (0 : Int), els, envs, need, ())) (Tree.need (inv_prv48 (tick, press, (), l, st, j, List.getD envs (Int.toNat (List.getD l (Int.toNat j) (0 : Int))) [], (0 : Int), els, envs, need, ())) (Tree.leaf (Sum.inl (tick, press, PUnit.unit, l, st, IntKind.wrap IntKind.i64 (j + (1 : Int)), els, envs, need, PUnit.unit)))))))))) (Tree.need ((0 : Int) ≤ j ∧ j < (↑(List.length l) : Int)) (Tree.need ((0 : Int) ≤ List.getD l (Int.toNat j) (0 : Int) ∧ List.getD l (Int.toNat j) (0 : Int) < (↑(List.length envs) : Int)) (Tree.need (inv_prv46 (tick, press, (), l, st, j, List.getD envs (Int.toNat (List.getD l (Int.toNat j) (0 : Int))) [], (0 : Int), els, envs, need, ())) (Tree.need (inv_prv48 (tick, press, (), l, st, j, List.getD envs (Int.toNat (List.getD l (Int.toNat j) (0 : Int))) [], (0 : Int), els, envs, need, ())) (Tree.leaf (Sum.inl (tick, press, PUnit.unit, l, st, IntKind.wrap IntKind.i64 (j + (1 : Int)), els, envs, need, PUnit.unit))))))))))) (Tree.leaf (Sum.inr (Exit.exit (4 : Nat), Lay.st L_prv4_1 noU PUnit.unit))) := by kernel_rfl
def inv_prv4 : Int × Int × Unit × List Int × List Int × Int × List (Int × V) × List (List Int) × Int × Unit → Prop := fun (tick, press, (), l, st, j, els, envs, need, ()) => (0 ≤ j ∧ j ≤ l.length) ∧ PrOk (els, envs, need) tick press l st ∧ hOk (els, envs, need) ∧ st.length ≤ 1000
def O_prv4 : Int × Int × Unit × List Int × List Int × Int × List (Int × V) × List (List Int) × Int × Unit → Tree (Exit × St) := fun (tick, press, (), l, st, j, els, envs, need, ()) => (.leaf (.exit 4, L_prv4_1.st noU ()))
def R_prv4 : LRun := runOf 194 L_prv4 (fun x => x) (inv_prv4) (O_prv4)
theorem K_prv4 : LoopOk P [] 194 none noU C_prv4 (R_prv4) := by
  refine loop_of hm (cx := [c_HasInt.gc]) [(6, R_prv46), (8, R_prv48)] (xl := X_prv4) (α := Int × Int × Unit × List Int × List Int × Int × List (Int × V) × List (List Int) × Int × Unit) (fun x => x) (fun (tick, press, (), l, st, j, els, envs, need, ()) => ((l.length : Int) - j).toNat) (fun _ => rfl) (by kernel_rfl) (by kernel_rfl) ?_ (by kernel_rfl) ⟨K_prv46, K_prv48, trivial⟩ ?_
  · intro e S L' h
    unfold X_prv4 at h
    split at h <;> first | (cases h; done) | (cases h; kernel_rfl) | (rcases bif_some h with h | h <;> cases h <;> kernel_rfl)
  · rintro ⟨tick, press, ⟨⟩, l, st, j, els, envs, need, ⟨⟩⟩ hinv Q hQ
    refine hold_of_eq (B_prv4 tick press l st j els envs need) ?_
    obtain ⟨⟨h0, h1⟩, h2, h3, h4⟩ := hinv
    have hf := h2.few
    rw [W_id (n := j + 1) (by omega) (by omega), W_id (n := j - 1) (by omega) (by omega)]
    refine ⟨fun c1 => ?_, fun c1 => hQ⟩
    have d1 := of_decide_eq_true c1
    have hm : ((l.length : Int) - (j + 1)).toNat < ((l.length : Int) - j).toNat := by omega
    have r1 : 0 ≤ l.getD j.toNat 0 ∧ l.getD j.toNat 0 < envs.length := h2.rng j.toNat (by omega)
    have q1 := h3.2.2 _ (getD_mem (d := ([] : List Int)) (show (l.getD j.toNat 0).toNat < envs.length by omega))
    have i6 : inv_prv46 (tick, press, (), l, st, j, envs.getD (l.getD j.toNat 0).toNat [], 0, els, envs, need, ()) := ⟨by decide, by omega, q1, h2.eff j.toNat (by omega), h3⟩
    have i8 : inv_prv48 (tick, press, (), l, st, j, envs.getD (l.getD j.toNat 0).toNat [], 0, els, envs, need, ()) := ⟨⟨by decide, h0, d1⟩, h2, h3, rfl⟩
    have e : (st.any fun y => y == l.getD j.toNat 0) = true := h2.mem j.toNat (by omega)
    have i1 : 0 ≤ j ∧ j < (l.length : Int) := ⟨h0, d1⟩
    rw [e]
    refine ⟨i1, h4, fun h => (by cases h), fun _ => ⟨fun c2 => ⟨i1, ⟨by have := of_decide_eq_true c2; omega, by omega⟩, fun c3 => ?_, fun _ => ⟨i1, r1, i6, i8, ⟨⟨⟨by omega, by omega⟩, h2, h3, h4⟩, hm⟩, hQ⟩⟩, fun c2 => ⟨i1, r1, i6, i8, ⟨⟨⟨by omega, by omega⟩, h2, h3, h4⟩, hm⟩, hQ⟩⟩⟩
    have d2 : j > 0 := of_decide_eq_true c2
    have d3 := of_decide_eq_true c3
    have a := h2.asc (j - 1).toNat (by omega)
    rw [show (j - 1).toNat + 1 = j.toNat by omega] at a
    omega
theorem T_BarrierProves (nums : List Int) (tick press na nb nc : Int) : fnTree (P := P) [c_NewRing.gc, c_HouseOf.gc, c_Mod64.gc, c_Mod.gc, c_Proof.gc, c_Standing.gc, c_awake.gc] (lpOf [(0, R_prv0), (4, R_prv4)]) Try.f8 (encL 0 [.val tIs, .val tI, .val tI, .val tI, .val tI, .val tI] (nums, tick, press, na, nb, nc, ())) =
  Tree.need ((0 : Int) ≤ (0 : Int) ∧ (0 : Int) ≤ (500000000 : Int)) (Tree.need ((0 : Int) < (120 : Int) ∧ R64 (120 : Int)) (Tree.need ((0 : Int) < (1600 : Int) ∧ R64 (1600 : Int)) (Tree.need (hOk (houK nums (0 : Int))) (Tree.need (hOk (houK nums (0 : Int))) (Tree.cond (!(prS (houK nums (0 : Int)) (tick % (120 : Int)) (press % (1600 : Int))).snd) (Tree.cond ((↑(List.length (houK nums (0 : Int)).snd.fst) : Int) == (0 : Int)) (Tree.cond ((↑(List.length (prS (houK nums (0 : Int)) (tick % (120 : Int)) (press % (1600 : Int))).fst) : Int) == (0 : Int)) (Tree.leaf (SV.bool true)) (Tree.leaf (SV.bool false))) (Tree.need ((0 : Int) < (↑(List.length (houK nums (0 : Int)).snd.fst) : Int) ∧ R64 (↑(List.length (houK nums (0 : Int)).snd.fst) : Int)) (Tree.need ((0 : Int) < (↑(List.length (houK nums (0 : Int)).snd.fst) : Int) ∧ R64 (↑(List.length (houK nums (0 : Int)).snd.fst) : Int)) (Tree.need ((0 : Int) < (↑(List.length (houK nums (0 : Int)).snd.fst) : Int) ∧ R64 (↑(List.length (houK nums (0 : Int)).snd.fst) : Int)) (Tree.need ((0 : Int) ≤ (houK nums (0 : Int)).snd.snd ∧ (houK nums (0 : Int)).snd.snd ≤ (↑(List.length [na % (↑(List.length (houK nums (0 : Int)).snd.fst) : Int), nb % (↑(List.length (houK nums (0 : Int)).snd.fst) : Int), nc % (↑(List.length (houK nums (0 : Int)).snd.fst) : Int)]) : Int)) (Tree.need (inv_prv0 ((), (prS (houK nums (0 : Int)) (tick % (120 : Int)) (press % (1600 : Int))).fst, stS (houK nums (0 : Int)) (tick % (120 : Int)) (press % (1600 : Int)), List.take (Int.toNat (houK nums (0 : Int)).snd.snd) [na % (↑(List.length (houK nums (0 : Int)).snd.fst) : Int), nb % (↑(List.length (houK nums (0 : Int)).snd.fst) : Int), nc % (↑(List.length (houK nums (0 : Int)).snd.fst) : Int)], true, (0 : Int), (houK nums (0 : Int)).fst, (houK nums (0 : Int)).snd.fst, (houK nums (0 : Int)).snd.snd, ())) (Tree.cond (!(true && frL (stS (houK nums (0 : Int)) (tick % (120 : Int)) (press % (1600 : Int))) (houK nums (0 : Int)).snd.fst (List.take (Int.toNat (0 : Int)) (List.take (Int.toNat (houK nums (0 : Int)).snd.snd) [na % (↑(List.length (houK nums (0 : Int)).snd.fst) : Int), nb % (↑(List.length (houK nums (0 : Int)).snd.fst) : Int), nc % (↑(List.length (houK nums (0 : Int)).snd.fst) : Int)])) (List.drop (Int.toNat (0 : Int)) (List.take (Int.toNat (houK nums (0 : Int)).snd.snd) [na % (↑(List.length (houK nums (0 : Int)).snd.fst) : Int), nb % (↑(List.length (houK nums (0 : Int)).snd.fst) : Int), nc % (↑(List.length (houK nums (0 : Int)).snd.fst) : Int)])))) (Tree.cond ((↑(List.length (prS (houK nums (0 : Int)) (tick % (120 : Int)) (press % (1600 : Int))).fst) : Int) == (0 : Int)) (Tree.leaf (SV.bool true)) (Tree.leaf (SV.bool false))) (Tree.leaf (SV.bool false))))))))) (Tree.cond ((↑(List.length (prS (houK nums (0 : Int)) (tick % (120 : Int)) (press % (1600 : Int))).fst) : Int) != (houK nums (0 : Int)).snd.snd) (Tree.leaf (SV.bool false)) (Tree.need (inv_prv4 (tick % (120 : Int), press % (1600 : Int), (), (prS (houK nums (0 : Int)) (tick % (120 : Int)) (press % (1600 : Int))).fst, stS (houK nums (0 : Int)) (tick % (120 : Int)) (press % (1600 : Int)), (0 : Int), (houK nums (0 : Int)).fst, (houK nums (0 : Int)).snd.fst, (houK nums (0 : Int)).snd.snd, ())) (Tree.leaf (SV.bool true))))))))) := by kernel_rfl
def c_BarrierProves : PC P := PC.of (α := List Int × Int × Int × Int × Int × Int × Unit) 8 [.val tIs, .val tI, .val tI, .val tI, .val tI, .val tI] (fun x => x) (fun x => x) (fun _ => rfl)
  (fun _ => none)
  (fun x => .bool true) (by kernel_rfl) (by
    rintro ⟨nums, tick, press, na, nb, nc, ⟨⟩⟩ hp
    refine fn_of hm (by kernel_rfl) (by kernel_rfl) (T_BarrierProves nums tick press na nb nc) ⟨K_prv0, K_prv4, trivial⟩ ?_
    try dsimp only at hp
    try dsimp only
    have hk := houK_hOk nums (k := 0) (by decide)
    obtain ⟨k1, k2, k3, ⟨k4, k5⟩, _⟩ := houK_ok nums (k := 0) (by decide)
    generalize houK nums 0 = h at *
    obtain ⟨els, envs, need⟩ := h
    generalize tick % 120 = t
    generalize press % 1600 = p
    dsimp only at k1 k2 k3 k4 k5 ⊢
    have hst : (stS (els, envs, need) t p).length ≤ 1000 := by
      unfold stS
      split
      · exact Nat.zero_le _
      · have h1 := standF_len (soundF (els, envs, need) t p) envs 0 (Int.le_refl _)
        dsimp only at h1 ⊢
        omega
    refine ⟨⟨by decide, by decide⟩, ⟨by decide, by decide, by decide⟩, ⟨by decide, by decide, by decide⟩, hk, hk, fun c1 => ?_, fun c1 => ?_⟩
    · have hb : (prS (els, envs, need) t p).2 = false := by simpa using c1
      have hn := prS_nil hb
      rw [hn]
      refine ⟨fun c2 => ⟨fun _ => rfl, fun c3 => (by cases c3)⟩, fun c2 => ?_⟩
      have d2 : ¬ ((envs.length : Int) = 0) := by simpa using c2
      have n1 : 0 < (envs.length : Int) ∧ R64 envs.length := ⟨by omega, by omega, by omega⟩
      have a1 := Int.emod_nonneg na d2
      have a2 := Int.emod_lt_of_pos na n1.1
      have b1 := Int.emod_nonneg nb d2
      have b2 := Int.emod_lt_of_pos nb n1.1
      have e1 := Int.emod_nonneg nc d2
      have e2 := Int.emod_lt_of_pos nc n1.1
      have hin : ∀ m ∈ List.take need.toNat [na % (envs.length : Int), nb % (envs.length : Int), nc % (envs.length : Int)], 0 ≤ m ∧ m < (envs.length : Int) := fun m hm => by
        have hm := List.mem_of_mem_take hm
        simp only [List.mem_cons, List.not_mem_nil, or_false] at hm
        rcases hm with rfl | rfl | rfl
        · exact ⟨a1, a2⟩
        · exact ⟨b1, b2⟩
        · exact ⟨e1, e2⟩
      have hlen : (List.take need.toNat [na % (envs.length : Int), nb % (envs.length : Int), nc % (envs.length : Int)]).length = need.toNat := by
        rw [List.length_take]
        show min need.toNat 3 = need.toNat
        omega
      refine ⟨n1, n1, n1, ⟨by omega, by show need ≤ ((3 : Nat) : Int); omega⟩, ⟨⟨by decide, by omega⟩, by omega, hin, hk, hst⟩, fun c3 => ⟨fun _ => rfl, fun c4 => (by cases c4)⟩, fun c3 => ?_⟩
      have hf := pr_none hb (s := List.take need.toNat [na % (envs.length : Int), nb % (envs.length : Int), nc % (envs.length : Int)]) k4 (by show ((List.take need.toNat [na % (envs.length : Int), nb % (envs.length : Int), nc % (envs.length : Int)]).length : Int) = need; omega)
      have c3 : (!(true && frL (stS (els, envs, need) t p) envs [] (List.take need.toNat [na % (envs.length : Int), nb % (envs.length : Int), nc % (envs.length : Int)]))) = false := c3
      rw [show frL (stS (els, envs, need) t p) envs [] (List.take need.toNat [na % (envs.length : Int), nb % (envs.length : Int), nc % (envs.length : Int)]) = false from hf] at c3
      cases c3
    · have hb : (prS (els, envs, need) t p).2 = true := by simpa using c1
      have ok := pr_ok hb
      have hl := ok.len
      dsimp only at hl
      refine ⟨fun c2 => absurd hl (by simpa using c2), fun c2 => ⟨⟨⟨by decide, by omega⟩, ok, hk, hst⟩, rfl⟩⟩)
end
end Go.MB
